/-
  No cell of these rows narrows 'for every input' (looked for: loops, veiled, ifaces, maps, wideKeys, modest, calm, conditions, laid).
  DERIVED. THE GIVEN ROWS OF THIS SEAT. 11 by the template 'for every input the law returns true; each argument reads behind the call as it read before'; 0 by the template 'total and deterministic' (their statements: YtldbmljooafkcaaTotals.lean).
  GIVEN WITH THE SEED: the statements are not yours to turn. If you find one false, say at which input.
  Laid BY PROGRAM, IN A SANDBOX (cutbox-rows.mjs): the forced cells as the released guide's own fill.sh prints them over the translation efb0a5576b809345… (all of the seat's roots in one cut). By AI agents, Wed Nov 11 2026. No macro, syntax, notation, axiom, sorry.
-/
import Derived.Test.YtldbmljooafkcaaChecked
import GoSem.Claim
import GoSem.ClaimJoined
import GoSem.ClaimMapViews
import Derived.JoinedTies
import Derived.KernelRfl
namespace Go.Proofs.Ytldbmljooafkcaa
/- THE CELL 'sum', in the pinned program and in every row, IS THE sha256 OF THE DUMP (.gsa) THAT YtldbmljooafkcaaProg.lean LOADS. Nothing in Lean hashes anything: it is a label: what it is worth is what the hold of that sum in a sandbox is worth. -/
noncomputable def Try.pinned : Pinned := { name := "ytldbmljooafkcaa", sum := "efb0a5576b809345013e8e0a5c5b93876f81910bbb47185ea327413b868be1b7", checked := Try.checked }
namespace Rows
def none {H : Type} : Left H := { results := [], args := [] }

/-- 'laws.FnExactDecodeHeader': WHATEVER THE INPUT: true; the input reads as it did. -/
def fnExactDecodeHeaderSpec : ChangeSpec := { name := "fnExactDecodeHeader", fn := fun _ => fun
  | [d] => { results := [.lit (.bool true)], args := [d] }
  | _ => none }
def fnExactDecodeHeaderRow : OpenClaim := { program := "ytldbmljooafkcaa", sum := "efb0a5576b809345013e8e0a5c5b93876f81910bbb47185ea327413b868be1b7", func := "loop.example/g00511/laws.FnExactDecodeHeader", spec := "fnExactDecodeHeader", apart := false }
def FnExactDecodeHeaderSaid : Prop := fnExactDecodeHeaderRow.holds Try.pinned (OpenSpec.ofChange fnExactDecodeHeaderSpec)

/-- ITS FALSE NEIGHBOUR: 'it returns false'. Refute it at one input. -/
def fnExactDecodeHeaderWrong : ChangeSpec := { name := "fnExactDecodeHeader", fn := fun _ => fun
  | [d] => { results := [.lit (.bool false)], args := [d] }
  | _ => none }
def FnExactDecodeHeaderWrongFalsely : Prop := fnExactDecodeHeaderRow.holds Try.pinned (OpenSpec.ofChange fnExactDecodeHeaderWrong)

/-- 'laws.FnExactDecodeFrame': WHATEVER THE INPUT: true; the input reads as it did. -/
def fnExactDecodeFrameSpec : ChangeSpec := { name := "fnExactDecodeFrame", fn := fun _ => fun
  | [d] => { results := [.lit (.bool true)], args := [d] }
  | _ => none }
def fnExactDecodeFrameRow : OpenClaim := { program := "ytldbmljooafkcaa", sum := "efb0a5576b809345013e8e0a5c5b93876f81910bbb47185ea327413b868be1b7", func := "loop.example/g00511/laws.FnExactDecodeFrame", spec := "fnExactDecodeFrame", apart := false }
def FnExactDecodeFrameSaid : Prop := fnExactDecodeFrameRow.holds Try.pinned (OpenSpec.ofChange fnExactDecodeFrameSpec)

/-- ITS FALSE NEIGHBOUR: 'it returns false'. Refute it at one input. -/
def fnExactDecodeFrameWrong : ChangeSpec := { name := "fnExactDecodeFrame", fn := fun _ => fun
  | [d] => { results := [.lit (.bool false)], args := [d] }
  | _ => none }
def FnExactDecodeFrameWrongFalsely : Prop := fnExactDecodeFrameRow.holds Try.pinned (OpenSpec.ofChange fnExactDecodeFrameWrong)

/-- 'laws.FnMacFrames': WHATEVER THE INPUT: true; the input reads as it did. -/
def fnMacFramesSpec : ChangeSpec := { name := "fnMacFrames", fn := fun _ => fun
  | [d] => { results := [.lit (.bool true)], args := [d] }
  | _ => none }
def fnMacFramesRow : OpenClaim := { program := "ytldbmljooafkcaa", sum := "efb0a5576b809345013e8e0a5c5b93876f81910bbb47185ea327413b868be1b7", func := "loop.example/g00511/laws.FnMacFrames", spec := "fnMacFrames", apart := false }
def FnMacFramesSaid : Prop := fnMacFramesRow.holds Try.pinned (OpenSpec.ofChange fnMacFramesSpec)

/-- ITS FALSE NEIGHBOUR: 'it returns false'. Refute it at one input. -/
def fnMacFramesWrong : ChangeSpec := { name := "fnMacFrames", fn := fun _ => fun
  | [d] => { results := [.lit (.bool false)], args := [d] }
  | _ => none }
def FnMacFramesWrongFalsely : Prop := fnMacFramesRow.holds Try.pinned (OpenSpec.ofChange fnMacFramesWrong)

/-- 'laws.FnExactMergePatterns': WHATEVER THE INPUT: true; the input reads as it did. -/
def fnExactMergePatternsSpec : ChangeSpec := { name := "fnExactMergePatterns", fn := fun _ => fun
  | [d1, d2] => { results := [.lit (.bool true)], args := [d1, d2] }
  | _ => none }
def fnExactMergePatternsRow : OpenClaim := { program := "ytldbmljooafkcaa", sum := "efb0a5576b809345013e8e0a5c5b93876f81910bbb47185ea327413b868be1b7", func := "loop.example/g00511/laws.FnExactMergePatterns", spec := "fnExactMergePatterns", recurses := true, apart := false }
def FnExactMergePatternsSaid : Prop := fnExactMergePatternsRow.holds Try.pinned (OpenSpec.ofChange fnExactMergePatternsSpec)

/-- ITS FALSE NEIGHBOUR: 'it returns false'. Refute it at one input. -/
def fnExactMergePatternsWrong : ChangeSpec := { name := "fnExactMergePatterns", fn := fun _ => fun
  | [d1, d2] => { results := [.lit (.bool false)], args := [d1, d2] }
  | _ => none }
def FnExactMergePatternsWrongFalsely : Prop := fnExactMergePatternsRow.holds Try.pinned (OpenSpec.ofChange fnExactMergePatternsWrong)

/-- 'laws.FnErrorPatterns': WHATEVER THE INPUT: true; the input reads as it did. -/
def fnErrorPatternsSpec : ChangeSpec := { name := "fnErrorPatterns", fn := fun _ => fun
  | [d] => { results := [.lit (.bool true)], args := [d] }
  | _ => none }
def fnErrorPatternsRow : OpenClaim := { program := "ytldbmljooafkcaa", sum := "efb0a5576b809345013e8e0a5c5b93876f81910bbb47185ea327413b868be1b7", func := "loop.example/g00511/laws.FnErrorPatterns", spec := "fnErrorPatterns", recurses := true, apart := false }
def FnErrorPatternsSaid : Prop := fnErrorPatternsRow.holds Try.pinned (OpenSpec.ofChange fnErrorPatternsSpec)

/-- ITS FALSE NEIGHBOUR: 'it returns false'. Refute it at one input. -/
def fnErrorPatternsWrong : ChangeSpec := { name := "fnErrorPatterns", fn := fun _ => fun
  | [d] => { results := [.lit (.bool false)], args := [d] }
  | _ => none }
def FnErrorPatternsWrongFalsely : Prop := fnErrorPatternsRow.holds Try.pinned (OpenSpec.ofChange fnErrorPatternsWrong)

/-- 'laws.FnExactViterbiDecode': WHATEVER THE INPUT: true; the input reads as it did. -/
def fnExactViterbiDecodeSpec : ChangeSpec := { name := "fnExactViterbiDecode", fn := fun _ => fun
  | [d] => { results := [.lit (.bool true)], args := [d] }
  | _ => none }
def fnExactViterbiDecodeRow : OpenClaim := { program := "ytldbmljooafkcaa", sum := "efb0a5576b809345013e8e0a5c5b93876f81910bbb47185ea327413b868be1b7", func := "loop.example/g00511/laws.FnExactViterbiDecode", spec := "fnExactViterbiDecode", apart := false }
def FnExactViterbiDecodeSaid : Prop := fnExactViterbiDecodeRow.holds Try.pinned (OpenSpec.ofChange fnExactViterbiDecodeSpec)

/-- ITS FALSE NEIGHBOUR: 'it returns false'. Refute it at one input. -/
def fnExactViterbiDecodeWrong : ChangeSpec := { name := "fnExactViterbiDecode", fn := fun _ => fun
  | [d] => { results := [.lit (.bool false)], args := [d] }
  | _ => none }
def FnExactViterbiDecodeWrongFalsely : Prop := fnExactViterbiDecodeRow.holds Try.pinned (OpenSpec.ofChange fnExactViterbiDecodeWrong)

/-- 'laws.FnDecoding': WHATEVER THE INPUT: true; the input reads as it did. -/
def fnDecodingSpec : ChangeSpec := { name := "fnDecoding", fn := fun _ => fun
  | [d] => { results := [.lit (.bool true)], args := [d] }
  | _ => none }
def fnDecodingRow : OpenClaim := { program := "ytldbmljooafkcaa", sum := "efb0a5576b809345013e8e0a5c5b93876f81910bbb47185ea327413b868be1b7", func := "loop.example/g00511/laws.FnDecoding", spec := "fnDecoding", apart := false }
def FnDecodingSaid : Prop := fnDecodingRow.holds Try.pinned (OpenSpec.ofChange fnDecodingSpec)

/-- ITS FALSE NEIGHBOUR: 'it returns false'. Refute it at one input. -/
def fnDecodingWrong : ChangeSpec := { name := "fnDecoding", fn := fun _ => fun
  | [d] => { results := [.lit (.bool false)], args := [d] }
  | _ => none }
def FnDecodingWrongFalsely : Prop := fnDecodingRow.holds Try.pinned (OpenSpec.ofChange fnDecodingWrong)

/-- 'laws.FnNearestWord': WHATEVER THE INPUT: true; the input reads as it did. -/
def fnNearestWordSpec : ChangeSpec := { name := "fnNearestWord", fn := fun _ => fun
  | [d] => { results := [.lit (.bool true)], args := [d] }
  | _ => none }
def fnNearestWordRow : OpenClaim := { program := "ytldbmljooafkcaa", sum := "efb0a5576b809345013e8e0a5c5b93876f81910bbb47185ea327413b868be1b7", func := "loop.example/g00511/laws.FnNearestWord", spec := "fnNearestWord", apart := false }
def FnNearestWordSaid : Prop := fnNearestWordRow.holds Try.pinned (OpenSpec.ofChange fnNearestWordSpec)

/-- ITS FALSE NEIGHBOUR: 'it returns false'. Refute it at one input. -/
def fnNearestWordWrong : ChangeSpec := { name := "fnNearestWord", fn := fun _ => fun
  | [d] => { results := [.lit (.bool false)], args := [d] }
  | _ => none }
def FnNearestWordWrongFalsely : Prop := fnNearestWordRow.holds Try.pinned (OpenSpec.ofChange fnNearestWordWrong)

/-- 'laws.FnExactReceiveFrame': WHATEVER THE INPUT: true; the input reads as it did. -/
def fnExactReceiveFrameSpec : ChangeSpec := { name := "fnExactReceiveFrame", fn := fun _ => fun
  | [d] => { results := [.lit (.bool true)], args := [d] }
  | _ => none }
def fnExactReceiveFrameRow : OpenClaim := { program := "ytldbmljooafkcaa", sum := "efb0a5576b809345013e8e0a5c5b93876f81910bbb47185ea327413b868be1b7", func := "loop.example/g00511/laws.FnExactReceiveFrame", spec := "fnExactReceiveFrame", apart := false }
def FnExactReceiveFrameSaid : Prop := fnExactReceiveFrameRow.holds Try.pinned (OpenSpec.ofChange fnExactReceiveFrameSpec)

/-- ITS FALSE NEIGHBOUR: 'it returns false'. Refute it at one input. -/
def fnExactReceiveFrameWrong : ChangeSpec := { name := "fnExactReceiveFrame", fn := fun _ => fun
  | [d] => { results := [.lit (.bool false)], args := [d] }
  | _ => none }
def FnExactReceiveFrameWrongFalsely : Prop := fnExactReceiveFrameRow.holds Try.pinned (OpenSpec.ofChange fnExactReceiveFrameWrong)

/-- 'laws.FnPhysicalFrames': WHATEVER THE INPUT: true; the input reads as it did. -/
def fnPhysicalFramesSpec : ChangeSpec := { name := "fnPhysicalFrames", fn := fun _ => fun
  | [d] => { results := [.lit (.bool true)], args := [d] }
  | _ => none }
def fnPhysicalFramesRow : OpenClaim := { program := "ytldbmljooafkcaa", sum := "efb0a5576b809345013e8e0a5c5b93876f81910bbb47185ea327413b868be1b7", func := "loop.example/g00511/laws.FnPhysicalFrames", spec := "fnPhysicalFrames", apart := false }
def FnPhysicalFramesSaid : Prop := fnPhysicalFramesRow.holds Try.pinned (OpenSpec.ofChange fnPhysicalFramesSpec)

/-- ITS FALSE NEIGHBOUR: 'it returns false'. Refute it at one input. -/
def fnPhysicalFramesWrong : ChangeSpec := { name := "fnPhysicalFrames", fn := fun _ => fun
  | [d] => { results := [.lit (.bool false)], args := [d] }
  | _ => none }
def FnPhysicalFramesWrongFalsely : Prop := fnPhysicalFramesRow.holds Try.pinned (OpenSpec.ofChange fnPhysicalFramesWrong)

/-- 'laws.FnFrameErrors': WHATEVER THE INPUT: true; the input reads as it did. -/
def fnFrameErrorsSpec : ChangeSpec := { name := "fnFrameErrors", fn := fun _ => fun
  | [d] => { results := [.lit (.bool true)], args := [d] }
  | _ => none }
def fnFrameErrorsRow : OpenClaim := { program := "ytldbmljooafkcaa", sum := "efb0a5576b809345013e8e0a5c5b93876f81910bbb47185ea327413b868be1b7", func := "loop.example/g00511/laws.FnFrameErrors", spec := "fnFrameErrors", apart := false }
def FnFrameErrorsSaid : Prop := fnFrameErrorsRow.holds Try.pinned (OpenSpec.ofChange fnFrameErrorsSpec)

/-- ITS FALSE NEIGHBOUR: 'it returns false'. Refute it at one input. -/
def fnFrameErrorsWrong : ChangeSpec := { name := "fnFrameErrors", fn := fun _ => fun
  | [d] => { results := [.lit (.bool false)], args := [d] }
  | _ => none }
def FnFrameErrorsWrongFalsely : Prop := fnFrameErrorsRow.holds Try.pinned (OpenSpec.ofChange fnFrameErrorsWrong)

/- THE SECOND FORM. 'bulk': how many values and letters a reading holds, each counted each time it is reached (what is shared counts as often as it is met; a slice's spare places count too). A statement '..UptoSaid' is the law's where the arguments, and the package variables that the reading takes, are together of bulk at most 1048576: NARROWER than '..Said'. Prove '..Said' where nothing that the law and all that it calls make is longer than what came in: it says more and counts as full. Else prove '..UptoSaid'. A law counts once. -/
mutual
def uptoBulk {H : Type} : DataW H → Nat
  | .lit (.string bytes) => bytes.length + 1
  | .lit _ => 1
  | .nil => 1
  | .ptr d => uptoBulk d + 1
  | .slice elems spare => uptoBulkAll elems + uptoBulkAll spare + 1
  | .agg parts => uptoBulkAll parts + 1
  | .iface _ d => uptoBulk d + 1
  | .map entries => uptoBulkEntries entries + 1
  | .held _ => 1
def uptoBulkAll {H : Type} : List (DataW H) → Nat
  | [] => 0
  | d :: r => uptoBulk d + uptoBulkAll r
def uptoBulkEntries {H : Type} : List (Lit × DataW H) → Nat
  | [] => 0
  | x :: r => uptoBulkEntry x + uptoBulkEntries r
def uptoBulkEntry {H : Type} : Lit × DataW H → Nat
  | (.string bytes, d) => bytes.length + uptoBulk d + 1
  | (_, d) => uptoBulk d + 1
 end
def uptoSmall : (H : Type) → List (DataW H) → Bool := fun _ ds => decide (uptoBulkAll ds ≤ 1048576)
def OpenSpec.upto (s : _root_.Go.ChangeSpec) : _root_.Go.OpenSpec := { _root_.Go.OpenSpec.ofChange s with cond := some uptoSmall }

/-- 'laws.FnExactDecodeHeader', WHERE WHAT IT READS IS OF BULK AT MOST 1048576: true; the input reads as it did. -/
def fnExactDecodeHeaderUptoRow : OpenClaim := { program := "ytldbmljooafkcaa", sum := "efb0a5576b809345013e8e0a5c5b93876f81910bbb47185ea327413b868be1b7", func := "loop.example/g00511/laws.FnExactDecodeHeader", spec := "fnExactDecodeHeader", apart := false, narrowed := true }
def FnExactDecodeHeaderUptoSaid : Prop := fnExactDecodeHeaderUptoRow.holds Try.pinned (OpenSpec.upto fnExactDecodeHeaderSpec)

/-- 'laws.FnExactDecodeFrame', WHERE WHAT IT READS IS OF BULK AT MOST 1048576: true; the input reads as it did. -/
def fnExactDecodeFrameUptoRow : OpenClaim := { program := "ytldbmljooafkcaa", sum := "efb0a5576b809345013e8e0a5c5b93876f81910bbb47185ea327413b868be1b7", func := "loop.example/g00511/laws.FnExactDecodeFrame", spec := "fnExactDecodeFrame", apart := false, narrowed := true }
def FnExactDecodeFrameUptoSaid : Prop := fnExactDecodeFrameUptoRow.holds Try.pinned (OpenSpec.upto fnExactDecodeFrameSpec)

/-- 'laws.FnMacFrames', WHERE WHAT IT READS IS OF BULK AT MOST 1048576: true; the input reads as it did. -/
def fnMacFramesUptoRow : OpenClaim := { program := "ytldbmljooafkcaa", sum := "efb0a5576b809345013e8e0a5c5b93876f81910bbb47185ea327413b868be1b7", func := "loop.example/g00511/laws.FnMacFrames", spec := "fnMacFrames", apart := false, narrowed := true }
def FnMacFramesUptoSaid : Prop := fnMacFramesUptoRow.holds Try.pinned (OpenSpec.upto fnMacFramesSpec)

/-- 'laws.FnExactMergePatterns', WHERE WHAT IT READS IS OF BULK AT MOST 1048576: true; the input reads as it did. -/
def fnExactMergePatternsUptoRow : OpenClaim := { program := "ytldbmljooafkcaa", sum := "efb0a5576b809345013e8e0a5c5b93876f81910bbb47185ea327413b868be1b7", func := "loop.example/g00511/laws.FnExactMergePatterns", spec := "fnExactMergePatterns", recurses := true, apart := false, narrowed := true }
def FnExactMergePatternsUptoSaid : Prop := fnExactMergePatternsUptoRow.holds Try.pinned (OpenSpec.upto fnExactMergePatternsSpec)

/-- 'laws.FnErrorPatterns', WHERE WHAT IT READS IS OF BULK AT MOST 1048576: true; the input reads as it did. -/
def fnErrorPatternsUptoRow : OpenClaim := { program := "ytldbmljooafkcaa", sum := "efb0a5576b809345013e8e0a5c5b93876f81910bbb47185ea327413b868be1b7", func := "loop.example/g00511/laws.FnErrorPatterns", spec := "fnErrorPatterns", recurses := true, apart := false, narrowed := true }
def FnErrorPatternsUptoSaid : Prop := fnErrorPatternsUptoRow.holds Try.pinned (OpenSpec.upto fnErrorPatternsSpec)

/-- 'laws.FnExactViterbiDecode', WHERE WHAT IT READS IS OF BULK AT MOST 1048576: true; the input reads as it did. -/
def fnExactViterbiDecodeUptoRow : OpenClaim := { program := "ytldbmljooafkcaa", sum := "efb0a5576b809345013e8e0a5c5b93876f81910bbb47185ea327413b868be1b7", func := "loop.example/g00511/laws.FnExactViterbiDecode", spec := "fnExactViterbiDecode", apart := false, narrowed := true }
def FnExactViterbiDecodeUptoSaid : Prop := fnExactViterbiDecodeUptoRow.holds Try.pinned (OpenSpec.upto fnExactViterbiDecodeSpec)

/-- 'laws.FnDecoding', WHERE WHAT IT READS IS OF BULK AT MOST 1048576: true; the input reads as it did. -/
def fnDecodingUptoRow : OpenClaim := { program := "ytldbmljooafkcaa", sum := "efb0a5576b809345013e8e0a5c5b93876f81910bbb47185ea327413b868be1b7", func := "loop.example/g00511/laws.FnDecoding", spec := "fnDecoding", apart := false, narrowed := true }
def FnDecodingUptoSaid : Prop := fnDecodingUptoRow.holds Try.pinned (OpenSpec.upto fnDecodingSpec)

/-- 'laws.FnNearestWord', WHERE WHAT IT READS IS OF BULK AT MOST 1048576: true; the input reads as it did. -/
def fnNearestWordUptoRow : OpenClaim := { program := "ytldbmljooafkcaa", sum := "efb0a5576b809345013e8e0a5c5b93876f81910bbb47185ea327413b868be1b7", func := "loop.example/g00511/laws.FnNearestWord", spec := "fnNearestWord", apart := false, narrowed := true }
def FnNearestWordUptoSaid : Prop := fnNearestWordUptoRow.holds Try.pinned (OpenSpec.upto fnNearestWordSpec)

/-- 'laws.FnExactReceiveFrame', WHERE WHAT IT READS IS OF BULK AT MOST 1048576: true; the input reads as it did. -/
def fnExactReceiveFrameUptoRow : OpenClaim := { program := "ytldbmljooafkcaa", sum := "efb0a5576b809345013e8e0a5c5b93876f81910bbb47185ea327413b868be1b7", func := "loop.example/g00511/laws.FnExactReceiveFrame", spec := "fnExactReceiveFrame", apart := false, narrowed := true }
def FnExactReceiveFrameUptoSaid : Prop := fnExactReceiveFrameUptoRow.holds Try.pinned (OpenSpec.upto fnExactReceiveFrameSpec)

/-- 'laws.FnPhysicalFrames', WHERE WHAT IT READS IS OF BULK AT MOST 1048576: true; the input reads as it did. -/
def fnPhysicalFramesUptoRow : OpenClaim := { program := "ytldbmljooafkcaa", sum := "efb0a5576b809345013e8e0a5c5b93876f81910bbb47185ea327413b868be1b7", func := "loop.example/g00511/laws.FnPhysicalFrames", spec := "fnPhysicalFrames", apart := false, narrowed := true }
def FnPhysicalFramesUptoSaid : Prop := fnPhysicalFramesUptoRow.holds Try.pinned (OpenSpec.upto fnPhysicalFramesSpec)

/-- 'laws.FnFrameErrors', WHERE WHAT IT READS IS OF BULK AT MOST 1048576: true; the input reads as it did. -/
def fnFrameErrorsUptoRow : OpenClaim := { program := "ytldbmljooafkcaa", sum := "efb0a5576b809345013e8e0a5c5b93876f81910bbb47185ea327413b868be1b7", func := "loop.example/g00511/laws.FnFrameErrors", spec := "fnFrameErrors", apart := false, narrowed := true }
def FnFrameErrorsUptoSaid : Prop := fnFrameErrorsUptoRow.holds Try.pinned (OpenSpec.upto fnFrameErrorsSpec)

end Rows
end Go.Proofs.Ytldbmljooafkcaa
