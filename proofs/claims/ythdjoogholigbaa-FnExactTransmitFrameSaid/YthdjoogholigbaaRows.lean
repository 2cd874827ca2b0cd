/-
  No cell of these rows narrows 'for every input' (looked for: loops, veiled, ifaces, maps, wideKeys, modest, calm, conditions, laid).
  DERIVED. THE GIVEN ROWS OF THIS SEAT. 9 by the template 'for every input the law returns true; each argument reads behind the call as it read before'; 0 by the template 'total and deterministic' (their statements: YthdjoogholigbaaTotals.lean).
  GIVEN WITH THE SEED: the statements are not yours to turn. If you find one false, say at which input.
  Laid BY PROGRAM, IN A SANDBOX (cutbox-rows.mjs): the forced cells as the released guide's own fill.sh prints them over the translation 18cc4e14bdd5f0a5… (all of the seat's roots in one cut). By AI agents, Wed Nov 11 2026. No macro, syntax, notation, axiom, sorry.
-/
import Derived.Test.YthdjoogholigbaaChecked
import GoSem.Claim
import GoSem.ClaimJoined
import GoSem.ClaimMapViews
import Derived.JoinedTies
import Derived.KernelRfl
namespace Go.Proofs.Ythdjoogholigbaa
/- THE CELL 'sum', in the pinned program and in every row, IS THE sha256 OF THE DUMP (.gsa) THAT YthdjoogholigbaaProg.lean LOADS. Nothing in Lean hashes anything: it is a label: what it is worth is what the hold of that sum in a sandbox is worth. -/
noncomputable def Try.pinned : Pinned := { name := "ythdjoogholigbaa", sum := "18cc4e14bdd5f0a507bd04f80c821e7ef5ed78f7a4d887ee12d96b1b6f0df181", checked := Try.checked }
namespace Rows
def none {H : Type} : Left H := { results := [], args := [] }

/-- 'laws.FnExactFlipBits': WHATEVER THE INPUT: true; the input reads as it did. -/
def fnExactFlipBitsSpec : ChangeSpec := { name := "fnExactFlipBits", fn := fun _ => fun
  | [d1, d2] => { results := [.lit (.bool true)], args := [d1, d2] }
  | _ => none }
def fnExactFlipBitsRow : OpenClaim := { program := "ythdjoogholigbaa", sum := "18cc4e14bdd5f0a507bd04f80c821e7ef5ed78f7a4d887ee12d96b1b6f0df181", func := "loop.example/g00511/laws.FnExactFlipBits", spec := "fnExactFlipBits", apart := false }
def FnExactFlipBitsSaid : Prop := fnExactFlipBitsRow.holds Try.pinned (OpenSpec.ofChange fnExactFlipBitsSpec)

/-- ITS FALSE NEIGHBOUR: 'it returns false'. Refute it at one input. -/
def fnExactFlipBitsWrong : ChangeSpec := { name := "fnExactFlipBits", fn := fun _ => fun
  | [d1, d2] => { results := [.lit (.bool false)], args := [d1, d2] }
  | _ => none }
def FnExactFlipBitsWrongFalsely : Prop := fnExactFlipBitsRow.holds Try.pinned (OpenSpec.ofChange fnExactFlipBitsWrong)

/-- 'laws.FnExactDeinterleave': WHATEVER THE INPUT: true; the input reads as it did. -/
def fnExactDeinterleaveSpec : ChangeSpec := { name := "fnExactDeinterleave", fn := fun _ => fun
  | [d1, d2] => { results := [.lit (.bool true)], args := [d1, d2] }
  | _ => none }
def fnExactDeinterleaveRow : OpenClaim := { program := "ythdjoogholigbaa", sum := "18cc4e14bdd5f0a507bd04f80c821e7ef5ed78f7a4d887ee12d96b1b6f0df181", func := "loop.example/g00511/laws.FnExactDeinterleave", spec := "fnExactDeinterleave", apart := false }
def FnExactDeinterleaveSaid : Prop := fnExactDeinterleaveRow.holds Try.pinned (OpenSpec.ofChange fnExactDeinterleaveSpec)

/-- ITS FALSE NEIGHBOUR: 'it returns false'. Refute it at one input. -/
def fnExactDeinterleaveWrong : ChangeSpec := { name := "fnExactDeinterleave", fn := fun _ => fun
  | [d1, d2] => { results := [.lit (.bool false)], args := [d1, d2] }
  | _ => none }
def FnExactDeinterleaveWrongFalsely : Prop := fnExactDeinterleaveRow.holds Try.pinned (OpenSpec.ofChange fnExactDeinterleaveWrong)

/-- 'laws.FnExactInterleave': WHATEVER THE INPUT: true; the input reads as it did. -/
def fnExactInterleaveSpec : ChangeSpec := { name := "fnExactInterleave", fn := fun _ => fun
  | [d1, d2] => { results := [.lit (.bool true)], args := [d1, d2] }
  | _ => none }
def fnExactInterleaveRow : OpenClaim := { program := "ythdjoogholigbaa", sum := "18cc4e14bdd5f0a507bd04f80c821e7ef5ed78f7a4d887ee12d96b1b6f0df181", func := "loop.example/g00511/laws.FnExactInterleave", spec := "fnExactInterleave", apart := false }
def FnExactInterleaveSaid : Prop := fnExactInterleaveRow.holds Try.pinned (OpenSpec.ofChange fnExactInterleaveSpec)

/-- ITS FALSE NEIGHBOUR: 'it returns false'. Refute it at one input. -/
def fnExactInterleaveWrong : ChangeSpec := { name := "fnExactInterleave", fn := fun _ => fun
  | [d1, d2] => { results := [.lit (.bool false)], args := [d1, d2] }
  | _ => none }
def FnExactInterleaveWrongFalsely : Prop := fnExactInterleaveRow.holds Try.pinned (OpenSpec.ofChange fnExactInterleaveWrong)

/-- 'laws.FnInterleaving': WHATEVER THE INPUT: true; the input reads as it did. -/
def fnInterleavingSpec : ChangeSpec := { name := "fnInterleaving", fn := fun _ => fun
  | [d] => { results := [.lit (.bool true)], args := [d] }
  | _ => none }
def fnInterleavingRow : OpenClaim := { program := "ythdjoogholigbaa", sum := "18cc4e14bdd5f0a507bd04f80c821e7ef5ed78f7a4d887ee12d96b1b6f0df181", func := "loop.example/g00511/laws.FnInterleaving", spec := "fnInterleaving", apart := false }
def FnInterleavingSaid : Prop := fnInterleavingRow.holds Try.pinned (OpenSpec.ofChange fnInterleavingSpec)

/-- ITS FALSE NEIGHBOUR: 'it returns false'. Refute it at one input. -/
def fnInterleavingWrong : ChangeSpec := { name := "fnInterleaving", fn := fun _ => fun
  | [d] => { results := [.lit (.bool false)], args := [d] }
  | _ => none }
def FnInterleavingWrongFalsely : Prop := fnInterleavingRow.holds Try.pinned (OpenSpec.ofChange fnInterleavingWrong)

/-- 'laws.FnExactEncodeFrame': WHATEVER THE INPUT: true; the input reads as it did. -/
def fnExactEncodeFrameSpec : ChangeSpec := { name := "fnExactEncodeFrame", fn := fun _ => fun
  | [d] => { results := [.lit (.bool true)], args := [d] }
  | _ => none }
def fnExactEncodeFrameRow : OpenClaim := { program := "ythdjoogholigbaa", sum := "18cc4e14bdd5f0a507bd04f80c821e7ef5ed78f7a4d887ee12d96b1b6f0df181", func := "loop.example/g00511/laws.FnExactEncodeFrame", spec := "fnExactEncodeFrame", apart := false }
def FnExactEncodeFrameSaid : Prop := fnExactEncodeFrameRow.holds Try.pinned (OpenSpec.ofChange fnExactEncodeFrameSpec)

/-- ITS FALSE NEIGHBOUR: 'it returns false'. Refute it at one input. -/
def fnExactEncodeFrameWrong : ChangeSpec := { name := "fnExactEncodeFrame", fn := fun _ => fun
  | [d] => { results := [.lit (.bool false)], args := [d] }
  | _ => none }
def FnExactEncodeFrameWrongFalsely : Prop := fnExactEncodeFrameRow.holds Try.pinned (OpenSpec.ofChange fnExactEncodeFrameWrong)

/-- 'laws.FnExactDecodeFrame': WHATEVER THE INPUT: true; the input reads as it did. -/
def fnExactDecodeFrameSpec : ChangeSpec := { name := "fnExactDecodeFrame", fn := fun _ => fun
  | [d] => { results := [.lit (.bool true)], args := [d] }
  | _ => none }
def fnExactDecodeFrameRow : OpenClaim := { program := "ythdjoogholigbaa", sum := "18cc4e14bdd5f0a507bd04f80c821e7ef5ed78f7a4d887ee12d96b1b6f0df181", func := "loop.example/g00511/laws.FnExactDecodeFrame", spec := "fnExactDecodeFrame", apart := false }
def FnExactDecodeFrameSaid : Prop := fnExactDecodeFrameRow.holds Try.pinned (OpenSpec.ofChange fnExactDecodeFrameSpec)

/-- ITS FALSE NEIGHBOUR: 'it returns false'. Refute it at one input. -/
def fnExactDecodeFrameWrong : ChangeSpec := { name := "fnExactDecodeFrame", fn := fun _ => fun
  | [d] => { results := [.lit (.bool false)], args := [d] }
  | _ => none }
def FnExactDecodeFrameWrongFalsely : Prop := fnExactDecodeFrameRow.holds Try.pinned (OpenSpec.ofChange fnExactDecodeFrameWrong)

/-- 'laws.FnMacFrames': WHATEVER THE INPUT: true; the input reads as it did. -/
def fnMacFramesSpec : ChangeSpec := { name := "fnMacFrames", fn := fun _ => fun
  | [d] => { results := [.lit (.bool true)], args := [d] }
  | _ => none }
def fnMacFramesRow : OpenClaim := { program := "ythdjoogholigbaa", sum := "18cc4e14bdd5f0a507bd04f80c821e7ef5ed78f7a4d887ee12d96b1b6f0df181", func := "loop.example/g00511/laws.FnMacFrames", spec := "fnMacFrames", apart := false }
def FnMacFramesSaid : Prop := fnMacFramesRow.holds Try.pinned (OpenSpec.ofChange fnMacFramesSpec)

/-- ITS FALSE NEIGHBOUR: 'it returns false'. Refute it at one input. -/
def fnMacFramesWrong : ChangeSpec := { name := "fnMacFrames", fn := fun _ => fun
  | [d] => { results := [.lit (.bool false)], args := [d] }
  | _ => none }
def FnMacFramesWrongFalsely : Prop := fnMacFramesRow.holds Try.pinned (OpenSpec.ofChange fnMacFramesWrong)

/-- 'laws.FnExactTransmitFrame': WHATEVER THE INPUT: true; the input reads as it did. -/
def fnExactTransmitFrameSpec : ChangeSpec := { name := "fnExactTransmitFrame", fn := fun _ => fun
  | [d1, d2] => { results := [.lit (.bool true)], args := [d1, d2] }
  | _ => none }
def fnExactTransmitFrameRow : OpenClaim := { program := "ythdjoogholigbaa", sum := "18cc4e14bdd5f0a507bd04f80c821e7ef5ed78f7a4d887ee12d96b1b6f0df181", func := "loop.example/g00511/laws.FnExactTransmitFrame", spec := "fnExactTransmitFrame", apart := false }
def FnExactTransmitFrameSaid : Prop := fnExactTransmitFrameRow.holds Try.pinned (OpenSpec.ofChange fnExactTransmitFrameSpec)

/-- ITS FALSE NEIGHBOUR: 'it returns false'. Refute it at one input. -/
def fnExactTransmitFrameWrong : ChangeSpec := { name := "fnExactTransmitFrame", fn := fun _ => fun
  | [d1, d2] => { results := [.lit (.bool false)], args := [d1, d2] }
  | _ => none }
def FnExactTransmitFrameWrongFalsely : Prop := fnExactTransmitFrameRow.holds Try.pinned (OpenSpec.ofChange fnExactTransmitFrameWrong)

/-- 'laws.FnExactMergePatterns': WHATEVER THE INPUT: true; the input reads as it did. -/
def fnExactMergePatternsSpec : ChangeSpec := { name := "fnExactMergePatterns", fn := fun _ => fun
  | [d1, d2] => { results := [.lit (.bool true)], args := [d1, d2] }
  | _ => none }
def fnExactMergePatternsRow : OpenClaim := { program := "ythdjoogholigbaa", sum := "18cc4e14bdd5f0a507bd04f80c821e7ef5ed78f7a4d887ee12d96b1b6f0df181", func := "loop.example/g00511/laws.FnExactMergePatterns", spec := "fnExactMergePatterns", recurses := true, apart := false }
def FnExactMergePatternsSaid : Prop := fnExactMergePatternsRow.holds Try.pinned (OpenSpec.ofChange fnExactMergePatternsSpec)

/-- ITS FALSE NEIGHBOUR: 'it returns false'. Refute it at one input. -/
def fnExactMergePatternsWrong : ChangeSpec := { name := "fnExactMergePatterns", fn := fun _ => fun
  | [d1, d2] => { results := [.lit (.bool false)], args := [d1, d2] }
  | _ => none }
def FnExactMergePatternsWrongFalsely : Prop := fnExactMergePatternsRow.holds Try.pinned (OpenSpec.ofChange fnExactMergePatternsWrong)

/- THE SECOND FORM. 'bulk': how many values and letters a reading holds, each counted each time it is reached (what is shared counts as often as it is met; a slice's spare places count too). A statement '..UptoSaid' is the law's where the arguments, and the package variables that the reading takes, are together of bulk at most 1048576: NARROWER than '..Said'. Prove '..Said' where nothing that the law and all that it calls make is longer than what came in: it says more and counts as full. Else prove '..UptoSaid'. A law counts once. -/
mutual
def uptoBulk {H : Type} : DataW H → Nat
  | .lit (.string bytes) => bytes.length + 1
  | .lit _ => 1
  | .nil => 1
  | .ptr d => uptoBulk d + 1
  | .slice elems spare => uptoBulkAll elems + uptoBulkAll spare + 1
  | .agg parts => uptoBulkAll parts + 1
  | .iface _ d => uptoBulk d + 1
  | .map entries => uptoBulkEntries entries + 1
  | .held _ => 1
def uptoBulkAll {H : Type} : List (DataW H) → Nat
  | [] => 0
  | d :: r => uptoBulk d + uptoBulkAll r
def uptoBulkEntries {H : Type} : List (Lit × DataW H) → Nat
  | [] => 0
  | x :: r => uptoBulkEntry x + uptoBulkEntries r
def uptoBulkEntry {H : Type} : Lit × DataW H → Nat
  | (.string bytes, d) => bytes.length + uptoBulk d + 1
  | (_, d) => uptoBulk d + 1
 end
def uptoSmall : (H : Type) → List (DataW H) → Bool := fun _ ds => decide (uptoBulkAll ds ≤ 1048576)
def OpenSpec.upto (s : _root_.Go.ChangeSpec) : _root_.Go.OpenSpec := { _root_.Go.OpenSpec.ofChange s with cond := some uptoSmall }

/-- 'laws.FnExactFlipBits', WHERE WHAT IT READS IS OF BULK AT MOST 1048576: true; the input reads as it did. -/
def fnExactFlipBitsUptoRow : OpenClaim := { program := "ythdjoogholigbaa", sum := "18cc4e14bdd5f0a507bd04f80c821e7ef5ed78f7a4d887ee12d96b1b6f0df181", func := "loop.example/g00511/laws.FnExactFlipBits", spec := "fnExactFlipBits", apart := false, narrowed := true }
def FnExactFlipBitsUptoSaid : Prop := fnExactFlipBitsUptoRow.holds Try.pinned (OpenSpec.upto fnExactFlipBitsSpec)

/-- 'laws.FnExactDeinterleave', WHERE WHAT IT READS IS OF BULK AT MOST 1048576: true; the input reads as it did. -/
def fnExactDeinterleaveUptoRow : OpenClaim := { program := "ythdjoogholigbaa", sum := "18cc4e14bdd5f0a507bd04f80c821e7ef5ed78f7a4d887ee12d96b1b6f0df181", func := "loop.example/g00511/laws.FnExactDeinterleave", spec := "fnExactDeinterleave", apart := false, narrowed := true }
def FnExactDeinterleaveUptoSaid : Prop := fnExactDeinterleaveUptoRow.holds Try.pinned (OpenSpec.upto fnExactDeinterleaveSpec)

/-- 'laws.FnExactInterleave', WHERE WHAT IT READS IS OF BULK AT MOST 1048576: true; the input reads as it did. -/
def fnExactInterleaveUptoRow : OpenClaim := { program := "ythdjoogholigbaa", sum := "18cc4e14bdd5f0a507bd04f80c821e7ef5ed78f7a4d887ee12d96b1b6f0df181", func := "loop.example/g00511/laws.FnExactInterleave", spec := "fnExactInterleave", apart := false, narrowed := true }
def FnExactInterleaveUptoSaid : Prop := fnExactInterleaveUptoRow.holds Try.pinned (OpenSpec.upto fnExactInterleaveSpec)

/-- 'laws.FnInterleaving', WHERE WHAT IT READS IS OF BULK AT MOST 1048576: true; the input reads as it did. -/
def fnInterleavingUptoRow : OpenClaim := { program := "ythdjoogholigbaa", sum := "18cc4e14bdd5f0a507bd04f80c821e7ef5ed78f7a4d887ee12d96b1b6f0df181", func := "loop.example/g00511/laws.FnInterleaving", spec := "fnInterleaving", apart := false, narrowed := true }
def FnInterleavingUptoSaid : Prop := fnInterleavingUptoRow.holds Try.pinned (OpenSpec.upto fnInterleavingSpec)

/-- 'laws.FnExactEncodeFrame', WHERE WHAT IT READS IS OF BULK AT MOST 1048576: true; the input reads as it did. -/
def fnExactEncodeFrameUptoRow : OpenClaim := { program := "ythdjoogholigbaa", sum := "18cc4e14bdd5f0a507bd04f80c821e7ef5ed78f7a4d887ee12d96b1b6f0df181", func := "loop.example/g00511/laws.FnExactEncodeFrame", spec := "fnExactEncodeFrame", apart := false, narrowed := true }
def FnExactEncodeFrameUptoSaid : Prop := fnExactEncodeFrameUptoRow.holds Try.pinned (OpenSpec.upto fnExactEncodeFrameSpec)

/-- 'laws.FnExactDecodeFrame', WHERE WHAT IT READS IS OF BULK AT MOST 1048576: true; the input reads as it did. -/
def fnExactDecodeFrameUptoRow : OpenClaim := { program := "ythdjoogholigbaa", sum := "18cc4e14bdd5f0a507bd04f80c821e7ef5ed78f7a4d887ee12d96b1b6f0df181", func := "loop.example/g00511/laws.FnExactDecodeFrame", spec := "fnExactDecodeFrame", apart := false, narrowed := true }
def FnExactDecodeFrameUptoSaid : Prop := fnExactDecodeFrameUptoRow.holds Try.pinned (OpenSpec.upto fnExactDecodeFrameSpec)

/-- 'laws.FnMacFrames', WHERE WHAT IT READS IS OF BULK AT MOST 1048576: true; the input reads as it did. -/
def fnMacFramesUptoRow : OpenClaim := { program := "ythdjoogholigbaa", sum := "18cc4e14bdd5f0a507bd04f80c821e7ef5ed78f7a4d887ee12d96b1b6f0df181", func := "loop.example/g00511/laws.FnMacFrames", spec := "fnMacFrames", apart := false, narrowed := true }
def FnMacFramesUptoSaid : Prop := fnMacFramesUptoRow.holds Try.pinned (OpenSpec.upto fnMacFramesSpec)

/-- 'laws.FnExactTransmitFrame', WHERE WHAT IT READS IS OF BULK AT MOST 1048576: true; the input reads as it did. -/
def fnExactTransmitFrameUptoRow : OpenClaim := { program := "ythdjoogholigbaa", sum := "18cc4e14bdd5f0a507bd04f80c821e7ef5ed78f7a4d887ee12d96b1b6f0df181", func := "loop.example/g00511/laws.FnExactTransmitFrame", spec := "fnExactTransmitFrame", apart := false, narrowed := true }
def FnExactTransmitFrameUptoSaid : Prop := fnExactTransmitFrameUptoRow.holds Try.pinned (OpenSpec.upto fnExactTransmitFrameSpec)

/-- 'laws.FnExactMergePatterns', WHERE WHAT IT READS IS OF BULK AT MOST 1048576: true; the input reads as it did. -/
def fnExactMergePatternsUptoRow : OpenClaim := { program := "ythdjoogholigbaa", sum := "18cc4e14bdd5f0a507bd04f80c821e7ef5ed78f7a4d887ee12d96b1b6f0df181", func := "loop.example/g00511/laws.FnExactMergePatterns", spec := "fnExactMergePatterns", recurses := true, apart := false, narrowed := true }
def FnExactMergePatternsUptoSaid : Prop := fnExactMergePatternsUptoRow.holds Try.pinned (OpenSpec.upto fnExactMergePatternsSpec)

end Rows
end Go.Proofs.Ythdjoogholigbaa
