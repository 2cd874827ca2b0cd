/- Contracts of Go functions. Conditions: the arguments read as the Lean function's. Written by print2.py, shrink.py (this session's). -/
import Derived.Test.YtldbmljooafkcaaPFnFrameErrorsx0
import Derived.Test.YtldbmljooafkcaaPFnFrameErrorsx2
import Derived.Test.YtldbmljooafkcaaPFnFrameErrorsx6
import Derived.Test.YtldbmljooafkcaaPFnFrameErrorsx8
import Derived.Test.YtldbmljooafkcaaPFnFrameErrorsx9
import Derived.Test.YtldbmljooafkcaaPFnFrameErrorsx10
namespace Go.Proofs.Ytldbmljooafkcaa.PFnFrameErrors
open Go.RowKit Go.Proofs.YtldbmljooafkcaaW.PrintWords Go.Proofs.YtldbmljooafkcaaW.PrintLast Go.Proofs.YtldbmljooafkcaaW.PrintMore
open Go.Proofs.YtldbmljooafkcaaW.PrintWords renaming below_alloc → zA, below_drew1 → zB, below_set → zC, below_size → zD, below_step → zE, blk_alloc → zF, blk_below → zG, blk_cell → zH, blk_drew → zI, blk_drewN → zJ, blk_frozen → zK, pw_below_drewN → zL, gate_callee → zM, gate_dst → zN
open Go.Proofs.YtldbmljooafkcaaW.PrintWords.Aside0 renaming mk → zO
open Go.Proofs.YtldbmljooafkcaaW.PrintWords.Kd renaming C_alloc → zR, C_drew → zS, C_drewN → zT, R_alloc → zU, R_drew → zV, R_drewN → zW, R_reads' → zX, R_below → zY, R_lower → yA
open Option renaming bind_eq_some_iff → yE
open List renaming setIfInBounds_toArray → yF, set_cons_zero → yG, set_cons_succ → yH, length_take → yI, length_drop → yJ, map_toArray → yK, map_cons → yL, map_nil → yM
set_option maxHeartbeats 8000000
set_option maxRecDepth 100000
attribute [local go_sem] max2_int min2_int max_two min_two max_three min_three max_four min_four
set_option linter.unusedVariables false
set_option linter.unusedSimpArgs false

def impl_TransmitFrame.j0 : Nat → List Int → Bool → Int → Int → Int → Option (List Int)
 | 0, _, _, _, _, _ => none
 | k + 1, x1, x15, x363000, x363001, x363002 => if x15 = true then (some (([] : List Int))) else ((impl_AppendCrc.f k x1).bind fun t367 => ((impl_BytesToBits.f k t367).bind fun t370 => ((impl_Scramble.f k x363002 t370).bind fun t373 => ((impl_ConvolutionalEncode.f k t373).bind fun t376 => (if x363000 = 2 then ((impl_Puncture.f k t376).bind fun t379 => ((impl_EncodeHeader.f k x363000 x363001 x363002).bind fun t382 => ((impl_Interleave.f k t379 8).bind fun t385 => (if t382.length + t385.length < 17592186044416 then (some (t382 ++ t385)) else (none))))) else ((impl_EncodeHeader.f k x363000 x363001 x363002).bind fun t391 => ((impl_Interleave.f k t376 8).bind fun t394 => (if t391.length + t394.length < 17592186044416 then (some (t391 ++ t394)) else (none)))))))))
def impl_TransmitFrame.f (k : Nat) (a0_0 : Int) (a0_1 : Int) (a0_2 : Int) (l1 : List Int) : Option (List Int) := (impl_IsValidHeader.f a0_0 a0_1 a0_2).bind fun t363 => (if t363 = true then (impl_TransmitFrame.j0 k l1 ((l1.length : Int) != a0_1) a0_0 a0_1 a0_2) else (impl_TransmitFrame.j0 k l1 true a0_0 a0_1 a0_2))
def impl_TransmitFrame.T3 : Bool × List (List Nat × List Nat) := (true, [([], []), ([0], [0]), ([], []), ([2], [2]), ([3, 3], [3]), ([1, 4, 4], [1, 4]), ([5, 5], [5]), ([6, 6, 0, 1, 2, 3, 4, 5, 6], [6])])
def impl_TransmitFrame.B3 : List Nat := [0, 1, 0, 4, 12, 31, 63, 127]
theorem impl_TransmitFrame.tab3 : rtab .any (opsOf Try.f63 3) = impl_TransmitFrame.T3 := by kernel_rfl
theorem impl_TransmitFrame.bits3 : waitsOk impl_TransmitFrame.T3.2 impl_TransmitFrame.B3 = true := by kernel_rfl
theorem impl_TransmitFrame.calls (k : Nat) (a0_0 : Int) (a0_1 : Int) (a0_2 : Int) (A1 : Option Addr) (c1 : Nat) (l1 : List Int) (r : List Int) (w : World) (hr1 : Kd.C (Kd.int .u8) w A1 l1.length l1) (hc1 : l1.length ≤ c1) (h : impl_TransmitFrame.f k a0_0 a0_1 a0_2 l1 = some r) :
  Calls Try.prog 63 #[.agg #[.int .i64 a0_0, .int .i64 a0_1, .int .i64 a0_2], .slice A1 l1.length c1] w fun e w' => ∃ v0_ : Value, e = .returned (v0_) ∧ Kd.R (Kd.int .i64) 3 w' w.heap.size (fun _ => True) v0_ r ∧ Below w.heap.size w w' := by
 have hu24 := Try.underlying24
 have HR1 := zO hr1
 have HC1 := zO hc1
 clear hr1 hc1
 have HB := zO (Below.refl w.heap.size w)
 have H : ((impl_IsValidHeader.f a0_0 a0_1 a0_2).bind fun t363 => (if t363 = true then (impl_TransmitFrame.j0 k l1 ((l1.length : Int) != a0_1) a0_0 a0_1 a0_2) else (impl_TransmitFrame.j0 k l1 true a0_0 a0_1 a0_2))) = some r := h
 clear h
 have HC3 := zO H
 clear H
 go_enter Try.func63, Try.ntmps63
 go_upto_region 1 with (first | ((with_reducible refine zN (N := 2) rfl ?_); (try (refine gate_guard (by rfl) ?_; dsimp only)); refine box_event ?hg (N := 2) ?hd (cs := #[.int .i64 a0_0, .int .i64 a0_1, .int .i64 a0_2]) (t := 24) ?hr ?_; (case hd => rfl); (case hg => rfl); (case hr => first | (go_simp; done) | (go_simp; rfl)); intro gb362 hg w4 hbox hb; have n0_ := zO (zE (by repeat (first | exact HB.out | apply zA | apply zL | apply zB)) hb); have n1_ := zO (hbox); have n2_ := zO ((by rw [hg]; exact (zD (by repeat (first | exact HB.out | apply zA | apply zL | apply zB))) : w.heap.size ≤ gb362)); have n3_ := zO ((by rw [hg]; exact (zD (by repeat (first | exact HB.out | apply zA | apply zL | apply zB))) : w.heap.size ≤ gb362)); clear HB; have HB := n0_; have BK362 := n1_; have GW362 := n2_; have GE362 := n3_; clear n0_ n1_ n2_ n3_; clear hb hbox hg))
 (try simp only [Act.put, yF, yG, yH])
 go_cut [15] (fun v15 wc => ∃ (kq : Nat) (x15_2 : Bool), v15 = .bool x15_2 ∧ Aside0 (impl_TransmitFrame.j0 kq l1 x15_2 a0_0 a0_1 a0_2 = some r) ∧ Aside0 (kq ≤ k) ∧ Aside0 (wc.heap[gb362]? = some (.cells #[.int .i64 a0_0, .int .i64 a0_1, .int .i64 a0_2] 24 (0, 0))) ∧ Aside0 (Below w.heap.size w wc))
 case first =>
  have H := HC3.out
  clear HC3
  replace H := yE.mp H
  obtain ⟨t363, A50, H⟩ := H
  replace H : (if t363 = true then (impl_TransmitFrame.j0 k l1 ((l1.length : Int) != a0_1) a0_0 a0_1 a0_2) else (impl_TransmitFrame.j0 k l1 true a0_0 a0_1 a0_2)) = some r := H
  have A5 := zO A50
  clear A50
  by_cases c6 : t363 = true
  ·subst c6
   have H1 : (impl_TransmitFrame.j0 k l1 ((l1.length : Int) != a0_1) a0_0 a0_1 a0_2) = some r := by rw [if_pos rfl] at H; exact H
   clear H
   have H := H1
   clear H1
   have H' := zO H
   clear H
   have hcz7_0 : w4.cell? ⟨gb362, 0, none⟩ = some (.int .i64 a0_0) := (zH BK362.out 0).trans rfl
   have hcz7_1 : w4.cell? ⟨gb362, 1, none⟩ = some (.int .i64 a0_1) := (zH BK362.out 1).trans rfl
   have hcz7_2 : w4.cell? ⟨gb362, 2, none⟩ = some (.int .i64 a0_2) := (zH BK362.out 2).trans rfl
   have hfz7_0 := zK BK362.out 0
   have hfz7_1 := zK BK362.out 1
   have hfz7_2 := zK BK362.out 2
   go_wp2_with (first | ((with_reducible refine zM (f := 75) rfl ?_); refine goesL_ (some 7) rfl rfl Try.func75 (by kernel_rfl) rfl #[.agg #[.int .i64 a0_0, .int .i64 a0_1, .int .i64 a0_2]] rfl (by (try simp only [yK, yL, yM]); first | done | rfl | (simp only [yJ, yI]; rfl)) ?_; (with_reducible refine (impl_IsValidHeader.calls a0_0 a0_1 a0_2 true _ A5.out).mono ?_); rintro e w8 ⟨rfl, hb⟩; refine ⟨_, rfl, ?_⟩; have n0_ := zO (zG (g := gb362) (o := .cells #[.int .i64 a0_0, .int .i64 a0_1, .int .i64 a0_2] 24 (0, 0)) (by (with_reducible repeat (first | refine zJ ?_ _ | refine zI ?_ | refine zF ?_ _)); exact BK362.out) hb); have n1_ := zO (zE (by repeat (first | (with_reducible first | exact HB.out | apply zA | apply zL | apply zB | refine zC ?_ GE362.out) | exact HB.out)) hb); clear BK362; clear HB; have BK362 := n0_; have HB := n1_; clear n0_ n1_; (try clear hb); (try clear hb2); (try clear hk); (try clear hi); have hcz9_0 : w8.cell? ⟨gb362, 0, none⟩ = some (.int .i64 a0_0) := (zH BK362.out 0).trans rfl; have hcz9_1 : w8.cell? ⟨gb362, 1, none⟩ = some (.int .i64 a0_1) := (zH BK362.out 1).trans rfl; have hcz9_2 : w8.cell? ⟨gb362, 2, none⟩ = some (.int .i64 a0_2) := (zH BK362.out 2).trans rfl; have hfz9_0 := zK BK362.out 0; have hfz9_1 := zK BK362.out 1; have hfz9_2 := zK BK362.out 2))
   go_meet
   case rel => exact ⟨_, (((l1.length : Int) != a0_1)), (by first | rfl | (simp; done) | (simp [*]; done)), H', ⟨by first | omega | exact Nat.le_refl _⟩, ⟨by (with_reducible repeat (first | refine zJ ?_ _ | refine zI ?_ | refine zF ?_ _)); exact BK362.out⟩, ⟨by repeat (first | (with_reducible first | exact HB.out | apply zA | apply zL | apply zB | refine zC ?_ GE362.out) | exact HB.out)⟩⟩
  ·replace c6 := Bool.eq_false_iff.mpr c6
   subst c6
   have H1 : (impl_TransmitFrame.j0 k l1 true a0_0 a0_1 a0_2) = some r := by rw [if_neg (show ¬ (false = true) by decide)] at H; exact H
   clear H
   have H := H1
   clear H1
   have H' := zO H
   clear H
   have hcz10_0 : w4.cell? ⟨gb362, 0, none⟩ = some (.int .i64 a0_0) := (zH BK362.out 0).trans rfl
   have hcz10_1 : w4.cell? ⟨gb362, 1, none⟩ = some (.int .i64 a0_1) := (zH BK362.out 1).trans rfl
   have hcz10_2 : w4.cell? ⟨gb362, 2, none⟩ = some (.int .i64 a0_2) := (zH BK362.out 2).trans rfl
   have hfz10_0 := zK BK362.out 0
   have hfz10_1 := zK BK362.out 1
   have hfz10_2 := zK BK362.out 2
   go_wp2_with (first | ((with_reducible refine zM (f := 75) rfl ?_); refine goesL_ (some 7) rfl rfl Try.func75 (by kernel_rfl) rfl #[.agg #[.int .i64 a0_0, .int .i64 a0_1, .int .i64 a0_2]] rfl (by (try simp only [yK, yL, yM]); first | done | rfl | (simp only [yJ, yI]; rfl)) ?_; (with_reducible refine (impl_IsValidHeader.calls a0_0 a0_1 a0_2 false _ A5.out).mono ?_); rintro e w11 ⟨rfl, hb⟩; refine ⟨_, rfl, ?_⟩; have n0_ := zO (zG (g := gb362) (o := .cells #[.int .i64 a0_0, .int .i64 a0_1, .int .i64 a0_2] 24 (0, 0)) (by (with_reducible repeat (first | refine zJ ?_ _ | refine zI ?_ | refine zF ?_ _)); exact BK362.out) hb); have n1_ := zO (zE (by repeat (first | (with_reducible first | exact HB.out | apply zA | apply zL | apply zB | refine zC ?_ GE362.out) | exact HB.out)) hb); clear BK362; clear HB; have BK362 := n0_; have HB := n1_; clear n0_ n1_; (try clear hb); (try clear hb2); (try clear hk); (try clear hi)))
   go_meet
   case rel => exact ⟨_, (true), (by first | rfl | (simp; done) | (simp [*]; done)), H', ⟨by first | omega | exact Nat.le_refl _⟩, ⟨by (with_reducible repeat (first | refine zJ ?_ _ | refine zI ?_ | refine zF ?_ _)); exact BK362.out⟩, ⟨by repeat (first | (with_reducible first | exact HB.out | apply zA | apply zL | apply zB | refine zC ?_ GE362.out) | exact HB.out)⟩⟩
 case rest =>
  clear HC3
  try clear c1
  try clear p2
  try clear c6
  try clear c7
  try clear hcz10_0
  try clear hcz10_1
  try clear hcz10_2
  try clear hcz7_0
  try clear hcz7_1
  try clear hcz7_2
  try clear hcz9_0
  try clear hcz9_1
  try clear hcz9_2
  try clear hfz10_0
  try clear hfz10_1
  try clear hfz10_2
  try clear hfz7_0
  try clear hfz7_1
  try clear hfz7_2
  try clear hfz9_0
  try clear hfz9_1
  try clear hfz9_2
  obtain ⟨kq, x15_2, rfl, HA, HJ2, BK362, HB⟩ := hcut
  cases kq with
  | zero => exact absurd HA.out (by simp [impl_TransmitFrame.j0])
  | succ kj2 =>
   have H := HA.out
   clear HA
   simp only [impl_TransmitFrame.j0] at H
   by_cases c12 : x15_2 = true
   ·subst c12
    have H1 : (some (([] : List Int))) = some r := by rw [if_pos rfl] at H; exact H
    clear H
    have H := H1
    clear H1
    obtain ⟨y364, hy364⟩ : ∃ y_ : List Int, y_ = (([] : List Int)) := ⟨_, rfl⟩
    replace H : (some y364) = some r := by first | (rw [hy364]; exact H) | exact H
    have Ny364 := zO hy364
    clear hy364
    obtain rfl := Option.some.inj H
    go_wp2_with (first | ((with_reducible refine zN (N := 16) rfl ?_); (try (refine gate_guard (by rfl) ?_; dsimp only)); refine Kd.R_lit (Kd.int .i64) _ 3 ?hg (N := 16) ?hd (xs := ([] : List Int)) (inner := []) (ok := fun _ => True) (okp := fun _ => True) ?hr ?hp (fun _ hk => hk) trivial (Below.refl _ _) (Nat.le_refl _) (by simp) ?_; (case hd => rfl); (case hg => rfl); (case hr => first | (go_simp; done) | (go_simp; rfl)); (case hp => exact (Reps.none _ _)); intro v365 w13 ho14 hb hg_ hnew_; clear hg_ hnew_; (first | rw [← Ny364.out] at ho14 | (simp only [Int.reduceToNat] at ho14; rw [← Ny364.out] at ho14)); have n0_ := zO (yA ho14 (zD (by repeat (first | (with_reducible first | exact HB.out | apply zA | apply zL | apply zB | refine zC ?_ GE362.out) | exact HB.out)))); have n1_ := zO (zG (g := gb362) (o := .cells #[.int .i64 a0_0, .int .i64 a0_1, .int .i64 a0_2] 24 (0, 0)) (by (with_reducible repeat (first | refine zJ ?_ _ | refine zI ?_ | refine zF ?_ _)); exact BK362.out) hb); have n2_ := zO (zE (by repeat (first | (with_reducible first | exact HB.out | apply zA | apply zL | apply zB | refine zC ?_ GE362.out) | exact HB.out)) hb); clear BK362; clear HB; have HO366 := n0_; have BK362 := n1_; have HB := n2_; clear n0_ n1_ n2_; clear hb ho14))
    go_ret
    exact ⟨_, by first | rfl | (simp [errW_none, errW_some] <;> rfl) | (simp [*, errW_none, errW_some] <;> rfl), by (with_reducible repeat (first | apply zU | apply zW | apply zV)); exact HO366.out, by repeat (first | (with_reducible first | exact HB.out | apply zA | apply zL | apply zB | refine zC ?_ GE362.out) | exact HB.out)⟩
   ·replace c12 := Bool.eq_false_iff.mpr c12
    subst c12
    have H1 : ((impl_AppendCrc.f kj2 l1).bind fun t367 => ((impl_BytesToBits.f kj2 t367).bind fun t370 => ((impl_Scramble.f kj2 a0_2 t370).bind fun t373 => ((impl_ConvolutionalEncode.f kj2 t373).bind fun t376 => (if a0_0 = 2 then ((impl_Puncture.f kj2 t376).bind fun t379 => ((impl_EncodeHeader.f kj2 a0_0 a0_1 a0_2).bind fun t382 => ((impl_Interleave.f kj2 t379 8).bind fun t385 => (if t382.length + t385.length < 17592186044416 then (some (t382 ++ t385)) else (none))))) else ((impl_EncodeHeader.f kj2 a0_0 a0_1 a0_2).bind fun t391 => ((impl_Interleave.f kj2 t376 8).bind fun t394 => (if t391.length + t394.length < 17592186044416 then (some (t391 ++ t394)) else (none))))))))) = some r := by rw [if_neg (show ¬ (false = true) by decide)] at H; exact H
    clear H
    have H := H1
    clear H1
    replace H := yE.mp H
    obtain ⟨t367, A150, H⟩ := H
    replace H : ((impl_BytesToBits.f kj2 t367).bind fun t370 => ((impl_Scramble.f kj2 a0_2 t370).bind fun t373 => ((impl_ConvolutionalEncode.f kj2 t373).bind fun t376 => (if a0_0 = 2 then ((impl_Puncture.f kj2 t376).bind fun t379 => ((impl_EncodeHeader.f kj2 a0_0 a0_1 a0_2).bind fun t382 => ((impl_Interleave.f kj2 t379 8).bind fun t385 => (if t382.length + t385.length < 17592186044416 then (some (t382 ++ t385)) else (none))))) else ((impl_EncodeHeader.f kj2 a0_0 a0_1 a0_2).bind fun t391 => ((impl_Interleave.f kj2 t376 8).bind fun t394 => (if t391.length + t394.length < 17592186044416 then (some (t391 ++ t394)) else (none)))))))) = some r := H
    have A15 := zO A150
    clear A150
    replace H := yE.mp H
    obtain ⟨t370, A160, H⟩ := H
    replace H : ((impl_Scramble.f kj2 a0_2 t370).bind fun t373 => ((impl_ConvolutionalEncode.f kj2 t373).bind fun t376 => (if a0_0 = 2 then ((impl_Puncture.f kj2 t376).bind fun t379 => ((impl_EncodeHeader.f kj2 a0_0 a0_1 a0_2).bind fun t382 => ((impl_Interleave.f kj2 t379 8).bind fun t385 => (if t382.length + t385.length < 17592186044416 then (some (t382 ++ t385)) else (none))))) else ((impl_EncodeHeader.f kj2 a0_0 a0_1 a0_2).bind fun t391 => ((impl_Interleave.f kj2 t376 8).bind fun t394 => (if t391.length + t394.length < 17592186044416 then (some (t391 ++ t394)) else (none))))))) = some r := H
    have A16 := zO A160
    clear A160
    replace H := yE.mp H
    obtain ⟨t373, A170, H⟩ := H
    replace H : ((impl_ConvolutionalEncode.f kj2 t373).bind fun t376 => (if a0_0 = 2 then ((impl_Puncture.f kj2 t376).bind fun t379 => ((impl_EncodeHeader.f kj2 a0_0 a0_1 a0_2).bind fun t382 => ((impl_Interleave.f kj2 t379 8).bind fun t385 => (if t382.length + t385.length < 17592186044416 then (some (t382 ++ t385)) else (none))))) else ((impl_EncodeHeader.f kj2 a0_0 a0_1 a0_2).bind fun t391 => ((impl_Interleave.f kj2 t376 8).bind fun t394 => (if t391.length + t394.length < 17592186044416 then (some (t391 ++ t394)) else (none)))))) = some r := H
    have A17 := zO A170
    clear A170
    replace H := yE.mp H
    obtain ⟨t376, A180, H⟩ := H
    replace H : (if a0_0 = 2 then ((impl_Puncture.f kj2 t376).bind fun t379 => ((impl_EncodeHeader.f kj2 a0_0 a0_1 a0_2).bind fun t382 => ((impl_Interleave.f kj2 t379 8).bind fun t385 => (if t382.length + t385.length < 17592186044416 then (some (t382 ++ t385)) else (none))))) else ((impl_EncodeHeader.f kj2 a0_0 a0_1 a0_2).bind fun t391 => ((impl_Interleave.f kj2 t376 8).bind fun t394 => (if t391.length + t394.length < 17592186044416 then (some (t391 ++ t394)) else (none))))) = some r := H
    have A18 := zO A180
    clear A180
    by_cases c19 : a0_0 = 2
    ·rw [if_pos c19] at H
     have c19b0 : (a0_0 == 2) = true := beq_iff_eq.mpr c19
     have c19b1 : (a0_0 != 2) = false := bne_eq_false_iff_eq.mpr c19
     clear c19
     replace H := yE.mp H
     obtain ⟨t379, A200, H⟩ := H
     replace H : ((impl_EncodeHeader.f kj2 a0_0 a0_1 a0_2).bind fun t382 => ((impl_Interleave.f kj2 t379 8).bind fun t385 => (if t382.length + t385.length < 17592186044416 then (some (t382 ++ t385)) else (none)))) = some r := H
     have A20 := zO A200
     clear A200
     replace H := yE.mp H
     obtain ⟨t382, A210, H⟩ := H
     replace H : ((impl_Interleave.f kj2 t379 8).bind fun t385 => (if t382.length + t385.length < 17592186044416 then (some (t382 ++ t385)) else (none))) = some r := H
     have A21 := zO A210
     clear A210
     replace H := yE.mp H
     obtain ⟨t385, A220, H⟩ := H
     replace H : (if t382.length + t385.length < 17592186044416 then (some (t382 ++ t385)) else (none)) = some r := H
     have A22 := zO A220
     clear A220
     by_cases c23 : t382.length + t385.length < 17592186044416
     case neg => rw [if_neg c23] at H; exact absurd H (by simp)
     rw [if_pos c23] at H
     have LMc23 := zO c23
     clear c23
     obtain ⟨y388, hy388⟩ : ∃ y_ : List Int, y_ = (t382 ++ t385) := ⟨_, rfl⟩
     replace H : (some y388) = some r := by first | (rw [hy388]; exact H) | exact H
     have Ny388 := zO hy388
     clear hy388
     obtain rfl := Option.some.inj H
     try go_wp2
     have n0_ := zO (zI BK362.out)
     have n1_ := zO (zB HB.out)
     clear BK362
     clear HB
     have BK362 := n0_
     have HB := n1_
     clear n0_ n1_
     refine start_ (n := 8) (S := fun w' => w'.cell? ⟨gb362, 0, none⟩ = some (.int .i64 a0_0) ∧ w'.cell? ⟨gb362, 1, none⟩ = some (.int .i64 a0_1) ∧ w'.cell? ⟨gb362, 2, none⟩ = some (.int .i64 a0_2)) (ds := []) #[false, false, false, false, false, false, false, false] (by kernel_rfl) rfl rfl ⟨(zH BK362.out 0).trans rfl, (zH BK362.out 1).trans rfl, (zH BK362.out 2).trans rfl⟩ (fun hHeld => ?_); refine with_tabW impl_TransmitFrame.tab3 impl_TransmitFrame.bits3 (fun HT_ HW_ => ?_)
     generalize wc.drew = w24 at BK362 HB hHeld ⊢
     refine pure_ (i := 0) (N := some 17) (v := ?_) (a' := ?_) #[true, false, false, false, false, false, false, false] rfl rfl (any_of HT_.out (by kernel_rfl)) (fun _ _ _ h => h) (Or.inl ⟨by rfl, ?_⟩) ?_ ?_; rotate_left
     ·intro w'; go_simp; with_reducible rfl
     rotate_left
     ·simp only [Act.put, yF, yG, yH, i64_w, i32_w]; rfl
     refine pure_ (i := 2) (N := some 19) (v := ?_) (a' := ?_) #[true, false, true, false, false, false, false, false] rfl rfl (any_of HT_.out (by kernel_rfl)) (fun _ _ _ h => h) (Or.inl ⟨by rfl, ?_⟩) ?_ ?_; rotate_left
     ·intro w'; go_simp; with_reducible rfl
     rotate_left
     ·simp only [Act.put, yF, yG, yH, i64_w, i32_w]; rfl
     refine take_ (i := 1) (N := some 18) (v := ?_) (a' := ?_) #[true, true, true, false, false, false, false, false] rfl rfl (take_ofW HT_.out HW_.out (by kernel_rfl)) (fun _ _ _ h => h) (Or.inl ⟨by rfl, ?_⟩) hHeld ?_ ?_; rotate_left
     ·rintro w' ⟨s0, s1, s2⟩; go_simp; with_reducible rfl
     rotate_left
     ·simp only [Act.put, yF, yG, yH, i64_w, i32_w]; rfl
     refine one_ (i := 3) (N := some 20) #[true, true, true, true, false, false, false, false] rfl rfl (one_of HT_.out (by kernel_rfl)) (by decide) (fun K hK => ?_)
     refine goes_ Try.func94 (by kernel_rfl) rfl #[.slice A1 l1.length c1] (by rfl) rfl rfl (by (try simp only [yK, yL, yM]); first | done | rfl | (simp only [yJ, yI]; rfl)) ?_
     with_reducible refine (impl_AppendCrc.calls kj2 _ _ l1 t367 _ ?side1 ?side2 A15.out).mono ?_
     (case side1 => repeat (first | exact (Kd.C_below HR1.out HB.out) | (with_reducible refine zR ?_ _) | (with_reducible refine zT ?_ _) | (with_reducible refine zS ?_)))
     (case side2 => exact HC1.out)
     rintro e w25 ⟨v368, rfl, ho0, hb⟩
     refine ⟨_, rfl, ?_⟩
     have n0_ := zO (yA ho0 (zD (by repeat (first | (with_reducible first | exact HB.out | apply zA | apply zL | apply zB | refine zC ?_ GE362.out) | exact HB.out))))
     have n1_ := zO (zG (g := gb362) (o := .cells #[.int .i64 a0_0, .int .i64 a0_1, .int .i64 a0_2] 24 (0, 0)) (by (with_reducible repeat (first | refine zJ ?_ _ | refine zI ?_ | refine zF ?_ _)); exact BK362.out) hb)
     have n2_ := zO (zE (by repeat (first | (with_reducible first | exact HB.out | apply zA | apply zL | apply zB | refine zC ?_ GE362.out) | exact HB.out)) hb)
     clear BK362
     clear HB
     have HO369 := n0_
     have BK362 := n1_
     have HB := n2_
     clear n0_ n1_ n2_
     (try clear hb)
     (try clear hb2)
     (try clear hk)
     (try clear hi)
     (try clear ho0)
     obtain ⟨Ao26, co26, eo26⟩ := Kd.R_slice HO369.out
     (first | subst eo26 | (injection eo26 with f1_ f2_ f3_; have f4_ := f1_.symm; have f5_ := f3_.symm; clear f1_ f2_ f3_; subst f4_; subst f5_))
     refine hK.out _ _ ⟨(zH BK362.out 0).trans rfl, (zH BK362.out 1).trans rfl, (zH BK362.out 2).trans rfl⟩ (fun hHeld => ?_)
     clear hK K
     refine norm_ (a' := ?_) ?_ ?_; rotate_left
     ·show Act.put _ (some 20) _ = _; simp only [Act.put, yF, yG, yH, i64_w, i32_w]; rfl
     refine one_ (i := 4) (N := some 21) #[true, true, true, true, true, false, false, false] rfl rfl (one_of HT_.out (by kernel_rfl)) (by decide) (fun K hK => ?_)
     refine goes_ Try.func133 (by kernel_rfl) rfl #[.slice Ao26 t367.length co26] (by rfl) rfl rfl (by (try simp only [yK, yL, yM]); first | done | rfl | (simp only [yJ, yI]; rfl)) ?_
     with_reducible refine (impl_BytesToBits.calls kj2 _ _ t367 t370 _ ?side1 ?side2 A16.out).mono ?_
     (case side1 => repeat (first | exact (zX HO369.out).2.2 | (with_reducible refine zR ?_ _) | (with_reducible refine zT ?_ _) | (with_reducible refine zS ?_)))
     (case side2 => exact (zX HO369.out).2.1)
     rintro e w27 ⟨v371, rfl, ho0, hb⟩
     refine ⟨_, rfl, ?_⟩
     have n0_ := zO (zY (by (with_reducible repeat (first | apply zU | apply zW | apply zV)); exact HO369.out) hb)
     have n1_ := zO (yA ho0 (zD (by repeat (first | (with_reducible first | exact HB.out | apply zA | apply zL | apply zB | refine zC ?_ GE362.out) | exact HB.out))))
     have n2_ := zO (zG (g := gb362) (o := .cells #[.int .i64 a0_0, .int .i64 a0_1, .int .i64 a0_2] 24 (0, 0)) (by (with_reducible repeat (first | refine zJ ?_ _ | refine zI ?_ | refine zF ?_ _)); exact BK362.out) hb)
     have n3_ := zO (zE (by repeat (first | (with_reducible first | exact HB.out | apply zA | apply zL | apply zB | refine zC ?_ GE362.out) | exact HB.out)) hb)
     clear HO369
     clear BK362
     clear HB
     have HO369 := n0_
     have HO372 := n1_
     have BK362 := n2_
     have HB := n3_
     clear n0_ n1_ n2_ n3_
     (try clear hb)
     (try clear hb2)
     (try clear hk)
     (try clear hi)
     (try clear ho0)
     obtain ⟨Ao28, co28, eo28⟩ := Kd.R_slice HO372.out
     (first | subst eo28 | (injection eo28 with f1_ f2_ f3_; have f4_ := f1_.symm; have f5_ := f3_.symm; clear f1_ f2_ f3_; subst f4_; subst f5_))
     refine hK.out _ _ ⟨(zH BK362.out 0).trans rfl, (zH BK362.out 1).trans rfl, (zH BK362.out 2).trans rfl⟩ (fun hHeld => ?_)
     clear hK K
     refine norm_ (a' := ?_) ?_ ?_; rotate_left
     ·show Act.put _ (some 21) _ = _; simp only [Act.put, yF, yG, yH, i64_w, i32_w]; rfl
     refine one_ (i := 5) (N := some 22) #[true, true, true, true, true, true, false, false] rfl rfl (one_of HT_.out (by kernel_rfl)) (by decide) (fun K hK => ?_)
     refine goes_ Try.func130 (by kernel_rfl) rfl #[.int .i64 a0_2, .slice Ao28 t370.length co28] (by rfl) rfl rfl (by (try simp only [yK, yL, yM]); first | done | rfl | (simp only [yJ, yI]; rfl)) ?_
     with_reducible refine (impl_Scramble.calls kj2 a0_2 _ _ t370 t373 _ ?side1 ?side2 A17.out).mono ?_
     (case side1 => repeat (first | exact (zX HO372.out).2.2 | (with_reducible refine zR ?_ _) | (with_reducible refine zT ?_ _) | (with_reducible refine zS ?_)))
     (case side2 => exact (zX HO372.out).2.1)
     rintro e w29 ⟨v374, rfl, ho0, hb⟩
     refine ⟨_, rfl, ?_⟩
     have n0_ := zO (zY (by (with_reducible repeat (first | apply zU | apply zW | apply zV)); exact HO369.out) hb)
     have n1_ := zO (Kd.R_elder' (by (with_reducible repeat (first | apply zU | apply zW | apply zV)); exact HO372.out) (Kd.R_base ho0) hb)
     have n2_ := zO (yA (Kd.R_new' ho0 (Kd.R_lt (by (with_reducible repeat (first | apply zU | apply zW | apply zV)); exact HO372.out))) (zD (by repeat (first | (with_reducible first | exact HB.out | apply zA | apply zL | apply zB | refine zC ?_ GE362.out) | exact HB.out))))
     have n3_ := zO (zG (g := gb362) (o := .cells #[.int .i64 a0_0, .int .i64 a0_1, .int .i64 a0_2] 24 (0, 0)) (by (with_reducible repeat (first | refine zJ ?_ _ | refine zI ?_ | refine zF ?_ _)); exact BK362.out) hb)
     have n4_ := zO (zE (by repeat (first | (with_reducible first | exact HB.out | apply zA | apply zL | apply zB | refine zC ?_ GE362.out) | exact HB.out)) hb)
     clear HO369
     clear HO372
     clear BK362
     clear HB
     have HO369 := n0_
     have HO372 := n1_
     have HO375 := n2_
     have BK362 := n3_
     have HB := n4_
     clear n0_ n1_ n2_ n3_ n4_
     (try clear hb)
     (try clear hb2)
     (try clear hk)
     (try clear hi)
     (try clear ho0)
     obtain ⟨Ao30, co30, eo30⟩ := Kd.R_slice HO375.out
     (first | subst eo30 | (injection eo30 with f1_ f2_ f3_; have f4_ := f1_.symm; have f5_ := f3_.symm; clear f1_ f2_ f3_; subst f4_; subst f5_))
     refine hK.out _ _ ⟨(zH BK362.out 0).trans rfl, (zH BK362.out 1).trans rfl, (zH BK362.out 2).trans rfl⟩ (fun hHeld => ?_)
     clear hK K
     refine norm_ (a' := ?_) ?_ ?_; rotate_left
     ·show Act.put _ (some 22) _ = _; simp only [Act.put, yF, yG, yH, i64_w, i32_w]; rfl
     refine one_ (i := 6) (N := some 23) #[true, true, true, true, true, true, true, false] rfl rfl (one_of HT_.out (by kernel_rfl)) (by decide) (fun K hK => ?_)
     refine goes_ Try.func118 (by kernel_rfl) rfl #[.slice Ao30 t373.length co30] (by rfl) rfl rfl (by (try simp only [yK, yL, yM]); first | done | rfl | (simp only [yJ, yI]; rfl)) ?_
     with_reducible refine (impl_ConvolutionalEncode.calls kj2 _ _ t373 t376 _ ?side1 ?side2 A18.out).mono ?_
     (case side1 => repeat (first | exact (zX HO375.out).2.2 | (with_reducible refine zR ?_ _) | (with_reducible refine zT ?_ _) | (with_reducible refine zS ?_)))
     (case side2 => exact (zX HO375.out).2.1)
     rintro e w31 ⟨v377, rfl, ho0, hb⟩
     refine ⟨_, rfl, ?_⟩
     have n0_ := zO (zY (by (with_reducible repeat (first | apply zU | apply zW | apply zV)); exact HO369.out) hb)
     have n1_ := zO (Kd.R_elder' (by (with_reducible repeat (first | apply zU | apply zW | apply zV)); exact HO372.out) (Kd.R_base ho0) hb)
     have n2_ := zO (Kd.R_elder' (by (with_reducible repeat (first | apply zU | apply zW | apply zV)); exact HO375.out) (Kd.R_base ho0) hb)
     have n3_ := zO (yA (Kd.R_new' (Kd.R_new' ho0 (Kd.R_lt (by (with_reducible repeat (first | apply zU | apply zW | apply zV)); exact HO372.out))) (Kd.R_lt (by (with_reducible repeat (first | apply zU | apply zW | apply zV)); exact HO375.out))) (zD (by repeat (first | (with_reducible first | exact HB.out | apply zA | apply zL | apply zB | refine zC ?_ GE362.out) | exact HB.out))))
     have n4_ := zO (zG (g := gb362) (o := .cells #[.int .i64 a0_0, .int .i64 a0_1, .int .i64 a0_2] 24 (0, 0)) (by (with_reducible repeat (first | refine zJ ?_ _ | refine zI ?_ | refine zF ?_ _)); exact BK362.out) hb)
     have n5_ := zO (zE (by repeat (first | (with_reducible first | exact HB.out | apply zA | apply zL | apply zB | refine zC ?_ GE362.out) | exact HB.out)) hb)
     clear HO369
     clear HO372
     clear HO375
     clear BK362
     clear HB
     have HO369 := n0_
     have HO372 := n1_
     have HO375 := n2_
     have HO378 := n3_
     have BK362 := n4_
     have HB := n5_
     clear n0_ n1_ n2_ n3_ n4_ n5_
     (try clear hb)
     (try clear hb2)
     (try clear hk)
     (try clear hi)
     (try clear ho0)
     refine hK.out _ _ ⟨(zH BK362.out 0).trans rfl, (zH BK362.out 1).trans rfl, (zH BK362.out 2).trans rfl⟩ (fun hHeld => ?_)
     clear hK K
     refine norm_ (a' := ?_) ?_ ?_; rotate_left
     ·show Act.put _ (some 23) _ = _; simp only [Act.put, yF, yG, yH, i64_w, i32_w]; rfl
     refine pure_ (i := 7) (N := some 5) (v := ?_) (a' := ?_) #[true, true, true, true, true, true, true, true] rfl rfl (any_of HT_.out (by kernel_rfl)) (fun _ _ _ h => h) (Or.inl ⟨by rfl, ?_⟩) ?_ ?_; rotate_left
     ·intro w'; go_simp; with_reducible rfl
     rotate_left
     ·simp only [Act.put, yF, yG, yH, i64_w, i32_w]; rfl
     refine done_ (done_of HT_.out (by kernel_rfl)) ?_
     have hcz32_0 : w31.cell? ⟨gb362, 0, none⟩ = some (.int .i64 a0_0) := (zH BK362.out 0).trans rfl
     have hcz32_1 : w31.cell? ⟨gb362, 1, none⟩ = some (.int .i64 a0_1) := (zH BK362.out 1).trans rfl
     have hcz32_2 : w31.cell? ⟨gb362, 2, none⟩ = some (.int .i64 a0_2) := (zH BK362.out 2).trans rfl
     have hfz32_0 := zK BK362.out 0
     have hfz32_1 := zK BK362.out 1
     have hfz32_2 := zK BK362.out 2
     obtain ⟨Ao33, co33, eo33⟩ := Kd.R_slice HO378.out
     subst eo33
     try go_wp2_with (first | ((with_reducible refine zM (f := 134) rfl ?_); refine goesL_ (some 28) rfl rfl Try.func134 (by kernel_rfl) rfl #[.slice Ao33 t376.length co33] rfl (by (try simp only [yK, yL, yM]); first | done | rfl | (simp only [yJ, yI]; rfl)) ?_; (with_reducible refine (impl_Puncture.calls kj2 _ _ t376 t379 _ ?side1 ?side2 A20.out).mono ?_); (case side1 => repeat (first | exact (zX HO378.out).2.2 | (with_reducible refine zR ?_ _) | (with_reducible refine zT ?_ _) | (with_reducible refine zS ?_))); (case side2 => exact (zX HO378.out).2.1); rintro e w34 ⟨v380, rfl, ho0, hb⟩; refine ⟨_, rfl, ?_⟩; have n0_ := zO (zY (by (with_reducible repeat (first | apply zU | apply zW | apply zV)); exact HO369.out) hb); have n1_ := zO (Kd.R_elder' (by (with_reducible repeat (first | apply zU | apply zW | apply zV)); exact HO372.out) (Kd.R_base ho0) hb); have n2_ := zO (Kd.R_elder' (by (with_reducible repeat (first | apply zU | apply zW | apply zV)); exact HO375.out) (Kd.R_base ho0) hb); have n3_ := zO (Kd.R_elder' (by (with_reducible repeat (first | apply zU | apply zW | apply zV)); exact HO378.out) (Kd.R_base ho0) hb); have n4_ := zO (yA (Kd.R_new' (Kd.R_new' (Kd.R_new' ho0 (Kd.R_lt (by (with_reducible repeat (first | apply zU | apply zW | apply zV)); exact HO372.out))) (Kd.R_lt (by (with_reducible repeat (first | apply zU | apply zW | apply zV)); exact HO375.out))) (Kd.R_lt (by (with_reducible repeat (first | apply zU | apply zW | apply zV)); exact HO378.out))) (zD (by repeat (first | (with_reducible first | exact HB.out | apply zA | apply zL | apply zB | refine zC ?_ GE362.out) | exact HB.out)))); have n5_ := zO (zG (g := gb362) (o := .cells #[.int .i64 a0_0, .int .i64 a0_1, .int .i64 a0_2] 24 (0, 0)) (by (with_reducible repeat (first | refine zJ ?_ _ | refine zI ?_ | refine zF ?_ _)); exact BK362.out) hb); have n6_ := zO (zE (by repeat (first | (with_reducible first | exact HB.out | apply zA | apply zL | apply zB | refine zC ?_ GE362.out) | exact HB.out)) hb); clear HO369; clear HO372; clear HO375; clear HO378; clear BK362; clear HB; have HO369 := n0_; have HO372 := n1_; have HO375 := n2_; have HO378 := n3_; have HO381 := n4_; have BK362 := n5_; have HB := n6_; clear n0_ n1_ n2_ n3_ n4_ n5_ n6_; (try clear hb); (try clear hb2); (try clear hk); (try clear hi); (try clear ho0); have hcz35_0 : w34.cell? ⟨gb362, 0, none⟩ = some (.int .i64 a0_0) := (zH BK362.out 0).trans rfl; have hcz35_1 : w34.cell? ⟨gb362, 1, none⟩ = some (.int .i64 a0_1) := (zH BK362.out 1).trans rfl; have hcz35_2 : w34.cell? ⟨gb362, 2, none⟩ = some (.int .i64 a0_2) := (zH BK362.out 2).trans rfl; have hfz35_0 := zK BK362.out 0; have hfz35_1 := zK BK362.out 1; have hfz35_2 := zK BK362.out 2) | ((with_reducible refine zM (f := 135) rfl ?_); refine goesL_ (some 30) rfl rfl Try.func135 (by kernel_rfl) rfl #[.agg #[.int .i64 a0_0, .int .i64 a0_1, .int .i64 a0_2]] rfl (by (try simp only [yK, yL, yM]); first | done | rfl | (simp only [yJ, yI]; rfl)) ?_; (with_reducible refine (impl_EncodeHeader.calls kj2 a0_0 a0_1 a0_2 t382 _ A21.out).mono ?_); rintro e w36 ⟨v383, rfl, ho0, hb⟩; refine ⟨_, rfl, ?_⟩; have n0_ := zO (zY (by (with_reducible repeat (first | apply zU | apply zW | apply zV)); exact HO369.out) hb); have n1_ := zO (Kd.R_elder' (by (with_reducible repeat (first | apply zU | apply zW | apply zV)); exact HO372.out) (Kd.R_base ho0) hb); have n2_ := zO (Kd.R_elder' (by (with_reducible repeat (first | apply zU | apply zW | apply zV)); exact HO375.out) (Kd.R_base ho0) hb); have n3_ := zO (Kd.R_elder' (by (with_reducible repeat (first | apply zU | apply zW | apply zV)); exact HO378.out) (Kd.R_base ho0) hb); have n4_ := zO (Kd.R_elder' (by (with_reducible repeat (first | apply zU | apply zW | apply zV)); exact HO381.out) (Kd.R_base ho0) hb); have n5_ := zO (yA (Kd.R_new' (Kd.R_new' (Kd.R_new' (Kd.R_new' ho0 (Kd.R_lt (by (with_reducible repeat (first | apply zU | apply zW | apply zV)); exact HO372.out))) (Kd.R_lt (by (with_reducible repeat (first | apply zU | apply zW | apply zV)); exact HO375.out))) (Kd.R_lt (by (with_reducible repeat (first | apply zU | apply zW | apply zV)); exact HO378.out))) (Kd.R_lt (by (with_reducible repeat (first | apply zU | apply zW | apply zV)); exact HO381.out))) (zD (by repeat (first | (with_reducible first | exact HB.out | apply zA | apply zL | apply zB | refine zC ?_ GE362.out) | exact HB.out)))); have n6_ := zO (zG (g := gb362) (o := .cells #[.int .i64 a0_0, .int .i64 a0_1, .int .i64 a0_2] 24 (0, 0)) (by (with_reducible repeat (first | refine zJ ?_ _ | refine zI ?_ | refine zF ?_ _)); exact BK362.out) hb); have n7_ := zO (zE (by repeat (first | (with_reducible first | exact HB.out | apply zA | apply zL | apply zB | refine zC ?_ GE362.out) | exact HB.out)) hb); clear HO369; clear HO372; clear HO375; clear HO378; clear HO381; clear BK362; clear HB; have HO369 := n0_; have HO372 := n1_; have HO375 := n2_; have HO378 := n3_; have HO381 := n4_; have HO384 := n5_; have BK362 := n6_; have HB := n7_; clear n0_ n1_ n2_ n3_ n4_ n5_ n6_ n7_; (try clear hb); (try clear hb2); (try clear hk); (try clear hi); (try clear ho0); obtain ⟨Ao37, co37, eo37⟩ := Kd.R_slice HO381.out; subst eo37) | ((with_reducible refine zM (f := 136) rfl ?_); refine goesL_ (some 32) rfl rfl Try.func136 (by kernel_rfl) rfl #[.slice Ao37 t379.length co37, .int .i64 8] rfl (by (try simp only [yK, yL, yM]); first | done | rfl | (simp only [yJ, yI]; rfl)) ?_; (with_reducible refine (impl_Interleave.calls kj2 _ _ t379 8 t385 _ ?side1 ?side2 A22.out).mono ?_); (case side1 => repeat (first | exact (zX HO381.out).2.2 | (with_reducible refine zR ?_ _) | (with_reducible refine zT ?_ _) | (with_reducible refine zS ?_))); (case side2 => exact (zX HO381.out).2.1); rintro e w38 ⟨v386, rfl, ho0, hb⟩; refine ⟨_, rfl, ?_⟩; have n0_ := zO (zY (by (with_reducible repeat (first | apply zU | apply zW | apply zV)); exact HO369.out) hb); have n1_ := zO (Kd.R_elder' (by (with_reducible repeat (first | apply zU | apply zW | apply zV)); exact HO372.out) (Kd.R_base ho0) hb); have n2_ := zO (Kd.R_elder' (by (with_reducible repeat (first | apply zU | apply zW | apply zV)); exact HO375.out) (Kd.R_base ho0) hb); have n3_ := zO (Kd.R_elder' (by (with_reducible repeat (first | apply zU | apply zW | apply zV)); exact HO378.out) (Kd.R_base ho0) hb); have n4_ := zO (Kd.R_elder' (by (with_reducible repeat (first | apply zU | apply zW | apply zV)); exact HO381.out) (Kd.R_base ho0) hb); have n5_ := zO (Kd.R_elder' (by (with_reducible repeat (first | apply zU | apply zW | apply zV)); exact HO384.out) (Kd.R_base ho0) hb); have n6_ := zO (yA (Kd.R_new' (Kd.R_new' (Kd.R_new' (Kd.R_new' (Kd.R_new' ho0 (Kd.R_lt (by (with_reducible repeat (first | apply zU | apply zW | apply zV)); exact HO372.out))) (Kd.R_lt (by (with_reducible repeat (first | apply zU | apply zW | apply zV)); exact HO375.out))) (Kd.R_lt (by (with_reducible repeat (first | apply zU | apply zW | apply zV)); exact HO378.out))) (Kd.R_lt (by (with_reducible repeat (first | apply zU | apply zW | apply zV)); exact HO381.out))) (Kd.R_lt (by (with_reducible repeat (first | apply zU | apply zW | apply zV)); exact HO384.out))) (zD (by repeat (first | (with_reducible first | exact HB.out | apply zA | apply zL | apply zB | refine zC ?_ GE362.out) | exact HB.out)))); have n7_ := zO (zG (g := gb362) (o := .cells #[.int .i64 a0_0, .int .i64 a0_1, .int .i64 a0_2] 24 (0, 0)) (by (with_reducible repeat (first | refine zJ ?_ _ | refine zI ?_ | refine zF ?_ _)); exact BK362.out) hb); have n8_ := zO (zE (by repeat (first | (with_reducible first | exact HB.out | apply zA | apply zL | apply zB | refine zC ?_ GE362.out) | exact HB.out)) hb); clear HO369; clear HO372; clear HO375; clear HO378; clear HO381; clear HO384; clear BK362; clear HB; have HO369 := n0_; have HO372 := n1_; have HO375 := n2_; have HO378 := n3_; have HO381 := n4_; have HO384 := n5_; have HO387 := n6_; have BK362 := n7_; have HB := n8_; clear n0_ n1_ n2_ n3_ n4_ n5_ n6_ n7_ n8_; (try clear hb); (try clear hb2); (try clear hk); (try clear hi); (try clear ho0); obtain ⟨Ao40, co40, eo40⟩ := Kd.R_slice HO387.out; subst eo40) | ((with_reducible refine gate_builtin (b := .append) (xs := #[.tmp 30, .tmp 32]) rfl ?_); (try (refine gate_guard (by rfl) ?_; dsimp only)); at_builtin; refine Kd.R_append_rows (Kd.int .i64) (w0 := w) w.heap.size rfl (.tmp 30) (.tmp 32) 22 3 (.int .i64 0) 8 rfl Try.underlying22 info3 rfl (by decide) (by omega) v383 t382 t385 _ _ _ (fun k_ => some k_ ≠ (.slice Ao28 t370.length co28 : Value).ownBlock ∧ some k_ ≠ (.slice Ao30 t373.length co30 : Value).ownBlock ∧ some k_ ≠ (.slice Ao33 t376.length co33 : Value).ownBlock ∧ some k_ ≠ (.slice Ao37 t379.length co37 : Value).ownBlock ∧ some k_ ≠ (.slice Ao40 t385.length co40 : Value).ownBlock) (fun _ => False) rfl rfl ?aO ?aR (fun _ _ h => h) (fun _ h => h.elim) ?aF ?aB ?aS ?aL ?_; (case aR => repeat (first | exact (zX HO387.out).2.2 | (with_reducible refine zR ?_ _) | (with_reducible refine zT ?_ _) | (with_reducible refine zS ?_))); (case aB => exact (by repeat (first | (with_reducible first | exact HB.out | apply zA | apply zL | apply zB | refine zC ?_ GE362.out) | exact HB.out))); (case aF => exact (fun k_ hk => ⟨Kd.fresh' (Kd.R_lt (by (with_reducible repeat (first | apply zU | apply zW | apply zV)); exact HO372.out)) k_ hk, Kd.fresh' (Kd.R_lt (by (with_reducible repeat (first | apply zU | apply zW | apply zV)); exact HO375.out)) k_ hk, Kd.fresh' (Kd.R_lt (by (with_reducible repeat (first | apply zU | apply zW | apply zV)); exact HO378.out)) k_ hk, Kd.fresh' (Kd.R_lt (by (with_reducible repeat (first | apply zU | apply zW | apply zV)); exact HO381.out)) k_ hk, Kd.fresh' (Kd.R_lt (by (with_reducible repeat (first | apply zU | apply zW | apply zV)); exact HO387.out)) k_ hk⟩)); (case aO => exact (by (with_reducible repeat (first | apply zU | apply zW | apply zV)); exact Kd.R_mono HO384.out (fun _ hk => ⟨hk.1.1.1.1.2, ⟨hk.1.1.1.2, ⟨hk.1.1.2, ⟨hk.1.2, hk.2⟩⟩⟩⟩))); (case aS => exact (zD (by repeat (first | (with_reducible first | exact HB.out | apply zA | apply zL | apply zB | refine zC ?_ GE362.out) | exact HB.out)))); (case aL => have := LMc23.out; omega); intro v389 w39 ho hb hg hat; rw [← Ny388.out] at ho; have n0_ := zO (blk_grown (g := gb362) (o := .cells #[.int .i64 a0_0, .int .i64 a0_1, .int .i64 a0_2] 24 (0, 0)) (by (with_reducible repeat (first | refine zJ ?_ _ | refine zI ?_ | refine zF ?_ _)); exact BK362.out) hg (Kd.R_ne HO384.out BK362.out (by decide))); have n1_ := zO (Kd.R_over' (by (with_reducible repeat (first | apply zU | apply zW | apply zV)); exact HO369.out) (Kd.R_typed (by (with_reducible repeat (first | apply zU | apply zW | apply zV)); exact HO384.out)) (by decide) hg); have n2_ := zO (Kd.R_after (ok := (fun k_ => some k_ ≠ (.slice Ao30 t373.length co30 : Value).ownBlock ∧ some k_ ≠ (.slice Ao33 t376.length co33 : Value).ownBlock ∧ some k_ ≠ (.slice Ao37 t379.length co37 : Value).ownBlock ∧ some k_ ≠ (.slice Ao40 t385.length co40 : Value).ownBlock)) (by (with_reducible repeat (first | apply zU | apply zW | apply zV)); exact Kd.R_mono HO372.out (fun _ hk => ⟨⟨hk.1.1.1.1.2, ⟨hk.1.1.1.2, ⟨hk.1.1.2, hk.2⟩⟩⟩, hk.1.2⟩)) hg hat); have n3_ := zO (Kd.R_after (ok := (fun k_ => some k_ ≠ (.slice Ao28 t370.length co28 : Value).ownBlock ∧ some k_ ≠ (.slice Ao33 t376.length co33 : Value).ownBlock ∧ some k_ ≠ (.slice Ao37 t379.length co37 : Value).ownBlock ∧ some k_ ≠ (.slice Ao40 t385.length co40 : Value).ownBlock)) (by (with_reducible repeat (first | apply zU | apply zW | apply zV)); exact Kd.R_mono HO375.out (fun _ hk => ⟨⟨hk.1.1.1.1.2, ⟨hk.1.1.1.2, ⟨hk.1.1.2, hk.2⟩⟩⟩, hk.1.2⟩)) hg hat); have n4_ := zO (Kd.R_after (ok := (fun k_ => some k_ ≠ (.slice Ao28 t370.length co28 : Value).ownBlock ∧ some k_ ≠ (.slice Ao30 t373.length co30 : Value).ownBlock ∧ some k_ ≠ (.slice Ao37 t379.length co37 : Value).ownBlock ∧ some k_ ≠ (.slice Ao40 t385.length co40 : Value).ownBlock)) (by (with_reducible repeat (first | apply zU | apply zW | apply zV)); exact Kd.R_mono HO378.out (fun _ hk => ⟨⟨hk.1.1.1.1.2, ⟨hk.1.1.1.2, ⟨hk.1.1.2, hk.2⟩⟩⟩, hk.1.2⟩)) hg hat); have n5_ := zO (Kd.R_after (ok := (fun k_ => some k_ ≠ (.slice Ao28 t370.length co28 : Value).ownBlock ∧ some k_ ≠ (.slice Ao30 t373.length co30 : Value).ownBlock ∧ some k_ ≠ (.slice Ao33 t376.length co33 : Value).ownBlock ∧ some k_ ≠ (.slice Ao40 t385.length co40 : Value).ownBlock)) (by (with_reducible repeat (first | apply zU | apply zW | apply zV)); exact Kd.R_mono HO381.out (fun _ hk => ⟨⟨hk.1.1.1.1.2, ⟨hk.1.1.1.2, ⟨hk.1.1.2, hk.2⟩⟩⟩, hk.1.2⟩)) hg hat); have n6_ := zO (Kd.R_after (ok := (fun k_ => some k_ ≠ (.slice Ao28 t370.length co28 : Value).ownBlock ∧ some k_ ≠ (.slice Ao30 t373.length co30 : Value).ownBlock ∧ some k_ ≠ (.slice Ao33 t376.length co33 : Value).ownBlock ∧ some k_ ≠ (.slice Ao37 t379.length co37 : Value).ownBlock)) (by (with_reducible repeat (first | apply zU | apply zW | apply zV)); exact Kd.R_mono HO387.out (fun _ hk => ⟨⟨hk.1.1.1.1.2, ⟨hk.1.1.1.2, ⟨hk.1.1.2, hk.1.2⟩⟩⟩, hk.2⟩)) hg hat); have n7_ := zO (hb); have n8_ := zO (ho); clear BK362; clear HO369; clear HO372; clear HO375; clear HO378; clear HO381; clear HO387; clear HB; clear HO384; have BK362 := n0_; have HO369 := n1_; have HO372 := n2_; have HO375 := n3_; have HO378 := n4_; have HO381 := n5_; have HO387 := n6_; have HB := n7_; have HO390 := n8_; clear n0_ n1_ n2_ n3_ n4_ n5_ n6_ n7_ n8_; clear ho hb hg hat))
     go_ret
     exact ⟨_, by first | rfl | (simp [errW_none, errW_some] <;> rfl) | (simp [*, errW_none, errW_some] <;> rfl), by (with_reducible repeat (first | apply zU | apply zW | apply zV)); exact Kd.R_mono HO390.out (fun _ hk => trivial), by repeat (first | (with_reducible first | exact HB.out | apply zA | apply zL | apply zB | refine zC ?_ GE362.out) | exact HB.out)⟩
    ·rw [if_neg c19] at H
     have c19b0 : (a0_0 == 2) = false := beq_eq_false_iff_ne.mpr c19
     have c19b1 : (a0_0 != 2) = true := bne_iff_ne.mpr c19
     replace H := yE.mp H
     obtain ⟨t391, A410, H⟩ := H
     replace H : ((impl_Interleave.f kj2 t376 8).bind fun t394 => (if t391.length + t394.length < 17592186044416 then (some (t391 ++ t394)) else (none))) = some r := H
     have A41 := zO A410
     clear A410
     replace H := yE.mp H
     obtain ⟨t394, A420, H⟩ := H
     replace H : (if t391.length + t394.length < 17592186044416 then (some (t391 ++ t394)) else (none)) = some r := H
     have A42 := zO A420
     clear A420
     by_cases c43 : t391.length + t394.length < 17592186044416
     case neg => rw [if_neg c43] at H; exact absurd H (by simp)
     rw [if_pos c43] at H
     have LMc43 := zO c43
     clear c43
     obtain ⟨y397, hy397⟩ : ∃ y_ : List Int, y_ = (t391 ++ t394) := ⟨_, rfl⟩
     replace H : (some y397) = some r := by first | (rw [hy397]; exact H) | exact H
     have Ny397 := zO hy397
     clear hy397
     obtain rfl := Option.some.inj H
     try go_wp2
     have n0_ := zO (zI BK362.out)
     have n1_ := zO (zB HB.out)
     clear BK362
     clear HB
     have BK362 := n0_
     have HB := n1_
     clear n0_ n1_
     refine start_ (n := 8) (S := fun w' => w'.cell? ⟨gb362, 0, none⟩ = some (.int .i64 a0_0) ∧ w'.cell? ⟨gb362, 1, none⟩ = some (.int .i64 a0_1) ∧ w'.cell? ⟨gb362, 2, none⟩ = some (.int .i64 a0_2)) (ds := []) #[false, false, false, false, false, false, false, false] (by kernel_rfl) rfl rfl ⟨(zH BK362.out 0).trans rfl, (zH BK362.out 1).trans rfl, (zH BK362.out 2).trans rfl⟩ (fun hHeld => ?_); refine with_tabW impl_TransmitFrame.tab3 impl_TransmitFrame.bits3 (fun HT_ HW_ => ?_)
     generalize wc.drew = w44 at BK362 HB hHeld ⊢
     refine pure_ (i := 0) (N := some 17) (v := ?_) (a' := ?_) #[true, false, false, false, false, false, false, false] rfl rfl (any_of HT_.out (by kernel_rfl)) (fun _ _ _ h => h) (Or.inl ⟨by rfl, ?_⟩) ?_ ?_; rotate_left
     ·intro w'; go_simp; with_reducible rfl
     rotate_left
     ·simp only [Act.put, yF, yG, yH, i64_w, i32_w]; rfl
     refine pure_ (i := 2) (N := some 19) (v := ?_) (a' := ?_) #[true, false, true, false, false, false, false, false] rfl rfl (any_of HT_.out (by kernel_rfl)) (fun _ _ _ h => h) (Or.inl ⟨by rfl, ?_⟩) ?_ ?_; rotate_left
     ·intro w'; go_simp; with_reducible rfl
     rotate_left
     ·simp only [Act.put, yF, yG, yH, i64_w, i32_w]; rfl
     refine take_ (i := 1) (N := some 18) (v := ?_) (a' := ?_) #[true, true, true, false, false, false, false, false] rfl rfl (take_ofW HT_.out HW_.out (by kernel_rfl)) (fun _ _ _ h => h) (Or.inl ⟨by rfl, ?_⟩) hHeld ?_ ?_; rotate_left
     ·rintro w' ⟨s0, s1, s2⟩; go_simp; with_reducible rfl
     rotate_left
     ·simp only [Act.put, yF, yG, yH, i64_w, i32_w]; rfl
     refine one_ (i := 3) (N := some 20) #[true, true, true, true, false, false, false, false] rfl rfl (one_of HT_.out (by kernel_rfl)) (by decide) (fun K hK => ?_)
     refine goes_ Try.func94 (by kernel_rfl) rfl #[.slice A1 l1.length c1] (by rfl) rfl rfl (by (try simp only [yK, yL, yM]); first | done | rfl | (simp only [yJ, yI]; rfl)) ?_
     with_reducible refine (impl_AppendCrc.calls kj2 _ _ l1 t367 _ ?side1 ?side2 A15.out).mono ?_
     (case side1 => repeat (first | exact (Kd.C_below HR1.out HB.out) | (with_reducible refine zR ?_ _) | (with_reducible refine zT ?_ _) | (with_reducible refine zS ?_)))
     (case side2 => exact HC1.out)
     rintro e w45 ⟨v368, rfl, ho0, hb⟩
     refine ⟨_, rfl, ?_⟩
     have n0_ := zO (yA ho0 (zD (by repeat (first | (with_reducible first | exact HB.out | apply zA | apply zL | apply zB | refine zC ?_ GE362.out) | exact HB.out))))
     have n1_ := zO (zG (g := gb362) (o := .cells #[.int .i64 a0_0, .int .i64 a0_1, .int .i64 a0_2] 24 (0, 0)) (by (with_reducible repeat (first | refine zJ ?_ _ | refine zI ?_ | refine zF ?_ _)); exact BK362.out) hb)
     have n2_ := zO (zE (by repeat (first | (with_reducible first | exact HB.out | apply zA | apply zL | apply zB | refine zC ?_ GE362.out) | exact HB.out)) hb)
     clear BK362
     clear HB
     have HO369 := n0_
     have BK362 := n1_
     have HB := n2_
     clear n0_ n1_ n2_
     (try clear hb)
     (try clear hb2)
     (try clear hk)
     (try clear hi)
     (try clear ho0)
     obtain ⟨Ao46, co46, eo46⟩ := Kd.R_slice HO369.out
     (first | subst eo46 | (injection eo46 with f1_ f2_ f3_; have f4_ := f1_.symm; have f5_ := f3_.symm; clear f1_ f2_ f3_; subst f4_; subst f5_))
     refine hK.out _ _ ⟨(zH BK362.out 0).trans rfl, (zH BK362.out 1).trans rfl, (zH BK362.out 2).trans rfl⟩ (fun hHeld => ?_)
     clear hK K
     refine norm_ (a' := ?_) ?_ ?_; rotate_left
     ·show Act.put _ (some 20) _ = _; simp only [Act.put, yF, yG, yH, i64_w, i32_w]; rfl
     refine one_ (i := 4) (N := some 21) #[true, true, true, true, true, false, false, false] rfl rfl (one_of HT_.out (by kernel_rfl)) (by decide) (fun K hK => ?_)
     refine goes_ Try.func133 (by kernel_rfl) rfl #[.slice Ao46 t367.length co46] (by rfl) rfl rfl (by (try simp only [yK, yL, yM]); first | done | rfl | (simp only [yJ, yI]; rfl)) ?_
     with_reducible refine (impl_BytesToBits.calls kj2 _ _ t367 t370 _ ?side1 ?side2 A16.out).mono ?_
     (case side1 => repeat (first | exact (zX HO369.out).2.2 | (with_reducible refine zR ?_ _) | (with_reducible refine zT ?_ _) | (with_reducible refine zS ?_)))
     (case side2 => exact (zX HO369.out).2.1)
     rintro e w47 ⟨v371, rfl, ho0, hb⟩
     refine ⟨_, rfl, ?_⟩
     have n0_ := zO (zY (by (with_reducible repeat (first | apply zU | apply zW | apply zV)); exact HO369.out) hb)
     have n1_ := zO (yA ho0 (zD (by repeat (first | (with_reducible first | exact HB.out | apply zA | apply zL | apply zB | refine zC ?_ GE362.out) | exact HB.out))))
     have n2_ := zO (zG (g := gb362) (o := .cells #[.int .i64 a0_0, .int .i64 a0_1, .int .i64 a0_2] 24 (0, 0)) (by (with_reducible repeat (first | refine zJ ?_ _ | refine zI ?_ | refine zF ?_ _)); exact BK362.out) hb)
     have n3_ := zO (zE (by repeat (first | (with_reducible first | exact HB.out | apply zA | apply zL | apply zB | refine zC ?_ GE362.out) | exact HB.out)) hb)
     clear HO369
     clear BK362
     clear HB
     have HO369 := n0_
     have HO372 := n1_
     have BK362 := n2_
     have HB := n3_
     clear n0_ n1_ n2_ n3_
     (try clear hb)
     (try clear hb2)
     (try clear hk)
     (try clear hi)
     (try clear ho0)
     obtain ⟨Ao48, co48, eo48⟩ := Kd.R_slice HO372.out
     (first | subst eo48 | (injection eo48 with f1_ f2_ f3_; have f4_ := f1_.symm; have f5_ := f3_.symm; clear f1_ f2_ f3_; subst f4_; subst f5_))
     refine hK.out _ _ ⟨(zH BK362.out 0).trans rfl, (zH BK362.out 1).trans rfl, (zH BK362.out 2).trans rfl⟩ (fun hHeld => ?_)
     clear hK K
     refine norm_ (a' := ?_) ?_ ?_; rotate_left
     ·show Act.put _ (some 21) _ = _; simp only [Act.put, yF, yG, yH, i64_w, i32_w]; rfl
     refine one_ (i := 5) (N := some 22) #[true, true, true, true, true, true, false, false] rfl rfl (one_of HT_.out (by kernel_rfl)) (by decide) (fun K hK => ?_)
     refine goes_ Try.func130 (by kernel_rfl) rfl #[.int .i64 a0_2, .slice Ao48 t370.length co48] (by rfl) rfl rfl (by (try simp only [yK, yL, yM]); first | done | rfl | (simp only [yJ, yI]; rfl)) ?_
     with_reducible refine (impl_Scramble.calls kj2 a0_2 _ _ t370 t373 _ ?side1 ?side2 A17.out).mono ?_
     (case side1 => repeat (first | exact (zX HO372.out).2.2 | (with_reducible refine zR ?_ _) | (with_reducible refine zT ?_ _) | (with_reducible refine zS ?_)))
     (case side2 => exact (zX HO372.out).2.1)
     rintro e w49 ⟨v374, rfl, ho0, hb⟩
     refine ⟨_, rfl, ?_⟩
     have n0_ := zO (zY (by (with_reducible repeat (first | apply zU | apply zW | apply zV)); exact HO369.out) hb)
     have n1_ := zO (Kd.R_elder' (by (with_reducible repeat (first | apply zU | apply zW | apply zV)); exact HO372.out) (Kd.R_base ho0) hb)
     have n2_ := zO (yA (Kd.R_new' ho0 (Kd.R_lt (by (with_reducible repeat (first | apply zU | apply zW | apply zV)); exact HO372.out))) (zD (by repeat (first | (with_reducible first | exact HB.out | apply zA | apply zL | apply zB | refine zC ?_ GE362.out) | exact HB.out))))
     have n3_ := zO (zG (g := gb362) (o := .cells #[.int .i64 a0_0, .int .i64 a0_1, .int .i64 a0_2] 24 (0, 0)) (by (with_reducible repeat (first | refine zJ ?_ _ | refine zI ?_ | refine zF ?_ _)); exact BK362.out) hb)
     have n4_ := zO (zE (by repeat (first | (with_reducible first | exact HB.out | apply zA | apply zL | apply zB | refine zC ?_ GE362.out) | exact HB.out)) hb)
     clear HO369
     clear HO372
     clear BK362
     clear HB
     have HO369 := n0_
     have HO372 := n1_
     have HO375 := n2_
     have BK362 := n3_
     have HB := n4_
     clear n0_ n1_ n2_ n3_ n4_
     (try clear hb)
     (try clear hb2)
     (try clear hk)
     (try clear hi)
     (try clear ho0)
     obtain ⟨Ao50, co50, eo50⟩ := Kd.R_slice HO375.out
     (first | subst eo50 | (injection eo50 with f1_ f2_ f3_; have f4_ := f1_.symm; have f5_ := f3_.symm; clear f1_ f2_ f3_; subst f4_; subst f5_))
     refine hK.out _ _ ⟨(zH BK362.out 0).trans rfl, (zH BK362.out 1).trans rfl, (zH BK362.out 2).trans rfl⟩ (fun hHeld => ?_)
     clear hK K
     refine norm_ (a' := ?_) ?_ ?_; rotate_left
     ·show Act.put _ (some 22) _ = _; simp only [Act.put, yF, yG, yH, i64_w, i32_w]; rfl
     refine one_ (i := 6) (N := some 23) #[true, true, true, true, true, true, true, false] rfl rfl (one_of HT_.out (by kernel_rfl)) (by decide) (fun K hK => ?_)
     refine goes_ Try.func118 (by kernel_rfl) rfl #[.slice Ao50 t373.length co50] (by rfl) rfl rfl (by (try simp only [yK, yL, yM]); first | done | rfl | (simp only [yJ, yI]; rfl)) ?_
     with_reducible refine (impl_ConvolutionalEncode.calls kj2 _ _ t373 t376 _ ?side1 ?side2 A18.out).mono ?_
     (case side1 => repeat (first | exact (zX HO375.out).2.2 | (with_reducible refine zR ?_ _) | (with_reducible refine zT ?_ _) | (with_reducible refine zS ?_)))
     (case side2 => exact (zX HO375.out).2.1)
     rintro e w51 ⟨v377, rfl, ho0, hb⟩
     refine ⟨_, rfl, ?_⟩
     have n0_ := zO (zY (by (with_reducible repeat (first | apply zU | apply zW | apply zV)); exact HO369.out) hb)
     have n1_ := zO (Kd.R_elder' (by (with_reducible repeat (first | apply zU | apply zW | apply zV)); exact HO372.out) (Kd.R_base ho0) hb)
     have n2_ := zO (Kd.R_elder' (by (with_reducible repeat (first | apply zU | apply zW | apply zV)); exact HO375.out) (Kd.R_base ho0) hb)
     have n3_ := zO (yA (Kd.R_new' (Kd.R_new' ho0 (Kd.R_lt (by (with_reducible repeat (first | apply zU | apply zW | apply zV)); exact HO372.out))) (Kd.R_lt (by (with_reducible repeat (first | apply zU | apply zW | apply zV)); exact HO375.out))) (zD (by repeat (first | (with_reducible first | exact HB.out | apply zA | apply zL | apply zB | refine zC ?_ GE362.out) | exact HB.out))))
     have n4_ := zO (zG (g := gb362) (o := .cells #[.int .i64 a0_0, .int .i64 a0_1, .int .i64 a0_2] 24 (0, 0)) (by (with_reducible repeat (first | refine zJ ?_ _ | refine zI ?_ | refine zF ?_ _)); exact BK362.out) hb)
     have n5_ := zO (zE (by repeat (first | (with_reducible first | exact HB.out | apply zA | apply zL | apply zB | refine zC ?_ GE362.out) | exact HB.out)) hb)
     clear HO369
     clear HO372
     clear HO375
     clear BK362
     clear HB
     have HO369 := n0_
     have HO372 := n1_
     have HO375 := n2_
     have HO378 := n3_
     have BK362 := n4_
     have HB := n5_
     clear n0_ n1_ n2_ n3_ n4_ n5_
     (try clear hb)
     (try clear hb2)
     (try clear hk)
     (try clear hi)
     (try clear ho0)
     refine hK.out _ _ ⟨(zH BK362.out 0).trans rfl, (zH BK362.out 1).trans rfl, (zH BK362.out 2).trans rfl⟩ (fun hHeld => ?_)
     clear hK K
     refine norm_ (a' := ?_) ?_ ?_; rotate_left
     ·show Act.put _ (some 23) _ = _; simp only [Act.put, yF, yG, yH, i64_w, i32_w]; rfl
     refine pure_ (i := 7) (N := some 5) (v := ?_) (a' := ?_) #[true, true, true, true, true, true, true, true] rfl rfl (any_of HT_.out (by kernel_rfl)) (fun _ _ _ h => h) (Or.inl ⟨by rfl, ?_⟩) ?_ ?_; rotate_left
     ·intro w'; go_simp; with_reducible rfl
     rotate_left
     ·simp only [Act.put, yF, yG, yH, i64_w, i32_w]; rfl
     refine done_ (done_of HT_.out (by kernel_rfl)) ?_
     have hcz52_0 : w51.cell? ⟨gb362, 0, none⟩ = some (.int .i64 a0_0) := (zH BK362.out 0).trans rfl
     have hcz52_1 : w51.cell? ⟨gb362, 1, none⟩ = some (.int .i64 a0_1) := (zH BK362.out 1).trans rfl
     have hcz52_2 : w51.cell? ⟨gb362, 2, none⟩ = some (.int .i64 a0_2) := (zH BK362.out 2).trans rfl
     have hfz52_0 := zK BK362.out 0
     have hfz52_1 := zK BK362.out 1
     have hfz52_2 := zK BK362.out 2
     try go_wp2_with (first | ((with_reducible refine zM (f := 135) rfl ?_); refine goesL_ (some 30) rfl rfl Try.func135 (by kernel_rfl) rfl #[.agg #[.int .i64 a0_0, .int .i64 a0_1, .int .i64 a0_2]] rfl (by (try simp only [yK, yL, yM]); first | done | rfl | (simp only [yJ, yI]; rfl)) ?_; (with_reducible refine (impl_EncodeHeader.calls kj2 a0_0 a0_1 a0_2 t391 _ A41.out).mono ?_); rintro e w53 ⟨v392, rfl, ho0, hb⟩; refine ⟨_, rfl, ?_⟩; have n0_ := zO (zY (by (with_reducible repeat (first | apply zU | apply zW | apply zV)); exact HO369.out) hb); have n1_ := zO (Kd.R_elder' (by (with_reducible repeat (first | apply zU | apply zW | apply zV)); exact HO372.out) (Kd.R_base ho0) hb); have n2_ := zO (Kd.R_elder' (by (with_reducible repeat (first | apply zU | apply zW | apply zV)); exact HO375.out) (Kd.R_base ho0) hb); have n3_ := zO (Kd.R_elder' (by (with_reducible repeat (first | apply zU | apply zW | apply zV)); exact HO378.out) (Kd.R_base ho0) hb); have n4_ := zO (yA (Kd.R_new' (Kd.R_new' (Kd.R_new' ho0 (Kd.R_lt (by (with_reducible repeat (first | apply zU | apply zW | apply zV)); exact HO372.out))) (Kd.R_lt (by (with_reducible repeat (first | apply zU | apply zW | apply zV)); exact HO375.out))) (Kd.R_lt (by (with_reducible repeat (first | apply zU | apply zW | apply zV)); exact HO378.out))) (zD (by repeat (first | (with_reducible first | exact HB.out | apply zA | apply zL | apply zB | refine zC ?_ GE362.out) | exact HB.out)))); have n5_ := zO (zG (g := gb362) (o := .cells #[.int .i64 a0_0, .int .i64 a0_1, .int .i64 a0_2] 24 (0, 0)) (by (with_reducible repeat (first | refine zJ ?_ _ | refine zI ?_ | refine zF ?_ _)); exact BK362.out) hb); have n6_ := zO (zE (by repeat (first | (with_reducible first | exact HB.out | apply zA | apply zL | apply zB | refine zC ?_ GE362.out) | exact HB.out)) hb); clear HO369; clear HO372; clear HO375; clear HO378; clear BK362; clear HB; have HO369 := n0_; have HO372 := n1_; have HO375 := n2_; have HO378 := n3_; have HO393 := n4_; have BK362 := n5_; have HB := n6_; clear n0_ n1_ n2_ n3_ n4_ n5_ n6_; (try clear hb); (try clear hb2); (try clear hk); (try clear hi); (try clear ho0); obtain ⟨Ao54, co54, eo54⟩ := Kd.R_slice HO378.out; subst eo54) | ((with_reducible refine zM (f := 136) rfl ?_); refine goesL_ (some 32) rfl rfl Try.func136 (by kernel_rfl) rfl #[.slice Ao54 t376.length co54, .int .i64 8] rfl (by (try simp only [yK, yL, yM]); first | done | rfl | (simp only [yJ, yI]; rfl)) ?_; (with_reducible refine (impl_Interleave.calls kj2 _ _ t376 8 t394 _ ?side1 ?side2 A42.out).mono ?_); (case side1 => repeat (first | exact (zX HO378.out).2.2 | (with_reducible refine zR ?_ _) | (with_reducible refine zT ?_ _) | (with_reducible refine zS ?_))); (case side2 => exact (zX HO378.out).2.1); rintro e w55 ⟨v395, rfl, ho0, hb⟩; refine ⟨_, rfl, ?_⟩; have n0_ := zO (zY (by (with_reducible repeat (first | apply zU | apply zW | apply zV)); exact HO369.out) hb); have n1_ := zO (Kd.R_elder' (by (with_reducible repeat (first | apply zU | apply zW | apply zV)); exact HO372.out) (Kd.R_base ho0) hb); have n2_ := zO (Kd.R_elder' (by (with_reducible repeat (first | apply zU | apply zW | apply zV)); exact HO375.out) (Kd.R_base ho0) hb); have n3_ := zO (Kd.R_elder' (by (with_reducible repeat (first | apply zU | apply zW | apply zV)); exact HO378.out) (Kd.R_base ho0) hb); have n4_ := zO (Kd.R_elder' (by (with_reducible repeat (first | apply zU | apply zW | apply zV)); exact HO393.out) (Kd.R_base ho0) hb); have n5_ := zO (yA (Kd.R_new' (Kd.R_new' (Kd.R_new' (Kd.R_new' ho0 (Kd.R_lt (by (with_reducible repeat (first | apply zU | apply zW | apply zV)); exact HO372.out))) (Kd.R_lt (by (with_reducible repeat (first | apply zU | apply zW | apply zV)); exact HO375.out))) (Kd.R_lt (by (with_reducible repeat (first | apply zU | apply zW | apply zV)); exact HO378.out))) (Kd.R_lt (by (with_reducible repeat (first | apply zU | apply zW | apply zV)); exact HO393.out))) (zD (by repeat (first | (with_reducible first | exact HB.out | apply zA | apply zL | apply zB | refine zC ?_ GE362.out) | exact HB.out)))); have n6_ := zO (zG (g := gb362) (o := .cells #[.int .i64 a0_0, .int .i64 a0_1, .int .i64 a0_2] 24 (0, 0)) (by (with_reducible repeat (first | refine zJ ?_ _ | refine zI ?_ | refine zF ?_ _)); exact BK362.out) hb); have n7_ := zO (zE (by repeat (first | (with_reducible first | exact HB.out | apply zA | apply zL | apply zB | refine zC ?_ GE362.out) | exact HB.out)) hb); clear HO369; clear HO372; clear HO375; clear HO378; clear HO393; clear BK362; clear HB; have HO369 := n0_; have HO372 := n1_; have HO375 := n2_; have HO378 := n3_; have HO393 := n4_; have HO396 := n5_; have BK362 := n6_; have HB := n7_; clear n0_ n1_ n2_ n3_ n4_ n5_ n6_ n7_; (try clear hb); (try clear hb2); (try clear hk); (try clear hi); (try clear ho0); obtain ⟨Ao57, co57, eo57⟩ := Kd.R_slice HO396.out; subst eo57) | ((with_reducible refine gate_builtin (b := .append) (xs := #[.tmp 30, .tmp 32]) rfl ?_); (try (refine gate_guard (by rfl) ?_; dsimp only)); at_builtin; refine Kd.R_append_rows (Kd.int .i64) (w0 := w) w.heap.size rfl (.tmp 30) (.tmp 32) 22 3 (.int .i64 0) 8 rfl Try.underlying22 info3 rfl (by decide) (by omega) v392 t391 t394 _ _ _ (fun k_ => some k_ ≠ (.slice Ao48 t370.length co48 : Value).ownBlock ∧ some k_ ≠ (.slice Ao50 t373.length co50 : Value).ownBlock ∧ some k_ ≠ (.slice Ao54 t376.length co54 : Value).ownBlock ∧ some k_ ≠ (.slice Ao57 t394.length co57 : Value).ownBlock) (fun _ => False) rfl rfl ?aO ?aR (fun _ _ h => h) (fun _ h => h.elim) ?aF ?aB ?aS ?aL ?_; (case aR => repeat (first | exact (zX HO396.out).2.2 | (with_reducible refine zR ?_ _) | (with_reducible refine zT ?_ _) | (with_reducible refine zS ?_))); (case aB => exact (by repeat (first | (with_reducible first | exact HB.out | apply zA | apply zL | apply zB | refine zC ?_ GE362.out) | exact HB.out))); (case aF => exact (fun k_ hk => ⟨Kd.fresh' (Kd.R_lt (by (with_reducible repeat (first | apply zU | apply zW | apply zV)); exact HO372.out)) k_ hk, Kd.fresh' (Kd.R_lt (by (with_reducible repeat (first | apply zU | apply zW | apply zV)); exact HO375.out)) k_ hk, Kd.fresh' (Kd.R_lt (by (with_reducible repeat (first | apply zU | apply zW | apply zV)); exact HO378.out)) k_ hk, Kd.fresh' (Kd.R_lt (by (with_reducible repeat (first | apply zU | apply zW | apply zV)); exact HO396.out)) k_ hk⟩)); (case aO => exact (by (with_reducible repeat (first | apply zU | apply zW | apply zV)); exact Kd.R_mono HO393.out (fun _ hk => ⟨hk.1.1.1.2, ⟨hk.1.1.2, ⟨hk.1.2, hk.2⟩⟩⟩))); (case aS => exact (zD (by repeat (first | (with_reducible first | exact HB.out | apply zA | apply zL | apply zB | refine zC ?_ GE362.out) | exact HB.out)))); (case aL => have := LMc43.out; omega); intro v398 w56 ho hb hg hat; rw [← Ny397.out] at ho; have n0_ := zO (blk_grown (g := gb362) (o := .cells #[.int .i64 a0_0, .int .i64 a0_1, .int .i64 a0_2] 24 (0, 0)) (by (with_reducible repeat (first | refine zJ ?_ _ | refine zI ?_ | refine zF ?_ _)); exact BK362.out) hg (Kd.R_ne HO393.out BK362.out (by decide))); have n1_ := zO (Kd.R_over' (by (with_reducible repeat (first | apply zU | apply zW | apply zV)); exact HO369.out) (Kd.R_typed (by (with_reducible repeat (first | apply zU | apply zW | apply zV)); exact HO393.out)) (by decide) hg); have n2_ := zO (Kd.R_after (ok := (fun k_ => some k_ ≠ (.slice Ao50 t373.length co50 : Value).ownBlock ∧ some k_ ≠ (.slice Ao54 t376.length co54 : Value).ownBlock ∧ some k_ ≠ (.slice Ao57 t394.length co57 : Value).ownBlock)) (by (with_reducible repeat (first | apply zU | apply zW | apply zV)); exact Kd.R_mono HO372.out (fun _ hk => ⟨⟨hk.1.1.1.2, ⟨hk.1.1.2, hk.2⟩⟩, hk.1.2⟩)) hg hat); have n3_ := zO (Kd.R_after (ok := (fun k_ => some k_ ≠ (.slice Ao48 t370.length co48 : Value).ownBlock ∧ some k_ ≠ (.slice Ao54 t376.length co54 : Value).ownBlock ∧ some k_ ≠ (.slice Ao57 t394.length co57 : Value).ownBlock)) (by (with_reducible repeat (first | apply zU | apply zW | apply zV)); exact Kd.R_mono HO375.out (fun _ hk => ⟨⟨hk.1.1.1.2, ⟨hk.1.1.2, hk.2⟩⟩, hk.1.2⟩)) hg hat); have n4_ := zO (Kd.R_after (ok := (fun k_ => some k_ ≠ (.slice Ao48 t370.length co48 : Value).ownBlock ∧ some k_ ≠ (.slice Ao50 t373.length co50 : Value).ownBlock ∧ some k_ ≠ (.slice Ao57 t394.length co57 : Value).ownBlock)) (by (with_reducible repeat (first | apply zU | apply zW | apply zV)); exact Kd.R_mono HO378.out (fun _ hk => ⟨⟨hk.1.1.1.2, ⟨hk.1.1.2, hk.2⟩⟩, hk.1.2⟩)) hg hat); have n5_ := zO (Kd.R_after (ok := (fun k_ => some k_ ≠ (.slice Ao48 t370.length co48 : Value).ownBlock ∧ some k_ ≠ (.slice Ao50 t373.length co50 : Value).ownBlock ∧ some k_ ≠ (.slice Ao54 t376.length co54 : Value).ownBlock)) (by (with_reducible repeat (first | apply zU | apply zW | apply zV)); exact Kd.R_mono HO396.out (fun _ hk => ⟨⟨hk.1.1.1.2, ⟨hk.1.1.2, hk.1.2⟩⟩, hk.2⟩)) hg hat); have n6_ := zO (hb); have n7_ := zO (ho); clear BK362; clear HO369; clear HO372; clear HO375; clear HO378; clear HO396; clear HB; clear HO393; have BK362 := n0_; have HO369 := n1_; have HO372 := n2_; have HO375 := n3_; have HO378 := n4_; have HO396 := n5_; have HB := n6_; have HO399 := n7_; clear n0_ n1_ n2_ n3_ n4_ n5_ n6_ n7_; clear ho hb hg hat))
     go_ret
     exact ⟨_, by first | rfl | (simp [errW_none, errW_some] <;> rfl) | (simp [*, errW_none, errW_some] <;> rfl), by (with_reducible repeat (first | apply zU | apply zW | apply zV)); exact Kd.R_mono HO399.out (fun _ hk => trivial), by repeat (first | (with_reducible first | exact HB.out | apply zA | apply zL | apply zB | refine zC ?_ GE362.out) | exact HB.out)⟩

/-- A state of type 114 at block g of W; what its slices lead to came in by w0. -/
def IsS114 (w0 W : World) (g : Nat) (f0 : List Int) (f1 : Int) (f2 : Int) : Prop := ∃ A0 c0, W.heap[g]? = some (.cells #[.slice A0 f0.length c0, .int .i64 f1, .int .i64 f2] 114 (0, 0)) ∧ w0.heap.size ≤ g ∧ Kd.C (Kd.int .u8) w0 A0 f0.length f0
theorem IsS114.grown {w0 W : World} {g : Nat} {f0 : List Int} {f1 : Int} {f2 : Int} {W1 : World} {row : Option Nat} (h : IsS114 w0 W g f0 f1 f2) (hw : W.grownBy W1 row) (hne : some g ≠ row) : IsS114 w0 W1 g f0 f1 f2 := by
 obtain ⟨A0, c0, hb, hg, hr0⟩ := h
 exact ⟨A0, c0, blk_grown hb hw hne, hg, hr0⟩
theorem IsS114.own_neN {w0 W : World} {g : Nat} {f0 : List Int} {f1 : Int} {f2 : Int} {α : Type} {d : Kd α} {e : Nat} {base : Nat} {ok : Nat → Prop} {v : Value} {xs : List α} (h : IsS114 w0 W g f0 f1 f2) (ho : Kd.N d e W base ok v xs) (ht : e ≠ 114) : some g ≠ v.ownBlock := by
 obtain ⟨A0, c0, hb, hg, hr0⟩ := h
 exact Kd.N_ne ho hb ht
theorem IsS114.fresh {w0 W : World} {g : Nat} {f0 : List Int} {f1 : Int} {f2 : Int} (h : IsS114 w0 W g f0 f1 f2) : ∀ k, W.heap.size ≤ k → k ≠ g := by
 obtain ⟨A0, c0, hb, hg, hr0⟩ := h
 exact Kd.freshB hb
theorem IsS114.kept {w0 W : World} {g : Nat} {f0 : List Int} {f1 : Int} {f2 : Int} {W1 : World} {S : Nat → Prop} (h : IsS114 w0 W g f0 f1 f2) (hk : Kept W W1 S) (hne : ¬ S g) : IsS114 w0 W1 g f0 f1 f2 := by
 obtain ⟨A0, c0, hb, hg, hr0⟩ := h
 exact ⟨A0, c0, blk_kept hb hk hne, hg, hr0⟩
theorem IsS114.below {w0 W : World} {g : Nat} {f0 : List Int} {f1 : Int} {f2 : Int} {W1 : World} (h : IsS114 w0 W g f0 f1 f2) (hw : Below W.heap.size W W1) : IsS114 w0 W1 g f0 f1 f2 := h.grown (grown_of_below hw none) (by simp)
theorem IsS114.alloc {w0 W : World} {g : Nat} {f0 : List Int} {f1 : Int} {f2 : Int} (h : IsS114 w0 W g f0 f1 f2) (o : Obj) : IsS114 w0 (W.alloc o) g f0 f1 f2 := h.below (zA (Below.refl _ _) o)
theorem IsS114.drewN {w0 W : World} {g : Nat} {f0 : List Int} {f1 : Int} {f2 : Int} (h : IsS114 w0 W g f0 f1 f2) (m : Nat) : IsS114 w0 (W.drewN m) g f0 f1 f2 := h
theorem IsS114.drew {w0 W : World} {g : Nat} {f0 : List Int} {f1 : Int} {f2 : Int} (h : IsS114 w0 W g f0 f1 f2) : IsS114 w0 W.drew g f0 f1 f2 := h
theorem IsS114.at_ {w0 W : World} {g : Nat} {f0 : List Int} {f1 : Int} {f2 : Int} {w' : World} {m : Nat} (hq : W.drewN m = w') (h : IsS114 w0 W g f0 f1 f2) : IsS114 w0 w' g f0 f1 f2 := by subst hq; exact IsS114.drewN h m
theorem IsS114.apart {w0 W : World} {g : Nat} {f0 : List Int} {f1 : Int} {f2 : Int} {α : Type} {d : Kd α} {e : Nat} {base : Nat} {ok : Nat → Prop} {v : Value} {xs : List α} (h : IsS114 w0 W g f0 f1 f2) (ho : d.R e W base ok v xs) (ht : ∀ q, q ∈ e :: d.E → q ≠ 114) : d.R e W base (fun k => ok k ∧ k ≠ g) v xs := by
 obtain ⟨A0, c0, hb, hg, hr0⟩ := h
 exact Kd.R_types ho hb ht
theorem IsS114.own_ne {w0 W : World} {g : Nat} {f0 : List Int} {f1 : Int} {f2 : Int} {α : Type} {d : Kd α} {e : Nat} {base : Nat} {ok : Nat → Prop} {v : Value} {xs : List α} (h : IsS114 w0 W g f0 f1 f2) (ho : d.R e W base ok v xs) (ht : e ≠ 114) : some g ≠ v.ownBlock := by
 obtain ⟨A0, c0, hb, hg, hr0⟩ := h
 exact Kd.R_ne ho hb ht
theorem IsS114.apartQ {w0 W : World} {g : Nat} {f0 : List Int} {f1 : Int} {f2 : Int} {α : Type} {d : Kd α} {e : Nat} {base : Nat} {ok : Nat → Prop} {v : Value} {xs : List α} (h : IsS114 w0 W g f0 f1 f2) (ho : d.Q e W base ok v xs) (ht : ∀ q, q ∈ e :: d.E → q ≠ 114) : d.Q e W base (fun k => ok k ∧ k ≠ g) v xs := by
 obtain ⟨A0, c0, hb, hg, hr0⟩ := h
 exact Kd.Q_types ho hb ht
theorem IsS114.own_neQ {w0 W : World} {g : Nat} {f0 : List Int} {f1 : Int} {f2 : Int} {α : Type} {d : Kd α} {e : Nat} {base : Nat} {ok : Nat → Prop} {v : Value} {xs : List α} (h : IsS114 w0 W g f0 f1 f2) (ho : d.Q e W base ok v xs) (ht : e ≠ 114) : some g ≠ v.ownBlock := by
 obtain ⟨A0, c0, hb, hg, hr0⟩ := h
 exact Kd.Q_ne ho hb ht
theorem IsS114.apartS {w0 W : World} {g : Nat} {f0 : List Int} {f1 : Int} {f2 : Int} {α : Type} {d : Kd α} {e : Nat} {base : Nat} {ok : Nat → Prop} {v : Value} {xs : List α} (h : IsS114 w0 W g f0 f1 f2) (ho : d.S e W base ok v xs) (ht : ∀ q, q ∈ e :: d.E → q ≠ 114) : d.S e W base (fun k => ok k ∧ k ≠ g) v xs := by
 obtain ⟨A0, c0, hb, hg, hr0⟩ := h
 exact Kd.S_types ho hb ht
theorem IsS114.own_neS {w0 W : World} {g : Nat} {f0 : List Int} {f1 : Int} {f2 : Int} {α : Type} {d : Kd α} {e : Nat} {base : Nat} {ok : Nat → Prop} {v : Value} {xs : List α} (h : IsS114 w0 W g f0 f1 f2) (ho : d.S e W base ok v xs) (ht : e ≠ 114) : some g ≠ v.ownBlock := by
 obtain ⟨A0, c0, hb, hg, hr0⟩ := h
 exact Kd.S_ne ho hb ht
theorem IsS114.lt {w0 W : World} {g : Nat} {f0 : List Int} {f1 : Int} {f2 : Int} (h : IsS114 w0 W g f0 f1 f2) : g < W.heap.size := by
 obtain ⟨A0, c0, hb, hg, hr0⟩ := h
 exact blk_lt hb
theorem IsS114.ge {w0 W : World} {g : Nat} {f0 : List Int} {f1 : Int} {f2 : Int} (h : IsS114 w0 W g f0 f1 f2) : w0.heap.size ≤ g := by
 obtain ⟨A0, c0, hb, hg, hr0⟩ := h
 exact hg
theorem IsS114.ne_blk {w0 W : World} {g : Nat} {f0 : List Int} {f1 : Int} {f2 : Int} {a : Nat} {cs : Array Value} {t : TypeId} {fr : Nat × Nat} (h : IsS114 w0 W g f0 f1 f2) (hb2 : W.heap[a]? = some (.cells cs t fr)) (ht : t ≠ 114) : g ≠ a := by
 obtain ⟨A0, c0, hb, hg, hr0⟩ := h
 rintro rfl
 rw [hb] at hb2
 injection hb2 with hb2
 injection hb2 with _ ht2
 exact ht ht2.symm
theorem IsS114.far {w0 W : World} {g : Nat} {f0 : List Int} {f1 : Int} {f2 : Int} {p : Addr} (h : IsS114 w0 W g f0 f1 f2) (hne : g ≠ p.block) (u : Value) : IsS114 w0 (W.setCell p u) g f0 f1 f2 := by
 obtain ⟨A0, c0, hb, hg, hr0⟩ := h
 exact ⟨A0, c0, blk_far hb hne u, hg, hr0⟩
theorem cellS114_0 {W : World} {g : Nat} {A0 : Option Addr} {c0 : Nat} {f0 : List Int} {f1 : Int} {f2 : Int} (h : W.heap[g]? = some (.cells #[.slice A0 f0.length c0, .int .i64 f1, .int .i64 f2] 114 (0, 0))) : W.cell? ⟨g, 0, none⟩ = some (.slice A0 f0.length c0) := (zH h 0).trans rfl
theorem cellS114_1 {W : World} {g : Nat} {A0 : Option Addr} {c0 : Nat} {f0 : List Int} {f1 : Int} {f2 : Int} (h : W.heap[g]? = some (.cells #[.slice A0 f0.length c0, .int .i64 f1, .int .i64 f2] 114 (0, 0))) : W.cell? ⟨g, 1, none⟩ = some (.int .i64 f1) := (zH h 1).trans rfl
theorem IsS114.set_1 {w0 W : World} {g : Nat} {f0 : List Int} {f1 : Int} {f2 : Int} (h : IsS114 w0 W g f0 f1 f2) (x : Int) : IsS114 w0 (W.setCell ⟨g, 1, none⟩ (.int .i64 x)) g f0 x f2 := by
 obtain ⟨A0, c0, hb, hg, hr0⟩ := h
 exact ⟨A0, c0, by simpa using blk_set hb 1 (.int .i64 x), hg, hr0⟩
theorem cellS114_2 {W : World} {g : Nat} {A0 : Option Addr} {c0 : Nat} {f0 : List Int} {f1 : Int} {f2 : Int} (h : W.heap[g]? = some (.cells #[.slice A0 f0.length c0, .int .i64 f1, .int .i64 f2] 114 (0, 0))) : W.cell? ⟨g, 2, none⟩ = some (.int .i64 f2) := (zH h 2).trans rfl
theorem IsS114.set_2 {w0 W : World} {g : Nat} {f0 : List Int} {f1 : Int} {f2 : Int} (h : IsS114 w0 W g f0 f1 f2) (x : Int) : IsS114 w0 (W.setCell ⟨g, 2, none⟩ (.int .i64 x)) g f0 f1 x := by
 obtain ⟨A0, c0, hb, hg, hr0⟩ := h
 exact ⟨A0, c0, by simpa using blk_set hb 2 (.int .i64 x), hg, hr0⟩
theorem IsS114.new (w0 W : World) (A0 : Option Addr) (c0 : Nat) (f0 : List Int) (f1 : Int) (f2 : Int) (hB : Below w0.heap.size w0 W) (hr0 : Kd.C (Kd.int .u8) w0 A0 f0.length f0) : IsS114 w0 (W.alloc (.cells #[.slice A0 f0.length c0, .int .i64 f1, .int .i64 f2] 114)) W.heap.size f0 f1 f2 := ⟨A0, c0, by simpa using heap_alloc_new W _, hB.size, hr0⟩

def spec_l1New.l0 : Nat → List Int → Int → Int → Option (List Int × Int × Int)
 | 0, _, _, _ => none
 | k + 1, x0, x3, x4 => if x4 < (x0.length : Int) then (if x4 < 4000 then (if 0 ≤ x4 then (spec_l1New.l0 k x0 (Go.bits .and .i64 (wrap64 ((wrap64 ((wrap64 (x3 * 137)) + (wrap64 (rd x0 x4)))) + 11)) 1073741823) (wrap64 (x4 + 1))) else (none)) else (some (x0, 0, x3))) else (some (x0, 0, x3))
def spec_l1New.f (k : Nat) (l0 : List Int) : Option (List Int × Int × Int) := spec_l1New.l0 k l0 (wrap64 (193017 + (l0.length : Int))) 0
theorem spec_l1New.calls (k : Nat) (A0 : Option Addr) (c0 : Nat) (l0 : List Int) (r1 : List Int) (r2 : Int) (r3 : Int) (w0 w : World) (hB : Below w0.heap.size w0 w) (hr0 : Kd.C (Kd.int .u8) w0 A0 l0.length l0) (hc0 : l0.length ≤ c0) (h : spec_l1New.f k l0 = some (r1, r2, r3)) :
  Calls Try.prog 84 #[.slice A0 l0.length c0] w fun e w' => ∃ g_ : Nat, e = .returned (.pointer (some ⟨g_, 0, none⟩)) ∧ IsS114 w0 w' g_ r1 r2 r3 ∧ Below w0.heap.size w0 w' ∧ Below w.heap.size w w' := by
 have hu114 := Try.underlying114
 have HR0 := zO hr0
 have HC0 := zO hc0
 clear hr0 hc0
 have HBW := zO (Below.refl w.heap.size w)
 have HW0 := zO hB.size
 have HB := zO hB
 clear hB
 have H : (spec_l1New.l0 k l0 (wrap64 (193017 + (l0.length : Int))) 0) = some (r1, r2, r3) := h
 clear h
 have H' := zO H
 clear H
 go_enter Try.func84, Try.ntmps84
 go_wp2
 go_loopg [3, 4] k (fun kq v3 v4 w' => ∃ (x3_1 : Int) (x4_1 : Int), v3 = .int .i64 x3_1 ∧ v4 = .int .i64 x4_1 ∧ Aside0 (spec_l1New.l0 kq l0 x3_1 x4_1 = some (r1, r2, r3)) ∧ Aside0 (kq ≤ k) ∧ Aside0 (Below w0.heap.size w0 w') ∧ Aside0 (Below w.heap.size w w'))
 case atStart => exact ⟨(wrap64 (193017 + (l0.length : Int))), (0), (by first | rfl | (simp; done) | (simp [*]; done)), (by first | rfl | (simp; done) | (simp [*]; done)), H', ⟨Nat.le_refl _⟩, ⟨by repeat (first | exact HB.out | apply zA | apply zL | apply zB)⟩, ⟨by repeat (first | (with_reducible first | exact HBW.out | apply zA | apply zL | apply zB) | exact HBW.out)⟩⟩
 case round =>
  clear H'
  obtain ⟨x3_1, x4_1, rfl, rfl, HA, HK1, HB, HBW⟩ := hrel
  cases gk with
  | zero => exact absurd HA.out (by simp [spec_l1New.l0])
  | succ k1 =>
   have H := HA.out
   clear HA
   simp only [spec_l1New.l0] at H
   by_cases c2 : x4_1 < (l0.length : Int)
   ·rw [if_pos c2] at H
    have c2b0 : decide (x4_1 < (l0.length : Int)) = true := decide_eq_true c2
    clear c2
    by_cases c3 : x4_1 < 4000
    ·rw [if_pos c3] at H
     have c3b0 : decide (x4_1 < 4000) = true := decide_eq_true c3
     clear c3
     by_cases c4 : 0 ≤ x4_1
     case neg => rw [if_neg c4] at H; exact absurd H (by simp)
     rw [if_pos c4] at H
     have c4b0 : decide (0 ≤ x4_1) = true := decide_eq_true c4
     clear c4
     have H' := zO H
     clear H
     have p400 : 0 ≤ (x4_1 : Int) := yO (by assumption)
     have q400 : x4_1 < (l0.length : Int) := yO (by assumption)
     obtain ⟨ad400, e400, hx400_0⟩ := Kd.at_int HR0.out x4_1 p400 q400
     cases e400
     replace hx400_0 := pw_cell_below HB.out hx400_0
     replace p400 := eq_true p400
     replace q400 := eq_true q400
     go_wp2
     go_roundg k1
     case measure => have := HK1.out; omega
     case rel => exact ⟨(Go.bits .and .i64 (wrap64 ((wrap64 ((wrap64 (x3_1 * 137)) + (wrap64 (rd l0 x4_1)))) + 11)) 1073741823), (wrap64 (x4_1 + 1)), (by first | rfl | (simp; done) | (simp [*]; done)), (by first | rfl | (simp; done) | (simp [*]; done)), H', ⟨by have := HK1.out; omega⟩, ⟨by repeat (first | exact HB.out | apply zA | apply zL | apply zB)⟩, ⟨by repeat (first | (with_reducible first | exact HBW.out | apply zA | apply zL | apply zB) | exact HBW.out)⟩⟩
    ·rw [if_neg c3] at H
     have c3b0 : decide (x4_1 < 4000) = false := decide_eq_false c3
     clear c3
     simp only [Option.some.injEq, Prod.mk.injEq] at H
     obtain ⟨rfl, rfl, rfl⟩ := H
     go_wp2_with (first | ((with_reducible refine zN (N := 31) rfl ?_); refine box_event ?hg (N := 31) ?hd (cs := #[.slice A0 l0.length c0, .int .i64 0, .int .i64 x3_1]) (t := 114) ?hr ?_; (case hd => rfl); (case hg => rfl); (case hr => first | (go_simp; done) | (go_simp; rfl)); intro gb401 hg w5 hbox hb; have n0_ := zO (zE HBW.out hb); have n1_ := zO (zE (by repeat (first | exact HB.out | apply zA | apply zL | apply zB)) hb); have n2_ := zO (hbox); have n3_ := zO ((by rw [hg]; exact (zD (by repeat (first | (with_reducible first | exact HBW.out | apply zA | apply zL | apply zB) | exact HBW.out))) : w.heap.size ≤ gb401)); have n4_ := zO ((Nat.le_trans HW0.out (by rw [hg]; exact (zD (by repeat (first | (with_reducible first | exact HBW.out | apply zA | apply zL | apply zB) | exact HBW.out))) : w.heap.size ≤ gb401) : w0.heap.size ≤ gb401)); clear HBW; clear HB; have HBW := n0_; have HB := n1_; have BK401 := n2_; have GW401 := n3_; have GE401 := n4_; clear n0_ n1_ n2_ n3_ n4_; clear hb hbox hg))
     go_ret
     exact ⟨_, rfl, (show IsS114 w0 _ gb401 l0 0 x3_1 from ⟨_, _, by (with_reducible repeat (first | refine zJ ?_ _ | refine zI ?_ | refine zF ?_ _)); exact BK401.out, GE401.out, HR0.out⟩), by repeat (first | (with_reducible first | exact HB.out | apply zA | apply zL | apply zB | refine zC ?_ GE401.out) | exact HB.out), by repeat (first | (with_reducible first | exact HBW.out | apply zA | apply zL | apply zB | refine zC ?_ GW401.out) | exact HBW.out)⟩
   ·rw [if_neg c2] at H
    have c2b0 : decide (x4_1 < (l0.length : Int)) = false := decide_eq_false c2
    clear c2
    simp only [Option.some.injEq, Prod.mk.injEq] at H
    obtain ⟨rfl, rfl, rfl⟩ := H
    go_wp2_with (first | ((with_reducible refine zN (N := 31) rfl ?_); refine box_event ?hg (N := 31) ?hd (cs := #[.slice A0 l0.length c0, .int .i64 0, .int .i64 x3_1]) (t := 114) ?hr ?_; (case hd => rfl); (case hg => rfl); (case hr => first | (go_simp; done) | (go_simp; rfl)); intro gb402 hg w6 hbox hb; have n0_ := zO (zE HBW.out hb); have n1_ := zO (zE (by repeat (first | exact HB.out | apply zA | apply zL | apply zB)) hb); have n2_ := zO (hbox); have n3_ := zO ((by rw [hg]; exact (zD (by repeat (first | (with_reducible first | exact HBW.out | apply zA | apply zL | apply zB) | exact HBW.out))) : w.heap.size ≤ gb402)); have n4_ := zO ((Nat.le_trans HW0.out (by rw [hg]; exact (zD (by repeat (first | (with_reducible first | exact HBW.out | apply zA | apply zL | apply zB) | exact HBW.out))) : w.heap.size ≤ gb402) : w0.heap.size ≤ gb402)); clear HBW; clear HB; have HBW := n0_; have HB := n1_; have BK402 := n2_; have GW402 := n3_; have GE402 := n4_; clear n0_ n1_ n2_ n3_ n4_; clear hb hbox hg))
    go_ret
    exact ⟨_, rfl, (show IsS114 w0 _ gb402 l0 0 x3_1 from ⟨_, _, by (with_reducible repeat (first | refine zJ ?_ _ | refine zI ?_ | refine zF ?_ _)); exact BK402.out, GE402.out, HR0.out⟩), by repeat (first | (with_reducible first | exact HB.out | apply zA | apply zL | apply zB | refine zC ?_ GE402.out) | exact HB.out), by repeat (first | (with_reducible first | exact HBW.out | apply zA | apply zL | apply zB | refine zC ?_ GW402.out) | exact HBW.out)⟩

def spec_l1Byte.f (s0_0 : List Int) (s0_1 : Int) (s0_2 : Int) : Option (Int × Int × Int) := if s0_1 < (s0_0.length : Int) then (if 0 ≤ s0_1 then (some (Go.bits .and .i64 (wrap64 ((Go.bits .and .i64 (Go.bits .xor .i64 ((wrap64 ((wrap64 (s0_2 * 6364136223846793005)) + 1442695040888963407)) / 8589934592) ((wrap64 ((wrap64 (s0_2 * 6364136223846793005)) + 1442695040888963407)) / 140737488355328)) 255) + (wrap64 (rd s0_0 s0_1)))) 255, wrap64 (s0_1 + 1), wrap64 ((wrap64 (s0_2 * 6364136223846793005)) + 1442695040888963407))) else (none)) else (some (Go.bits .and .i64 (Go.bits .xor .i64 ((wrap64 ((wrap64 (s0_2 * 6364136223846793005)) + 1442695040888963407)) / 8589934592) ((wrap64 ((wrap64 (s0_2 * 6364136223846793005)) + 1442695040888963407)) / 140737488355328)) 255, s0_1, wrap64 ((wrap64 (s0_2 * 6364136223846793005)) + 1442695040888963407)))
theorem spec_l1Byte.calls (g : Nat) (s0_0 : List Int) (s0_1 : Int) (s0_2 : Int) (r1 : Int) (r2 : Int) (r3 : Int) (w0 w : World) (hI : IsS114 w0 w g s0_0 s0_1 s0_2) (hB : Below w0.heap.size w0 w) (h : spec_l1Byte.f s0_0 s0_1 s0_2 = some (r1, r2, r3)) :
  Calls Try.prog 146 #[.pointer (some ⟨g, 0, none⟩)] w fun e w' => e = .returned (.int .i64 r1) ∧ IsS114 w0 w' g s0_0 r2 r3 ∧ Below w0.heap.size w0 w' ∧ KeepBut w w' g none := by
 have HI0 := zO hI
 have HK := zO (KeepBut.refl w g none)
 have HL := zO hB.size
 clear hI
 have HW0 := zO hB.size
 have HB := zO hB
 clear hB
 have H : (if s0_1 < (s0_0.length : Int) then (if 0 ≤ s0_1 then (some (Go.bits .and .i64 (wrap64 ((Go.bits .and .i64 (Go.bits .xor .i64 ((wrap64 ((wrap64 (s0_2 * 6364136223846793005)) + 1442695040888963407)) / 8589934592) ((wrap64 ((wrap64 (s0_2 * 6364136223846793005)) + 1442695040888963407)) / 140737488355328)) 255) + (wrap64 (rd s0_0 s0_1)))) 255, wrap64 (s0_1 + 1), wrap64 ((wrap64 (s0_2 * 6364136223846793005)) + 1442695040888963407))) else (none)) else (some (Go.bits .and .i64 (Go.bits .xor .i64 ((wrap64 ((wrap64 (s0_2 * 6364136223846793005)) + 1442695040888963407)) / 8589934592) ((wrap64 ((wrap64 (s0_2 * 6364136223846793005)) + 1442695040888963407)) / 140737488355328)) 255, s0_1, wrap64 ((wrap64 (s0_2 * 6364136223846793005)) + 1442695040888963407)))) = some (r1, r2, r3) := h
 clear h
 by_cases c2 : s0_1 < (s0_0.length : Int)
 ·rw [if_pos c2] at H
  have c2b0 : decide (s0_1 < (s0_0.length : Int)) = true := decide_eq_true c2
  clear c2
  by_cases c3 : 0 ≤ s0_1
  case neg => rw [if_neg c3] at H; exact absurd H (by simp)
  rw [if_pos c3] at H
  have c3b0 : decide (0 ≤ s0_1) = true := decide_eq_true c3
  clear c3
  simp only [Option.some.injEq, Prod.mk.injEq] at H
  obtain ⟨rfl, rfl, rfl⟩ := H
  obtain ⟨ASz4_0, cSz4_0, HGz4, hgz4, HSz4_0⟩ := HI0.out
  have hcz4_0 := cellS114_0 HGz4
  have hcz4_1 := cellS114_1 HGz4
  have hcz4_2 := cellS114_2 HGz4
  have hfz4_1 := zK HGz4 1
  have hfz4_2 := zK HGz4 2
  clear HGz4 hgz4
  have p403 : 0 ≤ (s0_1 : Int) := yO (by assumption)
  have q403 : s0_1 < (s0_0.length : Int) := yO (by assumption)
  obtain ⟨ad403, e403, hx403_0⟩ := Kd.at_int HSz4_0 s0_1 p403 q403
  cases e403
  have hn403_0 : ad403.block ≠ g := Nat.ne_of_lt (Nat.lt_of_lt_of_le (by have := World.block_lt_of_cell? _ _ hx403_0; first | rwa [add_block] at this | exact this) (IsS114.ge HI0.out))
  replace hx403_0 := pw_cell_below HB.out hx403_0
  replace hx403_0 := (cell_far (p := ⟨g, 2, none⟩) (by first | (rw [add_block]; exact hn403_0) | (show (Addr.add _ _).block ≠ _; rw [add_block]; exact hn403_0) | exact hn403_0) (.int .i64 (wrap64 ((wrap64 (s0_2 * 6364136223846793005)) + 1442695040888963407)))).trans hx403_0
  (try have hy403_0 := fun (n_ : Nat) => (show (((w.drewN n_).setCell ⟨g, 2, none⟩ (.int .i64 (wrap64 ((wrap64 (s0_2 * 6364136223846793005)) + 1442695040888963407))))).cell? _ = some _ from hx403_0))
  clear hn403_0
  replace p403 := eq_true p403
  replace q403 := eq_true q403
  go_enter Try.func146, Try.ntmps146
  go_wp2
  repeat (go_quiet (fail); try go_wp2)
  go_ret
  exact ⟨by first | rfl | exact yP _ | (simp [errW_none, errW_some] <;> rfl) | (simp [*, errW_none, errW_some] <;> rfl), by repeat (first | (with_reducible first | exact HI0.out | apply IsS114.alloc | apply IsS114.drewN | apply IsS114.drew | apply IsS114.set_1 | apply IsS114.set_2) | exact HI0.out), by repeat (first | (with_reducible first | exact HB.out | apply zA | apply zL | apply zB | refine zC ?_ (IsS114.ge HI0.out)) | exact HB.out), by repeat (first | (with_reducible first | exact HK.out | apply KeepBut.set_ | apply keep_drewN | apply keep_drew | apply keep_alloc) | exact HK.out)⟩
 ·rw [if_neg c2] at H
  have c2b0 : decide (s0_1 < (s0_0.length : Int)) = false := decide_eq_false c2
  clear c2
  simp only [Option.some.injEq, Prod.mk.injEq] at H
  obtain ⟨rfl, rfl, rfl⟩ := H
  obtain ⟨ASz5_0, cSz5_0, HGz5, hgz5, HSz5_0⟩ := HI0.out
  have hcz5_0 := cellS114_0 HGz5
  have hcz5_1 := cellS114_1 HGz5
  have hcz5_2 := cellS114_2 HGz5
  have hfz5_1 := zK HGz5 1
  have hfz5_2 := zK HGz5 2
  clear HGz5 hgz5
  go_enter Try.func146, Try.ntmps146
  go_wp2
  repeat (go_quiet (fail); try go_wp2)
  go_ret
  exact ⟨by first | rfl | exact yP _ | (simp [errW_none, errW_some] <;> rfl) | (simp [*, errW_none, errW_some] <;> rfl), by repeat (first | (with_reducible first | exact HI0.out | apply IsS114.alloc | apply IsS114.drewN | apply IsS114.drew | apply IsS114.set_1 | apply IsS114.set_2) | exact HI0.out), by repeat (first | (with_reducible first | exact HB.out | apply zA | apply zL | apply zB | refine zC ?_ (IsS114.ge HI0.out)) | exact HB.out), by repeat (first | (with_reducible first | exact HK.out | apply KeepBut.set_ | apply keep_drewN | apply keep_drew | apply keep_alloc) | exact HK.out)⟩

end Go.Proofs.Ytldbmljooafkcaa.PFnFrameErrors
