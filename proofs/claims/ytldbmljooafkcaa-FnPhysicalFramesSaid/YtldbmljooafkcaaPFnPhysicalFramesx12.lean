/- Contracts of Go functions. Conditions: the arguments read as the Lean function's. Written by print2.py, shrink.py (this session's). -/
import Derived.Test.YtldbmljooafkcaaPFnPhysicalFramesx0
import Derived.Test.YtldbmljooafkcaaPFnPhysicalFramesx2
import Derived.Test.YtldbmljooafkcaaPFnPhysicalFramesx6
import Derived.Test.YtldbmljooafkcaaPFnPhysicalFramesx8
import Derived.Test.YtldbmljooafkcaaPFnPhysicalFramesx10
import Derived.Test.YtldbmljooafkcaaPFnPhysicalFramesx11
namespace Go.Proofs.Ytldbmljooafkcaa.PFnPhysicalFrames
open Go.RowKit Go.Proofs.YtldbmljooafkcaaW.PrintWords Go.Proofs.YtldbmljooafkcaaW.PrintLast Go.Proofs.YtldbmljooafkcaaW.PrintMore
open Go.Proofs.YtldbmljooafkcaaW.PrintWords renaming below_alloc → zA, below_drew1 → zB, below_set → zC, below_size → zD, below_step → zE, blk_alloc → zF, blk_below → zG, blk_cell → zH, blk_drew → zI, blk_drewN → zJ, blk_frozen → zK, pw_below_drewN → zL, gate_callee → zM, gate_dst → zN
open Go.Proofs.YtldbmljooafkcaaW.PrintWords.Aside0 renaming mk → zO
open Go.Proofs.YtldbmljooafkcaaW.PrintWords.Drawn0 renaming refl → zP, step → zQ
open Go.Proofs.YtldbmljooafkcaaW.PrintWords.Kd renaming C_alloc → zR, C_drew → zS, C_drewN → zT, R_alloc → zU, R_drew → zV, R_drewN → zW, R_reads' → zX, R_below → zY, R_lower → yA
open Option renaming bind_eq_some_iff → yE
open List renaming setIfInBounds_toArray → yF, set_cons_zero → yG, set_cons_succ → yH, length_take → yI, length_drop → yJ, map_toArray → yK, map_cons → yL, map_nil → yM
set_option maxHeartbeats 8000000
set_option maxRecDepth 100000
attribute [local go_sem] max2_int min2_int max_two min_two max_three min_three max_four min_four
set_option linter.unusedVariables false
set_option linter.unusedSimpArgs false

def impl_TransmitFrame.j0 : Nat → List Int → Bool → Int → Int → Int → Option (List Int)
 | 0, _, _, _, _, _ => none
 | k + 1, x1, x15, x460000, x460001, x460002 => if x15 = true then (some (([] : List Int))) else ((impl_AppendCrc.f k x1).bind fun t464 => ((impl_BytesToBits.f k t464).bind fun t467 => ((impl_Scramble.f k x460002 t467).bind fun t470 => ((impl_ConvolutionalEncode.f k t470).bind fun t473 => (if x460000 = 2 then ((impl_Puncture.f k t473).bind fun t476 => ((impl_EncodeHeader.f k x460000 x460001 x460002).bind fun t479 => ((impl_Interleave.f k t476 8).bind fun t482 => (if t479.length + t482.length < 17592186044416 then (some (t479 ++ t482)) else (none))))) else ((impl_EncodeHeader.f k x460000 x460001 x460002).bind fun t488 => ((impl_Interleave.f k t473 8).bind fun t491 => (if t488.length + t491.length < 17592186044416 then (some (t488 ++ t491)) else (none)))))))))
def impl_TransmitFrame.f (k : Nat) (a0_0 : Int) (a0_1 : Int) (a0_2 : Int) (l1 : List Int) : Option (List Int) := (impl_IsValidHeader.f a0_0 a0_1 a0_2).bind fun t460 => (if t460 = true then (impl_TransmitFrame.j0 k l1 ((l1.length : Int) != a0_1) a0_0 a0_1 a0_2) else (impl_TransmitFrame.j0 k l1 true a0_0 a0_1 a0_2))
def impl_TransmitFrame.T3 : Bool × List (List Nat × List Nat) := (true, [([], []), ([0], [0]), ([], []), ([2], [2]), ([3, 3], [3]), ([1, 4, 4], [1, 4]), ([5, 5], [5]), ([6, 6, 0, 1, 2, 3, 4, 5, 6], [6])])
def impl_TransmitFrame.B3 : List Nat := [0, 1, 0, 4, 12, 31, 63, 127]
theorem impl_TransmitFrame.tab3 : rtab .any (opsOf Try.f63 3) = impl_TransmitFrame.T3 := by kernel_rfl
theorem impl_TransmitFrame.bits3 : waitsOk impl_TransmitFrame.T3.2 impl_TransmitFrame.B3 = true := by kernel_rfl
theorem impl_TransmitFrame.calls (k : Nat) (a0_0 : Int) (a0_1 : Int) (a0_2 : Int) (A1 : Option Addr) (c1 : Nat) (l1 : List Int) (r : List Int) (w : World) (hr1 : Kd.C (Kd.int .u8) w A1 l1.length l1) (hc1 : l1.length ≤ c1) (h : impl_TransmitFrame.f k a0_0 a0_1 a0_2 l1 = some r) :
  Calls Try.prog 63 #[.agg #[.int .i64 a0_0, .int .i64 a0_1, .int .i64 a0_2], .slice A1 l1.length c1] w fun e w' => ∃ v0_ : Value, e = .returned (v0_) ∧ Kd.R (Kd.int .i64) 3 w' w.heap.size (fun _ => True) v0_ r ∧ Below w.heap.size w w' := by
 have hu24 := Try.underlying24
 have HR1 := zO hr1
 have HC1 := zO hc1
 clear hr1 hc1
 have HB := zO (Below.refl w.heap.size w)
 have H : ((impl_IsValidHeader.f a0_0 a0_1 a0_2).bind fun t460 => (if t460 = true then (impl_TransmitFrame.j0 k l1 ((l1.length : Int) != a0_1) a0_0 a0_1 a0_2) else (impl_TransmitFrame.j0 k l1 true a0_0 a0_1 a0_2))) = some r := h
 clear h
 have HC3 := zO H
 clear H
 go_enter Try.func63, Try.ntmps63
 go_upto_region 1 with (first | ((with_reducible refine zN (N := 2) rfl ?_); (try (refine gate_guard (by rfl) ?_; dsimp only)); refine box_event ?hg (N := 2) ?hd (cs := #[.int .i64 a0_0, .int .i64 a0_1, .int .i64 a0_2]) (t := 24) ?hr ?_; (case hd => rfl); (case hg => rfl); (case hr => first | (go_simp; done) | (go_simp; rfl)); intro gb459 hg w4 hbox hb; have n0_ := zO (zE (by repeat (first | exact HB.out | apply zA | apply zL | apply zB)) hb); have n1_ := zO (hbox); have n2_ := zO ((by rw [hg]; exact (zD (by repeat (first | exact HB.out | apply zA | apply zL | apply zB))) : w.heap.size ≤ gb459)); have n3_ := zO ((by rw [hg]; exact (zD (by repeat (first | exact HB.out | apply zA | apply zL | apply zB))) : w.heap.size ≤ gb459)); clear HB; have HB := n0_; have BK459 := n1_; have GW459 := n2_; have GE459 := n3_; clear n0_ n1_ n2_ n3_; clear hb hbox hg))
 (try simp only [Act.put, yF, yG, yH])
 go_cut [15] (fun v15 wc => ∃ (kq : Nat) (x15_2 : Bool), v15 = .bool x15_2 ∧ Aside0 (impl_TransmitFrame.j0 kq l1 x15_2 a0_0 a0_1 a0_2 = some r) ∧ Aside0 (kq ≤ k) ∧ Aside0 (wc.heap[gb459]? = some (.cells #[.int .i64 a0_0, .int .i64 a0_1, .int .i64 a0_2] 24 (0, 0))) ∧ Aside0 (Below w.heap.size w wc))
 case first =>
  have H := HC3.out
  clear HC3
  replace H := yE.mp H
  obtain ⟨t460, A50, H⟩ := H
  replace H : (if t460 = true then (impl_TransmitFrame.j0 k l1 ((l1.length : Int) != a0_1) a0_0 a0_1 a0_2) else (impl_TransmitFrame.j0 k l1 true a0_0 a0_1 a0_2)) = some r := H
  have A5 := zO A50
  clear A50
  by_cases c6 : t460 = true
  ·subst c6
   have H1 : (impl_TransmitFrame.j0 k l1 ((l1.length : Int) != a0_1) a0_0 a0_1 a0_2) = some r := by rw [if_pos rfl] at H; exact H
   clear H
   have H := H1
   clear H1
   have H' := zO H
   clear H
   have hcz7_0 : w4.cell? ⟨gb459, 0, none⟩ = some (.int .i64 a0_0) := (zH BK459.out 0).trans rfl
   have hcz7_1 : w4.cell? ⟨gb459, 1, none⟩ = some (.int .i64 a0_1) := (zH BK459.out 1).trans rfl
   have hcz7_2 : w4.cell? ⟨gb459, 2, none⟩ = some (.int .i64 a0_2) := (zH BK459.out 2).trans rfl
   have hfz7_0 := zK BK459.out 0
   have hfz7_1 := zK BK459.out 1
   have hfz7_2 := zK BK459.out 2
   go_wp2_with (first | ((with_reducible refine zM (f := 75) rfl ?_); refine goesL_ (some 7) rfl rfl Try.func75 (by kernel_rfl) rfl #[.agg #[.int .i64 a0_0, .int .i64 a0_1, .int .i64 a0_2]] rfl (by (try simp only [yK, yL, yM]); first | done | rfl | (simp only [yJ, yI]; rfl)) ?_; (with_reducible refine (impl_IsValidHeader.calls a0_0 a0_1 a0_2 true _ A5.out).mono ?_); rintro e w8 ⟨rfl, hb⟩; refine ⟨_, rfl, ?_⟩; have n0_ := zO (zG (g := gb459) (o := .cells #[.int .i64 a0_0, .int .i64 a0_1, .int .i64 a0_2] 24 (0, 0)) (by (with_reducible repeat (first | refine zJ ?_ _ | refine zI ?_ | refine zF ?_ _)); exact BK459.out) hb); have n1_ := zO (zE (by repeat (first | (with_reducible first | exact HB.out | apply zA | apply zL | apply zB | refine zC ?_ GE459.out) | exact HB.out)) hb); clear BK459; clear HB; have BK459 := n0_; have HB := n1_; clear n0_ n1_; (try clear hb); (try clear hb2); (try clear hk); (try clear hi); have hcz9_0 : w8.cell? ⟨gb459, 0, none⟩ = some (.int .i64 a0_0) := (zH BK459.out 0).trans rfl; have hcz9_1 : w8.cell? ⟨gb459, 1, none⟩ = some (.int .i64 a0_1) := (zH BK459.out 1).trans rfl; have hcz9_2 : w8.cell? ⟨gb459, 2, none⟩ = some (.int .i64 a0_2) := (zH BK459.out 2).trans rfl; have hfz9_0 := zK BK459.out 0; have hfz9_1 := zK BK459.out 1; have hfz9_2 := zK BK459.out 2))
   go_meet
   case rel => exact ⟨_, (((l1.length : Int) != a0_1)), (by first | rfl | (simp; done) | (simp [*]; done)), H', ⟨by first | omega | exact Nat.le_refl _⟩, ⟨by (with_reducible repeat (first | refine zJ ?_ _ | refine zI ?_ | refine zF ?_ _)); exact BK459.out⟩, ⟨by repeat (first | (with_reducible first | exact HB.out | apply zA | apply zL | apply zB | refine zC ?_ GE459.out) | exact HB.out)⟩⟩
  ·replace c6 := Bool.eq_false_iff.mpr c6
   subst c6
   have H1 : (impl_TransmitFrame.j0 k l1 true a0_0 a0_1 a0_2) = some r := by rw [if_neg (show ¬ (false = true) by decide)] at H; exact H
   clear H
   have H := H1
   clear H1
   have H' := zO H
   clear H
   have hcz10_0 : w4.cell? ⟨gb459, 0, none⟩ = some (.int .i64 a0_0) := (zH BK459.out 0).trans rfl
   have hcz10_1 : w4.cell? ⟨gb459, 1, none⟩ = some (.int .i64 a0_1) := (zH BK459.out 1).trans rfl
   have hcz10_2 : w4.cell? ⟨gb459, 2, none⟩ = some (.int .i64 a0_2) := (zH BK459.out 2).trans rfl
   have hfz10_0 := zK BK459.out 0
   have hfz10_1 := zK BK459.out 1
   have hfz10_2 := zK BK459.out 2
   go_wp2_with (first | ((with_reducible refine zM (f := 75) rfl ?_); refine goesL_ (some 7) rfl rfl Try.func75 (by kernel_rfl) rfl #[.agg #[.int .i64 a0_0, .int .i64 a0_1, .int .i64 a0_2]] rfl (by (try simp only [yK, yL, yM]); first | done | rfl | (simp only [yJ, yI]; rfl)) ?_; (with_reducible refine (impl_IsValidHeader.calls a0_0 a0_1 a0_2 false _ A5.out).mono ?_); rintro e w11 ⟨rfl, hb⟩; refine ⟨_, rfl, ?_⟩; have n0_ := zO (zG (g := gb459) (o := .cells #[.int .i64 a0_0, .int .i64 a0_1, .int .i64 a0_2] 24 (0, 0)) (by (with_reducible repeat (first | refine zJ ?_ _ | refine zI ?_ | refine zF ?_ _)); exact BK459.out) hb); have n1_ := zO (zE (by repeat (first | (with_reducible first | exact HB.out | apply zA | apply zL | apply zB | refine zC ?_ GE459.out) | exact HB.out)) hb); clear BK459; clear HB; have BK459 := n0_; have HB := n1_; clear n0_ n1_; (try clear hb); (try clear hb2); (try clear hk); (try clear hi)))
   go_meet
   case rel => exact ⟨_, (true), (by first | rfl | (simp; done) | (simp [*]; done)), H', ⟨by first | omega | exact Nat.le_refl _⟩, ⟨by (with_reducible repeat (first | refine zJ ?_ _ | refine zI ?_ | refine zF ?_ _)); exact BK459.out⟩, ⟨by repeat (first | (with_reducible first | exact HB.out | apply zA | apply zL | apply zB | refine zC ?_ GE459.out) | exact HB.out)⟩⟩
 case rest =>
  clear HC3
  try clear c1
  try clear p2
  try clear c6
  try clear c7
  try clear hcz10_0
  try clear hcz10_1
  try clear hcz10_2
  try clear hcz7_0
  try clear hcz7_1
  try clear hcz7_2
  try clear hcz9_0
  try clear hcz9_1
  try clear hcz9_2
  try clear hfz10_0
  try clear hfz10_1
  try clear hfz10_2
  try clear hfz7_0
  try clear hfz7_1
  try clear hfz7_2
  try clear hfz9_0
  try clear hfz9_1
  try clear hfz9_2
  obtain ⟨kq, x15_2, rfl, HA, HJ2, BK459, HB⟩ := hcut
  cases kq with
  | zero => exact absurd HA.out (by simp [impl_TransmitFrame.j0])
  | succ kj2 =>
   have H := HA.out
   clear HA
   simp only [impl_TransmitFrame.j0] at H
   by_cases c12 : x15_2 = true
   ·subst c12
    have H1 : (some (([] : List Int))) = some r := by rw [if_pos rfl] at H; exact H
    clear H
    have H := H1
    clear H1
    obtain ⟨y461, hy461⟩ : ∃ y_ : List Int, y_ = (([] : List Int)) := ⟨_, rfl⟩
    replace H : (some y461) = some r := by first | (rw [hy461]; exact H) | exact H
    have Ny461 := zO hy461
    clear hy461
    obtain rfl := Option.some.inj H
    go_wp2_with (first | ((with_reducible refine zN (N := 16) rfl ?_); (try (refine gate_guard (by rfl) ?_; dsimp only)); refine Kd.R_lit (Kd.int .i64) _ 3 ?hg (N := 16) ?hd (xs := ([] : List Int)) (inner := []) (ok := fun _ => True) (okp := fun _ => True) ?hr ?hp (fun _ hk => hk) trivial (Below.refl _ _) (Nat.le_refl _) (by simp) ?_; (case hd => rfl); (case hg => rfl); (case hr => first | (go_simp; done) | (go_simp; rfl)); (case hp => exact (Reps.none _ _)); intro v462 w13 ho14 hb hg_ hnew_; clear hg_ hnew_; (first | rw [← Ny461.out] at ho14 | (simp only [Int.reduceToNat] at ho14; rw [← Ny461.out] at ho14)); have n0_ := zO (yA ho14 (zD (by repeat (first | (with_reducible first | exact HB.out | apply zA | apply zL | apply zB | refine zC ?_ GE459.out) | exact HB.out)))); have n1_ := zO (zG (g := gb459) (o := .cells #[.int .i64 a0_0, .int .i64 a0_1, .int .i64 a0_2] 24 (0, 0)) (by (with_reducible repeat (first | refine zJ ?_ _ | refine zI ?_ | refine zF ?_ _)); exact BK459.out) hb); have n2_ := zO (zE (by repeat (first | (with_reducible first | exact HB.out | apply zA | apply zL | apply zB | refine zC ?_ GE459.out) | exact HB.out)) hb); clear BK459; clear HB; have HO463 := n0_; have BK459 := n1_; have HB := n2_; clear n0_ n1_ n2_; clear hb ho14))
    go_ret
    exact ⟨_, by first | rfl | (simp [errW_none, errW_some] <;> rfl) | (simp [*, errW_none, errW_some] <;> rfl), by (with_reducible repeat (first | apply zU | apply zW | apply zV)); exact HO463.out, by repeat (first | (with_reducible first | exact HB.out | apply zA | apply zL | apply zB | refine zC ?_ GE459.out) | exact HB.out)⟩
   ·replace c12 := Bool.eq_false_iff.mpr c12
    subst c12
    have H1 : ((impl_AppendCrc.f kj2 l1).bind fun t464 => ((impl_BytesToBits.f kj2 t464).bind fun t467 => ((impl_Scramble.f kj2 a0_2 t467).bind fun t470 => ((impl_ConvolutionalEncode.f kj2 t470).bind fun t473 => (if a0_0 = 2 then ((impl_Puncture.f kj2 t473).bind fun t476 => ((impl_EncodeHeader.f kj2 a0_0 a0_1 a0_2).bind fun t479 => ((impl_Interleave.f kj2 t476 8).bind fun t482 => (if t479.length + t482.length < 17592186044416 then (some (t479 ++ t482)) else (none))))) else ((impl_EncodeHeader.f kj2 a0_0 a0_1 a0_2).bind fun t488 => ((impl_Interleave.f kj2 t473 8).bind fun t491 => (if t488.length + t491.length < 17592186044416 then (some (t488 ++ t491)) else (none))))))))) = some r := by rw [if_neg (show ¬ (false = true) by decide)] at H; exact H
    clear H
    have H := H1
    clear H1
    replace H := yE.mp H
    obtain ⟨t464, A150, H⟩ := H
    replace H : ((impl_BytesToBits.f kj2 t464).bind fun t467 => ((impl_Scramble.f kj2 a0_2 t467).bind fun t470 => ((impl_ConvolutionalEncode.f kj2 t470).bind fun t473 => (if a0_0 = 2 then ((impl_Puncture.f kj2 t473).bind fun t476 => ((impl_EncodeHeader.f kj2 a0_0 a0_1 a0_2).bind fun t479 => ((impl_Interleave.f kj2 t476 8).bind fun t482 => (if t479.length + t482.length < 17592186044416 then (some (t479 ++ t482)) else (none))))) else ((impl_EncodeHeader.f kj2 a0_0 a0_1 a0_2).bind fun t488 => ((impl_Interleave.f kj2 t473 8).bind fun t491 => (if t488.length + t491.length < 17592186044416 then (some (t488 ++ t491)) else (none)))))))) = some r := H
    have A15 := zO A150
    clear A150
    replace H := yE.mp H
    obtain ⟨t467, A160, H⟩ := H
    replace H : ((impl_Scramble.f kj2 a0_2 t467).bind fun t470 => ((impl_ConvolutionalEncode.f kj2 t470).bind fun t473 => (if a0_0 = 2 then ((impl_Puncture.f kj2 t473).bind fun t476 => ((impl_EncodeHeader.f kj2 a0_0 a0_1 a0_2).bind fun t479 => ((impl_Interleave.f kj2 t476 8).bind fun t482 => (if t479.length + t482.length < 17592186044416 then (some (t479 ++ t482)) else (none))))) else ((impl_EncodeHeader.f kj2 a0_0 a0_1 a0_2).bind fun t488 => ((impl_Interleave.f kj2 t473 8).bind fun t491 => (if t488.length + t491.length < 17592186044416 then (some (t488 ++ t491)) else (none))))))) = some r := H
    have A16 := zO A160
    clear A160
    replace H := yE.mp H
    obtain ⟨t470, A170, H⟩ := H
    replace H : ((impl_ConvolutionalEncode.f kj2 t470).bind fun t473 => (if a0_0 = 2 then ((impl_Puncture.f kj2 t473).bind fun t476 => ((impl_EncodeHeader.f kj2 a0_0 a0_1 a0_2).bind fun t479 => ((impl_Interleave.f kj2 t476 8).bind fun t482 => (if t479.length + t482.length < 17592186044416 then (some (t479 ++ t482)) else (none))))) else ((impl_EncodeHeader.f kj2 a0_0 a0_1 a0_2).bind fun t488 => ((impl_Interleave.f kj2 t473 8).bind fun t491 => (if t488.length + t491.length < 17592186044416 then (some (t488 ++ t491)) else (none)))))) = some r := H
    have A17 := zO A170
    clear A170
    replace H := yE.mp H
    obtain ⟨t473, A180, H⟩ := H
    replace H : (if a0_0 = 2 then ((impl_Puncture.f kj2 t473).bind fun t476 => ((impl_EncodeHeader.f kj2 a0_0 a0_1 a0_2).bind fun t479 => ((impl_Interleave.f kj2 t476 8).bind fun t482 => (if t479.length + t482.length < 17592186044416 then (some (t479 ++ t482)) else (none))))) else ((impl_EncodeHeader.f kj2 a0_0 a0_1 a0_2).bind fun t488 => ((impl_Interleave.f kj2 t473 8).bind fun t491 => (if t488.length + t491.length < 17592186044416 then (some (t488 ++ t491)) else (none))))) = some r := H
    have A18 := zO A180
    clear A180
    by_cases c19 : a0_0 = 2
    ·rw [if_pos c19] at H
     have c19b0 : (a0_0 == 2) = true := beq_iff_eq.mpr c19
     have c19b1 : (a0_0 != 2) = false := bne_eq_false_iff_eq.mpr c19
     clear c19
     replace H := yE.mp H
     obtain ⟨t476, A200, H⟩ := H
     replace H : ((impl_EncodeHeader.f kj2 a0_0 a0_1 a0_2).bind fun t479 => ((impl_Interleave.f kj2 t476 8).bind fun t482 => (if t479.length + t482.length < 17592186044416 then (some (t479 ++ t482)) else (none)))) = some r := H
     have A20 := zO A200
     clear A200
     replace H := yE.mp H
     obtain ⟨t479, A210, H⟩ := H
     replace H : ((impl_Interleave.f kj2 t476 8).bind fun t482 => (if t479.length + t482.length < 17592186044416 then (some (t479 ++ t482)) else (none))) = some r := H
     have A21 := zO A210
     clear A210
     replace H := yE.mp H
     obtain ⟨t482, A220, H⟩ := H
     replace H : (if t479.length + t482.length < 17592186044416 then (some (t479 ++ t482)) else (none)) = some r := H
     have A22 := zO A220
     clear A220
     by_cases c23 : t479.length + t482.length < 17592186044416
     case neg => rw [if_neg c23] at H; exact absurd H (by simp)
     rw [if_pos c23] at H
     have LMc23 := zO c23
     clear c23
     obtain ⟨y485, hy485⟩ : ∃ y_ : List Int, y_ = (t479 ++ t482) := ⟨_, rfl⟩
     replace H : (some y485) = some r := by first | (rw [hy485]; exact H) | exact H
     have Ny485 := zO hy485
     clear hy485
     obtain rfl := Option.some.inj H
     try go_wp2
     have n0_ := zO (zI BK459.out)
     have n1_ := zO (zB HB.out)
     clear BK459
     clear HB
     have BK459 := n0_
     have HB := n1_
     clear n0_ n1_
     refine start_ (n := 8) (S := fun w' => w'.cell? ⟨gb459, 0, none⟩ = some (.int .i64 a0_0) ∧ w'.cell? ⟨gb459, 1, none⟩ = some (.int .i64 a0_1) ∧ w'.cell? ⟨gb459, 2, none⟩ = some (.int .i64 a0_2)) (ds := []) #[false, false, false, false, false, false, false, false] (by kernel_rfl) rfl rfl ⟨(zH BK459.out 0).trans rfl, (zH BK459.out 1).trans rfl, (zH BK459.out 2).trans rfl⟩ (fun hHeld => ?_); refine with_tabW impl_TransmitFrame.tab3 impl_TransmitFrame.bits3 (fun HT_ HW_ => ?_)
     generalize wc.drew = w24 at BK459 HB hHeld ⊢
     refine pure_ (i := 0) (N := some 17) (v := ?_) (a' := ?_) #[true, false, false, false, false, false, false, false] rfl rfl (any_of HT_.out (by kernel_rfl)) (fun _ _ _ h => h) (Or.inl ⟨by rfl, ?_⟩) ?_ ?_; rotate_left
     ·intro w'; go_simp; with_reducible rfl
     rotate_left
     ·simp only [Act.put, yF, yG, yH, i64_w, i32_w]; rfl
     refine pure_ (i := 2) (N := some 19) (v := ?_) (a' := ?_) #[true, false, true, false, false, false, false, false] rfl rfl (any_of HT_.out (by kernel_rfl)) (fun _ _ _ h => h) (Or.inl ⟨by rfl, ?_⟩) ?_ ?_; rotate_left
     ·intro w'; go_simp; with_reducible rfl
     rotate_left
     ·simp only [Act.put, yF, yG, yH, i64_w, i32_w]; rfl
     refine take_ (i := 1) (N := some 18) (v := ?_) (a' := ?_) #[true, true, true, false, false, false, false, false] rfl rfl (take_ofW HT_.out HW_.out (by kernel_rfl)) (fun _ _ _ h => h) (Or.inl ⟨by rfl, ?_⟩) hHeld ?_ ?_; rotate_left
     ·rintro w' ⟨s0, s1, s2⟩; go_simp; with_reducible rfl
     rotate_left
     ·simp only [Act.put, yF, yG, yH, i64_w, i32_w]; rfl
     refine one_ (i := 3) (N := some 20) #[true, true, true, true, false, false, false, false] rfl rfl (one_of HT_.out (by kernel_rfl)) (by decide) (fun K hK => ?_)
     refine goes_ Try.func94 (by kernel_rfl) rfl #[.slice A1 l1.length c1] (by rfl) rfl rfl (by (try simp only [yK, yL, yM]); first | done | rfl | (simp only [yJ, yI]; rfl)) ?_
     with_reducible refine (impl_AppendCrc.calls kj2 _ _ l1 t464 _ ?side1 ?side2 A15.out).mono ?_
     (case side1 => repeat (first | exact (Kd.C_below HR1.out HB.out) | (with_reducible refine zR ?_ _) | (with_reducible refine zT ?_ _) | (with_reducible refine zS ?_)))
     (case side2 => exact HC1.out)
     rintro e w25 ⟨v465, rfl, ho0, hb⟩
     refine ⟨_, rfl, ?_⟩
     have n0_ := zO (yA ho0 (zD (by repeat (first | (with_reducible first | exact HB.out | apply zA | apply zL | apply zB | refine zC ?_ GE459.out) | exact HB.out))))
     have n1_ := zO (zG (g := gb459) (o := .cells #[.int .i64 a0_0, .int .i64 a0_1, .int .i64 a0_2] 24 (0, 0)) (by (with_reducible repeat (first | refine zJ ?_ _ | refine zI ?_ | refine zF ?_ _)); exact BK459.out) hb)
     have n2_ := zO (zE (by repeat (first | (with_reducible first | exact HB.out | apply zA | apply zL | apply zB | refine zC ?_ GE459.out) | exact HB.out)) hb)
     clear BK459
     clear HB
     have HO466 := n0_
     have BK459 := n1_
     have HB := n2_
     clear n0_ n1_ n2_
     (try clear hb)
     (try clear hb2)
     (try clear hk)
     (try clear hi)
     (try clear ho0)
     obtain ⟨Ao26, co26, eo26⟩ := Kd.R_slice HO466.out
     (first | subst eo26 | (injection eo26 with f1_ f2_ f3_; have f4_ := f1_.symm; have f5_ := f3_.symm; clear f1_ f2_ f3_; subst f4_; subst f5_))
     refine hK.out _ _ ⟨(zH BK459.out 0).trans rfl, (zH BK459.out 1).trans rfl, (zH BK459.out 2).trans rfl⟩ (fun hHeld => ?_)
     clear hK K
     refine norm_ (a' := ?_) ?_ ?_; rotate_left
     ·show Act.put _ (some 20) _ = _; simp only [Act.put, yF, yG, yH, i64_w, i32_w]; rfl
     refine one_ (i := 4) (N := some 21) #[true, true, true, true, true, false, false, false] rfl rfl (one_of HT_.out (by kernel_rfl)) (by decide) (fun K hK => ?_)
     refine goes_ Try.func133 (by kernel_rfl) rfl #[.slice Ao26 t464.length co26] (by rfl) rfl rfl (by (try simp only [yK, yL, yM]); first | done | rfl | (simp only [yJ, yI]; rfl)) ?_
     with_reducible refine (impl_BytesToBits.calls kj2 _ _ t464 t467 _ ?side1 ?side2 A16.out).mono ?_
     (case side1 => repeat (first | exact (zX HO466.out).2.2 | (with_reducible refine zR ?_ _) | (with_reducible refine zT ?_ _) | (with_reducible refine zS ?_)))
     (case side2 => exact (zX HO466.out).2.1)
     rintro e w27 ⟨v468, rfl, ho0, hb⟩
     refine ⟨_, rfl, ?_⟩
     have n0_ := zO (zY (by (with_reducible repeat (first | apply zU | apply zW | apply zV)); exact HO466.out) hb)
     have n1_ := zO (yA ho0 (zD (by repeat (first | (with_reducible first | exact HB.out | apply zA | apply zL | apply zB | refine zC ?_ GE459.out) | exact HB.out))))
     have n2_ := zO (zG (g := gb459) (o := .cells #[.int .i64 a0_0, .int .i64 a0_1, .int .i64 a0_2] 24 (0, 0)) (by (with_reducible repeat (first | refine zJ ?_ _ | refine zI ?_ | refine zF ?_ _)); exact BK459.out) hb)
     have n3_ := zO (zE (by repeat (first | (with_reducible first | exact HB.out | apply zA | apply zL | apply zB | refine zC ?_ GE459.out) | exact HB.out)) hb)
     clear HO466
     clear BK459
     clear HB
     have HO466 := n0_
     have HO469 := n1_
     have BK459 := n2_
     have HB := n3_
     clear n0_ n1_ n2_ n3_
     (try clear hb)
     (try clear hb2)
     (try clear hk)
     (try clear hi)
     (try clear ho0)
     obtain ⟨Ao28, co28, eo28⟩ := Kd.R_slice HO469.out
     (first | subst eo28 | (injection eo28 with f1_ f2_ f3_; have f4_ := f1_.symm; have f5_ := f3_.symm; clear f1_ f2_ f3_; subst f4_; subst f5_))
     refine hK.out _ _ ⟨(zH BK459.out 0).trans rfl, (zH BK459.out 1).trans rfl, (zH BK459.out 2).trans rfl⟩ (fun hHeld => ?_)
     clear hK K
     refine norm_ (a' := ?_) ?_ ?_; rotate_left
     ·show Act.put _ (some 21) _ = _; simp only [Act.put, yF, yG, yH, i64_w, i32_w]; rfl
     refine one_ (i := 5) (N := some 22) #[true, true, true, true, true, true, false, false] rfl rfl (one_of HT_.out (by kernel_rfl)) (by decide) (fun K hK => ?_)
     refine goes_ Try.func130 (by kernel_rfl) rfl #[.int .i64 a0_2, .slice Ao28 t467.length co28] (by rfl) rfl rfl (by (try simp only [yK, yL, yM]); first | done | rfl | (simp only [yJ, yI]; rfl)) ?_
     with_reducible refine (impl_Scramble.calls kj2 a0_2 _ _ t467 t470 _ ?side1 ?side2 A17.out).mono ?_
     (case side1 => repeat (first | exact (zX HO469.out).2.2 | (with_reducible refine zR ?_ _) | (with_reducible refine zT ?_ _) | (with_reducible refine zS ?_)))
     (case side2 => exact (zX HO469.out).2.1)
     rintro e w29 ⟨v471, rfl, ho0, hb⟩
     refine ⟨_, rfl, ?_⟩
     have n0_ := zO (zY (by (with_reducible repeat (first | apply zU | apply zW | apply zV)); exact HO466.out) hb)
     have n1_ := zO (Kd.R_elder' (by (with_reducible repeat (first | apply zU | apply zW | apply zV)); exact HO469.out) (Kd.R_base ho0) hb)
     have n2_ := zO (yA (Kd.R_new' ho0 (Kd.R_lt (by (with_reducible repeat (first | apply zU | apply zW | apply zV)); exact HO469.out))) (zD (by repeat (first | (with_reducible first | exact HB.out | apply zA | apply zL | apply zB | refine zC ?_ GE459.out) | exact HB.out))))
     have n3_ := zO (zG (g := gb459) (o := .cells #[.int .i64 a0_0, .int .i64 a0_1, .int .i64 a0_2] 24 (0, 0)) (by (with_reducible repeat (first | refine zJ ?_ _ | refine zI ?_ | refine zF ?_ _)); exact BK459.out) hb)
     have n4_ := zO (zE (by repeat (first | (with_reducible first | exact HB.out | apply zA | apply zL | apply zB | refine zC ?_ GE459.out) | exact HB.out)) hb)
     clear HO466
     clear HO469
     clear BK459
     clear HB
     have HO466 := n0_
     have HO469 := n1_
     have HO472 := n2_
     have BK459 := n3_
     have HB := n4_
     clear n0_ n1_ n2_ n3_ n4_
     (try clear hb)
     (try clear hb2)
     (try clear hk)
     (try clear hi)
     (try clear ho0)
     obtain ⟨Ao30, co30, eo30⟩ := Kd.R_slice HO472.out
     (first | subst eo30 | (injection eo30 with f1_ f2_ f3_; have f4_ := f1_.symm; have f5_ := f3_.symm; clear f1_ f2_ f3_; subst f4_; subst f5_))
     refine hK.out _ _ ⟨(zH BK459.out 0).trans rfl, (zH BK459.out 1).trans rfl, (zH BK459.out 2).trans rfl⟩ (fun hHeld => ?_)
     clear hK K
     refine norm_ (a' := ?_) ?_ ?_; rotate_left
     ·show Act.put _ (some 22) _ = _; simp only [Act.put, yF, yG, yH, i64_w, i32_w]; rfl
     refine one_ (i := 6) (N := some 23) #[true, true, true, true, true, true, true, false] rfl rfl (one_of HT_.out (by kernel_rfl)) (by decide) (fun K hK => ?_)
     refine goes_ Try.func118 (by kernel_rfl) rfl #[.slice Ao30 t470.length co30] (by rfl) rfl rfl (by (try simp only [yK, yL, yM]); first | done | rfl | (simp only [yJ, yI]; rfl)) ?_
     with_reducible refine (impl_ConvolutionalEncode.calls kj2 _ _ t470 t473 _ ?side1 ?side2 A18.out).mono ?_
     (case side1 => repeat (first | exact (zX HO472.out).2.2 | (with_reducible refine zR ?_ _) | (with_reducible refine zT ?_ _) | (with_reducible refine zS ?_)))
     (case side2 => exact (zX HO472.out).2.1)
     rintro e w31 ⟨v474, rfl, ho0, hb⟩
     refine ⟨_, rfl, ?_⟩
     have n0_ := zO (zY (by (with_reducible repeat (first | apply zU | apply zW | apply zV)); exact HO466.out) hb)
     have n1_ := zO (Kd.R_elder' (by (with_reducible repeat (first | apply zU | apply zW | apply zV)); exact HO469.out) (Kd.R_base ho0) hb)
     have n2_ := zO (Kd.R_elder' (by (with_reducible repeat (first | apply zU | apply zW | apply zV)); exact HO472.out) (Kd.R_base ho0) hb)
     have n3_ := zO (yA (Kd.R_new' (Kd.R_new' ho0 (Kd.R_lt (by (with_reducible repeat (first | apply zU | apply zW | apply zV)); exact HO469.out))) (Kd.R_lt (by (with_reducible repeat (first | apply zU | apply zW | apply zV)); exact HO472.out))) (zD (by repeat (first | (with_reducible first | exact HB.out | apply zA | apply zL | apply zB | refine zC ?_ GE459.out) | exact HB.out))))
     have n4_ := zO (zG (g := gb459) (o := .cells #[.int .i64 a0_0, .int .i64 a0_1, .int .i64 a0_2] 24 (0, 0)) (by (with_reducible repeat (first | refine zJ ?_ _ | refine zI ?_ | refine zF ?_ _)); exact BK459.out) hb)
     have n5_ := zO (zE (by repeat (first | (with_reducible first | exact HB.out | apply zA | apply zL | apply zB | refine zC ?_ GE459.out) | exact HB.out)) hb)
     clear HO466
     clear HO469
     clear HO472
     clear BK459
     clear HB
     have HO466 := n0_
     have HO469 := n1_
     have HO472 := n2_
     have HO475 := n3_
     have BK459 := n4_
     have HB := n5_
     clear n0_ n1_ n2_ n3_ n4_ n5_
     (try clear hb)
     (try clear hb2)
     (try clear hk)
     (try clear hi)
     (try clear ho0)
     refine hK.out _ _ ⟨(zH BK459.out 0).trans rfl, (zH BK459.out 1).trans rfl, (zH BK459.out 2).trans rfl⟩ (fun hHeld => ?_)
     clear hK K
     refine norm_ (a' := ?_) ?_ ?_; rotate_left
     ·show Act.put _ (some 23) _ = _; simp only [Act.put, yF, yG, yH, i64_w, i32_w]; rfl
     refine pure_ (i := 7) (N := some 5) (v := ?_) (a' := ?_) #[true, true, true, true, true, true, true, true] rfl rfl (any_of HT_.out (by kernel_rfl)) (fun _ _ _ h => h) (Or.inl ⟨by rfl, ?_⟩) ?_ ?_; rotate_left
     ·intro w'; go_simp; with_reducible rfl
     rotate_left
     ·simp only [Act.put, yF, yG, yH, i64_w, i32_w]; rfl
     refine done_ (done_of HT_.out (by kernel_rfl)) ?_
     have hcz32_0 : w31.cell? ⟨gb459, 0, none⟩ = some (.int .i64 a0_0) := (zH BK459.out 0).trans rfl
     have hcz32_1 : w31.cell? ⟨gb459, 1, none⟩ = some (.int .i64 a0_1) := (zH BK459.out 1).trans rfl
     have hcz32_2 : w31.cell? ⟨gb459, 2, none⟩ = some (.int .i64 a0_2) := (zH BK459.out 2).trans rfl
     have hfz32_0 := zK BK459.out 0
     have hfz32_1 := zK BK459.out 1
     have hfz32_2 := zK BK459.out 2
     obtain ⟨Ao33, co33, eo33⟩ := Kd.R_slice HO475.out
     subst eo33
     try go_wp2_with (first | ((with_reducible refine zM (f := 134) rfl ?_); refine goesL_ (some 28) rfl rfl Try.func134 (by kernel_rfl) rfl #[.slice Ao33 t473.length co33] rfl (by (try simp only [yK, yL, yM]); first | done | rfl | (simp only [yJ, yI]; rfl)) ?_; (with_reducible refine (impl_Puncture.calls kj2 _ _ t473 t476 _ ?side1 ?side2 A20.out).mono ?_); (case side1 => repeat (first | exact (zX HO475.out).2.2 | (with_reducible refine zR ?_ _) | (with_reducible refine zT ?_ _) | (with_reducible refine zS ?_))); (case side2 => exact (zX HO475.out).2.1); rintro e w34 ⟨v477, rfl, ho0, hb⟩; refine ⟨_, rfl, ?_⟩; have n0_ := zO (zY (by (with_reducible repeat (first | apply zU | apply zW | apply zV)); exact HO466.out) hb); have n1_ := zO (Kd.R_elder' (by (with_reducible repeat (first | apply zU | apply zW | apply zV)); exact HO469.out) (Kd.R_base ho0) hb); have n2_ := zO (Kd.R_elder' (by (with_reducible repeat (first | apply zU | apply zW | apply zV)); exact HO472.out) (Kd.R_base ho0) hb); have n3_ := zO (Kd.R_elder' (by (with_reducible repeat (first | apply zU | apply zW | apply zV)); exact HO475.out) (Kd.R_base ho0) hb); have n4_ := zO (yA (Kd.R_new' (Kd.R_new' (Kd.R_new' ho0 (Kd.R_lt (by (with_reducible repeat (first | apply zU | apply zW | apply zV)); exact HO469.out))) (Kd.R_lt (by (with_reducible repeat (first | apply zU | apply zW | apply zV)); exact HO472.out))) (Kd.R_lt (by (with_reducible repeat (first | apply zU | apply zW | apply zV)); exact HO475.out))) (zD (by repeat (first | (with_reducible first | exact HB.out | apply zA | apply zL | apply zB | refine zC ?_ GE459.out) | exact HB.out)))); have n5_ := zO (zG (g := gb459) (o := .cells #[.int .i64 a0_0, .int .i64 a0_1, .int .i64 a0_2] 24 (0, 0)) (by (with_reducible repeat (first | refine zJ ?_ _ | refine zI ?_ | refine zF ?_ _)); exact BK459.out) hb); have n6_ := zO (zE (by repeat (first | (with_reducible first | exact HB.out | apply zA | apply zL | apply zB | refine zC ?_ GE459.out) | exact HB.out)) hb); clear HO466; clear HO469; clear HO472; clear HO475; clear BK459; clear HB; have HO466 := n0_; have HO469 := n1_; have HO472 := n2_; have HO475 := n3_; have HO478 := n4_; have BK459 := n5_; have HB := n6_; clear n0_ n1_ n2_ n3_ n4_ n5_ n6_; (try clear hb); (try clear hb2); (try clear hk); (try clear hi); (try clear ho0); have hcz35_0 : w34.cell? ⟨gb459, 0, none⟩ = some (.int .i64 a0_0) := (zH BK459.out 0).trans rfl; have hcz35_1 : w34.cell? ⟨gb459, 1, none⟩ = some (.int .i64 a0_1) := (zH BK459.out 1).trans rfl; have hcz35_2 : w34.cell? ⟨gb459, 2, none⟩ = some (.int .i64 a0_2) := (zH BK459.out 2).trans rfl; have hfz35_0 := zK BK459.out 0; have hfz35_1 := zK BK459.out 1; have hfz35_2 := zK BK459.out 2) | ((with_reducible refine zM (f := 135) rfl ?_); refine goesL_ (some 30) rfl rfl Try.func135 (by kernel_rfl) rfl #[.agg #[.int .i64 a0_0, .int .i64 a0_1, .int .i64 a0_2]] rfl (by (try simp only [yK, yL, yM]); first | done | rfl | (simp only [yJ, yI]; rfl)) ?_; (with_reducible refine (impl_EncodeHeader.calls kj2 a0_0 a0_1 a0_2 t479 _ A21.out).mono ?_); rintro e w36 ⟨v480, rfl, ho0, hb⟩; refine ⟨_, rfl, ?_⟩; have n0_ := zO (zY (by (with_reducible repeat (first | apply zU | apply zW | apply zV)); exact HO466.out) hb); have n1_ := zO (Kd.R_elder' (by (with_reducible repeat (first | apply zU | apply zW | apply zV)); exact HO469.out) (Kd.R_base ho0) hb); have n2_ := zO (Kd.R_elder' (by (with_reducible repeat (first | apply zU | apply zW | apply zV)); exact HO472.out) (Kd.R_base ho0) hb); have n3_ := zO (Kd.R_elder' (by (with_reducible repeat (first | apply zU | apply zW | apply zV)); exact HO475.out) (Kd.R_base ho0) hb); have n4_ := zO (Kd.R_elder' (by (with_reducible repeat (first | apply zU | apply zW | apply zV)); exact HO478.out) (Kd.R_base ho0) hb); have n5_ := zO (yA (Kd.R_new' (Kd.R_new' (Kd.R_new' (Kd.R_new' ho0 (Kd.R_lt (by (with_reducible repeat (first | apply zU | apply zW | apply zV)); exact HO469.out))) (Kd.R_lt (by (with_reducible repeat (first | apply zU | apply zW | apply zV)); exact HO472.out))) (Kd.R_lt (by (with_reducible repeat (first | apply zU | apply zW | apply zV)); exact HO475.out))) (Kd.R_lt (by (with_reducible repeat (first | apply zU | apply zW | apply zV)); exact HO478.out))) (zD (by repeat (first | (with_reducible first | exact HB.out | apply zA | apply zL | apply zB | refine zC ?_ GE459.out) | exact HB.out)))); have n6_ := zO (zG (g := gb459) (o := .cells #[.int .i64 a0_0, .int .i64 a0_1, .int .i64 a0_2] 24 (0, 0)) (by (with_reducible repeat (first | refine zJ ?_ _ | refine zI ?_ | refine zF ?_ _)); exact BK459.out) hb); have n7_ := zO (zE (by repeat (first | (with_reducible first | exact HB.out | apply zA | apply zL | apply zB | refine zC ?_ GE459.out) | exact HB.out)) hb); clear HO466; clear HO469; clear HO472; clear HO475; clear HO478; clear BK459; clear HB; have HO466 := n0_; have HO469 := n1_; have HO472 := n2_; have HO475 := n3_; have HO478 := n4_; have HO481 := n5_; have BK459 := n6_; have HB := n7_; clear n0_ n1_ n2_ n3_ n4_ n5_ n6_ n7_; (try clear hb); (try clear hb2); (try clear hk); (try clear hi); (try clear ho0); obtain ⟨Ao37, co37, eo37⟩ := Kd.R_slice HO478.out; subst eo37) | ((with_reducible refine zM (f := 136) rfl ?_); refine goesL_ (some 32) rfl rfl Try.func136 (by kernel_rfl) rfl #[.slice Ao37 t476.length co37, .int .i64 8] rfl (by (try simp only [yK, yL, yM]); first | done | rfl | (simp only [yJ, yI]; rfl)) ?_; (with_reducible refine (impl_Interleave.calls kj2 _ _ t476 8 t482 _ ?side1 ?side2 A22.out).mono ?_); (case side1 => repeat (first | exact (zX HO478.out).2.2 | (with_reducible refine zR ?_ _) | (with_reducible refine zT ?_ _) | (with_reducible refine zS ?_))); (case side2 => exact (zX HO478.out).2.1); rintro e w38 ⟨v483, rfl, ho0, hb⟩; refine ⟨_, rfl, ?_⟩; have n0_ := zO (zY (by (with_reducible repeat (first | apply zU | apply zW | apply zV)); exact HO466.out) hb); have n1_ := zO (Kd.R_elder' (by (with_reducible repeat (first | apply zU | apply zW | apply zV)); exact HO469.out) (Kd.R_base ho0) hb); have n2_ := zO (Kd.R_elder' (by (with_reducible repeat (first | apply zU | apply zW | apply zV)); exact HO472.out) (Kd.R_base ho0) hb); have n3_ := zO (Kd.R_elder' (by (with_reducible repeat (first | apply zU | apply zW | apply zV)); exact HO475.out) (Kd.R_base ho0) hb); have n4_ := zO (Kd.R_elder' (by (with_reducible repeat (first | apply zU | apply zW | apply zV)); exact HO478.out) (Kd.R_base ho0) hb); have n5_ := zO (Kd.R_elder' (by (with_reducible repeat (first | apply zU | apply zW | apply zV)); exact HO481.out) (Kd.R_base ho0) hb); have n6_ := zO (yA (Kd.R_new' (Kd.R_new' (Kd.R_new' (Kd.R_new' (Kd.R_new' ho0 (Kd.R_lt (by (with_reducible repeat (first | apply zU | apply zW | apply zV)); exact HO469.out))) (Kd.R_lt (by (with_reducible repeat (first | apply zU | apply zW | apply zV)); exact HO472.out))) (Kd.R_lt (by (with_reducible repeat (first | apply zU | apply zW | apply zV)); exact HO475.out))) (Kd.R_lt (by (with_reducible repeat (first | apply zU | apply zW | apply zV)); exact HO478.out))) (Kd.R_lt (by (with_reducible repeat (first | apply zU | apply zW | apply zV)); exact HO481.out))) (zD (by repeat (first | (with_reducible first | exact HB.out | apply zA | apply zL | apply zB | refine zC ?_ GE459.out) | exact HB.out)))); have n7_ := zO (zG (g := gb459) (o := .cells #[.int .i64 a0_0, .int .i64 a0_1, .int .i64 a0_2] 24 (0, 0)) (by (with_reducible repeat (first | refine zJ ?_ _ | refine zI ?_ | refine zF ?_ _)); exact BK459.out) hb); have n8_ := zO (zE (by repeat (first | (with_reducible first | exact HB.out | apply zA | apply zL | apply zB | refine zC ?_ GE459.out) | exact HB.out)) hb); clear HO466; clear HO469; clear HO472; clear HO475; clear HO478; clear HO481; clear BK459; clear HB; have HO466 := n0_; have HO469 := n1_; have HO472 := n2_; have HO475 := n3_; have HO478 := n4_; have HO481 := n5_; have HO484 := n6_; have BK459 := n7_; have HB := n8_; clear n0_ n1_ n2_ n3_ n4_ n5_ n6_ n7_ n8_; (try clear hb); (try clear hb2); (try clear hk); (try clear hi); (try clear ho0); obtain ⟨Ao40, co40, eo40⟩ := Kd.R_slice HO484.out; subst eo40) | ((with_reducible refine gate_builtin (b := .append) (xs := #[.tmp 30, .tmp 32]) rfl ?_); (try (refine gate_guard (by rfl) ?_; dsimp only)); at_builtin; refine Kd.R_append_rows (Kd.int .i64) (w0 := w) w.heap.size rfl (.tmp 30) (.tmp 32) 22 3 (.int .i64 0) 8 rfl Try.underlying22 info3 rfl (by decide) (by omega) v480 t479 t482 _ _ _ (fun k_ => some k_ ≠ (.slice Ao28 t467.length co28 : Value).ownBlock ∧ some k_ ≠ (.slice Ao30 t470.length co30 : Value).ownBlock ∧ some k_ ≠ (.slice Ao33 t473.length co33 : Value).ownBlock ∧ some k_ ≠ (.slice Ao37 t476.length co37 : Value).ownBlock ∧ some k_ ≠ (.slice Ao40 t482.length co40 : Value).ownBlock) (fun _ => False) rfl rfl ?aO ?aR (fun _ _ h => h) (fun _ h => h.elim) ?aF ?aB ?aS ?aL ?_; (case aR => repeat (first | exact (zX HO484.out).2.2 | (with_reducible refine zR ?_ _) | (with_reducible refine zT ?_ _) | (with_reducible refine zS ?_))); (case aB => exact (by repeat (first | (with_reducible first | exact HB.out | apply zA | apply zL | apply zB | refine zC ?_ GE459.out) | exact HB.out))); (case aF => exact (fun k_ hk => ⟨Kd.fresh' (Kd.R_lt (by (with_reducible repeat (first | apply zU | apply zW | apply zV)); exact HO469.out)) k_ hk, Kd.fresh' (Kd.R_lt (by (with_reducible repeat (first | apply zU | apply zW | apply zV)); exact HO472.out)) k_ hk, Kd.fresh' (Kd.R_lt (by (with_reducible repeat (first | apply zU | apply zW | apply zV)); exact HO475.out)) k_ hk, Kd.fresh' (Kd.R_lt (by (with_reducible repeat (first | apply zU | apply zW | apply zV)); exact HO478.out)) k_ hk, Kd.fresh' (Kd.R_lt (by (with_reducible repeat (first | apply zU | apply zW | apply zV)); exact HO484.out)) k_ hk⟩)); (case aO => exact (by (with_reducible repeat (first | apply zU | apply zW | apply zV)); exact Kd.R_mono HO481.out (fun _ hk => ⟨hk.1.1.1.1.2, ⟨hk.1.1.1.2, ⟨hk.1.1.2, ⟨hk.1.2, hk.2⟩⟩⟩⟩))); (case aS => exact (zD (by repeat (first | (with_reducible first | exact HB.out | apply zA | apply zL | apply zB | refine zC ?_ GE459.out) | exact HB.out)))); (case aL => have := LMc23.out; omega); intro v486 w39 ho hb hg hat; rw [← Ny485.out] at ho; have n0_ := zO (blk_grown (g := gb459) (o := .cells #[.int .i64 a0_0, .int .i64 a0_1, .int .i64 a0_2] 24 (0, 0)) (by (with_reducible repeat (first | refine zJ ?_ _ | refine zI ?_ | refine zF ?_ _)); exact BK459.out) hg (Kd.R_ne HO481.out BK459.out (by decide))); have n1_ := zO (Kd.R_over' (by (with_reducible repeat (first | apply zU | apply zW | apply zV)); exact HO466.out) (Kd.R_typed (by (with_reducible repeat (first | apply zU | apply zW | apply zV)); exact HO481.out)) (by decide) hg); have n2_ := zO (Kd.R_after (ok := (fun k_ => some k_ ≠ (.slice Ao30 t470.length co30 : Value).ownBlock ∧ some k_ ≠ (.slice Ao33 t473.length co33 : Value).ownBlock ∧ some k_ ≠ (.slice Ao37 t476.length co37 : Value).ownBlock ∧ some k_ ≠ (.slice Ao40 t482.length co40 : Value).ownBlock)) (by (with_reducible repeat (first | apply zU | apply zW | apply zV)); exact Kd.R_mono HO469.out (fun _ hk => ⟨⟨hk.1.1.1.1.2, ⟨hk.1.1.1.2, ⟨hk.1.1.2, hk.2⟩⟩⟩, hk.1.2⟩)) hg hat); have n3_ := zO (Kd.R_after (ok := (fun k_ => some k_ ≠ (.slice Ao28 t467.length co28 : Value).ownBlock ∧ some k_ ≠ (.slice Ao33 t473.length co33 : Value).ownBlock ∧ some k_ ≠ (.slice Ao37 t476.length co37 : Value).ownBlock ∧ some k_ ≠ (.slice Ao40 t482.length co40 : Value).ownBlock)) (by (with_reducible repeat (first | apply zU | apply zW | apply zV)); exact Kd.R_mono HO472.out (fun _ hk => ⟨⟨hk.1.1.1.1.2, ⟨hk.1.1.1.2, ⟨hk.1.1.2, hk.2⟩⟩⟩, hk.1.2⟩)) hg hat); have n4_ := zO (Kd.R_after (ok := (fun k_ => some k_ ≠ (.slice Ao28 t467.length co28 : Value).ownBlock ∧ some k_ ≠ (.slice Ao30 t470.length co30 : Value).ownBlock ∧ some k_ ≠ (.slice Ao37 t476.length co37 : Value).ownBlock ∧ some k_ ≠ (.slice Ao40 t482.length co40 : Value).ownBlock)) (by (with_reducible repeat (first | apply zU | apply zW | apply zV)); exact Kd.R_mono HO475.out (fun _ hk => ⟨⟨hk.1.1.1.1.2, ⟨hk.1.1.1.2, ⟨hk.1.1.2, hk.2⟩⟩⟩, hk.1.2⟩)) hg hat); have n5_ := zO (Kd.R_after (ok := (fun k_ => some k_ ≠ (.slice Ao28 t467.length co28 : Value).ownBlock ∧ some k_ ≠ (.slice Ao30 t470.length co30 : Value).ownBlock ∧ some k_ ≠ (.slice Ao33 t473.length co33 : Value).ownBlock ∧ some k_ ≠ (.slice Ao40 t482.length co40 : Value).ownBlock)) (by (with_reducible repeat (first | apply zU | apply zW | apply zV)); exact Kd.R_mono HO478.out (fun _ hk => ⟨⟨hk.1.1.1.1.2, ⟨hk.1.1.1.2, ⟨hk.1.1.2, hk.2⟩⟩⟩, hk.1.2⟩)) hg hat); have n6_ := zO (Kd.R_after (ok := (fun k_ => some k_ ≠ (.slice Ao28 t467.length co28 : Value).ownBlock ∧ some k_ ≠ (.slice Ao30 t470.length co30 : Value).ownBlock ∧ some k_ ≠ (.slice Ao33 t473.length co33 : Value).ownBlock ∧ some k_ ≠ (.slice Ao37 t476.length co37 : Value).ownBlock)) (by (with_reducible repeat (first | apply zU | apply zW | apply zV)); exact Kd.R_mono HO484.out (fun _ hk => ⟨⟨hk.1.1.1.1.2, ⟨hk.1.1.1.2, ⟨hk.1.1.2, hk.1.2⟩⟩⟩, hk.2⟩)) hg hat); have n7_ := zO (hb); have n8_ := zO (ho); clear BK459; clear HO466; clear HO469; clear HO472; clear HO475; clear HO478; clear HO484; clear HB; clear HO481; have BK459 := n0_; have HO466 := n1_; have HO469 := n2_; have HO472 := n3_; have HO475 := n4_; have HO478 := n5_; have HO484 := n6_; have HB := n7_; have HO487 := n8_; clear n0_ n1_ n2_ n3_ n4_ n5_ n6_ n7_ n8_; clear ho hb hg hat))
     go_ret
     exact ⟨_, by first | rfl | (simp [errW_none, errW_some] <;> rfl) | (simp [*, errW_none, errW_some] <;> rfl), by (with_reducible repeat (first | apply zU | apply zW | apply zV)); exact Kd.R_mono HO487.out (fun _ hk => trivial), by repeat (first | (with_reducible first | exact HB.out | apply zA | apply zL | apply zB | refine zC ?_ GE459.out) | exact HB.out)⟩
    ·rw [if_neg c19] at H
     have c19b0 : (a0_0 == 2) = false := beq_eq_false_iff_ne.mpr c19
     have c19b1 : (a0_0 != 2) = true := bne_iff_ne.mpr c19
     replace H := yE.mp H
     obtain ⟨t488, A410, H⟩ := H
     replace H : ((impl_Interleave.f kj2 t473 8).bind fun t491 => (if t488.length + t491.length < 17592186044416 then (some (t488 ++ t491)) else (none))) = some r := H
     have A41 := zO A410
     clear A410
     replace H := yE.mp H
     obtain ⟨t491, A420, H⟩ := H
     replace H : (if t488.length + t491.length < 17592186044416 then (some (t488 ++ t491)) else (none)) = some r := H
     have A42 := zO A420
     clear A420
     by_cases c43 : t488.length + t491.length < 17592186044416
     case neg => rw [if_neg c43] at H; exact absurd H (by simp)
     rw [if_pos c43] at H
     have LMc43 := zO c43
     clear c43
     obtain ⟨y494, hy494⟩ : ∃ y_ : List Int, y_ = (t488 ++ t491) := ⟨_, rfl⟩
     replace H : (some y494) = some r := by first | (rw [hy494]; exact H) | exact H
     have Ny494 := zO hy494
     clear hy494
     obtain rfl := Option.some.inj H
     try go_wp2
     have n0_ := zO (zI BK459.out)
     have n1_ := zO (zB HB.out)
     clear BK459
     clear HB
     have BK459 := n0_
     have HB := n1_
     clear n0_ n1_
     refine start_ (n := 8) (S := fun w' => w'.cell? ⟨gb459, 0, none⟩ = some (.int .i64 a0_0) ∧ w'.cell? ⟨gb459, 1, none⟩ = some (.int .i64 a0_1) ∧ w'.cell? ⟨gb459, 2, none⟩ = some (.int .i64 a0_2)) (ds := []) #[false, false, false, false, false, false, false, false] (by kernel_rfl) rfl rfl ⟨(zH BK459.out 0).trans rfl, (zH BK459.out 1).trans rfl, (zH BK459.out 2).trans rfl⟩ (fun hHeld => ?_); refine with_tabW impl_TransmitFrame.tab3 impl_TransmitFrame.bits3 (fun HT_ HW_ => ?_)
     generalize wc.drew = w44 at BK459 HB hHeld ⊢
     refine pure_ (i := 0) (N := some 17) (v := ?_) (a' := ?_) #[true, false, false, false, false, false, false, false] rfl rfl (any_of HT_.out (by kernel_rfl)) (fun _ _ _ h => h) (Or.inl ⟨by rfl, ?_⟩) ?_ ?_; rotate_left
     ·intro w'; go_simp; with_reducible rfl
     rotate_left
     ·simp only [Act.put, yF, yG, yH, i64_w, i32_w]; rfl
     refine pure_ (i := 2) (N := some 19) (v := ?_) (a' := ?_) #[true, false, true, false, false, false, false, false] rfl rfl (any_of HT_.out (by kernel_rfl)) (fun _ _ _ h => h) (Or.inl ⟨by rfl, ?_⟩) ?_ ?_; rotate_left
     ·intro w'; go_simp; with_reducible rfl
     rotate_left
     ·simp only [Act.put, yF, yG, yH, i64_w, i32_w]; rfl
     refine take_ (i := 1) (N := some 18) (v := ?_) (a' := ?_) #[true, true, true, false, false, false, false, false] rfl rfl (take_ofW HT_.out HW_.out (by kernel_rfl)) (fun _ _ _ h => h) (Or.inl ⟨by rfl, ?_⟩) hHeld ?_ ?_; rotate_left
     ·rintro w' ⟨s0, s1, s2⟩; go_simp; with_reducible rfl
     rotate_left
     ·simp only [Act.put, yF, yG, yH, i64_w, i32_w]; rfl
     refine one_ (i := 3) (N := some 20) #[true, true, true, true, false, false, false, false] rfl rfl (one_of HT_.out (by kernel_rfl)) (by decide) (fun K hK => ?_)
     refine goes_ Try.func94 (by kernel_rfl) rfl #[.slice A1 l1.length c1] (by rfl) rfl rfl (by (try simp only [yK, yL, yM]); first | done | rfl | (simp only [yJ, yI]; rfl)) ?_
     with_reducible refine (impl_AppendCrc.calls kj2 _ _ l1 t464 _ ?side1 ?side2 A15.out).mono ?_
     (case side1 => repeat (first | exact (Kd.C_below HR1.out HB.out) | (with_reducible refine zR ?_ _) | (with_reducible refine zT ?_ _) | (with_reducible refine zS ?_)))
     (case side2 => exact HC1.out)
     rintro e w45 ⟨v465, rfl, ho0, hb⟩
     refine ⟨_, rfl, ?_⟩
     have n0_ := zO (yA ho0 (zD (by repeat (first | (with_reducible first | exact HB.out | apply zA | apply zL | apply zB | refine zC ?_ GE459.out) | exact HB.out))))
     have n1_ := zO (zG (g := gb459) (o := .cells #[.int .i64 a0_0, .int .i64 a0_1, .int .i64 a0_2] 24 (0, 0)) (by (with_reducible repeat (first | refine zJ ?_ _ | refine zI ?_ | refine zF ?_ _)); exact BK459.out) hb)
     have n2_ := zO (zE (by repeat (first | (with_reducible first | exact HB.out | apply zA | apply zL | apply zB | refine zC ?_ GE459.out) | exact HB.out)) hb)
     clear BK459
     clear HB
     have HO466 := n0_
     have BK459 := n1_
     have HB := n2_
     clear n0_ n1_ n2_
     (try clear hb)
     (try clear hb2)
     (try clear hk)
     (try clear hi)
     (try clear ho0)
     obtain ⟨Ao46, co46, eo46⟩ := Kd.R_slice HO466.out
     (first | subst eo46 | (injection eo46 with f1_ f2_ f3_; have f4_ := f1_.symm; have f5_ := f3_.symm; clear f1_ f2_ f3_; subst f4_; subst f5_))
     refine hK.out _ _ ⟨(zH BK459.out 0).trans rfl, (zH BK459.out 1).trans rfl, (zH BK459.out 2).trans rfl⟩ (fun hHeld => ?_)
     clear hK K
     refine norm_ (a' := ?_) ?_ ?_; rotate_left
     ·show Act.put _ (some 20) _ = _; simp only [Act.put, yF, yG, yH, i64_w, i32_w]; rfl
     refine one_ (i := 4) (N := some 21) #[true, true, true, true, true, false, false, false] rfl rfl (one_of HT_.out (by kernel_rfl)) (by decide) (fun K hK => ?_)
     refine goes_ Try.func133 (by kernel_rfl) rfl #[.slice Ao46 t464.length co46] (by rfl) rfl rfl (by (try simp only [yK, yL, yM]); first | done | rfl | (simp only [yJ, yI]; rfl)) ?_
     with_reducible refine (impl_BytesToBits.calls kj2 _ _ t464 t467 _ ?side1 ?side2 A16.out).mono ?_
     (case side1 => repeat (first | exact (zX HO466.out).2.2 | (with_reducible refine zR ?_ _) | (with_reducible refine zT ?_ _) | (with_reducible refine zS ?_)))
     (case side2 => exact (zX HO466.out).2.1)
     rintro e w47 ⟨v468, rfl, ho0, hb⟩
     refine ⟨_, rfl, ?_⟩
     have n0_ := zO (zY (by (with_reducible repeat (first | apply zU | apply zW | apply zV)); exact HO466.out) hb)
     have n1_ := zO (yA ho0 (zD (by repeat (first | (with_reducible first | exact HB.out | apply zA | apply zL | apply zB | refine zC ?_ GE459.out) | exact HB.out))))
     have n2_ := zO (zG (g := gb459) (o := .cells #[.int .i64 a0_0, .int .i64 a0_1, .int .i64 a0_2] 24 (0, 0)) (by (with_reducible repeat (first | refine zJ ?_ _ | refine zI ?_ | refine zF ?_ _)); exact BK459.out) hb)
     have n3_ := zO (zE (by repeat (first | (with_reducible first | exact HB.out | apply zA | apply zL | apply zB | refine zC ?_ GE459.out) | exact HB.out)) hb)
     clear HO466
     clear BK459
     clear HB
     have HO466 := n0_
     have HO469 := n1_
     have BK459 := n2_
     have HB := n3_
     clear n0_ n1_ n2_ n3_
     (try clear hb)
     (try clear hb2)
     (try clear hk)
     (try clear hi)
     (try clear ho0)
     obtain ⟨Ao48, co48, eo48⟩ := Kd.R_slice HO469.out
     (first | subst eo48 | (injection eo48 with f1_ f2_ f3_; have f4_ := f1_.symm; have f5_ := f3_.symm; clear f1_ f2_ f3_; subst f4_; subst f5_))
     refine hK.out _ _ ⟨(zH BK459.out 0).trans rfl, (zH BK459.out 1).trans rfl, (zH BK459.out 2).trans rfl⟩ (fun hHeld => ?_)
     clear hK K
     refine norm_ (a' := ?_) ?_ ?_; rotate_left
     ·show Act.put _ (some 21) _ = _; simp only [Act.put, yF, yG, yH, i64_w, i32_w]; rfl
     refine one_ (i := 5) (N := some 22) #[true, true, true, true, true, true, false, false] rfl rfl (one_of HT_.out (by kernel_rfl)) (by decide) (fun K hK => ?_)
     refine goes_ Try.func130 (by kernel_rfl) rfl #[.int .i64 a0_2, .slice Ao48 t467.length co48] (by rfl) rfl rfl (by (try simp only [yK, yL, yM]); first | done | rfl | (simp only [yJ, yI]; rfl)) ?_
     with_reducible refine (impl_Scramble.calls kj2 a0_2 _ _ t467 t470 _ ?side1 ?side2 A17.out).mono ?_
     (case side1 => repeat (first | exact (zX HO469.out).2.2 | (with_reducible refine zR ?_ _) | (with_reducible refine zT ?_ _) | (with_reducible refine zS ?_)))
     (case side2 => exact (zX HO469.out).2.1)
     rintro e w49 ⟨v471, rfl, ho0, hb⟩
     refine ⟨_, rfl, ?_⟩
     have n0_ := zO (zY (by (with_reducible repeat (first | apply zU | apply zW | apply zV)); exact HO466.out) hb)
     have n1_ := zO (Kd.R_elder' (by (with_reducible repeat (first | apply zU | apply zW | apply zV)); exact HO469.out) (Kd.R_base ho0) hb)
     have n2_ := zO (yA (Kd.R_new' ho0 (Kd.R_lt (by (with_reducible repeat (first | apply zU | apply zW | apply zV)); exact HO469.out))) (zD (by repeat (first | (with_reducible first | exact HB.out | apply zA | apply zL | apply zB | refine zC ?_ GE459.out) | exact HB.out))))
     have n3_ := zO (zG (g := gb459) (o := .cells #[.int .i64 a0_0, .int .i64 a0_1, .int .i64 a0_2] 24 (0, 0)) (by (with_reducible repeat (first | refine zJ ?_ _ | refine zI ?_ | refine zF ?_ _)); exact BK459.out) hb)
     have n4_ := zO (zE (by repeat (first | (with_reducible first | exact HB.out | apply zA | apply zL | apply zB | refine zC ?_ GE459.out) | exact HB.out)) hb)
     clear HO466
     clear HO469
     clear BK459
     clear HB
     have HO466 := n0_
     have HO469 := n1_
     have HO472 := n2_
     have BK459 := n3_
     have HB := n4_
     clear n0_ n1_ n2_ n3_ n4_
     (try clear hb)
     (try clear hb2)
     (try clear hk)
     (try clear hi)
     (try clear ho0)
     obtain ⟨Ao50, co50, eo50⟩ := Kd.R_slice HO472.out
     (first | subst eo50 | (injection eo50 with f1_ f2_ f3_; have f4_ := f1_.symm; have f5_ := f3_.symm; clear f1_ f2_ f3_; subst f4_; subst f5_))
     refine hK.out _ _ ⟨(zH BK459.out 0).trans rfl, (zH BK459.out 1).trans rfl, (zH BK459.out 2).trans rfl⟩ (fun hHeld => ?_)
     clear hK K
     refine norm_ (a' := ?_) ?_ ?_; rotate_left
     ·show Act.put _ (some 22) _ = _; simp only [Act.put, yF, yG, yH, i64_w, i32_w]; rfl
     refine one_ (i := 6) (N := some 23) #[true, true, true, true, true, true, true, false] rfl rfl (one_of HT_.out (by kernel_rfl)) (by decide) (fun K hK => ?_)
     refine goes_ Try.func118 (by kernel_rfl) rfl #[.slice Ao50 t470.length co50] (by rfl) rfl rfl (by (try simp only [yK, yL, yM]); first | done | rfl | (simp only [yJ, yI]; rfl)) ?_
     with_reducible refine (impl_ConvolutionalEncode.calls kj2 _ _ t470 t473 _ ?side1 ?side2 A18.out).mono ?_
     (case side1 => repeat (first | exact (zX HO472.out).2.2 | (with_reducible refine zR ?_ _) | (with_reducible refine zT ?_ _) | (with_reducible refine zS ?_)))
     (case side2 => exact (zX HO472.out).2.1)
     rintro e w51 ⟨v474, rfl, ho0, hb⟩
     refine ⟨_, rfl, ?_⟩
     have n0_ := zO (zY (by (with_reducible repeat (first | apply zU | apply zW | apply zV)); exact HO466.out) hb)
     have n1_ := zO (Kd.R_elder' (by (with_reducible repeat (first | apply zU | apply zW | apply zV)); exact HO469.out) (Kd.R_base ho0) hb)
     have n2_ := zO (Kd.R_elder' (by (with_reducible repeat (first | apply zU | apply zW | apply zV)); exact HO472.out) (Kd.R_base ho0) hb)
     have n3_ := zO (yA (Kd.R_new' (Kd.R_new' ho0 (Kd.R_lt (by (with_reducible repeat (first | apply zU | apply zW | apply zV)); exact HO469.out))) (Kd.R_lt (by (with_reducible repeat (first | apply zU | apply zW | apply zV)); exact HO472.out))) (zD (by repeat (first | (with_reducible first | exact HB.out | apply zA | apply zL | apply zB | refine zC ?_ GE459.out) | exact HB.out))))
     have n4_ := zO (zG (g := gb459) (o := .cells #[.int .i64 a0_0, .int .i64 a0_1, .int .i64 a0_2] 24 (0, 0)) (by (with_reducible repeat (first | refine zJ ?_ _ | refine zI ?_ | refine zF ?_ _)); exact BK459.out) hb)
     have n5_ := zO (zE (by repeat (first | (with_reducible first | exact HB.out | apply zA | apply zL | apply zB | refine zC ?_ GE459.out) | exact HB.out)) hb)
     clear HO466
     clear HO469
     clear HO472
     clear BK459
     clear HB
     have HO466 := n0_
     have HO469 := n1_
     have HO472 := n2_
     have HO475 := n3_
     have BK459 := n4_
     have HB := n5_
     clear n0_ n1_ n2_ n3_ n4_ n5_
     (try clear hb)
     (try clear hb2)
     (try clear hk)
     (try clear hi)
     (try clear ho0)
     refine hK.out _ _ ⟨(zH BK459.out 0).trans rfl, (zH BK459.out 1).trans rfl, (zH BK459.out 2).trans rfl⟩ (fun hHeld => ?_)
     clear hK K
     refine norm_ (a' := ?_) ?_ ?_; rotate_left
     ·show Act.put _ (some 23) _ = _; simp only [Act.put, yF, yG, yH, i64_w, i32_w]; rfl
     refine pure_ (i := 7) (N := some 5) (v := ?_) (a' := ?_) #[true, true, true, true, true, true, true, true] rfl rfl (any_of HT_.out (by kernel_rfl)) (fun _ _ _ h => h) (Or.inl ⟨by rfl, ?_⟩) ?_ ?_; rotate_left
     ·intro w'; go_simp; with_reducible rfl
     rotate_left
     ·simp only [Act.put, yF, yG, yH, i64_w, i32_w]; rfl
     refine done_ (done_of HT_.out (by kernel_rfl)) ?_
     have hcz52_0 : w51.cell? ⟨gb459, 0, none⟩ = some (.int .i64 a0_0) := (zH BK459.out 0).trans rfl
     have hcz52_1 : w51.cell? ⟨gb459, 1, none⟩ = some (.int .i64 a0_1) := (zH BK459.out 1).trans rfl
     have hcz52_2 : w51.cell? ⟨gb459, 2, none⟩ = some (.int .i64 a0_2) := (zH BK459.out 2).trans rfl
     have hfz52_0 := zK BK459.out 0
     have hfz52_1 := zK BK459.out 1
     have hfz52_2 := zK BK459.out 2
     try go_wp2_with (first | ((with_reducible refine zM (f := 135) rfl ?_); refine goesL_ (some 30) rfl rfl Try.func135 (by kernel_rfl) rfl #[.agg #[.int .i64 a0_0, .int .i64 a0_1, .int .i64 a0_2]] rfl (by (try simp only [yK, yL, yM]); first | done | rfl | (simp only [yJ, yI]; rfl)) ?_; (with_reducible refine (impl_EncodeHeader.calls kj2 a0_0 a0_1 a0_2 t488 _ A41.out).mono ?_); rintro e w53 ⟨v489, rfl, ho0, hb⟩; refine ⟨_, rfl, ?_⟩; have n0_ := zO (zY (by (with_reducible repeat (first | apply zU | apply zW | apply zV)); exact HO466.out) hb); have n1_ := zO (Kd.R_elder' (by (with_reducible repeat (first | apply zU | apply zW | apply zV)); exact HO469.out) (Kd.R_base ho0) hb); have n2_ := zO (Kd.R_elder' (by (with_reducible repeat (first | apply zU | apply zW | apply zV)); exact HO472.out) (Kd.R_base ho0) hb); have n3_ := zO (Kd.R_elder' (by (with_reducible repeat (first | apply zU | apply zW | apply zV)); exact HO475.out) (Kd.R_base ho0) hb); have n4_ := zO (yA (Kd.R_new' (Kd.R_new' (Kd.R_new' ho0 (Kd.R_lt (by (with_reducible repeat (first | apply zU | apply zW | apply zV)); exact HO469.out))) (Kd.R_lt (by (with_reducible repeat (first | apply zU | apply zW | apply zV)); exact HO472.out))) (Kd.R_lt (by (with_reducible repeat (first | apply zU | apply zW | apply zV)); exact HO475.out))) (zD (by repeat (first | (with_reducible first | exact HB.out | apply zA | apply zL | apply zB | refine zC ?_ GE459.out) | exact HB.out)))); have n5_ := zO (zG (g := gb459) (o := .cells #[.int .i64 a0_0, .int .i64 a0_1, .int .i64 a0_2] 24 (0, 0)) (by (with_reducible repeat (first | refine zJ ?_ _ | refine zI ?_ | refine zF ?_ _)); exact BK459.out) hb); have n6_ := zO (zE (by repeat (first | (with_reducible first | exact HB.out | apply zA | apply zL | apply zB | refine zC ?_ GE459.out) | exact HB.out)) hb); clear HO466; clear HO469; clear HO472; clear HO475; clear BK459; clear HB; have HO466 := n0_; have HO469 := n1_; have HO472 := n2_; have HO475 := n3_; have HO490 := n4_; have BK459 := n5_; have HB := n6_; clear n0_ n1_ n2_ n3_ n4_ n5_ n6_; (try clear hb); (try clear hb2); (try clear hk); (try clear hi); (try clear ho0); obtain ⟨Ao54, co54, eo54⟩ := Kd.R_slice HO475.out; subst eo54) | ((with_reducible refine zM (f := 136) rfl ?_); refine goesL_ (some 32) rfl rfl Try.func136 (by kernel_rfl) rfl #[.slice Ao54 t473.length co54, .int .i64 8] rfl (by (try simp only [yK, yL, yM]); first | done | rfl | (simp only [yJ, yI]; rfl)) ?_; (with_reducible refine (impl_Interleave.calls kj2 _ _ t473 8 t491 _ ?side1 ?side2 A42.out).mono ?_); (case side1 => repeat (first | exact (zX HO475.out).2.2 | (with_reducible refine zR ?_ _) | (with_reducible refine zT ?_ _) | (with_reducible refine zS ?_))); (case side2 => exact (zX HO475.out).2.1); rintro e w55 ⟨v492, rfl, ho0, hb⟩; refine ⟨_, rfl, ?_⟩; have n0_ := zO (zY (by (with_reducible repeat (first | apply zU | apply zW | apply zV)); exact HO466.out) hb); have n1_ := zO (Kd.R_elder' (by (with_reducible repeat (first | apply zU | apply zW | apply zV)); exact HO469.out) (Kd.R_base ho0) hb); have n2_ := zO (Kd.R_elder' (by (with_reducible repeat (first | apply zU | apply zW | apply zV)); exact HO472.out) (Kd.R_base ho0) hb); have n3_ := zO (Kd.R_elder' (by (with_reducible repeat (first | apply zU | apply zW | apply zV)); exact HO475.out) (Kd.R_base ho0) hb); have n4_ := zO (Kd.R_elder' (by (with_reducible repeat (first | apply zU | apply zW | apply zV)); exact HO490.out) (Kd.R_base ho0) hb); have n5_ := zO (yA (Kd.R_new' (Kd.R_new' (Kd.R_new' (Kd.R_new' ho0 (Kd.R_lt (by (with_reducible repeat (first | apply zU | apply zW | apply zV)); exact HO469.out))) (Kd.R_lt (by (with_reducible repeat (first | apply zU | apply zW | apply zV)); exact HO472.out))) (Kd.R_lt (by (with_reducible repeat (first | apply zU | apply zW | apply zV)); exact HO475.out))) (Kd.R_lt (by (with_reducible repeat (first | apply zU | apply zW | apply zV)); exact HO490.out))) (zD (by repeat (first | (with_reducible first | exact HB.out | apply zA | apply zL | apply zB | refine zC ?_ GE459.out) | exact HB.out)))); have n6_ := zO (zG (g := gb459) (o := .cells #[.int .i64 a0_0, .int .i64 a0_1, .int .i64 a0_2] 24 (0, 0)) (by (with_reducible repeat (first | refine zJ ?_ _ | refine zI ?_ | refine zF ?_ _)); exact BK459.out) hb); have n7_ := zO (zE (by repeat (first | (with_reducible first | exact HB.out | apply zA | apply zL | apply zB | refine zC ?_ GE459.out) | exact HB.out)) hb); clear HO466; clear HO469; clear HO472; clear HO475; clear HO490; clear BK459; clear HB; have HO466 := n0_; have HO469 := n1_; have HO472 := n2_; have HO475 := n3_; have HO490 := n4_; have HO493 := n5_; have BK459 := n6_; have HB := n7_; clear n0_ n1_ n2_ n3_ n4_ n5_ n6_ n7_; (try clear hb); (try clear hb2); (try clear hk); (try clear hi); (try clear ho0); obtain ⟨Ao57, co57, eo57⟩ := Kd.R_slice HO493.out; subst eo57) | ((with_reducible refine gate_builtin (b := .append) (xs := #[.tmp 30, .tmp 32]) rfl ?_); (try (refine gate_guard (by rfl) ?_; dsimp only)); at_builtin; refine Kd.R_append_rows (Kd.int .i64) (w0 := w) w.heap.size rfl (.tmp 30) (.tmp 32) 22 3 (.int .i64 0) 8 rfl Try.underlying22 info3 rfl (by decide) (by omega) v489 t488 t491 _ _ _ (fun k_ => some k_ ≠ (.slice Ao48 t467.length co48 : Value).ownBlock ∧ some k_ ≠ (.slice Ao50 t470.length co50 : Value).ownBlock ∧ some k_ ≠ (.slice Ao54 t473.length co54 : Value).ownBlock ∧ some k_ ≠ (.slice Ao57 t491.length co57 : Value).ownBlock) (fun _ => False) rfl rfl ?aO ?aR (fun _ _ h => h) (fun _ h => h.elim) ?aF ?aB ?aS ?aL ?_; (case aR => repeat (first | exact (zX HO493.out).2.2 | (with_reducible refine zR ?_ _) | (with_reducible refine zT ?_ _) | (with_reducible refine zS ?_))); (case aB => exact (by repeat (first | (with_reducible first | exact HB.out | apply zA | apply zL | apply zB | refine zC ?_ GE459.out) | exact HB.out))); (case aF => exact (fun k_ hk => ⟨Kd.fresh' (Kd.R_lt (by (with_reducible repeat (first | apply zU | apply zW | apply zV)); exact HO469.out)) k_ hk, Kd.fresh' (Kd.R_lt (by (with_reducible repeat (first | apply zU | apply zW | apply zV)); exact HO472.out)) k_ hk, Kd.fresh' (Kd.R_lt (by (with_reducible repeat (first | apply zU | apply zW | apply zV)); exact HO475.out)) k_ hk, Kd.fresh' (Kd.R_lt (by (with_reducible repeat (first | apply zU | apply zW | apply zV)); exact HO493.out)) k_ hk⟩)); (case aO => exact (by (with_reducible repeat (first | apply zU | apply zW | apply zV)); exact Kd.R_mono HO490.out (fun _ hk => ⟨hk.1.1.1.2, ⟨hk.1.1.2, ⟨hk.1.2, hk.2⟩⟩⟩))); (case aS => exact (zD (by repeat (first | (with_reducible first | exact HB.out | apply zA | apply zL | apply zB | refine zC ?_ GE459.out) | exact HB.out)))); (case aL => have := LMc43.out; omega); intro v495 w56 ho hb hg hat; rw [← Ny494.out] at ho; have n0_ := zO (blk_grown (g := gb459) (o := .cells #[.int .i64 a0_0, .int .i64 a0_1, .int .i64 a0_2] 24 (0, 0)) (by (with_reducible repeat (first | refine zJ ?_ _ | refine zI ?_ | refine zF ?_ _)); exact BK459.out) hg (Kd.R_ne HO490.out BK459.out (by decide))); have n1_ := zO (Kd.R_over' (by (with_reducible repeat (first | apply zU | apply zW | apply zV)); exact HO466.out) (Kd.R_typed (by (with_reducible repeat (first | apply zU | apply zW | apply zV)); exact HO490.out)) (by decide) hg); have n2_ := zO (Kd.R_after (ok := (fun k_ => some k_ ≠ (.slice Ao50 t470.length co50 : Value).ownBlock ∧ some k_ ≠ (.slice Ao54 t473.length co54 : Value).ownBlock ∧ some k_ ≠ (.slice Ao57 t491.length co57 : Value).ownBlock)) (by (with_reducible repeat (first | apply zU | apply zW | apply zV)); exact Kd.R_mono HO469.out (fun _ hk => ⟨⟨hk.1.1.1.2, ⟨hk.1.1.2, hk.2⟩⟩, hk.1.2⟩)) hg hat); have n3_ := zO (Kd.R_after (ok := (fun k_ => some k_ ≠ (.slice Ao48 t467.length co48 : Value).ownBlock ∧ some k_ ≠ (.slice Ao54 t473.length co54 : Value).ownBlock ∧ some k_ ≠ (.slice Ao57 t491.length co57 : Value).ownBlock)) (by (with_reducible repeat (first | apply zU | apply zW | apply zV)); exact Kd.R_mono HO472.out (fun _ hk => ⟨⟨hk.1.1.1.2, ⟨hk.1.1.2, hk.2⟩⟩, hk.1.2⟩)) hg hat); have n4_ := zO (Kd.R_after (ok := (fun k_ => some k_ ≠ (.slice Ao48 t467.length co48 : Value).ownBlock ∧ some k_ ≠ (.slice Ao50 t470.length co50 : Value).ownBlock ∧ some k_ ≠ (.slice Ao57 t491.length co57 : Value).ownBlock)) (by (with_reducible repeat (first | apply zU | apply zW | apply zV)); exact Kd.R_mono HO475.out (fun _ hk => ⟨⟨hk.1.1.1.2, ⟨hk.1.1.2, hk.2⟩⟩, hk.1.2⟩)) hg hat); have n5_ := zO (Kd.R_after (ok := (fun k_ => some k_ ≠ (.slice Ao48 t467.length co48 : Value).ownBlock ∧ some k_ ≠ (.slice Ao50 t470.length co50 : Value).ownBlock ∧ some k_ ≠ (.slice Ao54 t473.length co54 : Value).ownBlock)) (by (with_reducible repeat (first | apply zU | apply zW | apply zV)); exact Kd.R_mono HO493.out (fun _ hk => ⟨⟨hk.1.1.1.2, ⟨hk.1.1.2, hk.1.2⟩⟩, hk.2⟩)) hg hat); have n6_ := zO (hb); have n7_ := zO (ho); clear BK459; clear HO466; clear HO469; clear HO472; clear HO475; clear HO493; clear HB; clear HO490; have BK459 := n0_; have HO466 := n1_; have HO469 := n2_; have HO472 := n3_; have HO475 := n4_; have HO493 := n5_; have HB := n6_; have HO496 := n7_; clear n0_ n1_ n2_ n3_ n4_ n5_ n6_ n7_; clear ho hb hg hat))
     go_ret
     exact ⟨_, by first | rfl | (simp [errW_none, errW_some] <;> rfl) | (simp [*, errW_none, errW_some] <;> rfl), by (with_reducible repeat (first | apply zU | apply zW | apply zV)); exact Kd.R_mono HO496.out (fun _ hk => trivial), by repeat (first | (with_reducible first | exact HB.out | apply zA | apply zL | apply zB | refine zC ?_ GE459.out) | exact HB.out)⟩

def spec_l1In.f (a0 : Int) (a1 : Int) (a2 : Int) : Option (Bool) := if a0 ≥ a1 then (some (decide (a0 ≤ a2))) else (some false)
theorem spec_l1In.calls (a0 : Int) (a1 : Int) (a2 : Int) (r : Bool) (w : World) (h : spec_l1In.f a0 a1 a2 = some r) :
  Calls Try.prog 95 #[.int .i64 a0, .int .i64 a1, .int .i64 a2] w fun e w' => e = .returned (.bool r) ∧ Drawn0 w w' := by
 have H : (if a0 ≥ a1 then (some (decide (a0 ≤ a2))) else (some false)) = some r := h
 clear h
 by_cases c4 : a0 ≥ a1
 ·rw [if_pos c4] at H
  have c4b0 : decide (a1 ≤ a0) = true := decide_eq_true c4
  clear c4
  obtain rfl := Option.some.inj H
  go_enter Try.func95, Try.ntmps95
  go_wp2
  go_ret
  exact ⟨by first | rfl | exact yP _ | (simp; done) | (simp [*]; done), by repeat (first | exact zP _ | apply zQ)⟩
 ·rw [if_neg c4] at H
  have c4b0 : decide (a1 ≤ a0) = false := decide_eq_false c4
  clear c4
  obtain rfl := Option.some.inj H
  go_enter Try.func95, Try.ntmps95
  go_wp2
  go_ret
  exact ⟨by first | rfl | exact yP _ | (simp; done) | (simp [*]; done), by repeat (first | exact zP _ | apply zQ)⟩

def spec_IsValidHeader.f (a0_0 : Int) (a0_1 : Int) (a0_2 : Int) : Option (Bool) := (spec_l1In.f a0_0 1 2).bind fun t498 => (if t498 = true then ((spec_l1In.f a0_1 0 120).bind fun t499 => (if t499 = true then ((spec_l1In.f a0_2 1 127).bind fun t500 => (some t500)) else (some false))) else (some false))
theorem spec_IsValidHeader.calls (a0_0 : Int) (a0_1 : Int) (a0_2 : Int) (r : Bool) (w : World) (h : spec_IsValidHeader.f a0_0 a0_1 a0_2 = some r) :
  Calls Try.prog 64 #[.agg #[.int .i64 a0_0, .int .i64 a0_1, .int .i64 a0_2]] w fun e w' => e = .returned (.bool r) ∧ Below w.heap.size w w' := by
 have hu24 := Try.underlying24
 have HB := zO (Below.refl w.heap.size w)
 have H : ((spec_l1In.f a0_0 1 2).bind fun t498 => (if t498 = true then ((spec_l1In.f a0_1 0 120).bind fun t499 => (if t499 = true then ((spec_l1In.f a0_2 1 127).bind fun t500 => (some t500)) else (some false))) else (some false))) = some r := h
 clear h
 replace H := yE.mp H
 obtain ⟨t498, A20, H⟩ := H
 replace H : (if t498 = true then ((spec_l1In.f a0_1 0 120).bind fun t499 => (if t499 = true then ((spec_l1In.f a0_2 1 127).bind fun t500 => (some t500)) else (some false))) else (some false)) = some r := H
 have A2 := zO A20
 clear A20
 by_cases c3 : t498 = true
 ·subst c3
  have H1 : ((spec_l1In.f a0_1 0 120).bind fun t499 => (if t499 = true then ((spec_l1In.f a0_2 1 127).bind fun t500 => (some t500)) else (some false))) = some r := by rw [if_pos rfl] at H; exact H
  clear H
  have H := H1
  clear H1
  replace H := yE.mp H
  obtain ⟨t499, A40, H⟩ := H
  replace H : (if t499 = true then ((spec_l1In.f a0_2 1 127).bind fun t500 => (some t500)) else (some false)) = some r := H
  have A4 := zO A40
  clear A40
  by_cases c5 : t499 = true
  ·subst c5
   have H1 : ((spec_l1In.f a0_2 1 127).bind fun t500 => (some t500)) = some r := by rw [if_pos rfl] at H; exact H
   clear H
   have H := H1
   clear H1
   replace H := yE.mp H
   obtain ⟨t500, A60, H⟩ := H
   replace H : (some t500) = some r := H
   have A6 := zO A60
   clear A60
   obtain rfl := Option.some.inj H
   go_enter Try.func64, Try.ntmps64
   go_wp2_with (first | ((with_reducible refine zN (N := 1) rfl ?_); refine box_event ?hg (N := 1) ?hd (cs := #[.int .i64 a0_0, .int .i64 a0_1, .int .i64 a0_2]) (t := 24) ?hr ?_; (case hd => rfl); (case hg => rfl); (case hr => first | (go_simp; done) | (go_simp; rfl)); intro gb497 hg w7 hbox hb; have n0_ := zO (zE (by repeat (first | exact HB.out | apply zA | apply zL | apply zB)) hb); have n1_ := zO (hbox); have n2_ := zO ((by rw [hg]; exact (zD (by repeat (first | exact HB.out | apply zA | apply zL | apply zB))) : w.heap.size ≤ gb497)); have n3_ := zO ((by rw [hg]; exact (zD (by repeat (first | exact HB.out | apply zA | apply zL | apply zB))) : w.heap.size ≤ gb497)); clear HB; have HB := n0_; have BK497 := n1_; have GW497 := n2_; have GE497 := n3_; clear n0_ n1_ n2_ n3_; clear hb hbox hg; have hcz8_0 : w7.cell? ⟨gb497, 0, none⟩ = some (.int .i64 a0_0) := (zH BK497.out 0).trans rfl; have hcz8_1 : w7.cell? ⟨gb497, 1, none⟩ = some (.int .i64 a0_1) := (zH BK497.out 1).trans rfl; have hcz8_2 : w7.cell? ⟨gb497, 2, none⟩ = some (.int .i64 a0_2) := (zH BK497.out 2).trans rfl; have hfz8_0 := zK BK497.out 0; have hfz8_1 := zK BK497.out 1; have hfz8_2 := zK BK497.out 2) | ((with_reducible refine zM (f := 95) rfl ?_); refine goesL_ (some 5) rfl rfl Try.func95 (by kernel_rfl) rfl #[.int .i64 a0_0, .int .i64 1, .int .i64 2] rfl (by (try simp only [yK, yL, yM]); first | done | rfl | (simp only [yJ, yI]; rfl)) ?_; (with_reducible refine (spec_l1In.calls a0_0 1 2 true _ A2.out).mono ?_); rintro e w' ⟨rfl, ⟨nd, rfl⟩⟩; refine ⟨_, rfl, ?_⟩) | (go_at_call 95; (with_reducible refine (spec_l1In.calls a0_1 0 120 true _ A4.out).mono ?_); rintro e w' ⟨rfl, ⟨nd, rfl⟩⟩) | (go_at_call 95; (with_reducible refine (spec_l1In.calls a0_2 1 127 t500 _ A6.out).mono ?_); rintro e w' ⟨rfl, ⟨nd, rfl⟩⟩))
   go_ret
   exact ⟨by first | rfl | exact yP _ | (simp [errW_none, errW_some] <;> rfl) | (simp [*, errW_none, errW_some] <;> rfl), by repeat (first | (with_reducible first | exact HB.out | apply zA | apply zL | apply zB | refine zC ?_ GE497.out) | exact HB.out)⟩
  ·replace c5 := Bool.eq_false_iff.mpr c5
   subst c5
   have H1 : (some false) = some r := by rw [if_neg (show ¬ (false = true) by decide)] at H; exact H
   clear H
   have H := H1
   clear H1
   obtain rfl := Option.some.inj H
   go_enter Try.func64, Try.ntmps64
   go_wp2_with (first | ((with_reducible refine zN (N := 1) rfl ?_); refine box_event ?hg (N := 1) ?hd (cs := #[.int .i64 a0_0, .int .i64 a0_1, .int .i64 a0_2]) (t := 24) ?hr ?_; (case hd => rfl); (case hg => rfl); (case hr => first | (go_simp; done) | (go_simp; rfl)); intro gb497 hg w9 hbox hb; have n0_ := zO (zE (by repeat (first | exact HB.out | apply zA | apply zL | apply zB)) hb); have n1_ := zO (hbox); have n2_ := zO ((by rw [hg]; exact (zD (by repeat (first | exact HB.out | apply zA | apply zL | apply zB))) : w.heap.size ≤ gb497)); have n3_ := zO ((by rw [hg]; exact (zD (by repeat (first | exact HB.out | apply zA | apply zL | apply zB))) : w.heap.size ≤ gb497)); clear HB; have HB := n0_; have BK497 := n1_; have GW497 := n2_; have GE497 := n3_; clear n0_ n1_ n2_ n3_; clear hb hbox hg; have hcz10_0 : w9.cell? ⟨gb497, 0, none⟩ = some (.int .i64 a0_0) := (zH BK497.out 0).trans rfl; have hcz10_1 : w9.cell? ⟨gb497, 1, none⟩ = some (.int .i64 a0_1) := (zH BK497.out 1).trans rfl; have hcz10_2 : w9.cell? ⟨gb497, 2, none⟩ = some (.int .i64 a0_2) := (zH BK497.out 2).trans rfl; have hfz10_0 := zK BK497.out 0; have hfz10_1 := zK BK497.out 1; have hfz10_2 := zK BK497.out 2) | ((with_reducible refine zM (f := 95) rfl ?_); refine goesL_ (some 5) rfl rfl Try.func95 (by kernel_rfl) rfl #[.int .i64 a0_0, .int .i64 1, .int .i64 2] rfl (by (try simp only [yK, yL, yM]); first | done | rfl | (simp only [yJ, yI]; rfl)) ?_; (with_reducible refine (spec_l1In.calls a0_0 1 2 true _ A2.out).mono ?_); rintro e w' ⟨rfl, ⟨nd, rfl⟩⟩; refine ⟨_, rfl, ?_⟩) | (go_at_call 95; (with_reducible refine (spec_l1In.calls a0_1 0 120 false _ A4.out).mono ?_); rintro e w' ⟨rfl, ⟨nd, rfl⟩⟩))
   go_ret
   exact ⟨by first | rfl | exact yP _ | (simp [errW_none, errW_some] <;> rfl) | (simp [*, errW_none, errW_some] <;> rfl), by repeat (first | (with_reducible first | exact HB.out | apply zA | apply zL | apply zB | refine zC ?_ GE497.out) | exact HB.out)⟩
 ·replace c3 := Bool.eq_false_iff.mpr c3
  subst c3
  have H1 : (some false) = some r := by rw [if_neg (show ¬ (false = true) by decide)] at H; exact H
  clear H
  have H := H1
  clear H1
  obtain rfl := Option.some.inj H
  go_enter Try.func64, Try.ntmps64
  go_wp2_with (first | ((with_reducible refine zN (N := 1) rfl ?_); refine box_event ?hg (N := 1) ?hd (cs := #[.int .i64 a0_0, .int .i64 a0_1, .int .i64 a0_2]) (t := 24) ?hr ?_; (case hd => rfl); (case hg => rfl); (case hr => first | (go_simp; done) | (go_simp; rfl)); intro gb497 hg w11 hbox hb; have n0_ := zO (zE (by repeat (first | exact HB.out | apply zA | apply zL | apply zB)) hb); have n1_ := zO (hbox); have n2_ := zO ((by rw [hg]; exact (zD (by repeat (first | exact HB.out | apply zA | apply zL | apply zB))) : w.heap.size ≤ gb497)); have n3_ := zO ((by rw [hg]; exact (zD (by repeat (first | exact HB.out | apply zA | apply zL | apply zB))) : w.heap.size ≤ gb497)); clear HB; have HB := n0_; have BK497 := n1_; have GW497 := n2_; have GE497 := n3_; clear n0_ n1_ n2_ n3_; clear hb hbox hg; have hcz12_0 : w11.cell? ⟨gb497, 0, none⟩ = some (.int .i64 a0_0) := (zH BK497.out 0).trans rfl; have hcz12_1 : w11.cell? ⟨gb497, 1, none⟩ = some (.int .i64 a0_1) := (zH BK497.out 1).trans rfl; have hcz12_2 : w11.cell? ⟨gb497, 2, none⟩ = some (.int .i64 a0_2) := (zH BK497.out 2).trans rfl; have hfz12_0 := zK BK497.out 0; have hfz12_1 := zK BK497.out 1; have hfz12_2 := zK BK497.out 2) | ((with_reducible refine zM (f := 95) rfl ?_); refine goesL_ (some 5) rfl rfl Try.func95 (by kernel_rfl) rfl #[.int .i64 a0_0, .int .i64 1, .int .i64 2] rfl (by (try simp only [yK, yL, yM]); first | done | rfl | (simp only [yJ, yI]; rfl)) ?_; (with_reducible refine (spec_l1In.calls a0_0 1 2 false _ A2.out).mono ?_); rintro e w' ⟨rfl, ⟨nd, rfl⟩⟩; refine ⟨_, rfl, ?_⟩))
  go_ret
  exact ⟨by first | rfl | exact yP _ | (simp [errW_none, errW_some] <;> rfl) | (simp [*, errW_none, errW_some] <;> rfl), by repeat (first | (with_reducible first | exact HB.out | apply zA | apply zL | apply zB | refine zC ?_ GE497.out) | exact HB.out)⟩

def impl_FrameSymbols.f (a0_0 : Int) (a0_1 : Int) (a0_2 : Int) : Option (Int) := (impl_IsValidHeader.f a0_0 a0_1 a0_2).bind fun t502 => (if t502 = true then ((impl_PayloadSymbols.f a0_0 a0_1 a0_2).bind fun t503 => (some (wrap64 (54 + t503)))) else (some 0))
theorem impl_FrameSymbols.calls (a0_0 : Int) (a0_1 : Int) (a0_2 : Int) (r : Int) (w : World) (h : impl_FrameSymbols.f a0_0 a0_1 a0_2 = some r) :
  Calls Try.prog 65 #[.agg #[.int .i64 a0_0, .int .i64 a0_1, .int .i64 a0_2]] w fun e w' => e = .returned (.int .i64 r) ∧ Below w.heap.size w w' := by
 have hu24 := Try.underlying24
 have HB := zO (Below.refl w.heap.size w)
 have H : ((impl_IsValidHeader.f a0_0 a0_1 a0_2).bind fun t502 => (if t502 = true then ((impl_PayloadSymbols.f a0_0 a0_1 a0_2).bind fun t503 => (some (wrap64 (54 + t503)))) else (some 0))) = some r := h
 clear h
 replace H := yE.mp H
 obtain ⟨t502, A20, H⟩ := H
 replace H : (if t502 = true then ((impl_PayloadSymbols.f a0_0 a0_1 a0_2).bind fun t503 => (some (wrap64 (54 + t503)))) else (some 0)) = some r := H
 have A2 := zO A20
 clear A20
 by_cases c3 : t502 = true
 ·subst c3
  have H1 : ((impl_PayloadSymbols.f a0_0 a0_1 a0_2).bind fun t503 => (some (wrap64 (54 + t503)))) = some r := by rw [if_pos rfl] at H; exact H
  clear H
  have H := H1
  clear H1
  replace H := yE.mp H
  obtain ⟨t503, A40, H⟩ := H
  replace H : (some (wrap64 (54 + t503))) = some r := H
  have A4 := zO A40
  clear A40
  obtain rfl := Option.some.inj H
  go_enter Try.func65, Try.ntmps65
  go_wp2_with (first | ((with_reducible refine zN (N := 1) rfl ?_); refine box_event ?hg (N := 1) ?hd (cs := #[.int .i64 a0_0, .int .i64 a0_1, .int .i64 a0_2]) (t := 24) ?hr ?_; (case hd => rfl); (case hg => rfl); (case hr => first | (go_simp; done) | (go_simp; rfl)); intro gb501 hg w5 hbox hb; have n0_ := zO (zE (by repeat (first | exact HB.out | apply zA | apply zL | apply zB)) hb); have n1_ := zO (hbox); have n2_ := zO ((by rw [hg]; exact (zD (by repeat (first | exact HB.out | apply zA | apply zL | apply zB))) : w.heap.size ≤ gb501)); have n3_ := zO ((by rw [hg]; exact (zD (by repeat (first | exact HB.out | apply zA | apply zL | apply zB))) : w.heap.size ≤ gb501)); clear HB; have HB := n0_; have BK501 := n1_; have GW501 := n2_; have GE501 := n3_; clear n0_ n1_ n2_ n3_; clear hb hbox hg; have hcz6_0 : w5.cell? ⟨gb501, 0, none⟩ = some (.int .i64 a0_0) := (zH BK501.out 0).trans rfl; have hcz6_1 : w5.cell? ⟨gb501, 1, none⟩ = some (.int .i64 a0_1) := (zH BK501.out 1).trans rfl; have hcz6_2 : w5.cell? ⟨gb501, 2, none⟩ = some (.int .i64 a0_2) := (zH BK501.out 2).trans rfl; have hfz6_0 := zK BK501.out 0; have hfz6_1 := zK BK501.out 1; have hfz6_2 := zK BK501.out 2) | ((with_reducible refine zM (f := 75) rfl ?_); refine goesL_ (some 4) rfl rfl Try.func75 (by kernel_rfl) rfl #[.agg #[.int .i64 a0_0, .int .i64 a0_1, .int .i64 a0_2]] rfl (by (try simp only [yK, yL, yM]); first | done | rfl | (simp only [yJ, yI]; rfl)) ?_; (with_reducible refine (impl_IsValidHeader.calls a0_0 a0_1 a0_2 true _ A2.out).mono ?_); rintro e w7 ⟨rfl, hb⟩; refine ⟨_, rfl, ?_⟩; have n0_ := zO (zG (g := gb501) (o := .cells #[.int .i64 a0_0, .int .i64 a0_1, .int .i64 a0_2] 24 (0, 0)) (by (with_reducible repeat (first | refine zJ ?_ _ | refine zI ?_ | refine zF ?_ _)); exact BK501.out) hb); have n1_ := zO (zE (by repeat (first | (with_reducible first | exact HB.out | apply zA | apply zL | apply zB | refine zC ?_ GE501.out) | exact HB.out)) hb); clear BK501; clear HB; have BK501 := n0_; have HB := n1_; clear n0_ n1_; (try clear hb); (try clear hb2); (try clear hk); (try clear hi); have hcz8_0 : w7.cell? ⟨gb501, 0, none⟩ = some (.int .i64 a0_0) := (zH BK501.out 0).trans rfl; have hcz8_1 : w7.cell? ⟨gb501, 1, none⟩ = some (.int .i64 a0_1) := (zH BK501.out 1).trans rfl; have hcz8_2 : w7.cell? ⟨gb501, 2, none⟩ = some (.int .i64 a0_2) := (zH BK501.out 2).trans rfl; have hfz8_0 := zK BK501.out 0; have hfz8_1 := zK BK501.out 1; have hfz8_2 := zK BK501.out 2) | ((with_reducible refine zM (f := 125) rfl ?_); refine goesL_ (some 7) rfl rfl Try.func125 (by kernel_rfl) rfl #[.agg #[.int .i64 a0_0, .int .i64 a0_1, .int .i64 a0_2]] rfl (by (try simp only [yK, yL, yM]); first | done | rfl | (simp only [yJ, yI]; rfl)) ?_; (with_reducible refine (impl_PayloadSymbols.calls a0_0 a0_1 a0_2 t503 _ A4.out).mono ?_); rintro e w9 ⟨rfl, hb⟩; refine ⟨_, rfl, ?_⟩; have n0_ := zO (zG (g := gb501) (o := .cells #[.int .i64 a0_0, .int .i64 a0_1, .int .i64 a0_2] 24 (0, 0)) (by (with_reducible repeat (first | refine zJ ?_ _ | refine zI ?_ | refine zF ?_ _)); exact BK501.out) hb); have n1_ := zO (zE (by repeat (first | (with_reducible first | exact HB.out | apply zA | apply zL | apply zB | refine zC ?_ GE501.out) | exact HB.out)) hb); clear BK501; clear HB; have BK501 := n0_; have HB := n1_; clear n0_ n1_; (try clear hb); (try clear hb2); (try clear hk); (try clear hi)))
  go_ret
  exact ⟨by first | rfl | exact yP _ | (simp [errW_none, errW_some] <;> rfl) | (simp [*, errW_none, errW_some] <;> rfl), by repeat (first | (with_reducible first | exact HB.out | apply zA | apply zL | apply zB | refine zC ?_ GE501.out) | exact HB.out)⟩
 ·replace c3 := Bool.eq_false_iff.mpr c3
  subst c3
  have H1 : (some 0) = some r := by rw [if_neg (show ¬ (false = true) by decide)] at H; exact H
  clear H
  have H := H1
  clear H1
  obtain rfl := Option.some.inj H
  go_enter Try.func65, Try.ntmps65
  go_wp2_with (first | ((with_reducible refine zN (N := 1) rfl ?_); refine box_event ?hg (N := 1) ?hd (cs := #[.int .i64 a0_0, .int .i64 a0_1, .int .i64 a0_2]) (t := 24) ?hr ?_; (case hd => rfl); (case hg => rfl); (case hr => first | (go_simp; done) | (go_simp; rfl)); intro gb501 hg w10 hbox hb; have n0_ := zO (zE (by repeat (first | exact HB.out | apply zA | apply zL | apply zB)) hb); have n1_ := zO (hbox); have n2_ := zO ((by rw [hg]; exact (zD (by repeat (first | exact HB.out | apply zA | apply zL | apply zB))) : w.heap.size ≤ gb501)); have n3_ := zO ((by rw [hg]; exact (zD (by repeat (first | exact HB.out | apply zA | apply zL | apply zB))) : w.heap.size ≤ gb501)); clear HB; have HB := n0_; have BK501 := n1_; have GW501 := n2_; have GE501 := n3_; clear n0_ n1_ n2_ n3_; clear hb hbox hg; have hcz11_0 : w10.cell? ⟨gb501, 0, none⟩ = some (.int .i64 a0_0) := (zH BK501.out 0).trans rfl; have hcz11_1 : w10.cell? ⟨gb501, 1, none⟩ = some (.int .i64 a0_1) := (zH BK501.out 1).trans rfl; have hcz11_2 : w10.cell? ⟨gb501, 2, none⟩ = some (.int .i64 a0_2) := (zH BK501.out 2).trans rfl; have hfz11_0 := zK BK501.out 0; have hfz11_1 := zK BK501.out 1; have hfz11_2 := zK BK501.out 2) | ((with_reducible refine zM (f := 75) rfl ?_); refine goesL_ (some 4) rfl rfl Try.func75 (by kernel_rfl) rfl #[.agg #[.int .i64 a0_0, .int .i64 a0_1, .int .i64 a0_2]] rfl (by (try simp only [yK, yL, yM]); first | done | rfl | (simp only [yJ, yI]; rfl)) ?_; (with_reducible refine (impl_IsValidHeader.calls a0_0 a0_1 a0_2 false _ A2.out).mono ?_); rintro e w12 ⟨rfl, hb⟩; refine ⟨_, rfl, ?_⟩; have n0_ := zO (zG (g := gb501) (o := .cells #[.int .i64 a0_0, .int .i64 a0_1, .int .i64 a0_2] 24 (0, 0)) (by (with_reducible repeat (first | refine zJ ?_ _ | refine zI ?_ | refine zF ?_ _)); exact BK501.out) hb); have n1_ := zO (zE (by repeat (first | (with_reducible first | exact HB.out | apply zA | apply zL | apply zB | refine zC ?_ GE501.out) | exact HB.out)) hb); clear BK501; clear HB; have BK501 := n0_; have HB := n1_; clear n0_ n1_; (try clear hb); (try clear hb2); (try clear hk); (try clear hi)))
  go_ret
  exact ⟨by first | rfl | exact yP _ | (simp [errW_none, errW_some] <;> rfl) | (simp [*, errW_none, errW_some] <;> rfl), by repeat (first | (with_reducible first | exact HB.out | apply zA | apply zL | apply zB | refine zC ?_ GE501.out) | exact HB.out)⟩

def spec_Min.f (a0 : Int) (a1 : Int) : Option (Int) := if a1 < a0 then (some a1) else (some a0)
theorem spec_Min.calls (a0 : Int) (a1 : Int) (r : Int) (w : World) (h : spec_Min.f a0 a1 = some r) :
  Calls Try.prog 66 #[.int .i64 a0, .int .i64 a1] w fun e w' => e = .returned (.int .i64 r) ∧ Drawn0 w w' := by
 have H : (if a1 < a0 then (some a1) else (some a0)) = some r := h
 clear h
 by_cases c3 : a1 < a0
 ·rw [if_pos c3] at H
  have c3b0 : decide (a1 < a0) = true := decide_eq_true c3
  clear c3
  obtain rfl := Option.some.inj H
  go_enter Try.func66, Try.ntmps66
  go_wp2
  go_ret
  exact ⟨by first | rfl | exact yP _ | (simp; done) | (simp [*]; done), by repeat (first | exact zP _ | apply zQ)⟩
 ·rw [if_neg c3] at H
  have c3b0 : decide (a1 < a0) = false := decide_eq_false c3
  clear c3
  obtain rfl := Option.some.inj H
  go_enter Try.func66, Try.ntmps66
  go_wp2
  go_ret
  exact ⟨by first | rfl | exact yP _ | (simp; done) | (simp [*]; done), by repeat (first | exact zP _ | apply zQ)⟩

end Go.Proofs.Ytldbmljooafkcaa.PFnPhysicalFrames
