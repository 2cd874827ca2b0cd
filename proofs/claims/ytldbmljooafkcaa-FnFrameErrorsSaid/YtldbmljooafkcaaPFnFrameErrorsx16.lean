/- Contracts of Go functions. Conditions: the arguments read as the Lean function's. Written by print2.py, shrink.py (this session's). -/
import Derived.Test.YtldbmljooafkcaaPFnFrameErrorsx0
import Derived.Test.YtldbmljooafkcaaPFnFrameErrorsx11
import Derived.Test.YtldbmljooafkcaaPFnFrameErrorsx12
import Derived.Test.YtldbmljooafkcaaPFnFrameErrorsx13
import Derived.Test.YtldbmljooafkcaaPFnFrameErrorsx14
import Derived.Test.YtldbmljooafkcaaPFnFrameErrorsx15
namespace Go.Proofs.Ytldbmljooafkcaa.PFnFrameErrors
open Go.RowKit Go.Proofs.YtldbmljooafkcaaW.PrintWords Go.Proofs.YtldbmljooafkcaaW.PrintLast Go.Proofs.YtldbmljooafkcaaW.PrintMore
open Go.Proofs.YtldbmljooafkcaaW.PrintWords renaming below_alloc → zA, below_drew1 → zB, below_set → zC, below_size → zD, below_step → zE, blk_alloc → zF, blk_below → zG, blk_cell → zH, blk_drew → zI, blk_drewN → zJ, blk_frozen → zK, pw_below_drewN → zL, gate_callee → zM, gate_dst → zN
open Go.Proofs.YtldbmljooafkcaaW.PrintWords.Aside0 renaming mk → zO
open Go.Proofs.YtldbmljooafkcaaW.PrintWords.Kd renaming C_alloc → zR, C_drew → zS, C_drewN → zT, R_alloc → zU, R_drew → zV, R_drewN → zW, R_reads' → zX, R_below → zY, R_far → zZ, R_lower → yA
open Option renaming bind_eq_some_iff → yE
open List renaming setIfInBounds_toArray → yF, set_cons_zero → yG, set_cons_succ → yH, length_take → yI, length_drop → yJ, map_toArray → yK, map_cons → yL, map_nil → yM
set_option maxHeartbeats 8000000
set_option maxRecDepth 100000
attribute [local go_sem] max2_int min2_int max_two min_two max_three min_three max_four min_four
set_option linter.unusedVariables false
set_option linter.unusedSimpArgs false

def spec_TransmitFrame.j0 : Nat → List Int → Bool → Int → Int → Int → Option (List Int)
 | 0, _, _, _, _, _ => none
 | k + 1, x1, x15, x576000, x576001, x576002 => if x15 = true then (some (([] : List Int))) else ((spec_AppendCrc.f k x1).bind fun t580 => ((spec_BytesToBits.f k t580).bind fun t583 => ((spec_Scramble.f k x576002 t583).bind fun t586 => ((spec_ConvolutionalEncode.f k t586).bind fun t589 => (if x576000 = 2 then ((spec_Puncture.f k t589).bind fun t592 => ((spec_EncodeHeader.f k x576000 x576001 x576002).bind fun t595 => ((spec_Interleave.f k t592 8).bind fun t598 => (if t595.length + t598.length < 17592186044416 then (some (t595 ++ t598)) else (none))))) else ((spec_EncodeHeader.f k x576000 x576001 x576002).bind fun t604 => ((spec_Interleave.f k t589 8).bind fun t607 => (if t604.length + t607.length < 17592186044416 then (some (t604 ++ t607)) else (none)))))))))
def spec_TransmitFrame.f (k : Nat) (a0_0 : Int) (a0_1 : Int) (a0_2 : Int) (l1 : List Int) : Option (List Int) := (spec_IsValidHeader.f a0_0 a0_1 a0_2).bind fun t576 => (if t576 = true then (spec_TransmitFrame.j0 k l1 ((l1.length : Int) != a0_1) a0_0 a0_1 a0_2) else (spec_TransmitFrame.j0 k l1 true a0_0 a0_1 a0_2))
def spec_TransmitFrame.T3 : Bool × List (List Nat × List Nat) := (true, [([], []), ([0], [0]), ([], []), ([2], [2]), ([3, 3], [3]), ([1, 4, 4], [1, 4]), ([5, 5], [5]), ([6, 6, 0, 1, 2, 3, 4, 5, 6], [6])])
def spec_TransmitFrame.B3 : List Nat := [0, 1, 0, 4, 12, 31, 63, 127]
theorem spec_TransmitFrame.tab3 : rtab .any (opsOf Try.f168 3) = spec_TransmitFrame.T3 := by kernel_rfl
theorem spec_TransmitFrame.bits3 : waitsOk spec_TransmitFrame.T3.2 spec_TransmitFrame.B3 = true := by kernel_rfl
theorem spec_TransmitFrame.calls (k : Nat) (a0_0 : Int) (a0_1 : Int) (a0_2 : Int) (A1 : Option Addr) (c1 : Nat) (l1 : List Int) (r : List Int) (w : World) (hr1 : Kd.C (Kd.int .u8) w A1 l1.length l1) (hc1 : l1.length ≤ c1) (h : spec_TransmitFrame.f k a0_0 a0_1 a0_2 l1 = some r) :
  Calls Try.prog 168 #[.agg #[.int .i64 a0_0, .int .i64 a0_1, .int .i64 a0_2], .slice A1 l1.length c1] w fun e w' => ∃ v0_ : Value, e = .returned (v0_) ∧ Kd.R (Kd.int .i64) 3 w' w.heap.size (fun _ => True) v0_ r ∧ Below w.heap.size w w' := by
 have hu24 := Try.underlying24
 have HR1 := zO hr1
 have HC1 := zO hc1
 clear hr1 hc1
 have HB := zO (Below.refl w.heap.size w)
 have H : ((spec_IsValidHeader.f a0_0 a0_1 a0_2).bind fun t576 => (if t576 = true then (spec_TransmitFrame.j0 k l1 ((l1.length : Int) != a0_1) a0_0 a0_1 a0_2) else (spec_TransmitFrame.j0 k l1 true a0_0 a0_1 a0_2))) = some r := h
 clear h
 have HC3 := zO H
 clear H
 go_enter Try.func168, Try.ntmps168
 go_upto_region 1 with (first | ((with_reducible refine zN (N := 2) rfl ?_); (try (refine gate_guard (by rfl) ?_; dsimp only)); refine box_event ?hg (N := 2) ?hd (cs := #[.int .i64 a0_0, .int .i64 a0_1, .int .i64 a0_2]) (t := 24) ?hr ?_; (case hd => rfl); (case hg => rfl); (case hr => first | (go_simp; done) | (go_simp; rfl)); intro gb575 hg w4 hbox hb; have n0_ := zO (zE (by repeat (first | exact HB.out | apply zA | apply zL | apply zB)) hb); have n1_ := zO (hbox); have n2_ := zO ((by rw [hg]; exact (zD (by repeat (first | exact HB.out | apply zA | apply zL | apply zB))) : w.heap.size ≤ gb575)); have n3_ := zO ((by rw [hg]; exact (zD (by repeat (first | exact HB.out | apply zA | apply zL | apply zB))) : w.heap.size ≤ gb575)); clear HB; have HB := n0_; have BK575 := n1_; have GW575 := n2_; have GE575 := n3_; clear n0_ n1_ n2_ n3_; clear hb hbox hg))
 (try simp only [Act.put, yF, yG, yH])
 go_cut [15] (fun v15 wc => ∃ (kq : Nat) (x15_2 : Bool), v15 = .bool x15_2 ∧ Aside0 (spec_TransmitFrame.j0 kq l1 x15_2 a0_0 a0_1 a0_2 = some r) ∧ Aside0 (kq ≤ k) ∧ Aside0 (wc.heap[gb575]? = some (.cells #[.int .i64 a0_0, .int .i64 a0_1, .int .i64 a0_2] 24 (0, 0))) ∧ Aside0 (Below w.heap.size w wc))
 case first =>
  have H := HC3.out
  clear HC3
  replace H := yE.mp H
  obtain ⟨t576, A50, H⟩ := H
  replace H : (if t576 = true then (spec_TransmitFrame.j0 k l1 ((l1.length : Int) != a0_1) a0_0 a0_1 a0_2) else (spec_TransmitFrame.j0 k l1 true a0_0 a0_1 a0_2)) = some r := H
  have A5 := zO A50
  clear A50
  by_cases c6 : t576 = true
  ·subst c6
   have H1 : (spec_TransmitFrame.j0 k l1 ((l1.length : Int) != a0_1) a0_0 a0_1 a0_2) = some r := by rw [if_pos rfl] at H; exact H
   clear H
   have H := H1
   clear H1
   have H' := zO H
   clear H
   have hcz7_0 : w4.cell? ⟨gb575, 0, none⟩ = some (.int .i64 a0_0) := (zH BK575.out 0).trans rfl
   have hcz7_1 : w4.cell? ⟨gb575, 1, none⟩ = some (.int .i64 a0_1) := (zH BK575.out 1).trans rfl
   have hcz7_2 : w4.cell? ⟨gb575, 2, none⟩ = some (.int .i64 a0_2) := (zH BK575.out 2).trans rfl
   have hfz7_0 := zK BK575.out 0
   have hfz7_1 := zK BK575.out 1
   have hfz7_2 := zK BK575.out 2
   go_wp2_with (first | ((with_reducible refine zM (f := 64) rfl ?_); refine goesL_ (some 7) rfl rfl Try.func64 (by kernel_rfl) rfl #[.agg #[.int .i64 a0_0, .int .i64 a0_1, .int .i64 a0_2]] rfl (by (try simp only [yK, yL, yM]); first | done | rfl | (simp only [yJ, yI]; rfl)) ?_; (with_reducible refine (spec_IsValidHeader.calls a0_0 a0_1 a0_2 true _ A5.out).mono ?_); rintro e w8 ⟨rfl, hb⟩; refine ⟨_, rfl, ?_⟩; have n0_ := zO (zG (g := gb575) (o := .cells #[.int .i64 a0_0, .int .i64 a0_1, .int .i64 a0_2] 24 (0, 0)) (by (with_reducible repeat (first | refine zJ ?_ _ | refine zI ?_ | refine zF ?_ _)); exact BK575.out) hb); have n1_ := zO (zE (by repeat (first | (with_reducible first | exact HB.out | apply zA | apply zL | apply zB | refine zC ?_ GE575.out) | exact HB.out)) hb); clear BK575; clear HB; have BK575 := n0_; have HB := n1_; clear n0_ n1_; (try clear hb); (try clear hb2); (try clear hk); (try clear hi); have hcz9_0 : w8.cell? ⟨gb575, 0, none⟩ = some (.int .i64 a0_0) := (zH BK575.out 0).trans rfl; have hcz9_1 : w8.cell? ⟨gb575, 1, none⟩ = some (.int .i64 a0_1) := (zH BK575.out 1).trans rfl; have hcz9_2 : w8.cell? ⟨gb575, 2, none⟩ = some (.int .i64 a0_2) := (zH BK575.out 2).trans rfl; have hfz9_0 := zK BK575.out 0; have hfz9_1 := zK BK575.out 1; have hfz9_2 := zK BK575.out 2))
   go_meet
   case rel => exact ⟨_, (((l1.length : Int) != a0_1)), (by first | rfl | (simp; done) | (simp [*]; done)), H', ⟨by first | omega | exact Nat.le_refl _⟩, ⟨by (with_reducible repeat (first | refine zJ ?_ _ | refine zI ?_ | refine zF ?_ _)); exact BK575.out⟩, ⟨by repeat (first | (with_reducible first | exact HB.out | apply zA | apply zL | apply zB | refine zC ?_ GE575.out) | exact HB.out)⟩⟩
  ·replace c6 := Bool.eq_false_iff.mpr c6
   subst c6
   have H1 : (spec_TransmitFrame.j0 k l1 true a0_0 a0_1 a0_2) = some r := by rw [if_neg (show ¬ (false = true) by decide)] at H; exact H
   clear H
   have H := H1
   clear H1
   have H' := zO H
   clear H
   have hcz10_0 : w4.cell? ⟨gb575, 0, none⟩ = some (.int .i64 a0_0) := (zH BK575.out 0).trans rfl
   have hcz10_1 : w4.cell? ⟨gb575, 1, none⟩ = some (.int .i64 a0_1) := (zH BK575.out 1).trans rfl
   have hcz10_2 : w4.cell? ⟨gb575, 2, none⟩ = some (.int .i64 a0_2) := (zH BK575.out 2).trans rfl
   have hfz10_0 := zK BK575.out 0
   have hfz10_1 := zK BK575.out 1
   have hfz10_2 := zK BK575.out 2
   go_wp2_with (first | ((with_reducible refine zM (f := 64) rfl ?_); refine goesL_ (some 7) rfl rfl Try.func64 (by kernel_rfl) rfl #[.agg #[.int .i64 a0_0, .int .i64 a0_1, .int .i64 a0_2]] rfl (by (try simp only [yK, yL, yM]); first | done | rfl | (simp only [yJ, yI]; rfl)) ?_; (with_reducible refine (spec_IsValidHeader.calls a0_0 a0_1 a0_2 false _ A5.out).mono ?_); rintro e w11 ⟨rfl, hb⟩; refine ⟨_, rfl, ?_⟩; have n0_ := zO (zG (g := gb575) (o := .cells #[.int .i64 a0_0, .int .i64 a0_1, .int .i64 a0_2] 24 (0, 0)) (by (with_reducible repeat (first | refine zJ ?_ _ | refine zI ?_ | refine zF ?_ _)); exact BK575.out) hb); have n1_ := zO (zE (by repeat (first | (with_reducible first | exact HB.out | apply zA | apply zL | apply zB | refine zC ?_ GE575.out) | exact HB.out)) hb); clear BK575; clear HB; have BK575 := n0_; have HB := n1_; clear n0_ n1_; (try clear hb); (try clear hb2); (try clear hk); (try clear hi)))
   go_meet
   case rel => exact ⟨_, (true), (by first | rfl | (simp; done) | (simp [*]; done)), H', ⟨by first | omega | exact Nat.le_refl _⟩, ⟨by (with_reducible repeat (first | refine zJ ?_ _ | refine zI ?_ | refine zF ?_ _)); exact BK575.out⟩, ⟨by repeat (first | (with_reducible first | exact HB.out | apply zA | apply zL | apply zB | refine zC ?_ GE575.out) | exact HB.out)⟩⟩
 case rest =>
  clear HC3
  try clear c1
  try clear p2
  try clear c6
  try clear hcz10_0
  try clear hcz10_1
  try clear hcz10_2
  try clear hcz7_0
  try clear hcz7_1
  try clear hcz7_2
  try clear hcz9_0
  try clear hcz9_1
  try clear hcz9_2
  try clear hfz10_0
  try clear hfz10_1
  try clear hfz10_2
  try clear hfz7_0
  try clear hfz7_1
  try clear hfz7_2
  try clear hfz9_0
  try clear hfz9_1
  try clear hfz9_2
  obtain ⟨kq, x15_2, rfl, HA, HJ2, BK575, HB⟩ := hcut
  cases kq with
  | zero => exact absurd HA.out (by simp [spec_TransmitFrame.j0])
  | succ kj2 =>
   have H := HA.out
   clear HA
   simp only [spec_TransmitFrame.j0] at H
   by_cases c12 : x15_2 = true
   ·subst c12
    have H1 : (some (([] : List Int))) = some r := by rw [if_pos rfl] at H; exact H
    clear H
    have H := H1
    clear H1
    obtain ⟨y577, hy577⟩ : ∃ y_ : List Int, y_ = (([] : List Int)) := ⟨_, rfl⟩
    replace H : (some y577) = some r := by first | (rw [hy577]; exact H) | exact H
    have Ny577 := zO hy577
    clear hy577
    obtain rfl := Option.some.inj H
    go_wp2_with (first | ((with_reducible refine zN (N := 16) rfl ?_); (try (refine gate_guard (by rfl) ?_; dsimp only)); refine Kd.R_lit (Kd.int .i64) _ 3 ?hg (N := 16) ?hd (xs := ([] : List Int)) (inner := []) (ok := fun _ => True) (okp := fun _ => True) ?hr ?hp (fun _ hk => hk) trivial (Below.refl _ _) (Nat.le_refl _) (by simp) ?_; (case hd => rfl); (case hg => rfl); (case hr => first | (go_simp; done) | (go_simp; rfl)); (case hp => exact (Reps.none _ _)); intro v578 w13 ho14 hb hg_ hnew_; clear hg_ hnew_; (first | rw [← Ny577.out] at ho14 | (simp only [Int.reduceToNat] at ho14; rw [← Ny577.out] at ho14)); have n0_ := zO (yA ho14 (zD (by repeat (first | (with_reducible first | exact HB.out | apply zA | apply zL | apply zB | refine zC ?_ GE575.out) | exact HB.out)))); have n1_ := zO (zG (g := gb575) (o := .cells #[.int .i64 a0_0, .int .i64 a0_1, .int .i64 a0_2] 24 (0, 0)) (by (with_reducible repeat (first | refine zJ ?_ _ | refine zI ?_ | refine zF ?_ _)); exact BK575.out) hb); have n2_ := zO (zE (by repeat (first | (with_reducible first | exact HB.out | apply zA | apply zL | apply zB | refine zC ?_ GE575.out) | exact HB.out)) hb); clear BK575; clear HB; have HO579 := n0_; have BK575 := n1_; have HB := n2_; clear n0_ n1_ n2_; clear hb ho14))
    go_ret
    exact ⟨_, by first | rfl | (simp [errW_none, errW_some] <;> rfl) | (simp [*, errW_none, errW_some] <;> rfl), by (with_reducible repeat (first | apply zU | apply zW | apply zV)); exact HO579.out, by repeat (first | (with_reducible first | exact HB.out | apply zA | apply zL | apply zB | refine zC ?_ GE575.out) | exact HB.out)⟩
   ·replace c12 := Bool.eq_false_iff.mpr c12
    subst c12
    have H1 : ((spec_AppendCrc.f kj2 l1).bind fun t580 => ((spec_BytesToBits.f kj2 t580).bind fun t583 => ((spec_Scramble.f kj2 a0_2 t583).bind fun t586 => ((spec_ConvolutionalEncode.f kj2 t586).bind fun t589 => (if a0_0 = 2 then ((spec_Puncture.f kj2 t589).bind fun t592 => ((spec_EncodeHeader.f kj2 a0_0 a0_1 a0_2).bind fun t595 => ((spec_Interleave.f kj2 t592 8).bind fun t598 => (if t595.length + t598.length < 17592186044416 then (some (t595 ++ t598)) else (none))))) else ((spec_EncodeHeader.f kj2 a0_0 a0_1 a0_2).bind fun t604 => ((spec_Interleave.f kj2 t589 8).bind fun t607 => (if t604.length + t607.length < 17592186044416 then (some (t604 ++ t607)) else (none))))))))) = some r := by rw [if_neg (show ¬ (false = true) by decide)] at H; exact H
    clear H
    have H := H1
    clear H1
    replace H := yE.mp H
    obtain ⟨t580, A150, H⟩ := H
    replace H : ((spec_BytesToBits.f kj2 t580).bind fun t583 => ((spec_Scramble.f kj2 a0_2 t583).bind fun t586 => ((spec_ConvolutionalEncode.f kj2 t586).bind fun t589 => (if a0_0 = 2 then ((spec_Puncture.f kj2 t589).bind fun t592 => ((spec_EncodeHeader.f kj2 a0_0 a0_1 a0_2).bind fun t595 => ((spec_Interleave.f kj2 t592 8).bind fun t598 => (if t595.length + t598.length < 17592186044416 then (some (t595 ++ t598)) else (none))))) else ((spec_EncodeHeader.f kj2 a0_0 a0_1 a0_2).bind fun t604 => ((spec_Interleave.f kj2 t589 8).bind fun t607 => (if t604.length + t607.length < 17592186044416 then (some (t604 ++ t607)) else (none)))))))) = some r := H
    have A15 := zO A150
    clear A150
    replace H := yE.mp H
    obtain ⟨t583, A160, H⟩ := H
    replace H : ((spec_Scramble.f kj2 a0_2 t583).bind fun t586 => ((spec_ConvolutionalEncode.f kj2 t586).bind fun t589 => (if a0_0 = 2 then ((spec_Puncture.f kj2 t589).bind fun t592 => ((spec_EncodeHeader.f kj2 a0_0 a0_1 a0_2).bind fun t595 => ((spec_Interleave.f kj2 t592 8).bind fun t598 => (if t595.length + t598.length < 17592186044416 then (some (t595 ++ t598)) else (none))))) else ((spec_EncodeHeader.f kj2 a0_0 a0_1 a0_2).bind fun t604 => ((spec_Interleave.f kj2 t589 8).bind fun t607 => (if t604.length + t607.length < 17592186044416 then (some (t604 ++ t607)) else (none))))))) = some r := H
    have A16 := zO A160
    clear A160
    replace H := yE.mp H
    obtain ⟨t586, A170, H⟩ := H
    replace H : ((spec_ConvolutionalEncode.f kj2 t586).bind fun t589 => (if a0_0 = 2 then ((spec_Puncture.f kj2 t589).bind fun t592 => ((spec_EncodeHeader.f kj2 a0_0 a0_1 a0_2).bind fun t595 => ((spec_Interleave.f kj2 t592 8).bind fun t598 => (if t595.length + t598.length < 17592186044416 then (some (t595 ++ t598)) else (none))))) else ((spec_EncodeHeader.f kj2 a0_0 a0_1 a0_2).bind fun t604 => ((spec_Interleave.f kj2 t589 8).bind fun t607 => (if t604.length + t607.length < 17592186044416 then (some (t604 ++ t607)) else (none)))))) = some r := H
    have A17 := zO A170
    clear A170
    replace H := yE.mp H
    obtain ⟨t589, A180, H⟩ := H
    replace H : (if a0_0 = 2 then ((spec_Puncture.f kj2 t589).bind fun t592 => ((spec_EncodeHeader.f kj2 a0_0 a0_1 a0_2).bind fun t595 => ((spec_Interleave.f kj2 t592 8).bind fun t598 => (if t595.length + t598.length < 17592186044416 then (some (t595 ++ t598)) else (none))))) else ((spec_EncodeHeader.f kj2 a0_0 a0_1 a0_2).bind fun t604 => ((spec_Interleave.f kj2 t589 8).bind fun t607 => (if t604.length + t607.length < 17592186044416 then (some (t604 ++ t607)) else (none))))) = some r := H
    have A18 := zO A180
    clear A180
    by_cases c19 : a0_0 = 2
    ·rw [if_pos c19] at H
     have c19b0 : (a0_0 == 2) = true := beq_iff_eq.mpr c19
     have c19b1 : (a0_0 != 2) = false := bne_eq_false_iff_eq.mpr c19
     clear c19
     replace H := yE.mp H
     obtain ⟨t592, A200, H⟩ := H
     replace H : ((spec_EncodeHeader.f kj2 a0_0 a0_1 a0_2).bind fun t595 => ((spec_Interleave.f kj2 t592 8).bind fun t598 => (if t595.length + t598.length < 17592186044416 then (some (t595 ++ t598)) else (none)))) = some r := H
     have A20 := zO A200
     clear A200
     replace H := yE.mp H
     obtain ⟨t595, A210, H⟩ := H
     replace H : ((spec_Interleave.f kj2 t592 8).bind fun t598 => (if t595.length + t598.length < 17592186044416 then (some (t595 ++ t598)) else (none))) = some r := H
     have A21 := zO A210
     clear A210
     replace H := yE.mp H
     obtain ⟨t598, A220, H⟩ := H
     replace H : (if t595.length + t598.length < 17592186044416 then (some (t595 ++ t598)) else (none)) = some r := H
     have A22 := zO A220
     clear A220
     by_cases c23 : t595.length + t598.length < 17592186044416
     case neg => rw [if_neg c23] at H; exact absurd H (by simp)
     rw [if_pos c23] at H
     have LMc23 := zO c23
     clear c23
     obtain ⟨y601, hy601⟩ : ∃ y_ : List Int, y_ = (t595 ++ t598) := ⟨_, rfl⟩
     replace H : (some y601) = some r := by first | (rw [hy601]; exact H) | exact H
     have Ny601 := zO hy601
     clear hy601
     obtain rfl := Option.some.inj H
     try go_wp2
     have n0_ := zO (zI BK575.out)
     have n1_ := zO (zB HB.out)
     clear BK575
     clear HB
     have BK575 := n0_
     have HB := n1_
     clear n0_ n1_
     refine start_ (n := 8) (S := fun w' => w'.cell? ⟨gb575, 0, none⟩ = some (.int .i64 a0_0) ∧ w'.cell? ⟨gb575, 1, none⟩ = some (.int .i64 a0_1) ∧ w'.cell? ⟨gb575, 2, none⟩ = some (.int .i64 a0_2)) (ds := []) #[false, false, false, false, false, false, false, false] (by kernel_rfl) rfl rfl ⟨(zH BK575.out 0).trans rfl, (zH BK575.out 1).trans rfl, (zH BK575.out 2).trans rfl⟩ (fun hHeld => ?_); refine with_tabW spec_TransmitFrame.tab3 spec_TransmitFrame.bits3 (fun HT_ HW_ => ?_)
     generalize wc.drew = w24 at BK575 HB hHeld ⊢
     refine pure_ (i := 0) (N := some 17) (v := ?_) (a' := ?_) #[true, false, false, false, false, false, false, false] rfl rfl (any_of HT_.out (by kernel_rfl)) (fun _ _ _ h => h) (Or.inl ⟨by rfl, ?_⟩) ?_ ?_; rotate_left
     ·intro w'; go_simp; with_reducible rfl
     rotate_left
     ·simp only [Act.put, yF, yG, yH, i64_w, i32_w]; rfl
     refine pure_ (i := 2) (N := some 19) (v := ?_) (a' := ?_) #[true, false, true, false, false, false, false, false] rfl rfl (any_of HT_.out (by kernel_rfl)) (fun _ _ _ h => h) (Or.inl ⟨by rfl, ?_⟩) ?_ ?_; rotate_left
     ·intro w'; go_simp; with_reducible rfl
     rotate_left
     ·simp only [Act.put, yF, yG, yH, i64_w, i32_w]; rfl
     refine take_ (i := 1) (N := some 18) (v := ?_) (a' := ?_) #[true, true, true, false, false, false, false, false] rfl rfl (take_ofW HT_.out HW_.out (by kernel_rfl)) (fun _ _ _ h => h) (Or.inl ⟨by rfl, ?_⟩) hHeld ?_ ?_; rotate_left
     ·rintro w' ⟨s0, s1, s2⟩; go_simp; with_reducible rfl
     rotate_left
     ·simp only [Act.put, yF, yG, yH, i64_w, i32_w]; rfl
     refine one_ (i := 3) (N := some 20) #[true, true, true, true, false, false, false, false] rfl rfl (one_of HT_.out (by kernel_rfl)) (by decide) (fun K hK => ?_)
     refine goes_ Try.func89 (by kernel_rfl) rfl #[.slice A1 l1.length c1] (by rfl) rfl rfl (by (try simp only [yK, yL, yM]); first | done | rfl | (simp only [yJ, yI]; rfl)) ?_
     with_reducible refine (spec_AppendCrc.calls kj2 _ _ l1 t580 _ ?side1 ?side2 A15.out).mono ?_
     (case side1 => repeat (first | exact (Kd.C_below HR1.out HB.out) | (with_reducible refine zR ?_ _) | (with_reducible refine zT ?_ _) | (with_reducible refine zS ?_)))
     (case side2 => exact HC1.out)
     rintro e w25 ⟨v581, rfl, ho0, hb⟩
     refine ⟨_, rfl, ?_⟩
     have n0_ := zO (yA ho0 (zD (by repeat (first | (with_reducible first | exact HB.out | apply zA | apply zL | apply zB | refine zC ?_ GE575.out) | exact HB.out))))
     have n1_ := zO (zG (g := gb575) (o := .cells #[.int .i64 a0_0, .int .i64 a0_1, .int .i64 a0_2] 24 (0, 0)) (by (with_reducible repeat (first | refine zJ ?_ _ | refine zI ?_ | refine zF ?_ _)); exact BK575.out) hb)
     have n2_ := zO (zE (by repeat (first | (with_reducible first | exact HB.out | apply zA | apply zL | apply zB | refine zC ?_ GE575.out) | exact HB.out)) hb)
     clear BK575
     clear HB
     have HO582 := n0_
     have BK575 := n1_
     have HB := n2_
     clear n0_ n1_ n2_
     (try clear hb)
     (try clear hb2)
     (try clear hk)
     (try clear hi)
     (try clear ho0)
     obtain ⟨Ao26, co26, eo26⟩ := Kd.R_slice HO582.out
     (first | subst eo26 | (injection eo26 with f1_ f2_ f3_; have f4_ := f1_.symm; have f5_ := f3_.symm; clear f1_ f2_ f3_; subst f4_; subst f5_))
     refine hK.out _ _ ⟨(zH BK575.out 0).trans rfl, (zH BK575.out 1).trans rfl, (zH BK575.out 2).trans rfl⟩ (fun hHeld => ?_)
     clear hK K
     refine norm_ (a' := ?_) ?_ ?_; rotate_left
     ·show Act.put _ (some 20) _ = _; simp only [Act.put, yF, yG, yH, i64_w, i32_w]; rfl
     refine one_ (i := 4) (N := some 21) #[true, true, true, true, true, false, false, false] rfl rfl (one_of HT_.out (by kernel_rfl)) (by decide) (fun K hK => ?_)
     refine goes_ Try.func41 (by kernel_rfl) rfl #[.slice Ao26 t580.length co26] (by rfl) rfl rfl (by (try simp only [yK, yL, yM]); first | done | rfl | (simp only [yJ, yI]; rfl)) ?_
     with_reducible refine (spec_BytesToBits.calls kj2 _ _ t580 t583 _ ?side1 ?side2 A16.out).mono ?_
     (case side1 => repeat (first | exact (zX HO582.out).2.2 | (with_reducible refine zR ?_ _) | (with_reducible refine zT ?_ _) | (with_reducible refine zS ?_)))
     (case side2 => exact (zX HO582.out).2.1)
     rintro e w27 ⟨v584, rfl, ho0, hb⟩
     refine ⟨_, rfl, ?_⟩
     have n0_ := zO (zY (by (with_reducible repeat (first | apply zU | apply zW | apply zV)); exact HO582.out) hb)
     have n1_ := zO (yA ho0 (zD (by repeat (first | (with_reducible first | exact HB.out | apply zA | apply zL | apply zB | refine zC ?_ GE575.out) | exact HB.out))))
     have n2_ := zO (zG (g := gb575) (o := .cells #[.int .i64 a0_0, .int .i64 a0_1, .int .i64 a0_2] 24 (0, 0)) (by (with_reducible repeat (first | refine zJ ?_ _ | refine zI ?_ | refine zF ?_ _)); exact BK575.out) hb)
     have n3_ := zO (zE (by repeat (first | (with_reducible first | exact HB.out | apply zA | apply zL | apply zB | refine zC ?_ GE575.out) | exact HB.out)) hb)
     clear HO582
     clear BK575
     clear HB
     have HO582 := n0_
     have HO585 := n1_
     have BK575 := n2_
     have HB := n3_
     clear n0_ n1_ n2_ n3_
     (try clear hb)
     (try clear hb2)
     (try clear hk)
     (try clear hi)
     (try clear ho0)
     obtain ⟨Ao28, co28, eo28⟩ := Kd.R_slice HO585.out
     (first | subst eo28 | (injection eo28 with f1_ f2_ f3_; have f4_ := f1_.symm; have f5_ := f3_.symm; clear f1_ f2_ f3_; subst f4_; subst f5_))
     refine hK.out _ _ ⟨(zH BK575.out 0).trans rfl, (zH BK575.out 1).trans rfl, (zH BK575.out 2).trans rfl⟩ (fun hHeld => ?_)
     clear hK K
     refine norm_ (a' := ?_) ?_ ?_; rotate_left
     ·show Act.put _ (some 21) _ = _; simp only [Act.put, yF, yG, yH, i64_w, i32_w]; rfl
     refine one_ (i := 5) (N := some 22) #[true, true, true, true, true, true, false, false] rfl rfl (one_of HT_.out (by kernel_rfl)) (by decide) (fun K hK => ?_)
     refine goes_ Try.func124 (by kernel_rfl) rfl #[.int .i64 a0_2, .slice Ao28 t583.length co28] (by rfl) rfl rfl (by (try simp only [yK, yL, yM]); first | done | rfl | (simp only [yJ, yI]; rfl)) ?_
     with_reducible refine (spec_Scramble.calls kj2 a0_2 _ _ t583 t586 _ ?side1 ?side2 A17.out).mono ?_
     (case side1 => repeat (first | exact (zX HO585.out).2.2 | (with_reducible refine zR ?_ _) | (with_reducible refine zT ?_ _) | (with_reducible refine zS ?_)))
     (case side2 => exact (zX HO585.out).2.1)
     rintro e w29 ⟨v587, rfl, ho0, hb⟩
     refine ⟨_, rfl, ?_⟩
     have n0_ := zO (zY (by (with_reducible repeat (first | apply zU | apply zW | apply zV)); exact HO582.out) hb)
     have n1_ := zO (Kd.R_elder' (by (with_reducible repeat (first | apply zU | apply zW | apply zV)); exact HO585.out) (Kd.R_base ho0) hb)
     have n2_ := zO (yA (Kd.R_new' ho0 (Kd.R_lt (by (with_reducible repeat (first | apply zU | apply zW | apply zV)); exact HO585.out))) (zD (by repeat (first | (with_reducible first | exact HB.out | apply zA | apply zL | apply zB | refine zC ?_ GE575.out) | exact HB.out))))
     have n3_ := zO (zG (g := gb575) (o := .cells #[.int .i64 a0_0, .int .i64 a0_1, .int .i64 a0_2] 24 (0, 0)) (by (with_reducible repeat (first | refine zJ ?_ _ | refine zI ?_ | refine zF ?_ _)); exact BK575.out) hb)
     have n4_ := zO (zE (by repeat (first | (with_reducible first | exact HB.out | apply zA | apply zL | apply zB | refine zC ?_ GE575.out) | exact HB.out)) hb)
     clear HO582
     clear HO585
     clear BK575
     clear HB
     have HO582 := n0_
     have HO585 := n1_
     have HO588 := n2_
     have BK575 := n3_
     have HB := n4_
     clear n0_ n1_ n2_ n3_ n4_
     (try clear hb)
     (try clear hb2)
     (try clear hk)
     (try clear hi)
     (try clear ho0)
     obtain ⟨Ao30, co30, eo30⟩ := Kd.R_slice HO588.out
     (first | subst eo30 | (injection eo30 with f1_ f2_ f3_; have f4_ := f1_.symm; have f5_ := f3_.symm; clear f1_ f2_ f3_; subst f4_; subst f5_))
     refine hK.out _ _ ⟨(zH BK575.out 0).trans rfl, (zH BK575.out 1).trans rfl, (zH BK575.out 2).trans rfl⟩ (fun hHeld => ?_)
     clear hK K
     refine norm_ (a' := ?_) ?_ ?_; rotate_left
     ·show Act.put _ (some 22) _ = _; simp only [Act.put, yF, yG, yH, i64_w, i32_w]; rfl
     refine one_ (i := 6) (N := some 23) #[true, true, true, true, true, true, true, false] rfl rfl (one_of HT_.out (by kernel_rfl)) (by decide) (fun K hK => ?_)
     refine goes_ Try.func52 (by kernel_rfl) rfl #[.slice Ao30 t586.length co30] (by rfl) rfl rfl (by (try simp only [yK, yL, yM]); first | done | rfl | (simp only [yJ, yI]; rfl)) ?_
     with_reducible refine (spec_ConvolutionalEncode.calls kj2 _ _ t586 t589 _ ?side1 ?side2 A18.out).mono ?_
     (case side1 => repeat (first | exact (zX HO588.out).2.2 | (with_reducible refine zR ?_ _) | (with_reducible refine zT ?_ _) | (with_reducible refine zS ?_)))
     (case side2 => exact (zX HO588.out).2.1)
     rintro e w31 ⟨v590, rfl, ho0, hb⟩
     refine ⟨_, rfl, ?_⟩
     have n0_ := zO (zY (by (with_reducible repeat (first | apply zU | apply zW | apply zV)); exact HO582.out) hb)
     have n1_ := zO (Kd.R_elder' (by (with_reducible repeat (first | apply zU | apply zW | apply zV)); exact HO585.out) (Kd.R_base ho0) hb)
     have n2_ := zO (Kd.R_elder' (by (with_reducible repeat (first | apply zU | apply zW | apply zV)); exact HO588.out) (Kd.R_base ho0) hb)
     have n3_ := zO (yA (Kd.R_new' (Kd.R_new' ho0 (Kd.R_lt (by (with_reducible repeat (first | apply zU | apply zW | apply zV)); exact HO585.out))) (Kd.R_lt (by (with_reducible repeat (first | apply zU | apply zW | apply zV)); exact HO588.out))) (zD (by repeat (first | (with_reducible first | exact HB.out | apply zA | apply zL | apply zB | refine zC ?_ GE575.out) | exact HB.out))))
     have n4_ := zO (zG (g := gb575) (o := .cells #[.int .i64 a0_0, .int .i64 a0_1, .int .i64 a0_2] 24 (0, 0)) (by (with_reducible repeat (first | refine zJ ?_ _ | refine zI ?_ | refine zF ?_ _)); exact BK575.out) hb)
     have n5_ := zO (zE (by repeat (first | (with_reducible first | exact HB.out | apply zA | apply zL | apply zB | refine zC ?_ GE575.out) | exact HB.out)) hb)
     clear HO582
     clear HO585
     clear HO588
     clear BK575
     clear HB
     have HO582 := n0_
     have HO585 := n1_
     have HO588 := n2_
     have HO591 := n3_
     have BK575 := n4_
     have HB := n5_
     clear n0_ n1_ n2_ n3_ n4_ n5_
     (try clear hb)
     (try clear hb2)
     (try clear hk)
     (try clear hi)
     (try clear ho0)
     refine hK.out _ _ ⟨(zH BK575.out 0).trans rfl, (zH BK575.out 1).trans rfl, (zH BK575.out 2).trans rfl⟩ (fun hHeld => ?_)
     clear hK K
     refine norm_ (a' := ?_) ?_ ?_; rotate_left
     ·show Act.put _ (some 23) _ = _; simp only [Act.put, yF, yG, yH, i64_w, i32_w]; rfl
     refine pure_ (i := 7) (N := some 5) (v := ?_) (a' := ?_) #[true, true, true, true, true, true, true, true] rfl rfl (any_of HT_.out (by kernel_rfl)) (fun _ _ _ h => h) (Or.inl ⟨by rfl, ?_⟩) ?_ ?_; rotate_left
     ·intro w'; go_simp; with_reducible rfl
     rotate_left
     ·simp only [Act.put, yF, yG, yH, i64_w, i32_w]; rfl
     refine done_ (done_of HT_.out (by kernel_rfl)) ?_
     have hcz32_0 : w31.cell? ⟨gb575, 0, none⟩ = some (.int .i64 a0_0) := (zH BK575.out 0).trans rfl
     have hcz32_1 : w31.cell? ⟨gb575, 1, none⟩ = some (.int .i64 a0_1) := (zH BK575.out 1).trans rfl
     have hcz32_2 : w31.cell? ⟨gb575, 2, none⟩ = some (.int .i64 a0_2) := (zH BK575.out 2).trans rfl
     have hfz32_0 := zK BK575.out 0
     have hfz32_1 := zK BK575.out 1
     have hfz32_2 := zK BK575.out 2
     obtain ⟨Ao33, co33, eo33⟩ := Kd.R_slice HO591.out
     subst eo33
     try go_wp2_with (first | ((with_reducible refine zM (f := 183) rfl ?_); refine goesL_ (some 28) rfl rfl Try.func183 (by kernel_rfl) rfl #[.slice Ao33 t589.length co33] rfl (by (try simp only [yK, yL, yM]); first | done | rfl | (simp only [yJ, yI]; rfl)) ?_; (with_reducible refine (spec_Puncture.calls kj2 _ _ t589 t592 _ ?side1 ?side2 A20.out).mono ?_); (case side1 => repeat (first | exact (zX HO591.out).2.2 | (with_reducible refine zR ?_ _) | (with_reducible refine zT ?_ _) | (with_reducible refine zS ?_))); (case side2 => exact (zX HO591.out).2.1); rintro e w34 ⟨v593, rfl, ho0, hb⟩; refine ⟨_, rfl, ?_⟩; have n0_ := zO (zY (by (with_reducible repeat (first | apply zU | apply zW | apply zV)); exact HO582.out) hb); have n1_ := zO (Kd.R_elder' (by (with_reducible repeat (first | apply zU | apply zW | apply zV)); exact HO585.out) (Kd.R_base ho0) hb); have n2_ := zO (Kd.R_elder' (by (with_reducible repeat (first | apply zU | apply zW | apply zV)); exact HO588.out) (Kd.R_base ho0) hb); have n3_ := zO (Kd.R_elder' (by (with_reducible repeat (first | apply zU | apply zW | apply zV)); exact HO591.out) (Kd.R_base ho0) hb); have n4_ := zO (yA (Kd.R_new' (Kd.R_new' (Kd.R_new' ho0 (Kd.R_lt (by (with_reducible repeat (first | apply zU | apply zW | apply zV)); exact HO585.out))) (Kd.R_lt (by (with_reducible repeat (first | apply zU | apply zW | apply zV)); exact HO588.out))) (Kd.R_lt (by (with_reducible repeat (first | apply zU | apply zW | apply zV)); exact HO591.out))) (zD (by repeat (first | (with_reducible first | exact HB.out | apply zA | apply zL | apply zB | refine zC ?_ GE575.out) | exact HB.out)))); have n5_ := zO (zG (g := gb575) (o := .cells #[.int .i64 a0_0, .int .i64 a0_1, .int .i64 a0_2] 24 (0, 0)) (by (with_reducible repeat (first | refine zJ ?_ _ | refine zI ?_ | refine zF ?_ _)); exact BK575.out) hb); have n6_ := zO (zE (by repeat (first | (with_reducible first | exact HB.out | apply zA | apply zL | apply zB | refine zC ?_ GE575.out) | exact HB.out)) hb); clear HO582; clear HO585; clear HO588; clear HO591; clear BK575; clear HB; have HO582 := n0_; have HO585 := n1_; have HO588 := n2_; have HO591 := n3_; have HO594 := n4_; have BK575 := n5_; have HB := n6_; clear n0_ n1_ n2_ n3_ n4_ n5_ n6_; (try clear hb); (try clear hb2); (try clear hk); (try clear hi); (try clear ho0); have hcz35_0 : w34.cell? ⟨gb575, 0, none⟩ = some (.int .i64 a0_0) := (zH BK575.out 0).trans rfl; have hcz35_1 : w34.cell? ⟨gb575, 1, none⟩ = some (.int .i64 a0_1) := (zH BK575.out 1).trans rfl; have hcz35_2 : w34.cell? ⟨gb575, 2, none⟩ = some (.int .i64 a0_2) := (zH BK575.out 2).trans rfl; have hfz35_0 := zK BK575.out 0; have hfz35_1 := zK BK575.out 1; have hfz35_2 := zK BK575.out 2) | ((with_reducible refine zM (f := 184) rfl ?_); refine goesL_ (some 30) rfl rfl Try.func184 (by kernel_rfl) rfl #[.agg #[.int .i64 a0_0, .int .i64 a0_1, .int .i64 a0_2]] rfl (by (try simp only [yK, yL, yM]); first | done | rfl | (simp only [yJ, yI]; rfl)) ?_; (with_reducible refine (spec_EncodeHeader.calls kj2 a0_0 a0_1 a0_2 t595 _ A21.out).mono ?_); rintro e w36 ⟨v596, rfl, ho0, hb⟩; refine ⟨_, rfl, ?_⟩; have n0_ := zO (zY (by (with_reducible repeat (first | apply zU | apply zW | apply zV)); exact HO582.out) hb); have n1_ := zO (Kd.R_elder' (by (with_reducible repeat (first | apply zU | apply zW | apply zV)); exact HO585.out) (Kd.R_base ho0) hb); have n2_ := zO (Kd.R_elder' (by (with_reducible repeat (first | apply zU | apply zW | apply zV)); exact HO588.out) (Kd.R_base ho0) hb); have n3_ := zO (Kd.R_elder' (by (with_reducible repeat (first | apply zU | apply zW | apply zV)); exact HO591.out) (Kd.R_base ho0) hb); have n4_ := zO (Kd.R_elder' (by (with_reducible repeat (first | apply zU | apply zW | apply zV)); exact HO594.out) (Kd.R_base ho0) hb); have n5_ := zO (yA (Kd.R_new' (Kd.R_new' (Kd.R_new' (Kd.R_new' ho0 (Kd.R_lt (by (with_reducible repeat (first | apply zU | apply zW | apply zV)); exact HO585.out))) (Kd.R_lt (by (with_reducible repeat (first | apply zU | apply zW | apply zV)); exact HO588.out))) (Kd.R_lt (by (with_reducible repeat (first | apply zU | apply zW | apply zV)); exact HO591.out))) (Kd.R_lt (by (with_reducible repeat (first | apply zU | apply zW | apply zV)); exact HO594.out))) (zD (by repeat (first | (with_reducible first | exact HB.out | apply zA | apply zL | apply zB | refine zC ?_ GE575.out) | exact HB.out)))); have n6_ := zO (zG (g := gb575) (o := .cells #[.int .i64 a0_0, .int .i64 a0_1, .int .i64 a0_2] 24 (0, 0)) (by (with_reducible repeat (first | refine zJ ?_ _ | refine zI ?_ | refine zF ?_ _)); exact BK575.out) hb); have n7_ := zO (zE (by repeat (first | (with_reducible first | exact HB.out | apply zA | apply zL | apply zB | refine zC ?_ GE575.out) | exact HB.out)) hb); clear HO582; clear HO585; clear HO588; clear HO591; clear HO594; clear BK575; clear HB; have HO582 := n0_; have HO585 := n1_; have HO588 := n2_; have HO591 := n3_; have HO594 := n4_; have HO597 := n5_; have BK575 := n6_; have HB := n7_; clear n0_ n1_ n2_ n3_ n4_ n5_ n6_ n7_; (try clear hb); (try clear hb2); (try clear hk); (try clear hi); (try clear ho0); obtain ⟨Ao37, co37, eo37⟩ := Kd.R_slice HO594.out; subst eo37) | ((with_reducible refine zM (f := 185) rfl ?_); refine goesL_ (some 32) rfl rfl Try.func185 (by kernel_rfl) rfl #[.slice Ao37 t592.length co37, .int .i64 8] rfl (by (try simp only [yK, yL, yM]); first | done | rfl | (simp only [yJ, yI]; rfl)) ?_; (with_reducible refine (spec_Interleave.calls kj2 _ _ t592 8 t598 _ ?side1 ?side2 A22.out).mono ?_); (case side1 => repeat (first | exact (zX HO594.out).2.2 | (with_reducible refine zR ?_ _) | (with_reducible refine zT ?_ _) | (with_reducible refine zS ?_))); (case side2 => exact (zX HO594.out).2.1); rintro e w38 ⟨v599, rfl, ho0, hb⟩; refine ⟨_, rfl, ?_⟩; have n0_ := zO (zY (by (with_reducible repeat (first | apply zU | apply zW | apply zV)); exact HO582.out) hb); have n1_ := zO (Kd.R_elder' (by (with_reducible repeat (first | apply zU | apply zW | apply zV)); exact HO585.out) (Kd.R_base ho0) hb); have n2_ := zO (Kd.R_elder' (by (with_reducible repeat (first | apply zU | apply zW | apply zV)); exact HO588.out) (Kd.R_base ho0) hb); have n3_ := zO (Kd.R_elder' (by (with_reducible repeat (first | apply zU | apply zW | apply zV)); exact HO591.out) (Kd.R_base ho0) hb); have n4_ := zO (Kd.R_elder' (by (with_reducible repeat (first | apply zU | apply zW | apply zV)); exact HO594.out) (Kd.R_base ho0) hb); have n5_ := zO (Kd.R_elder' (by (with_reducible repeat (first | apply zU | apply zW | apply zV)); exact HO597.out) (Kd.R_base ho0) hb); have n6_ := zO (yA (Kd.R_new' (Kd.R_new' (Kd.R_new' (Kd.R_new' (Kd.R_new' ho0 (Kd.R_lt (by (with_reducible repeat (first | apply zU | apply zW | apply zV)); exact HO585.out))) (Kd.R_lt (by (with_reducible repeat (first | apply zU | apply zW | apply zV)); exact HO588.out))) (Kd.R_lt (by (with_reducible repeat (first | apply zU | apply zW | apply zV)); exact HO591.out))) (Kd.R_lt (by (with_reducible repeat (first | apply zU | apply zW | apply zV)); exact HO594.out))) (Kd.R_lt (by (with_reducible repeat (first | apply zU | apply zW | apply zV)); exact HO597.out))) (zD (by repeat (first | (with_reducible first | exact HB.out | apply zA | apply zL | apply zB | refine zC ?_ GE575.out) | exact HB.out)))); have n7_ := zO (zG (g := gb575) (o := .cells #[.int .i64 a0_0, .int .i64 a0_1, .int .i64 a0_2] 24 (0, 0)) (by (with_reducible repeat (first | refine zJ ?_ _ | refine zI ?_ | refine zF ?_ _)); exact BK575.out) hb); have n8_ := zO (zE (by repeat (first | (with_reducible first | exact HB.out | apply zA | apply zL | apply zB | refine zC ?_ GE575.out) | exact HB.out)) hb); clear HO582; clear HO585; clear HO588; clear HO591; clear HO594; clear HO597; clear BK575; clear HB; have HO582 := n0_; have HO585 := n1_; have HO588 := n2_; have HO591 := n3_; have HO594 := n4_; have HO597 := n5_; have HO600 := n6_; have BK575 := n7_; have HB := n8_; clear n0_ n1_ n2_ n3_ n4_ n5_ n6_ n7_ n8_; (try clear hb); (try clear hb2); (try clear hk); (try clear hi); (try clear ho0); obtain ⟨Ao40, co40, eo40⟩ := Kd.R_slice HO600.out; subst eo40) | ((with_reducible refine gate_builtin (b := .append) (xs := #[.tmp 30, .tmp 32]) rfl ?_); (try (refine gate_guard (by rfl) ?_; dsimp only)); at_builtin; refine Kd.R_append_rows (Kd.int .i64) (w0 := w) w.heap.size rfl (.tmp 30) (.tmp 32) 22 3 (.int .i64 0) 8 rfl Try.underlying22 info3 rfl (by decide) (by omega) v596 t595 t598 _ _ _ (fun k_ => some k_ ≠ (.slice Ao28 t583.length co28 : Value).ownBlock ∧ some k_ ≠ (.slice Ao30 t586.length co30 : Value).ownBlock ∧ some k_ ≠ (.slice Ao33 t589.length co33 : Value).ownBlock ∧ some k_ ≠ (.slice Ao37 t592.length co37 : Value).ownBlock ∧ some k_ ≠ (.slice Ao40 t598.length co40 : Value).ownBlock) (fun _ => False) rfl rfl ?aO ?aR (fun _ _ h => h) (fun _ h => h.elim) ?aF ?aB ?aS ?aL ?_; (case aR => repeat (first | exact (zX HO600.out).2.2 | (with_reducible refine zR ?_ _) | (with_reducible refine zT ?_ _) | (with_reducible refine zS ?_))); (case aB => exact (by repeat (first | (with_reducible first | exact HB.out | apply zA | apply zL | apply zB | refine zC ?_ GE575.out) | exact HB.out))); (case aF => exact (fun k_ hk => ⟨Kd.fresh' (Kd.R_lt (by (with_reducible repeat (first | apply zU | apply zW | apply zV)); exact HO585.out)) k_ hk, Kd.fresh' (Kd.R_lt (by (with_reducible repeat (first | apply zU | apply zW | apply zV)); exact HO588.out)) k_ hk, Kd.fresh' (Kd.R_lt (by (with_reducible repeat (first | apply zU | apply zW | apply zV)); exact HO591.out)) k_ hk, Kd.fresh' (Kd.R_lt (by (with_reducible repeat (first | apply zU | apply zW | apply zV)); exact HO594.out)) k_ hk, Kd.fresh' (Kd.R_lt (by (with_reducible repeat (first | apply zU | apply zW | apply zV)); exact HO600.out)) k_ hk⟩)); (case aO => exact (by (with_reducible repeat (first | apply zU | apply zW | apply zV)); exact Kd.R_mono HO597.out (fun _ hk => ⟨hk.1.1.1.1.2, ⟨hk.1.1.1.2, ⟨hk.1.1.2, ⟨hk.1.2, hk.2⟩⟩⟩⟩))); (case aS => exact (zD (by repeat (first | (with_reducible first | exact HB.out | apply zA | apply zL | apply zB | refine zC ?_ GE575.out) | exact HB.out)))); (case aL => have := LMc23.out; omega); intro v602 w39 ho hb hg hat; rw [← Ny601.out] at ho; have n0_ := zO (blk_grown (g := gb575) (o := .cells #[.int .i64 a0_0, .int .i64 a0_1, .int .i64 a0_2] 24 (0, 0)) (by (with_reducible repeat (first | refine zJ ?_ _ | refine zI ?_ | refine zF ?_ _)); exact BK575.out) hg (Kd.R_ne HO597.out BK575.out (by decide))); have n1_ := zO (Kd.R_over' (by (with_reducible repeat (first | apply zU | apply zW | apply zV)); exact HO582.out) (Kd.R_typed (by (with_reducible repeat (first | apply zU | apply zW | apply zV)); exact HO597.out)) (by decide) hg); have n2_ := zO (Kd.R_after (ok := (fun k_ => some k_ ≠ (.slice Ao30 t586.length co30 : Value).ownBlock ∧ some k_ ≠ (.slice Ao33 t589.length co33 : Value).ownBlock ∧ some k_ ≠ (.slice Ao37 t592.length co37 : Value).ownBlock ∧ some k_ ≠ (.slice Ao40 t598.length co40 : Value).ownBlock)) (by (with_reducible repeat (first | apply zU | apply zW | apply zV)); exact Kd.R_mono HO585.out (fun _ hk => ⟨⟨hk.1.1.1.1.2, ⟨hk.1.1.1.2, ⟨hk.1.1.2, hk.2⟩⟩⟩, hk.1.2⟩)) hg hat); have n3_ := zO (Kd.R_after (ok := (fun k_ => some k_ ≠ (.slice Ao28 t583.length co28 : Value).ownBlock ∧ some k_ ≠ (.slice Ao33 t589.length co33 : Value).ownBlock ∧ some k_ ≠ (.slice Ao37 t592.length co37 : Value).ownBlock ∧ some k_ ≠ (.slice Ao40 t598.length co40 : Value).ownBlock)) (by (with_reducible repeat (first | apply zU | apply zW | apply zV)); exact Kd.R_mono HO588.out (fun _ hk => ⟨⟨hk.1.1.1.1.2, ⟨hk.1.1.1.2, ⟨hk.1.1.2, hk.2⟩⟩⟩, hk.1.2⟩)) hg hat); have n4_ := zO (Kd.R_after (ok := (fun k_ => some k_ ≠ (.slice Ao28 t583.length co28 : Value).ownBlock ∧ some k_ ≠ (.slice Ao30 t586.length co30 : Value).ownBlock ∧ some k_ ≠ (.slice Ao37 t592.length co37 : Value).ownBlock ∧ some k_ ≠ (.slice Ao40 t598.length co40 : Value).ownBlock)) (by (with_reducible repeat (first | apply zU | apply zW | apply zV)); exact Kd.R_mono HO591.out (fun _ hk => ⟨⟨hk.1.1.1.1.2, ⟨hk.1.1.1.2, ⟨hk.1.1.2, hk.2⟩⟩⟩, hk.1.2⟩)) hg hat); have n5_ := zO (Kd.R_after (ok := (fun k_ => some k_ ≠ (.slice Ao28 t583.length co28 : Value).ownBlock ∧ some k_ ≠ (.slice Ao30 t586.length co30 : Value).ownBlock ∧ some k_ ≠ (.slice Ao33 t589.length co33 : Value).ownBlock ∧ some k_ ≠ (.slice Ao40 t598.length co40 : Value).ownBlock)) (by (with_reducible repeat (first | apply zU | apply zW | apply zV)); exact Kd.R_mono HO594.out (fun _ hk => ⟨⟨hk.1.1.1.1.2, ⟨hk.1.1.1.2, ⟨hk.1.1.2, hk.2⟩⟩⟩, hk.1.2⟩)) hg hat); have n6_ := zO (Kd.R_after (ok := (fun k_ => some k_ ≠ (.slice Ao28 t583.length co28 : Value).ownBlock ∧ some k_ ≠ (.slice Ao30 t586.length co30 : Value).ownBlock ∧ some k_ ≠ (.slice Ao33 t589.length co33 : Value).ownBlock ∧ some k_ ≠ (.slice Ao37 t592.length co37 : Value).ownBlock)) (by (with_reducible repeat (first | apply zU | apply zW | apply zV)); exact Kd.R_mono HO600.out (fun _ hk => ⟨⟨hk.1.1.1.1.2, ⟨hk.1.1.1.2, ⟨hk.1.1.2, hk.1.2⟩⟩⟩, hk.2⟩)) hg hat); have n7_ := zO (hb); have n8_ := zO (ho); clear BK575; clear HO582; clear HO585; clear HO588; clear HO591; clear HO594; clear HO600; clear HB; clear HO597; have BK575 := n0_; have HO582 := n1_; have HO585 := n2_; have HO588 := n3_; have HO591 := n4_; have HO594 := n5_; have HO600 := n6_; have HB := n7_; have HO603 := n8_; clear n0_ n1_ n2_ n3_ n4_ n5_ n6_ n7_ n8_; clear ho hb hg hat))
     go_ret
     exact ⟨_, by first | rfl | (simp [errW_none, errW_some] <;> rfl) | (simp [*, errW_none, errW_some] <;> rfl), by (with_reducible repeat (first | apply zU | apply zW | apply zV)); exact Kd.R_mono HO603.out (fun _ hk => trivial), by repeat (first | (with_reducible first | exact HB.out | apply zA | apply zL | apply zB | refine zC ?_ GE575.out) | exact HB.out)⟩
    ·rw [if_neg c19] at H
     have c19b0 : (a0_0 == 2) = false := beq_eq_false_iff_ne.mpr c19
     have c19b1 : (a0_0 != 2) = true := bne_iff_ne.mpr c19
     replace H := yE.mp H
     obtain ⟨t604, A410, H⟩ := H
     replace H : ((spec_Interleave.f kj2 t589 8).bind fun t607 => (if t604.length + t607.length < 17592186044416 then (some (t604 ++ t607)) else (none))) = some r := H
     have A41 := zO A410
     clear A410
     replace H := yE.mp H
     obtain ⟨t607, A420, H⟩ := H
     replace H : (if t604.length + t607.length < 17592186044416 then (some (t604 ++ t607)) else (none)) = some r := H
     have A42 := zO A420
     clear A420
     by_cases c43 : t604.length + t607.length < 17592186044416
     case neg => rw [if_neg c43] at H; exact absurd H (by simp)
     rw [if_pos c43] at H
     have LMc43 := zO c43
     clear c43
     obtain ⟨y610, hy610⟩ : ∃ y_ : List Int, y_ = (t604 ++ t607) := ⟨_, rfl⟩
     replace H : (some y610) = some r := by first | (rw [hy610]; exact H) | exact H
     have Ny610 := zO hy610
     clear hy610
     obtain rfl := Option.some.inj H
     try go_wp2
     have n0_ := zO (zI BK575.out)
     have n1_ := zO (zB HB.out)
     clear BK575
     clear HB
     have BK575 := n0_
     have HB := n1_
     clear n0_ n1_
     refine start_ (n := 8) (S := fun w' => w'.cell? ⟨gb575, 0, none⟩ = some (.int .i64 a0_0) ∧ w'.cell? ⟨gb575, 1, none⟩ = some (.int .i64 a0_1) ∧ w'.cell? ⟨gb575, 2, none⟩ = some (.int .i64 a0_2)) (ds := []) #[false, false, false, false, false, false, false, false] (by kernel_rfl) rfl rfl ⟨(zH BK575.out 0).trans rfl, (zH BK575.out 1).trans rfl, (zH BK575.out 2).trans rfl⟩ (fun hHeld => ?_); refine with_tabW spec_TransmitFrame.tab3 spec_TransmitFrame.bits3 (fun HT_ HW_ => ?_)
     generalize wc.drew = w44 at BK575 HB hHeld ⊢
     refine pure_ (i := 0) (N := some 17) (v := ?_) (a' := ?_) #[true, false, false, false, false, false, false, false] rfl rfl (any_of HT_.out (by kernel_rfl)) (fun _ _ _ h => h) (Or.inl ⟨by rfl, ?_⟩) ?_ ?_; rotate_left
     ·intro w'; go_simp; with_reducible rfl
     rotate_left
     ·simp only [Act.put, yF, yG, yH, i64_w, i32_w]; rfl
     refine pure_ (i := 2) (N := some 19) (v := ?_) (a' := ?_) #[true, false, true, false, false, false, false, false] rfl rfl (any_of HT_.out (by kernel_rfl)) (fun _ _ _ h => h) (Or.inl ⟨by rfl, ?_⟩) ?_ ?_; rotate_left
     ·intro w'; go_simp; with_reducible rfl
     rotate_left
     ·simp only [Act.put, yF, yG, yH, i64_w, i32_w]; rfl
     refine take_ (i := 1) (N := some 18) (v := ?_) (a' := ?_) #[true, true, true, false, false, false, false, false] rfl rfl (take_ofW HT_.out HW_.out (by kernel_rfl)) (fun _ _ _ h => h) (Or.inl ⟨by rfl, ?_⟩) hHeld ?_ ?_; rotate_left
     ·rintro w' ⟨s0, s1, s2⟩; go_simp; with_reducible rfl
     rotate_left
     ·simp only [Act.put, yF, yG, yH, i64_w, i32_w]; rfl
     refine one_ (i := 3) (N := some 20) #[true, true, true, true, false, false, false, false] rfl rfl (one_of HT_.out (by kernel_rfl)) (by decide) (fun K hK => ?_)
     refine goes_ Try.func89 (by kernel_rfl) rfl #[.slice A1 l1.length c1] (by rfl) rfl rfl (by (try simp only [yK, yL, yM]); first | done | rfl | (simp only [yJ, yI]; rfl)) ?_
     with_reducible refine (spec_AppendCrc.calls kj2 _ _ l1 t580 _ ?side1 ?side2 A15.out).mono ?_
     (case side1 => repeat (first | exact (Kd.C_below HR1.out HB.out) | (with_reducible refine zR ?_ _) | (with_reducible refine zT ?_ _) | (with_reducible refine zS ?_)))
     (case side2 => exact HC1.out)
     rintro e w45 ⟨v581, rfl, ho0, hb⟩
     refine ⟨_, rfl, ?_⟩
     have n0_ := zO (yA ho0 (zD (by repeat (first | (with_reducible first | exact HB.out | apply zA | apply zL | apply zB | refine zC ?_ GE575.out) | exact HB.out))))
     have n1_ := zO (zG (g := gb575) (o := .cells #[.int .i64 a0_0, .int .i64 a0_1, .int .i64 a0_2] 24 (0, 0)) (by (with_reducible repeat (first | refine zJ ?_ _ | refine zI ?_ | refine zF ?_ _)); exact BK575.out) hb)
     have n2_ := zO (zE (by repeat (first | (with_reducible first | exact HB.out | apply zA | apply zL | apply zB | refine zC ?_ GE575.out) | exact HB.out)) hb)
     clear BK575
     clear HB
     have HO582 := n0_
     have BK575 := n1_
     have HB := n2_
     clear n0_ n1_ n2_
     (try clear hb)
     (try clear hb2)
     (try clear hk)
     (try clear hi)
     (try clear ho0)
     obtain ⟨Ao46, co46, eo46⟩ := Kd.R_slice HO582.out
     (first | subst eo46 | (injection eo46 with f1_ f2_ f3_; have f4_ := f1_.symm; have f5_ := f3_.symm; clear f1_ f2_ f3_; subst f4_; subst f5_))
     refine hK.out _ _ ⟨(zH BK575.out 0).trans rfl, (zH BK575.out 1).trans rfl, (zH BK575.out 2).trans rfl⟩ (fun hHeld => ?_)
     clear hK K
     refine norm_ (a' := ?_) ?_ ?_; rotate_left
     ·show Act.put _ (some 20) _ = _; simp only [Act.put, yF, yG, yH, i64_w, i32_w]; rfl
     refine one_ (i := 4) (N := some 21) #[true, true, true, true, true, false, false, false] rfl rfl (one_of HT_.out (by kernel_rfl)) (by decide) (fun K hK => ?_)
     refine goes_ Try.func41 (by kernel_rfl) rfl #[.slice Ao46 t580.length co46] (by rfl) rfl rfl (by (try simp only [yK, yL, yM]); first | done | rfl | (simp only [yJ, yI]; rfl)) ?_
     with_reducible refine (spec_BytesToBits.calls kj2 _ _ t580 t583 _ ?side1 ?side2 A16.out).mono ?_
     (case side1 => repeat (first | exact (zX HO582.out).2.2 | (with_reducible refine zR ?_ _) | (with_reducible refine zT ?_ _) | (with_reducible refine zS ?_)))
     (case side2 => exact (zX HO582.out).2.1)
     rintro e w47 ⟨v584, rfl, ho0, hb⟩
     refine ⟨_, rfl, ?_⟩
     have n0_ := zO (zY (by (with_reducible repeat (first | apply zU | apply zW | apply zV)); exact HO582.out) hb)
     have n1_ := zO (yA ho0 (zD (by repeat (first | (with_reducible first | exact HB.out | apply zA | apply zL | apply zB | refine zC ?_ GE575.out) | exact HB.out))))
     have n2_ := zO (zG (g := gb575) (o := .cells #[.int .i64 a0_0, .int .i64 a0_1, .int .i64 a0_2] 24 (0, 0)) (by (with_reducible repeat (first | refine zJ ?_ _ | refine zI ?_ | refine zF ?_ _)); exact BK575.out) hb)
     have n3_ := zO (zE (by repeat (first | (with_reducible first | exact HB.out | apply zA | apply zL | apply zB | refine zC ?_ GE575.out) | exact HB.out)) hb)
     clear HO582
     clear BK575
     clear HB
     have HO582 := n0_
     have HO585 := n1_
     have BK575 := n2_
     have HB := n3_
     clear n0_ n1_ n2_ n3_
     (try clear hb)
     (try clear hb2)
     (try clear hk)
     (try clear hi)
     (try clear ho0)
     obtain ⟨Ao48, co48, eo48⟩ := Kd.R_slice HO585.out
     (first | subst eo48 | (injection eo48 with f1_ f2_ f3_; have f4_ := f1_.symm; have f5_ := f3_.symm; clear f1_ f2_ f3_; subst f4_; subst f5_))
     refine hK.out _ _ ⟨(zH BK575.out 0).trans rfl, (zH BK575.out 1).trans rfl, (zH BK575.out 2).trans rfl⟩ (fun hHeld => ?_)
     clear hK K
     refine norm_ (a' := ?_) ?_ ?_; rotate_left
     ·show Act.put _ (some 21) _ = _; simp only [Act.put, yF, yG, yH, i64_w, i32_w]; rfl
     refine one_ (i := 5) (N := some 22) #[true, true, true, true, true, true, false, false] rfl rfl (one_of HT_.out (by kernel_rfl)) (by decide) (fun K hK => ?_)
     refine goes_ Try.func124 (by kernel_rfl) rfl #[.int .i64 a0_2, .slice Ao48 t583.length co48] (by rfl) rfl rfl (by (try simp only [yK, yL, yM]); first | done | rfl | (simp only [yJ, yI]; rfl)) ?_
     with_reducible refine (spec_Scramble.calls kj2 a0_2 _ _ t583 t586 _ ?side1 ?side2 A17.out).mono ?_
     (case side1 => repeat (first | exact (zX HO585.out).2.2 | (with_reducible refine zR ?_ _) | (with_reducible refine zT ?_ _) | (with_reducible refine zS ?_)))
     (case side2 => exact (zX HO585.out).2.1)
     rintro e w49 ⟨v587, rfl, ho0, hb⟩
     refine ⟨_, rfl, ?_⟩
     have n0_ := zO (zY (by (with_reducible repeat (first | apply zU | apply zW | apply zV)); exact HO582.out) hb)
     have n1_ := zO (Kd.R_elder' (by (with_reducible repeat (first | apply zU | apply zW | apply zV)); exact HO585.out) (Kd.R_base ho0) hb)
     have n2_ := zO (yA (Kd.R_new' ho0 (Kd.R_lt (by (with_reducible repeat (first | apply zU | apply zW | apply zV)); exact HO585.out))) (zD (by repeat (first | (with_reducible first | exact HB.out | apply zA | apply zL | apply zB | refine zC ?_ GE575.out) | exact HB.out))))
     have n3_ := zO (zG (g := gb575) (o := .cells #[.int .i64 a0_0, .int .i64 a0_1, .int .i64 a0_2] 24 (0, 0)) (by (with_reducible repeat (first | refine zJ ?_ _ | refine zI ?_ | refine zF ?_ _)); exact BK575.out) hb)
     have n4_ := zO (zE (by repeat (first | (with_reducible first | exact HB.out | apply zA | apply zL | apply zB | refine zC ?_ GE575.out) | exact HB.out)) hb)
     clear HO582
     clear HO585
     clear BK575
     clear HB
     have HO582 := n0_
     have HO585 := n1_
     have HO588 := n2_
     have BK575 := n3_
     have HB := n4_
     clear n0_ n1_ n2_ n3_ n4_
     (try clear hb)
     (try clear hb2)
     (try clear hk)
     (try clear hi)
     (try clear ho0)
     obtain ⟨Ao50, co50, eo50⟩ := Kd.R_slice HO588.out
     (first | subst eo50 | (injection eo50 with f1_ f2_ f3_; have f4_ := f1_.symm; have f5_ := f3_.symm; clear f1_ f2_ f3_; subst f4_; subst f5_))
     refine hK.out _ _ ⟨(zH BK575.out 0).trans rfl, (zH BK575.out 1).trans rfl, (zH BK575.out 2).trans rfl⟩ (fun hHeld => ?_)
     clear hK K
     refine norm_ (a' := ?_) ?_ ?_; rotate_left
     ·show Act.put _ (some 22) _ = _; simp only [Act.put, yF, yG, yH, i64_w, i32_w]; rfl
     refine one_ (i := 6) (N := some 23) #[true, true, true, true, true, true, true, false] rfl rfl (one_of HT_.out (by kernel_rfl)) (by decide) (fun K hK => ?_)
     refine goes_ Try.func52 (by kernel_rfl) rfl #[.slice Ao50 t586.length co50] (by rfl) rfl rfl (by (try simp only [yK, yL, yM]); first | done | rfl | (simp only [yJ, yI]; rfl)) ?_
     with_reducible refine (spec_ConvolutionalEncode.calls kj2 _ _ t586 t589 _ ?side1 ?side2 A18.out).mono ?_
     (case side1 => repeat (first | exact (zX HO588.out).2.2 | (with_reducible refine zR ?_ _) | (with_reducible refine zT ?_ _) | (with_reducible refine zS ?_)))
     (case side2 => exact (zX HO588.out).2.1)
     rintro e w51 ⟨v590, rfl, ho0, hb⟩
     refine ⟨_, rfl, ?_⟩
     have n0_ := zO (zY (by (with_reducible repeat (first | apply zU | apply zW | apply zV)); exact HO582.out) hb)
     have n1_ := zO (Kd.R_elder' (by (with_reducible repeat (first | apply zU | apply zW | apply zV)); exact HO585.out) (Kd.R_base ho0) hb)
     have n2_ := zO (Kd.R_elder' (by (with_reducible repeat (first | apply zU | apply zW | apply zV)); exact HO588.out) (Kd.R_base ho0) hb)
     have n3_ := zO (yA (Kd.R_new' (Kd.R_new' ho0 (Kd.R_lt (by (with_reducible repeat (first | apply zU | apply zW | apply zV)); exact HO585.out))) (Kd.R_lt (by (with_reducible repeat (first | apply zU | apply zW | apply zV)); exact HO588.out))) (zD (by repeat (first | (with_reducible first | exact HB.out | apply zA | apply zL | apply zB | refine zC ?_ GE575.out) | exact HB.out))))
     have n4_ := zO (zG (g := gb575) (o := .cells #[.int .i64 a0_0, .int .i64 a0_1, .int .i64 a0_2] 24 (0, 0)) (by (with_reducible repeat (first | refine zJ ?_ _ | refine zI ?_ | refine zF ?_ _)); exact BK575.out) hb)
     have n5_ := zO (zE (by repeat (first | (with_reducible first | exact HB.out | apply zA | apply zL | apply zB | refine zC ?_ GE575.out) | exact HB.out)) hb)
     clear HO582
     clear HO585
     clear HO588
     clear BK575
     clear HB
     have HO582 := n0_
     have HO585 := n1_
     have HO588 := n2_
     have HO591 := n3_
     have BK575 := n4_
     have HB := n5_
     clear n0_ n1_ n2_ n3_ n4_ n5_
     (try clear hb)
     (try clear hb2)
     (try clear hk)
     (try clear hi)
     (try clear ho0)
     refine hK.out _ _ ⟨(zH BK575.out 0).trans rfl, (zH BK575.out 1).trans rfl, (zH BK575.out 2).trans rfl⟩ (fun hHeld => ?_)
     clear hK K
     refine norm_ (a' := ?_) ?_ ?_; rotate_left
     ·show Act.put _ (some 23) _ = _; simp only [Act.put, yF, yG, yH, i64_w, i32_w]; rfl
     refine pure_ (i := 7) (N := some 5) (v := ?_) (a' := ?_) #[true, true, true, true, true, true, true, true] rfl rfl (any_of HT_.out (by kernel_rfl)) (fun _ _ _ h => h) (Or.inl ⟨by rfl, ?_⟩) ?_ ?_; rotate_left
     ·intro w'; go_simp; with_reducible rfl
     rotate_left
     ·simp only [Act.put, yF, yG, yH, i64_w, i32_w]; rfl
     refine done_ (done_of HT_.out (by kernel_rfl)) ?_
     have hcz52_0 : w51.cell? ⟨gb575, 0, none⟩ = some (.int .i64 a0_0) := (zH BK575.out 0).trans rfl
     have hcz52_1 : w51.cell? ⟨gb575, 1, none⟩ = some (.int .i64 a0_1) := (zH BK575.out 1).trans rfl
     have hcz52_2 : w51.cell? ⟨gb575, 2, none⟩ = some (.int .i64 a0_2) := (zH BK575.out 2).trans rfl
     have hfz52_0 := zK BK575.out 0
     have hfz52_1 := zK BK575.out 1
     have hfz52_2 := zK BK575.out 2
     try go_wp2_with (first | ((with_reducible refine zM (f := 184) rfl ?_); refine goesL_ (some 30) rfl rfl Try.func184 (by kernel_rfl) rfl #[.agg #[.int .i64 a0_0, .int .i64 a0_1, .int .i64 a0_2]] rfl (by (try simp only [yK, yL, yM]); first | done | rfl | (simp only [yJ, yI]; rfl)) ?_; (with_reducible refine (spec_EncodeHeader.calls kj2 a0_0 a0_1 a0_2 t604 _ A41.out).mono ?_); rintro e w53 ⟨v605, rfl, ho0, hb⟩; refine ⟨_, rfl, ?_⟩; have n0_ := zO (zY (by (with_reducible repeat (first | apply zU | apply zW | apply zV)); exact HO582.out) hb); have n1_ := zO (Kd.R_elder' (by (with_reducible repeat (first | apply zU | apply zW | apply zV)); exact HO585.out) (Kd.R_base ho0) hb); have n2_ := zO (Kd.R_elder' (by (with_reducible repeat (first | apply zU | apply zW | apply zV)); exact HO588.out) (Kd.R_base ho0) hb); have n3_ := zO (Kd.R_elder' (by (with_reducible repeat (first | apply zU | apply zW | apply zV)); exact HO591.out) (Kd.R_base ho0) hb); have n4_ := zO (yA (Kd.R_new' (Kd.R_new' (Kd.R_new' ho0 (Kd.R_lt (by (with_reducible repeat (first | apply zU | apply zW | apply zV)); exact HO585.out))) (Kd.R_lt (by (with_reducible repeat (first | apply zU | apply zW | apply zV)); exact HO588.out))) (Kd.R_lt (by (with_reducible repeat (first | apply zU | apply zW | apply zV)); exact HO591.out))) (zD (by repeat (first | (with_reducible first | exact HB.out | apply zA | apply zL | apply zB | refine zC ?_ GE575.out) | exact HB.out)))); have n5_ := zO (zG (g := gb575) (o := .cells #[.int .i64 a0_0, .int .i64 a0_1, .int .i64 a0_2] 24 (0, 0)) (by (with_reducible repeat (first | refine zJ ?_ _ | refine zI ?_ | refine zF ?_ _)); exact BK575.out) hb); have n6_ := zO (zE (by repeat (first | (with_reducible first | exact HB.out | apply zA | apply zL | apply zB | refine zC ?_ GE575.out) | exact HB.out)) hb); clear HO582; clear HO585; clear HO588; clear HO591; clear BK575; clear HB; have HO582 := n0_; have HO585 := n1_; have HO588 := n2_; have HO591 := n3_; have HO606 := n4_; have BK575 := n5_; have HB := n6_; clear n0_ n1_ n2_ n3_ n4_ n5_ n6_; (try clear hb); (try clear hb2); (try clear hk); (try clear hi); (try clear ho0); obtain ⟨Ao54, co54, eo54⟩ := Kd.R_slice HO591.out; subst eo54) | ((with_reducible refine zM (f := 185) rfl ?_); refine goesL_ (some 32) rfl rfl Try.func185 (by kernel_rfl) rfl #[.slice Ao54 t589.length co54, .int .i64 8] rfl (by (try simp only [yK, yL, yM]); first | done | rfl | (simp only [yJ, yI]; rfl)) ?_; (with_reducible refine (spec_Interleave.calls kj2 _ _ t589 8 t607 _ ?side1 ?side2 A42.out).mono ?_); (case side1 => repeat (first | exact (zX HO591.out).2.2 | (with_reducible refine zR ?_ _) | (with_reducible refine zT ?_ _) | (with_reducible refine zS ?_))); (case side2 => exact (zX HO591.out).2.1); rintro e w55 ⟨v608, rfl, ho0, hb⟩; refine ⟨_, rfl, ?_⟩; have n0_ := zO (zY (by (with_reducible repeat (first | apply zU | apply zW | apply zV)); exact HO582.out) hb); have n1_ := zO (Kd.R_elder' (by (with_reducible repeat (first | apply zU | apply zW | apply zV)); exact HO585.out) (Kd.R_base ho0) hb); have n2_ := zO (Kd.R_elder' (by (with_reducible repeat (first | apply zU | apply zW | apply zV)); exact HO588.out) (Kd.R_base ho0) hb); have n3_ := zO (Kd.R_elder' (by (with_reducible repeat (first | apply zU | apply zW | apply zV)); exact HO591.out) (Kd.R_base ho0) hb); have n4_ := zO (Kd.R_elder' (by (with_reducible repeat (first | apply zU | apply zW | apply zV)); exact HO606.out) (Kd.R_base ho0) hb); have n5_ := zO (yA (Kd.R_new' (Kd.R_new' (Kd.R_new' (Kd.R_new' ho0 (Kd.R_lt (by (with_reducible repeat (first | apply zU | apply zW | apply zV)); exact HO585.out))) (Kd.R_lt (by (with_reducible repeat (first | apply zU | apply zW | apply zV)); exact HO588.out))) (Kd.R_lt (by (with_reducible repeat (first | apply zU | apply zW | apply zV)); exact HO591.out))) (Kd.R_lt (by (with_reducible repeat (first | apply zU | apply zW | apply zV)); exact HO606.out))) (zD (by repeat (first | (with_reducible first | exact HB.out | apply zA | apply zL | apply zB | refine zC ?_ GE575.out) | exact HB.out)))); have n6_ := zO (zG (g := gb575) (o := .cells #[.int .i64 a0_0, .int .i64 a0_1, .int .i64 a0_2] 24 (0, 0)) (by (with_reducible repeat (first | refine zJ ?_ _ | refine zI ?_ | refine zF ?_ _)); exact BK575.out) hb); have n7_ := zO (zE (by repeat (first | (with_reducible first | exact HB.out | apply zA | apply zL | apply zB | refine zC ?_ GE575.out) | exact HB.out)) hb); clear HO582; clear HO585; clear HO588; clear HO591; clear HO606; clear BK575; clear HB; have HO582 := n0_; have HO585 := n1_; have HO588 := n2_; have HO591 := n3_; have HO606 := n4_; have HO609 := n5_; have BK575 := n6_; have HB := n7_; clear n0_ n1_ n2_ n3_ n4_ n5_ n6_ n7_; (try clear hb); (try clear hb2); (try clear hk); (try clear hi); (try clear ho0); obtain ⟨Ao57, co57, eo57⟩ := Kd.R_slice HO609.out; subst eo57) | ((with_reducible refine gate_builtin (b := .append) (xs := #[.tmp 30, .tmp 32]) rfl ?_); (try (refine gate_guard (by rfl) ?_; dsimp only)); at_builtin; refine Kd.R_append_rows (Kd.int .i64) (w0 := w) w.heap.size rfl (.tmp 30) (.tmp 32) 22 3 (.int .i64 0) 8 rfl Try.underlying22 info3 rfl (by decide) (by omega) v605 t604 t607 _ _ _ (fun k_ => some k_ ≠ (.slice Ao48 t583.length co48 : Value).ownBlock ∧ some k_ ≠ (.slice Ao50 t586.length co50 : Value).ownBlock ∧ some k_ ≠ (.slice Ao54 t589.length co54 : Value).ownBlock ∧ some k_ ≠ (.slice Ao57 t607.length co57 : Value).ownBlock) (fun _ => False) rfl rfl ?aO ?aR (fun _ _ h => h) (fun _ h => h.elim) ?aF ?aB ?aS ?aL ?_; (case aR => repeat (first | exact (zX HO609.out).2.2 | (with_reducible refine zR ?_ _) | (with_reducible refine zT ?_ _) | (with_reducible refine zS ?_))); (case aB => exact (by repeat (first | (with_reducible first | exact HB.out | apply zA | apply zL | apply zB | refine zC ?_ GE575.out) | exact HB.out))); (case aF => exact (fun k_ hk => ⟨Kd.fresh' (Kd.R_lt (by (with_reducible repeat (first | apply zU | apply zW | apply zV)); exact HO585.out)) k_ hk, Kd.fresh' (Kd.R_lt (by (with_reducible repeat (first | apply zU | apply zW | apply zV)); exact HO588.out)) k_ hk, Kd.fresh' (Kd.R_lt (by (with_reducible repeat (first | apply zU | apply zW | apply zV)); exact HO591.out)) k_ hk, Kd.fresh' (Kd.R_lt (by (with_reducible repeat (first | apply zU | apply zW | apply zV)); exact HO609.out)) k_ hk⟩)); (case aO => exact (by (with_reducible repeat (first | apply zU | apply zW | apply zV)); exact Kd.R_mono HO606.out (fun _ hk => ⟨hk.1.1.1.2, ⟨hk.1.1.2, ⟨hk.1.2, hk.2⟩⟩⟩))); (case aS => exact (zD (by repeat (first | (with_reducible first | exact HB.out | apply zA | apply zL | apply zB | refine zC ?_ GE575.out) | exact HB.out)))); (case aL => have := LMc43.out; omega); intro v611 w56 ho hb hg hat; rw [← Ny610.out] at ho; have n0_ := zO (blk_grown (g := gb575) (o := .cells #[.int .i64 a0_0, .int .i64 a0_1, .int .i64 a0_2] 24 (0, 0)) (by (with_reducible repeat (first | refine zJ ?_ _ | refine zI ?_ | refine zF ?_ _)); exact BK575.out) hg (Kd.R_ne HO606.out BK575.out (by decide))); have n1_ := zO (Kd.R_over' (by (with_reducible repeat (first | apply zU | apply zW | apply zV)); exact HO582.out) (Kd.R_typed (by (with_reducible repeat (first | apply zU | apply zW | apply zV)); exact HO606.out)) (by decide) hg); have n2_ := zO (Kd.R_after (ok := (fun k_ => some k_ ≠ (.slice Ao50 t586.length co50 : Value).ownBlock ∧ some k_ ≠ (.slice Ao54 t589.length co54 : Value).ownBlock ∧ some k_ ≠ (.slice Ao57 t607.length co57 : Value).ownBlock)) (by (with_reducible repeat (first | apply zU | apply zW | apply zV)); exact Kd.R_mono HO585.out (fun _ hk => ⟨⟨hk.1.1.1.2, ⟨hk.1.1.2, hk.2⟩⟩, hk.1.2⟩)) hg hat); have n3_ := zO (Kd.R_after (ok := (fun k_ => some k_ ≠ (.slice Ao48 t583.length co48 : Value).ownBlock ∧ some k_ ≠ (.slice Ao54 t589.length co54 : Value).ownBlock ∧ some k_ ≠ (.slice Ao57 t607.length co57 : Value).ownBlock)) (by (with_reducible repeat (first | apply zU | apply zW | apply zV)); exact Kd.R_mono HO588.out (fun _ hk => ⟨⟨hk.1.1.1.2, ⟨hk.1.1.2, hk.2⟩⟩, hk.1.2⟩)) hg hat); have n4_ := zO (Kd.R_after (ok := (fun k_ => some k_ ≠ (.slice Ao48 t583.length co48 : Value).ownBlock ∧ some k_ ≠ (.slice Ao50 t586.length co50 : Value).ownBlock ∧ some k_ ≠ (.slice Ao57 t607.length co57 : Value).ownBlock)) (by (with_reducible repeat (first | apply zU | apply zW | apply zV)); exact Kd.R_mono HO591.out (fun _ hk => ⟨⟨hk.1.1.1.2, ⟨hk.1.1.2, hk.2⟩⟩, hk.1.2⟩)) hg hat); have n5_ := zO (Kd.R_after (ok := (fun k_ => some k_ ≠ (.slice Ao48 t583.length co48 : Value).ownBlock ∧ some k_ ≠ (.slice Ao50 t586.length co50 : Value).ownBlock ∧ some k_ ≠ (.slice Ao54 t589.length co54 : Value).ownBlock)) (by (with_reducible repeat (first | apply zU | apply zW | apply zV)); exact Kd.R_mono HO609.out (fun _ hk => ⟨⟨hk.1.1.1.2, ⟨hk.1.1.2, hk.1.2⟩⟩, hk.2⟩)) hg hat); have n6_ := zO (hb); have n7_ := zO (ho); clear BK575; clear HO582; clear HO585; clear HO588; clear HO591; clear HO609; clear HB; clear HO606; have BK575 := n0_; have HO582 := n1_; have HO585 := n2_; have HO588 := n3_; have HO591 := n4_; have HO609 := n5_; have HB := n6_; have HO612 := n7_; clear n0_ n1_ n2_ n3_ n4_ n5_ n6_ n7_; clear ho hb hg hat))
     go_ret
     exact ⟨_, by first | rfl | (simp [errW_none, errW_some] <;> rfl) | (simp [*, errW_none, errW_some] <;> rfl), by (with_reducible repeat (first | apply zU | apply zW | apply zV)); exact Kd.R_mono HO612.out (fun _ hk => trivial), by repeat (first | (with_reducible first | exact HB.out | apply zA | apply zL | apply zB | refine zC ?_ GE575.out) | exact HB.out)⟩

def spec_l10Frame.f (k : Nat) (s0_0 : List Int) (s0_1 : Int) (s0_2 : Int) : Option (Int × Int × Int × List Int × List Int × Int × Int) := (spec_l10Header.f s0_0 s0_1 s0_2).bind fun bt614 => ((spec_l1Bytes.f k s0_0 bt614.2.2.2.1 bt614.2.2.2.2 bt614.2.1).bind fun bt620 => ((spec_TransmitFrame.f k bt614.1 bt614.2.1 bt614.2.2.1 bt620.1).bind fun t625 => (some (bt614.1, bt614.2.1, bt614.2.2.1, bt620.1, t625, bt620.2.1, bt620.2.2))))
def spec_l10Frame.T3 : Bool × List (List Nat × List Nat) := (true, [([], []), ([], []), ([], []), ([], []), ([2, 3], [2, 3]), ([0, 4, 0], [0]), ([1, 5, 0, 1, 5], [1]), ([4, 6, 0, 1, 2, 3, 4, 5, 6], [4])])
def spec_l10Frame.B3 : List Nat := [0, 0, 0, 0, 12, 29, 63, 127]
theorem spec_l10Frame.tab3 : rtab .any (opsOf Try.f137 3) = spec_l10Frame.T3 := by kernel_rfl
theorem spec_l10Frame.bits3 : waitsOk spec_l10Frame.T3.2 spec_l10Frame.B3 = true := by kernel_rfl
theorem spec_l10Frame.calls (k : Nat) (g : Nat) (s0_0 : List Int) (s0_1 : Int) (s0_2 : Int) (r1 : Int) (r2 : Int) (r3 : Int) (r4 : List Int) (r5 : List Int) (r6 : Int) (r7 : Int) (w0 w : World) (hI : IsS114 w0 w g s0_0 s0_1 s0_2) (hB : Below w0.heap.size w0 w) (h : spec_l10Frame.f k s0_0 s0_1 s0_2 = some (r1, r2, r3, r4, r5, r6, r7)) :
  Calls Try.prog 137 #[.pointer (some ⟨g, 0, none⟩)] w fun e w' => ∃ v3_ v4_ : Value, e = .returned (.tuple #[.agg #[.int .i64 r1, .int .i64 r2, .int .i64 r3], v3_, v4_]) ∧ Kd.R (Kd.int .u8) 5 w' w.heap.size (fun _ => True) v3_ r4 ∧ Kd.R (Kd.int .i64) 3 w' w.heap.size (fun _ => True) v4_ r5 ∧ IsS114 w0 w' g s0_0 r6 r7 ∧ Below w0.heap.size w0 w' ∧ KeepBut w w' g none := by
 have hu24 := Try.underlying24
 have HI0 := zO hI
 have HK := zO (KeepBut.refl w g none)
 have HL := zO hB.size
 clear hI
 have HW0 := zO hB.size
 have HB := zO hB
 clear hB
 have H : ((spec_l10Header.f s0_0 s0_1 s0_2).bind fun bt614 => ((spec_l1Bytes.f k s0_0 bt614.2.2.2.1 bt614.2.2.2.2 bt614.2.1).bind fun bt620 => ((spec_TransmitFrame.f k bt614.1 bt614.2.1 bt614.2.2.1 bt620.1).bind fun t625 => (some (bt614.1, bt614.2.1, bt614.2.2.1, bt620.1, t625, bt620.2.1, bt620.2.2))))) = some (r1, r2, r3, r4, r5, r6, r7) := h
 clear h
 replace H := yE.mp H
 obtain ⟨⟨t614, t615, t616, t617, t618⟩, A20, H⟩ := H
 replace H : ((spec_l1Bytes.f k s0_0 t617 t618 t615).bind fun bt620 => ((spec_TransmitFrame.f k t614 t615 t616 bt620.1).bind fun t625 => (some (t614, t615, t616, bt620.1, t625, bt620.2.1, bt620.2.2)))) = some (r1, r2, r3, r4, r5, r6, r7) := H
 have A2 := zO A20
 clear A20
 replace H := yE.mp H
 obtain ⟨⟨t620, t623, t624⟩, A30, H⟩ := H
 replace H : ((spec_TransmitFrame.f k t614 t615 t616 t620).bind fun t625 => (some (t614, t615, t616, t620, t625, t623, t624))) = some (r1, r2, r3, r4, r5, r6, r7) := H
 have A3 := zO A30
 clear A30
 replace H := yE.mp H
 obtain ⟨t625, A40, H⟩ := H
 replace H : (some (t614, t615, t616, t620, t625, t623, t624)) = some (r1, r2, r3, r4, r5, r6, r7) := H
 have A4 := zO A40
 clear A40
 simp only [Option.some.injEq, Prod.mk.injEq] at H
 obtain ⟨rfl, rfl, rfl, rfl, rfl, rfl, rfl⟩ := H
 go_enter Try.func137, Try.ntmps137
 try go_wp2_with (first | ((with_reducible refine zN (N := 2) rfl ?_); refine box_event ?hg (N := 2) ?hd (cs := #[.int .i64 0, .int .i64 0, .int .i64 0]) (t := 24) ?hr ?_; (case hd => rfl); (case hg => rfl); (case hr => first | (go_simp; done) | (go_simp; rfl)); intro gb613 hg w5 hbox hb; have n0_ := zO (IsS114.below (by repeat (first | (with_reducible first | exact HI0.out | apply IsS114.alloc | apply IsS114.drewN | apply IsS114.drew | apply IsS114.set_1 | apply IsS114.set_2) | exact HI0.out)) hb); have n1_ := zO (KeepBut.trans (by repeat (first | (with_reducible first | exact HK.out | apply KeepBut.set_ | apply keep_drewN | apply keep_drew | apply keep_alloc) | exact HK.out)) (KeepBut.of_below hb g none) (.inl rfl)); have n2_ := zO (zE (by repeat (first | (with_reducible first | exact HB.out | apply zA | apply zL | apply zB | refine zC ?_ (IsS114.ge HI0.out)) | exact HB.out)) hb); have n3_ := zO (hbox); have n4_ := zO ((by rw [hg]; exact (keep_size (w := w) (g := g) (row := none) (by repeat (first | (with_reducible first | exact HK.out | apply KeepBut.set_ | apply keep_drewN | apply keep_drew | apply keep_alloc) | exact HK.out))) : w.heap.size ≤ gb613)); have n5_ := zO ((Nat.le_trans HW0.out (by rw [hg]; exact (keep_size (w := w) (g := g) (row := none) (by repeat (first | (with_reducible first | exact HK.out | apply KeepBut.set_ | apply keep_drewN | apply keep_drew | apply keep_alloc) | exact HK.out))) : w.heap.size ≤ gb613) : w0.heap.size ≤ gb613)); have n6_ := zO ((by rw [hg]; exact Nat.ne_of_lt (IsS114.lt (show IsS114 w0 _ g s0_0 s0_1 s0_2 from by repeat (first | (with_reducible first | exact HI0.out | apply IsS114.alloc | apply IsS114.drewN | apply IsS114.drew | apply IsS114.set_1 | apply IsS114.set_2) | exact HI0.out))) : g ≠ gb613)); have n7_ := zO ((by rw [hg]; exact Nat.ne_of_gt (IsS114.lt (show IsS114 w0 _ g s0_0 s0_1 s0_2 from by repeat (first | (with_reducible first | exact HI0.out | apply IsS114.alloc | apply IsS114.drewN | apply IsS114.drew | apply IsS114.set_1 | apply IsS114.set_2) | exact HI0.out))) : gb613 ≠ g)); clear HI0; clear HK; clear HB; have HI0 := n0_; have HK := n1_; have HB := n2_; have BK613 := n3_; have GW613 := n4_; have GE613 := n5_; have NB0_613 := n6_; have NB613_0 := n7_; clear n0_ n1_ n2_ n3_ n4_ n5_ n6_ n7_; clear hb hbox hg) | ((with_reducible refine zM (f := 166) rfl ?_); refine goesL_ (some 8) rfl rfl Try.func166 (by kernel_rfl) rfl #[.pointer (some ⟨g, 0, none⟩)] rfl (by (try simp only [yK, yL, yM]); first | done | rfl | (simp only [yJ, yI]; rfl)) ?_; (with_reducible refine (spec_l10Header.calls g s0_0 s0_1 s0_2 t614 t615 t616 t617 t618 w0 _ ?side1 ?side2 A2.out).mono ?_); (case side1 => repeat (first | (with_reducible first | exact HI0.out | apply IsS114.alloc | apply IsS114.drewN | apply IsS114.drew | apply IsS114.set_1 | apply IsS114.set_2 | refine IsS114.far ?_ NB0_613.out _) | exact HI0.out)); (case side2 => repeat (first | (with_reducible first | exact HB.out | apply zA | apply zL | apply zB | refine zC ?_ (IsS114.ge HI0.out) | refine zC ?_ GE613.out) | exact HB.out)); rintro e w6 ⟨rfl, hi, hb, hk⟩; refine ⟨_, rfl, ?_⟩; have n0_ := zO (KeepBut.blk hk (g' := gb613) (o := .cells #[.int .i64 0, .int .i64 0, .int .i64 0] 24 (0, 0)) (by (with_reducible repeat (first | refine zJ ?_ _ | refine zI ?_ | refine zF ?_ _)); exact BK613.out) NB613_0.out (by simp)); have n1_ := zO (KeepBut.trans (by repeat (first | (with_reducible first | exact HK.out | apply KeepBut.set_ | apply keep_drewN | apply keep_drew | apply keep_alloc | refine keep_far ?_ GW613.out _) | exact HK.out)) hk (.inl rfl)); have n2_ := zO (hb); have n3_ := zO (hi); clear BK613; clear HK; clear HB; clear HI0; have BK613 := n0_; have HK := n1_; have HB := n2_; have HI0 := n3_; clear n0_ n1_ n2_ n3_; (try clear hb); (try clear hb2); (try clear hk); (try clear hi)) | ((with_reducible refine zN (N := 5) rfl ?_); refine box_event ?hg (N := 5) ?hd (cs := #[.int .i64 0, .int .i64 0, .int .i64 0]) (t := 24) ?hr ?_; (case hd => rfl); (case hg => rfl); (case hr => first | (go_simp; done) | (go_simp; rfl)); intro gb619 hg w7 hbox hb; have n0_ := zO (IsS114.below (by repeat (first | (with_reducible first | exact HI0.out | apply IsS114.alloc | apply IsS114.drewN | apply IsS114.drew | apply IsS114.set_1 | apply IsS114.set_2 | refine IsS114.far ?_ NB0_613.out _) | exact HI0.out)) hb); have n1_ := zO (zG (g := gb613) (o := .cells #[.int .i64 0, .int .i64 0, .int .i64 0] 24 (0, 0)) (by (with_reducible repeat (first | refine zJ ?_ _ | refine zI ?_ | refine zF ?_ _)); exact BK613.out) hb); have n2_ := zO (KeepBut.trans (by repeat (first | (with_reducible first | exact HK.out | apply KeepBut.set_ | apply keep_drewN | apply keep_drew | apply keep_alloc | refine keep_far ?_ GW613.out _) | exact HK.out)) (KeepBut.of_below hb g none) (.inl rfl)); have n3_ := zO (zE (by repeat (first | (with_reducible first | exact HB.out | apply zA | apply zL | apply zB | refine zC ?_ (IsS114.ge HI0.out) | refine zC ?_ GE613.out) | exact HB.out)) hb); have n4_ := zO (hbox); have n5_ := zO ((by rw [hg]; exact (keep_size (w := w) (g := g) (row := none) (by repeat (first | (with_reducible first | exact HK.out | apply KeepBut.set_ | apply keep_drewN | apply keep_drew | apply keep_alloc | refine keep_far ?_ GW613.out _) | exact HK.out))) : w.heap.size ≤ gb619)); have n6_ := zO ((Nat.le_trans HW0.out (by rw [hg]; exact (keep_size (w := w) (g := g) (row := none) (by repeat (first | (with_reducible first | exact HK.out | apply KeepBut.set_ | apply keep_drewN | apply keep_drew | apply keep_alloc | refine keep_far ?_ GW613.out _) | exact HK.out))) : w.heap.size ≤ gb619) : w0.heap.size ≤ gb619)); have n7_ := zO ((by rw [hg]; exact Nat.ne_of_lt (blk_lt (g := gb613) (o := .cells #[.int .i64 0, .int .i64 0, .int .i64 0] 24 (0, 0)) (by (with_reducible repeat (first | refine zJ ?_ _ | refine zI ?_ | refine zF ?_ _)); exact BK613.out)) : gb613 ≠ gb619)); have n8_ := zO ((by rw [hg]; exact Nat.ne_of_gt (blk_lt (g := gb613) (o := .cells #[.int .i64 0, .int .i64 0, .int .i64 0] 24 (0, 0)) (by (with_reducible repeat (first | refine zJ ?_ _ | refine zI ?_ | refine zF ?_ _)); exact BK613.out)) : gb619 ≠ gb613)); have n9_ := zO ((by rw [hg]; exact Nat.ne_of_lt (IsS114.lt (show IsS114 w0 _ g s0_0 t617 t618 from by repeat (first | (with_reducible first | exact HI0.out | apply IsS114.alloc | apply IsS114.drewN | apply IsS114.drew | apply IsS114.set_1 | apply IsS114.set_2 | refine IsS114.far ?_ NB0_613.out _) | exact HI0.out))) : g ≠ gb619)); have n10_ := zO ((by rw [hg]; exact Nat.ne_of_gt (IsS114.lt (show IsS114 w0 _ g s0_0 t617 t618 from by repeat (first | (with_reducible first | exact HI0.out | apply IsS114.alloc | apply IsS114.drewN | apply IsS114.drew | apply IsS114.set_1 | apply IsS114.set_2 | refine IsS114.far ?_ NB0_613.out _) | exact HI0.out))) : gb619 ≠ g)); clear HI0; clear BK613; clear HK; clear HB; have HI0 := n0_; have BK613 := n1_; have HK := n2_; have HB := n3_; have BK619 := n4_; have GW619 := n5_; have GE619 := n6_; have NB613_619 := n7_; have NB619_613 := n8_; have NB0_619 := n9_; have NB619_0 := n10_; clear n0_ n1_ n2_ n3_ n4_ n5_ n6_ n7_ n8_ n9_ n10_; clear hb hbox hg; have hnb8 := NB619_613.out; have hnc8 := NB613_619.out; have hnb9 := NB619_0.out; have hnc9 := NB0_619.out; have hcz10_0 : w7.cell? ⟨gb619, 0, none⟩ = some (.int .i64 0) := (zH BK619.out 0).trans rfl; have hcz10_1 : w7.cell? ⟨gb619, 1, none⟩ = some (.int .i64 0) := (zH BK619.out 1).trans rfl; have hcz10_2 : w7.cell? ⟨gb619, 2, none⟩ = some (.int .i64 0) := (zH BK619.out 2).trans rfl; have hfz10_0 := zK BK619.out 0; have hfz10_1 := zK BK619.out 1; have hfz10_2 := zK BK619.out 2) | ((with_reducible refine zM (f := 132) rfl ?_); refine goesL_ (some 12) rfl rfl Try.func132 (by kernel_rfl) rfl #[.pointer (some ⟨g, 0, none⟩), .int .i64 t615] rfl (by (try simp only [yK, yL, yM]); first | done | rfl | (simp only [yJ, yI]; rfl)) ?_; (with_reducible refine (spec_l1Bytes.calls k g s0_0 t617 t618 t615 t620 t623 t624 w0 _ ?side1 ?side2 A3.out).mono ?_); (case side1 => repeat (first | (with_reducible first | exact HI0.out | apply IsS114.alloc | apply IsS114.drewN | apply IsS114.drew | apply IsS114.set_1 | apply IsS114.set_2 | refine IsS114.far ?_ NB0_613.out _ | refine IsS114.far ?_ NB0_619.out _) | exact HI0.out)); (case side2 => repeat (first | (with_reducible first | exact HB.out | apply zA | apply zL | apply zB | refine zC ?_ (IsS114.ge HI0.out) | refine zC ?_ GE613.out | refine zC ?_ GE619.out) | exact HB.out)); rintro e w11 ⟨v621, rfl, ho0, hi, hb, hk⟩; refine ⟨_, rfl, ?_⟩; have n0_ := zO (KeepBut.blk hk (g' := gb613) (o := .cells #[.int .i64 0, .int .i64 0, .int .i64 0] 24 (0, 0)) (by (with_reducible repeat (first | refine zJ ?_ _ | refine zI ?_ | refine zF ?_ _)); refine blk_far ?_ NB613_619.out _; (with_reducible repeat (first | refine zJ ?_ _ | refine zI ?_ | refine zF ?_ _)); refine blk_far ?_ NB613_619.out _; (with_reducible repeat (first | refine zJ ?_ _ | refine zI ?_ | refine zF ?_ _)); refine blk_far ?_ NB613_619.out _; (with_reducible repeat (first | refine zJ ?_ _ | refine zI ?_ | refine zF ?_ _)); exact BK613.out) NB613_0.out (by simp)); have n1_ := zO (KeepBut.blk hk (g' := gb619) (o := .cells #[.int .i64 t614, .int .i64 t615, .int .i64 t616] 24 (0, 0)) (by (with_reducible repeat (first | refine zJ ?_ _ | refine zI ?_ | refine zF ?_ _)); refine blk_put (cs := #[.int .i64 t614, .int .i64 t615, .int .i64 0]) ?_ 2 _ rfl; (with_reducible repeat (first | refine zJ ?_ _ | refine zI ?_ | refine zF ?_ _)); refine blk_put (cs := #[.int .i64 t614, .int .i64 0, .int .i64 0]) ?_ 1 _ rfl; (with_reducible repeat (first | refine zJ ?_ _ | refine zI ?_ | refine zF ?_ _)); refine blk_put (cs := #[.int .i64 0, .int .i64 0, .int .i64 0]) ?_ 0 _ rfl; (with_reducible repeat (first | refine zJ ?_ _ | refine zI ?_ | refine zF ?_ _)); exact BK619.out) NB619_0.out (by simp)); have n2_ := zO (yA ho0 (keep_size (w := w) (g := g) (row := none) (by repeat (first | (with_reducible first | exact HK.out | apply KeepBut.set_ | apply keep_drewN | apply keep_drew | apply keep_alloc | refine keep_far ?_ GW613.out _ | refine keep_far ?_ GW619.out _) | exact HK.out)))); have n3_ := zO (KeepBut.trans (by repeat (first | (with_reducible first | exact HK.out | apply KeepBut.set_ | apply keep_drewN | apply keep_drew | apply keep_alloc | refine keep_far ?_ GW613.out _ | refine keep_far ?_ GW619.out _) | exact HK.out)) hk (.inl rfl)); have n4_ := zO (hb); have n5_ := zO (hi); clear BK613; clear BK619; clear HK; clear HB; clear HI0; have BK613 := n0_; have BK619 := n1_; have HO622 := n2_; have HK := n3_; have HB := n4_; have HI0 := n5_; clear n0_ n1_ n2_ n3_ n4_ n5_; (try clear hb); (try clear hb2); (try clear hk); (try clear hi); (try clear ho0)))
 have n0_ := zO (zV HO622.out)
 have n1_ := zO (zI BK613.out)
 have n2_ := zO (zI BK619.out)
 have n3_ := zO (IsS114.drew HI0.out)
 have n4_ := zO (keep_drew HK.out)
 have n5_ := zO (zB HB.out)
 clear HO622
 clear BK613
 clear BK619
 clear HI0
 clear HK
 clear HB
 have HO622 := n0_
 have BK613 := n1_
 have BK619 := n2_
 have HI0 := n3_
 have HK := n4_
 have HB := n5_
 clear n0_ n1_ n2_ n3_ n4_ n5_
 obtain ⟨Ao13, co13, eo13⟩ := Kd.R_slice HO622.out
 (first | subst eo13 | (injection eo13 with f1_ f2_ f3_; have f4_ := f1_.symm; have f5_ := f3_.symm; clear f1_ f2_ f3_; subst f4_; subst f5_))
 refine start_ (n := 8) (S := fun w' => w'.cell? ⟨gb619, 0, none⟩ = some (.int .i64 t614) ∧ w'.cell? ⟨gb619, 1, none⟩ = some (.int .i64 t615) ∧ w'.cell? ⟨gb619, 2, none⟩ = some (.int .i64 t616)) (ds := []) #[false, false, false, false, false, false, false, false] (by kernel_rfl) rfl rfl ⟨(zH BK619.out 0).trans rfl, (zH BK619.out 1).trans rfl, (zH BK619.out 2).trans rfl⟩ (fun hHeld => ?_); refine with_tabW spec_l10Frame.tab3 spec_l10Frame.bits3 (fun HT_ HW_ => ?_)
 generalize w11.drew = w12 at HO622 BK613 BK619 HI0 HK HB hHeld ⊢
 refine pure_ (i := 1) (N := some 14) (v := ?_) (a' := ?_) #[false, true, false, false, false, false, false, false] rfl rfl (any_of HT_.out (by kernel_rfl)) (fun _ _ _ h => h) (Or.inl ⟨by rfl, ?_⟩) ?_ ?_; rotate_left
 ·intro w'; go_simp; with_reducible rfl
 rotate_left
 ·simp only [Act.put, yF, yG, yH, i64_w, i32_w]; rfl
 refine pure_ (i := 3) (N := some 16) (v := ?_) (a' := ?_) #[false, true, false, true, false, false, false, false] rfl rfl (any_of HT_.out (by kernel_rfl)) (fun _ _ _ h => h) (Or.inl ⟨by rfl, ?_⟩) ?_ ?_; rotate_left
 ·intro w'; go_simp; with_reducible rfl
 rotate_left
 ·simp only [Act.put, yF, yG, yH, i64_w, i32_w]; rfl
 refine take_ (i := 0) (N := some 13) (v := ?_) (a' := ?_) #[true, true, false, true, false, false, false, false] rfl rfl (take_ofW HT_.out HW_.out (by kernel_rfl)) (fun _ _ _ h => h) (Or.inl ⟨by rfl, ?_⟩) hHeld ?_ ?_; rotate_left
 ·rintro w' ⟨s0, s1, s2⟩; go_simp; with_reducible rfl
 rotate_left
 ·simp only [Act.put, yF, yG, yH, i64_w, i32_w]; rfl
 refine take_ (i := 2) (N := some 15) (v := ?_) (a' := ?_) #[true, true, true, true, false, false, false, false] rfl rfl (take_ofW HT_.out HW_.out (by kernel_rfl)) (fun _ _ _ h => h) (Or.inl ⟨by rfl, ?_⟩) hHeld ?_ ?_; rotate_left
 ·rintro w' ⟨s0, s1, s2⟩; go_simp; with_reducible rfl
 rotate_left
 ·simp only [Act.put, yF, yG, yH, i64_w, i32_w]; rfl
 refine one_ (i := 4) (N := some 17) #[true, true, true, true, true, false, false, false] rfl rfl (one_of HT_.out (by kernel_rfl)) (by decide) (fun K hK => ?_)
 refine goes_ Try.func168 (by kernel_rfl) rfl #[.agg #[.int .i64 t614, .int .i64 t615, .int .i64 t616], .slice Ao13 t620.length co13] (by rfl) rfl rfl (by (try simp only [yK, yL, yM]); first | done | rfl | (simp only [yJ, yI]; rfl)) ?_
 with_reducible refine (spec_TransmitFrame.calls k t614 t615 t616 _ _ t620 t625 _ ?side1 ?side2 A4.out).mono ?_
 (case side1 => repeat (first | exact (zX HO622.out).2.2 | (with_reducible refine zR ?_ _) | (with_reducible refine zT ?_ _) | (with_reducible refine zS ?_)))
 (case side2 => exact (zX HO622.out).2.1)
 rintro e w14 ⟨v626, rfl, ho0, hb⟩
 refine ⟨_, rfl, ?_⟩
 have n0_ := zO (zY (by (with_reducible repeat (first | apply zU | apply zW | apply zV)); exact HO622.out) hb)
 have n1_ := zO (yA ho0 (keep_size (w := w) (g := g) (row := none) (by repeat (first | (with_reducible first | exact HK.out | apply KeepBut.set_ | apply keep_drewN | apply keep_drew | apply keep_alloc | refine keep_far ?_ GW613.out _ | refine keep_far ?_ GW619.out _) | exact HK.out))))
 have n2_ := zO (IsS114.below (by repeat (first | (with_reducible first | exact HI0.out | apply IsS114.alloc | apply IsS114.drewN | apply IsS114.drew | apply IsS114.set_1 | apply IsS114.set_2 | refine IsS114.far ?_ NB0_613.out _ | refine IsS114.far ?_ NB0_619.out _) | exact HI0.out)) hb)
 have n3_ := zO (zG (g := gb613) (o := .cells #[.int .i64 0, .int .i64 0, .int .i64 0] 24 (0, 0)) (by (with_reducible repeat (first | refine zJ ?_ _ | refine zI ?_ | refine zF ?_ _)); exact BK613.out) hb)
 have n4_ := zO (zG (g := gb619) (o := .cells #[.int .i64 t614, .int .i64 t615, .int .i64 t616] 24 (0, 0)) (by (with_reducible repeat (first | refine zJ ?_ _ | refine zI ?_ | refine zF ?_ _)); exact BK619.out) hb)
 have n5_ := zO (KeepBut.trans (by repeat (first | (with_reducible first | exact HK.out | apply KeepBut.set_ | apply keep_drewN | apply keep_drew | apply keep_alloc | refine keep_far ?_ GW613.out _ | refine keep_far ?_ GW619.out _) | exact HK.out)) (KeepBut.of_below hb g none) (.inl rfl))
 have n6_ := zO (zE (by repeat (first | (with_reducible first | exact HB.out | apply zA | apply zL | apply zB | refine zC ?_ (IsS114.ge HI0.out) | refine zC ?_ GE613.out | refine zC ?_ GE619.out) | exact HB.out)) hb)
 clear HO622
 clear HI0
 clear BK613
 clear BK619
 clear HK
 clear HB
 have HO622 := n0_
 have HO627 := n1_
 have HI0 := n2_
 have BK613 := n3_
 have BK619 := n4_
 have HK := n5_
 have HB := n6_
 clear n0_ n1_ n2_ n3_ n4_ n5_ n6_
 (try clear hb)
 (try clear hb2)
 (try clear hk)
 (try clear hi)
 (try clear ho0)
 refine hK.out _ _ ⟨(zH BK619.out 0).trans rfl, (zH BK619.out 1).trans rfl, (zH BK619.out 2).trans rfl⟩ (fun hHeld => ?_)
 clear hK K
 refine norm_ (a' := ?_) ?_ ?_; rotate_left
 ·show Act.put _ (some 17) _ = _; simp only [Act.put, yF, yG, yH, i64_w, i32_w]; rfl
 refine one_ (i := 5) (N := none) #[true, true, true, true, true, true, false, false] rfl rfl (one_of HT_.out (by kernel_rfl)) (by decide) (fun K hK => ?_)
 have hs15 : w14.cell? ⟨gb613, 0, none⟩ = some (.int .i64 0) := (zH BK613.out 0).trans rfl
 have hfs15 := zK BK613.out 0
 have hns15_1 := NB619_613.out
 have hms15_1 := NB613_619.out
 have hs16 : w14.cell? ⟨gb613, 1, none⟩ = some (.int .i64 0) := (zH BK613.out 1).trans rfl
 have hfs16 := zK BK613.out 1
 have hns16_1 := NB619_613.out
 have hms16_1 := NB613_619.out
 have hs17 : w14.cell? ⟨gb613, 2, none⟩ = some (.int .i64 0) := (zH BK613.out 2).trans rfl
 have hfs17 := zK BK613.out 2
 have hns17_1 := NB619_613.out
 have hms17_1 := NB613_619.out
 refine skip_ (w1 := ?_) (by rfl) rfl ?_ ?_; rotate_left
 ·go_simp
  rfl
 refine hK.out _ _ ⟨((cell_far (p := ⟨gb613, _, none⟩) NB619_613.out _).trans (((cell_far (p := ⟨gb613, _, none⟩) NB619_613.out _).trans (((cell_far (p := ⟨gb613, _, none⟩) NB619_613.out _).trans (hHeld.1)))))), ((cell_far (p := ⟨gb613, _, none⟩) NB619_613.out _).trans (((cell_far (p := ⟨gb613, _, none⟩) NB619_613.out _).trans (((cell_far (p := ⟨gb613, _, none⟩) NB619_613.out _).trans (hHeld.2.1)))))), ((cell_far (p := ⟨gb613, _, none⟩) NB619_613.out _).trans (((cell_far (p := ⟨gb613, _, none⟩) NB619_613.out _).trans (((cell_far (p := ⟨gb613, _, none⟩) NB619_613.out _).trans (hHeld.2.2))))))⟩ (fun hHeld => ?_)
 clear hK K
 refine pure_ (i := 6) (N := some 3) (v := ?_) (a' := ?_) #[true, true, true, true, true, true, true, false] rfl rfl (any_of HT_.out (by kernel_rfl)) (fun _ _ _ h => h) (Or.inl ⟨by rfl, ?_⟩) ?_ ?_; rotate_left
 ·intro w'; go_simp; with_reducible rfl
 rotate_left
 ·simp only [Act.put, yF, yG, yH, i64_w, i32_w]; rfl
 refine pure_ (i := 7) (N := some 4) (v := ?_) (a' := ?_) #[true, true, true, true, true, true, true, true] rfl rfl (any_of HT_.out (by kernel_rfl)) (fun _ _ _ h => h) (Or.inl ⟨by rfl, ?_⟩) ?_ ?_; rotate_left
 ·intro w'; go_simp; with_reducible rfl
 rotate_left
 ·simp only [Act.put, yF, yG, yH, i64_w, i32_w]; rfl
 refine done_ (done_of HT_.out (by kernel_rfl)) ?_
 try go_wp2
 refine bodyPost_ret (results_ctt rfl _ _ gb613 24 #[.int .i64 t614, .int .i64 t615, .int .i64 t616] (0, 0) _ rfl (by (with_reducible repeat (first | refine zJ ?_ _ | refine zI ?_ | refine zF ?_ _)); refine blk_put (cs := #[.int .i64 t614, .int .i64 t615, .int .i64 0]) ?_ 2 _ rfl; (with_reducible repeat (first | refine zJ ?_ _ | refine zI ?_ | refine zF ?_ _)); refine blk_put (cs := #[.int .i64 t614, .int .i64 0, .int .i64 0]) ?_ 1 _ rfl; (with_reducible repeat (first | refine zJ ?_ _ | refine zI ?_ | refine zF ?_ _)); refine blk_put (cs := #[.int .i64 0, .int .i64 0, .int .i64 0]) ?_ 0 _ rfl; (with_reducible repeat (first | refine zJ ?_ _ | refine zI ?_ | refine zF ?_ _)); exact BK613.out) Try.underlying24 rfl (by kernel_rfl)) rfl ?_
 exact ⟨_, _, by first | rfl | (simp [errW_none, errW_some] <;> rfl) | (simp [*, errW_none, errW_some] <;> rfl), by (with_reducible repeat (first | apply zU | apply zW | apply zV)); exact Kd.R_mono (zZ (p := ⟨gb613, 2, none⟩) (zZ (p := ⟨gb613, 1, none⟩) (zZ (p := ⟨gb613, 0, none⟩) (Kd.R_types HO622.out BK613.out (by decide)) (fun _ hk => hk.2) (.int .i64 t614)) (fun _ hk => hk.2) (.int .i64 t615)) (fun _ hk => hk.2) (.int .i64 t616)) (fun _ hk => trivial), by (with_reducible repeat (first | apply zU | apply zW | apply zV)); exact Kd.R_mono (zZ (p := ⟨gb613, 2, none⟩) (zZ (p := ⟨gb613, 1, none⟩) (zZ (p := ⟨gb613, 0, none⟩) (Kd.R_types HO627.out BK613.out (by decide)) (fun _ hk => hk.2) (.int .i64 t614)) (fun _ hk => hk.2) (.int .i64 t615)) (fun _ hk => hk.2) (.int .i64 t616)) (fun _ hk => trivial), by repeat (first | (with_reducible first | exact HI0.out | apply IsS114.alloc | apply IsS114.drewN | apply IsS114.drew | apply IsS114.set_1 | apply IsS114.set_2 | refine IsS114.far ?_ NB0_613.out _ | refine IsS114.far ?_ NB0_619.out _) | exact HI0.out), by repeat (first | (with_reducible first | exact HB.out | apply zA | apply zL | apply zB | refine zC ?_ (IsS114.ge HI0.out) | refine zC ?_ GE613.out | refine zC ?_ GE619.out) | exact HB.out), by repeat (first | (with_reducible first | exact HK.out | apply KeepBut.set_ | apply keep_drewN | apply keep_drew | apply keep_alloc | refine keep_far ?_ GW613.out _ | refine keep_far ?_ GW619.out _) | exact HK.out)⟩

end Go.Proofs.Ytldbmljooafkcaa.PFnFrameErrors
