/- Contracts of Go functions. Conditions: the arguments read as the Lean function's. Written by print2.py, shrink.py (this session's). -/
import Derived.Test.YtldbmljooafkcaaPFnFrameErrorsx0
import Derived.Test.YtldbmljooafkcaaPFnFrameErrorsx1
import Derived.Test.YtldbmljooafkcaaPFnFrameErrorsx2
import Derived.Test.YtldbmljooafkcaaPFnFrameErrorsx8
import Derived.Test.YtldbmljooafkcaaPFnFrameErrorsx11
import Derived.Test.YtldbmljooafkcaaPFnFrameErrorsx12
import Derived.Test.YtldbmljooafkcaaPFnFrameErrorsx16
namespace Go.Proofs.Ytldbmljooafkcaa.PFnFrameErrors
open Go.RowKit Go.Proofs.YtldbmljooafkcaaW.PrintWords Go.Proofs.YtldbmljooafkcaaW.PrintLast Go.Proofs.YtldbmljooafkcaaW.PrintMore
open Go.Proofs.YtldbmljooafkcaaW.PrintWords renaming below_alloc → zA, below_drew1 → zB, below_set → zC, below_size → zD, below_step → zE, blk_alloc → zF, blk_below → zG, blk_cell → zH, blk_drew → zI, blk_drewN → zJ, blk_frozen → zK, pw_below_drewN → zL, gate_callee → zM, gate_dst → zN
open Go.Proofs.YtldbmljooafkcaaW.PrintWords.Aside0 renaming mk → zO
open Go.Proofs.YtldbmljooafkcaaW.PrintWords.Kd renaming C_alloc → zR, C_drew → zS, C_drewN → zT, R_alloc → zU, R_drew → zV, R_drewN → zW, R_reads' → zX, R_below → zY, R_far → zZ, R_lower → yA
open Option renaming bind_eq_some_iff → yE
open List renaming setIfInBounds_toArray → yF, set_cons_zero → yG, set_cons_succ → yH, length_take → yI, length_drop → yJ, map_toArray → yK, map_cons → yL, map_nil → yM
set_option maxHeartbeats 8000000
set_option maxRecDepth 100000
attribute [local go_sem] max2_int min2_int max_two min_two max_three min_three max_four min_four
set_option linter.unusedVariables false
set_option linter.unusedSimpArgs false

attribute [local go_sem high] eqA24
def spec_DrawSent.f (k : Nat) (l0 : List Int) : Option (Int × Int × Int × List Int × Int × Int) := (spec_l1New.f k l0).bind fun bt629 => ((spec_l10Frame.f k bt629.1 bt629.2.1 bt629.2.2).bind fun bt633 => ((spec_PayloadSymbols.f bt633.1 bt633.2.1 bt633.2.2.1).bind fun t645 => ((spec_l1Below.f bt629.1 bt633.2.2.2.2.2.1 bt633.2.2.2.2.2.2 t645).bind fun bt646 => ((spec_l1Below.f bt629.1 bt646.2.1 bt646.2.2 t645).bind fun bt649 => (some (bt633.1, bt633.2.1, bt633.2.2.1, bt633.2.2.2.1, bt646.1, bt649.1))))))
def spec_DrawSent.T5 : Bool × List (List Nat × List Nat) := (true, [([], []), ([], []), ([], []), ([], []), ([], []), ([3, 4], [3, 4]), ([0, 5, 0], [0]), ([1, 6, 0, 1, 6], [1]), ([2, 7, 0, 1, 2, 6, 7], [2]), ([5, 8, 0, 1, 2, 3, 4, 5, 6, 7, 8], [5])])
def spec_DrawSent.B5 : List Nat := [0, 0, 0, 0, 0, 24, 57, 123, 255, 511]
theorem spec_DrawSent.tab5 : rtab .any (opsOf Try.f67 5) = spec_DrawSent.T5 := by kernel_rfl
theorem spec_DrawSent.bits5 : waitsOk spec_DrawSent.T5.2 spec_DrawSent.B5 = true := by kernel_rfl
theorem spec_DrawSent.calls (k : Nat) (A0 : Option Addr) (c0 : Nat) (l0 : List Int) (r1 : Int) (r2 : Int) (r3 : Int) (r4 : List Int) (r5 : Int) (r6 : Int) (w : World) (hr0 : Kd.C (Kd.int .u8) w A0 l0.length l0) (hc0 : l0.length ≤ c0) (h : spec_DrawSent.f k l0 = some (r1, r2, r3, r4, r5, r6)) :
  Calls Try.prog 67 #[.slice A0 l0.length c0] w fun e w' => ∃ v3_ : Value, e = .returned (.tuple #[.agg #[.int .i64 r1, .int .i64 r2, .int .i64 r3], v3_, .int .i64 r5, .int .i64 r6]) ∧ Kd.R (Kd.int .u8) 5 w' w.heap.size (fun _ => True) v3_ r4 ∧ Below w.heap.size w w' := by
 have hu24 := Try.underlying24
 have HR0 := zO hr0
 have HC0 := zO hc0
 clear hr0 hc0
 have HB := zO (Below.refl w.heap.size w)
 have H : ((spec_l1New.f k l0).bind fun bt629 => ((spec_l10Frame.f k bt629.1 bt629.2.1 bt629.2.2).bind fun bt633 => ((spec_PayloadSymbols.f bt633.1 bt633.2.1 bt633.2.2.1).bind fun t645 => ((spec_l1Below.f bt629.1 bt633.2.2.2.2.2.1 bt633.2.2.2.2.2.2 t645).bind fun bt646 => ((spec_l1Below.f bt629.1 bt646.2.1 bt646.2.2 t645).bind fun bt649 => (some (bt633.1, bt633.2.1, bt633.2.2.1, bt633.2.2.2.1, bt646.1, bt649.1))))))) = some (r1, r2, r3, r4, r5, r6) := h
 clear h
 replace H := yE.mp H
 obtain ⟨⟨t629, t630, t631⟩, A20, H⟩ := H
 replace H : ((spec_l10Frame.f k t629 t630 t631).bind fun bt633 => ((spec_PayloadSymbols.f bt633.1 bt633.2.1 bt633.2.2.1).bind fun t645 => ((spec_l1Below.f t629 bt633.2.2.2.2.2.1 bt633.2.2.2.2.2.2 t645).bind fun bt646 => ((spec_l1Below.f t629 bt646.2.1 bt646.2.2 t645).bind fun bt649 => (some (bt633.1, bt633.2.1, bt633.2.2.1, bt633.2.2.2.1, bt646.1, bt649.1)))))) = some (r1, r2, r3, r4, r5, r6) := H
 have A2 := zO A20
 clear A20
 replace H := yE.mp H
 obtain ⟨⟨t633, t634, t635, t636, t639, t642, t643⟩, A30, H⟩ := H
 replace H : ((spec_PayloadSymbols.f t633 t634 t635).bind fun t645 => ((spec_l1Below.f t629 t642 t643 t645).bind fun bt646 => ((spec_l1Below.f t629 bt646.2.1 bt646.2.2 t645).bind fun bt649 => (some (t633, t634, t635, t636, bt646.1, bt649.1))))) = some (r1, r2, r3, r4, r5, r6) := H
 have A3 := zO A30
 clear A30
 replace H := yE.mp H
 obtain ⟨t645, A40, H⟩ := H
 replace H : ((spec_l1Below.f t629 t642 t643 t645).bind fun bt646 => ((spec_l1Below.f t629 bt646.2.1 bt646.2.2 t645).bind fun bt649 => (some (t633, t634, t635, t636, bt646.1, bt649.1)))) = some (r1, r2, r3, r4, r5, r6) := H
 have A4 := zO A40
 clear A40
 replace H := yE.mp H
 obtain ⟨⟨t646, t647, t648⟩, A50, H⟩ := H
 replace H : ((spec_l1Below.f t629 t647 t648 t645).bind fun bt649 => (some (t633, t634, t635, t636, t646, bt649.1))) = some (r1, r2, r3, r4, r5, r6) := H
 have A5 := zO A50
 clear A50
 replace H := yE.mp H
 obtain ⟨⟨t649, t650, t651⟩, A60, H⟩ := H
 replace H : (some (t633, t634, t635, t636, t646, t649)) = some (r1, r2, r3, r4, r5, r6) := H
 have A6 := zO A60
 clear A60
 simp only [Option.some.injEq, Prod.mk.injEq] at H
 obtain ⟨rfl, rfl, rfl, rfl, rfl, rfl⟩ := H
 go_enter Try.func67, Try.ntmps67
 try go_wp2_with (first | ((with_reducible refine zN (N := 2) rfl ?_); refine box_event ?hg (N := 2) ?hd (cs := #[.int .i64 0, .int .i64 0, .int .i64 0]) (t := 24) ?hr ?_; (case hd => rfl); (case hg => rfl); (case hr => first | (go_simp; done) | (go_simp; rfl)); intro gb628 hg w7 hbox hb; have n0_ := zO (zE (by repeat (first | exact HB.out | apply zA | apply zL | apply zB)) hb); have n1_ := zO (hbox); have n2_ := zO ((by rw [hg]; exact (zD (by repeat (first | exact HB.out | apply zA | apply zL | apply zB))) : w.heap.size ≤ gb628)); have n3_ := zO ((by rw [hg]; exact (zD (by repeat (first | exact HB.out | apply zA | apply zL | apply zB))) : w.heap.size ≤ gb628)); clear HB; have HB := n0_; have BK628 := n1_; have GW628 := n2_; have GE628 := n3_; clear n0_ n1_ n2_ n3_; clear hb hbox hg) | ((with_reducible refine zM (f := 84) rfl ?_); refine goesL_ (some 13) rfl rfl Try.func84 (by kernel_rfl) rfl #[.slice A0 l0.length c0] rfl (by (try simp only [yK, yL, yM]); first | done | rfl | (simp only [yJ, yI]; rfl)) ?_; (with_reducible refine (spec_l1New.calls k _ _ l0 t629 t630 t631 w _ ?side1 ?side2 ?side3 A2.out).mono ?_); (case side1 => repeat (first | (with_reducible first | exact HB.out | apply zA | apply zL | apply zB | refine zC ?_ GE628.out) | exact HB.out)); (case side2 => exact HR0.out); (case side3 => exact HC0.out); rintro e w8 ⟨g632, rfl, hi, hb, hb2⟩; refine ⟨_, rfl, ?_⟩; have n0_ := zO (zG (g := gb628) (o := .cells #[.int .i64 0, .int .i64 0, .int .i64 0] 24 (0, 0)) (by (with_reducible repeat (first | refine zJ ?_ _ | refine zI ?_ | refine zF ?_ _)); exact BK628.out) hb2); have n1_ := zO (hb); have n2_ := zO (hi); have n3_ := zO (IsS114.ne_blk hi (zG (g := gb628) (o := .cells #[.int .i64 0, .int .i64 0, .int .i64 0] 24 (0, 0)) (by (with_reducible repeat (first | refine zJ ?_ _ | refine zI ?_ | refine zF ?_ _)); exact BK628.out) hb2) (by decide)); have n4_ := zO (Ne.symm (IsS114.ne_blk hi (zG (g := gb628) (o := .cells #[.int .i64 0, .int .i64 0, .int .i64 0] 24 (0, 0)) (by (with_reducible repeat (first | refine zJ ?_ _ | refine zI ?_ | refine zF ?_ _)); exact BK628.out) hb2) (by decide))); clear BK628; clear HB; have BK628 := n0_; have HB := n1_; have HI632 := n2_; have NB632_628 := n3_; have NB628_632 := n4_; clear n0_ n1_ n2_ n3_ n4_; (try clear hb); (try clear hb2); (try clear hk); (try clear hi)) | ((with_reducible refine zM (f := 137) rfl ?_); refine goesL_ (some 16) rfl rfl Try.func137 (by kernel_rfl) rfl #[.pointer (some ⟨g632, 0, none⟩)] rfl (by (try simp only [yK, yL, yM]); first | done | rfl | (simp only [yJ, yI]; rfl)) ?_; (with_reducible refine (spec_l10Frame.calls k g632 t629 t630 t631 t633 t634 t635 t636 t639 t642 t643 w _ ?side1 ?side2 A3.out).mono ?_); (case side1 => repeat (first | (with_reducible first | exact HI632.out | apply IsS114.alloc | apply IsS114.drewN | apply IsS114.drew | apply IsS114.set_1 | apply IsS114.set_2 | refine IsS114.far ?_ NB632_628.out _) | exact HI632.out)); (case side2 => repeat (first | (with_reducible first | exact HB.out | apply zA | apply zL | apply zB | refine zC ?_ (IsS114.ge HI632.out) | refine zC ?_ GE628.out) | exact HB.out)); rintro e w9 ⟨v637, v640, rfl, ho0, ho1, hi, hb, hk⟩; refine ⟨_, rfl, ?_⟩; have n0_ := zO (KeepBut.blk hk (g' := gb628) (o := .cells #[.int .i64 0, .int .i64 0, .int .i64 0] 24 (0, 0)) (by (with_reducible repeat (first | refine zJ ?_ _ | refine zI ?_ | refine zF ?_ _)); exact BK628.out) NB628_632.out (by simp)); have n1_ := zO (yA ho0 (zD (by repeat (first | (with_reducible first | exact HB.out | apply zA | apply zL | apply zB | refine zC ?_ (IsS114.ge HI632.out) | refine zC ?_ GE628.out) | exact HB.out)))); have n2_ := zO (yA ho1 (zD (by repeat (first | (with_reducible first | exact HB.out | apply zA | apply zL | apply zB | refine zC ?_ (IsS114.ge HI632.out) | refine zC ?_ GE628.out) | exact HB.out)))); have n3_ := zO (hb); have n4_ := zO (hi); clear BK628; clear HB; clear HI632; have BK628 := n0_; have HO638 := n1_; have HO641 := n2_; have HB := n3_; have HI632 := n4_; clear n0_ n1_ n2_ n3_ n4_; (try clear hb); (try clear hb2); (try clear hk); (try clear hi); (try clear ho0); (try clear ho1)) | ((with_reducible refine zN (N := 7) rfl ?_); refine box_event ?hg (N := 7) ?hd (cs := #[.int .i64 0, .int .i64 0, .int .i64 0]) (t := 24) ?hr ?_; (case hd => rfl); (case hg => rfl); (case hr => first | (go_simp; done) | (go_simp; rfl)); intro gb644 hg w10 hbox hb; have n0_ := zO (zY (by (with_reducible repeat (first | apply zU | apply zW | apply zV)); exact HO638.out) hb); have n1_ := zO (zY (by (with_reducible repeat (first | apply zU | apply zW | apply zV)); exact HO641.out) hb); have n2_ := zO (zG (g := gb628) (o := .cells #[.int .i64 0, .int .i64 0, .int .i64 0] 24 (0, 0)) (by (with_reducible repeat (first | refine zJ ?_ _ | refine zI ?_ | refine zF ?_ _)); exact BK628.out) hb); have n3_ := zO (IsS114.below (by repeat (first | (with_reducible first | exact HI632.out | apply IsS114.alloc | apply IsS114.drewN | apply IsS114.drew | apply IsS114.set_1 | apply IsS114.set_2 | refine IsS114.far ?_ NB632_628.out _) | exact HI632.out)) hb); have n4_ := zO (zE (by repeat (first | (with_reducible first | exact HB.out | apply zA | apply zL | apply zB | refine zC ?_ (IsS114.ge HI632.out) | refine zC ?_ GE628.out) | exact HB.out)) hb); have n5_ := zO (hbox); have n6_ := zO ((by rw [hg]; exact (zD (by repeat (first | (with_reducible first | exact HB.out | apply zA | apply zL | apply zB | refine zC ?_ (IsS114.ge HI632.out) | refine zC ?_ GE628.out) | exact HB.out))) : w.heap.size ≤ gb644)); have n7_ := zO ((by rw [hg]; exact (zD (by repeat (first | (with_reducible first | exact HB.out | apply zA | apply zL | apply zB | refine zC ?_ (IsS114.ge HI632.out) | refine zC ?_ GE628.out) | exact HB.out))) : w.heap.size ≤ gb644)); have n8_ := zO ((by rw [hg]; exact Nat.ne_of_lt (blk_lt (g := gb628) (o := .cells #[.int .i64 0, .int .i64 0, .int .i64 0] 24 (0, 0)) (by (with_reducible repeat (first | refine zJ ?_ _ | refine zI ?_ | refine zF ?_ _)); exact BK628.out)) : gb628 ≠ gb644)); have n9_ := zO ((by rw [hg]; exact Nat.ne_of_gt (blk_lt (g := gb628) (o := .cells #[.int .i64 0, .int .i64 0, .int .i64 0] 24 (0, 0)) (by (with_reducible repeat (first | refine zJ ?_ _ | refine zI ?_ | refine zF ?_ _)); exact BK628.out)) : gb644 ≠ gb628)); have n10_ := zO ((by rw [hg]; exact Nat.ne_of_lt (IsS114.lt (show IsS114 w _ g632 t629 t642 t643 from by repeat (first | (with_reducible first | exact HI632.out | apply IsS114.alloc | apply IsS114.drewN | apply IsS114.drew | apply IsS114.set_1 | apply IsS114.set_2 | refine IsS114.far ?_ NB632_628.out _) | exact HI632.out))) : g632 ≠ gb644)); have n11_ := zO ((by rw [hg]; exact Nat.ne_of_gt (IsS114.lt (show IsS114 w _ g632 t629 t642 t643 from by repeat (first | (with_reducible first | exact HI632.out | apply IsS114.alloc | apply IsS114.drewN | apply IsS114.drew | apply IsS114.set_1 | apply IsS114.set_2 | refine IsS114.far ?_ NB632_628.out _) | exact HI632.out))) : gb644 ≠ g632)); clear HO638; clear HO641; clear BK628; clear HI632; clear HB; have HO638 := n0_; have HO641 := n1_; have BK628 := n2_; have HI632 := n3_; have HB := n4_; have BK644 := n5_; have GW644 := n6_; have GE644 := n7_; have NB628_644 := n8_; have NB644_628 := n9_; have NB632_644 := n10_; have NB644_632 := n11_; clear n0_ n1_ n2_ n3_ n4_ n5_ n6_ n7_ n8_ n9_ n10_ n11_; clear hb hbox hg; have hnb11 := NB644_628.out; have hnc11 := NB628_644.out; have hnb12 := NB644_632.out; have hnc12 := NB632_644.out; have hcz13_0 : w10.cell? ⟨gb644, 0, none⟩ = some (.int .i64 0) := (zH BK644.out 0).trans rfl; have hcz13_1 : w10.cell? ⟨gb644, 1, none⟩ = some (.int .i64 0) := (zH BK644.out 1).trans rfl; have hcz13_2 : w10.cell? ⟨gb644, 2, none⟩ = some (.int .i64 0) := (zH BK644.out 2).trans rfl; have hfz13_0 := zK BK644.out 0; have hfz13_1 := zK BK644.out 1; have hfz13_2 := zK BK644.out 2) | ((with_reducible refine zM (f := 120) rfl ?_); refine goesL_ (some 21) rfl rfl Try.func120 (by kernel_rfl) rfl #[.agg #[.int .i64 t633, .int .i64 t634, .int .i64 t635]] rfl (by (try simp only [yK, yL, yM]); first | done | rfl | (simp only [yJ, yI]; rfl)) ?_; (with_reducible refine (spec_PayloadSymbols.calls t633 t634 t635 t645 _ A4.out).mono ?_); rintro e w14 ⟨rfl, hb⟩; refine ⟨_, rfl, ?_⟩; have n0_ := zO (zY (by (with_reducible repeat (first | apply zU | apply zW | apply zV)); exact (Kd.R_mono (zZ (p := ⟨gb644, 2, none⟩) (zZ (p := ⟨gb644, 1, none⟩) (zZ (p := ⟨gb644, 0, none⟩) (Kd.R_types HO638.out BK644.out (by decide)) (fun _ hk => hk.2) (.int .i64 t633)) (fun _ hk => hk.2) (.int .i64 t634)) (fun _ hk => hk.2) (.int .i64 t635)) (fun _ h_ => h_.1))) hb); have n1_ := zO (zY (by (with_reducible repeat (first | apply zU | apply zW | apply zV)); exact (Kd.R_mono (zZ (p := ⟨gb644, 2, none⟩) (zZ (p := ⟨gb644, 1, none⟩) (zZ (p := ⟨gb644, 0, none⟩) (Kd.R_types HO641.out BK644.out (by decide)) (fun _ hk => hk.2) (.int .i64 t633)) (fun _ hk => hk.2) (.int .i64 t634)) (fun _ hk => hk.2) (.int .i64 t635)) (fun _ h_ => h_.1))) hb); have n2_ := zO (zG (g := gb628) (o := .cells #[.int .i64 0, .int .i64 0, .int .i64 0] 24 (0, 0)) (by (with_reducible repeat (first | refine zJ ?_ _ | refine zI ?_ | refine zF ?_ _)); refine blk_far ?_ NB628_644.out _; (with_reducible repeat (first | refine zJ ?_ _ | refine zI ?_ | refine zF ?_ _)); refine blk_far ?_ NB628_644.out _; (with_reducible repeat (first | refine zJ ?_ _ | refine zI ?_ | refine zF ?_ _)); refine blk_far ?_ NB628_644.out _; (with_reducible repeat (first | refine zJ ?_ _ | refine zI ?_ | refine zF ?_ _)); exact BK628.out) hb); have n3_ := zO (IsS114.below (show IsS114 w (((w10.setCell ⟨gb644, 0, none⟩ (.int .i64 t633)).setCell ⟨gb644, 1, none⟩ (.int .i64 t634)).setCell ⟨gb644, 2, none⟩ (.int .i64 t635)) g632 t629 t642 t643 from by repeat (first | (with_reducible first | exact HI632.out | apply IsS114.alloc | apply IsS114.drewN | apply IsS114.drew | apply IsS114.set_1 | apply IsS114.set_2 | refine IsS114.far ?_ NB632_628.out _ | refine IsS114.far ?_ NB632_644.out _) | exact HI632.out)) hb); have n4_ := zO (zG (g := gb644) (o := .cells #[.int .i64 t633, .int .i64 t634, .int .i64 t635] 24 (0, 0)) (by (with_reducible repeat (first | refine zJ ?_ _ | refine zI ?_ | refine zF ?_ _)); refine blk_put (cs := #[.int .i64 t633, .int .i64 t634, .int .i64 0]) ?_ 2 _ rfl; (with_reducible repeat (first | refine zJ ?_ _ | refine zI ?_ | refine zF ?_ _)); refine blk_put (cs := #[.int .i64 t633, .int .i64 0, .int .i64 0]) ?_ 1 _ rfl; (with_reducible repeat (first | refine zJ ?_ _ | refine zI ?_ | refine zF ?_ _)); refine blk_put (cs := #[.int .i64 0, .int .i64 0, .int .i64 0]) ?_ 0 _ rfl; (with_reducible repeat (first | refine zJ ?_ _ | refine zI ?_ | refine zF ?_ _)); exact BK644.out) hb); have n5_ := zO (zE (by repeat (first | (with_reducible first | exact HB.out | apply zA | apply zL | apply zB | refine zC ?_ (IsS114.ge HI632.out) | refine zC ?_ GE628.out | refine zC ?_ GE644.out) | exact HB.out)) hb); clear HO638; clear HO641; clear BK628; clear HI632; clear BK644; clear HB; have HO638 := n0_; have HO641 := n1_; have BK628 := n2_; have HI632 := n3_; have BK644 := n4_; have HB := n5_; clear n0_ n1_ n2_ n3_ n4_ n5_; (try clear hb); (try clear hb2); (try clear hk); (try clear hi)) | ((with_reducible refine zM (f := 91) rfl ?_); refine goesL_ (some 24) rfl rfl Try.func91 (by kernel_rfl) rfl #[.pointer (some ⟨g632, 0, none⟩), .int .i64 t645] rfl (by (try simp only [yK, yL, yM]); first | done | rfl | (simp only [yJ, yI]; rfl)) ?_; (with_reducible refine (spec_l1Below.calls g632 t629 t642 t643 t645 t646 t647 t648 w _ ?side1 ?side2 A5.out).mono ?_); (case side1 => repeat (first | (with_reducible first | exact HI632.out | apply IsS114.alloc | apply IsS114.drewN | apply IsS114.drew | apply IsS114.set_1 | apply IsS114.set_2 | refine IsS114.far ?_ NB632_628.out _ | refine IsS114.far ?_ NB632_644.out _) | exact HI632.out)); (case side2 => repeat (first | (with_reducible first | exact HB.out | apply zA | apply zL | apply zB | refine zC ?_ (IsS114.ge HI632.out) | refine zC ?_ GE628.out | refine zC ?_ GE644.out) | exact HB.out)); rintro e w15 ⟨rfl, hi, hb, hk⟩; refine ⟨_, rfl, ?_⟩; have n0_ := zO (KeepBut.blk hk (g' := gb628) (o := .cells #[.int .i64 0, .int .i64 0, .int .i64 0] 24 (0, 0)) (by (with_reducible repeat (first | refine zJ ?_ _ | refine zI ?_ | refine zF ?_ _)); exact BK628.out) NB628_632.out (by simp)); have n1_ := zO (Kd.R_mono (Kd.R_keep (IsS114.apart (show IsS114 w _ g632 t629 t642 t643 from by repeat (first | (with_reducible first | exact HI632.out | apply IsS114.alloc | apply IsS114.drewN | apply IsS114.drew | apply IsS114.set_1 | apply IsS114.set_2 | refine IsS114.far ?_ NB632_628.out _ | refine IsS114.far ?_ NB632_644.out _) | exact HI632.out)) (by (with_reducible repeat (first | apply zU | apply zW | apply zV)); exact HO638.out) (by decide)) hk (fun _ h => h.2)) (fun _ h => h.1)); have n2_ := zO (Kd.R_mono (Kd.R_keep (IsS114.apart (show IsS114 w _ g632 t629 t642 t643 from by repeat (first | (with_reducible first | exact HI632.out | apply IsS114.alloc | apply IsS114.drewN | apply IsS114.drew | apply IsS114.set_1 | apply IsS114.set_2 | refine IsS114.far ?_ NB632_628.out _ | refine IsS114.far ?_ NB632_644.out _) | exact HI632.out)) (by (with_reducible repeat (first | apply zU | apply zW | apply zV)); exact HO641.out) (by decide)) hk (fun _ h => h.2)) (fun _ h => h.1)); have n3_ := zO (KeepBut.blk hk (g' := gb644) (o := .cells #[.int .i64 t633, .int .i64 t634, .int .i64 t635] 24 (0, 0)) (by (with_reducible repeat (first | refine zJ ?_ _ | refine zI ?_ | refine zF ?_ _)); exact BK644.out) NB644_632.out (by simp)); have n4_ := zO (hb); have n5_ := zO (hi); clear BK628; clear HO638; clear HO641; clear BK644; clear HB; clear HI632; have BK628 := n0_; have HO638 := n1_; have HO641 := n2_; have BK644 := n3_; have HB := n4_; have HI632 := n5_; clear n0_ n1_ n2_ n3_ n4_ n5_; (try clear hb); (try clear hb2); (try clear hk); (try clear hi)))
 have n0_ := zO (zV HO638.out)
 have n1_ := zO (zV HO641.out)
 have n2_ := zO (zI BK628.out)
 have n3_ := zO (zI BK644.out)
 have n4_ := zO (IsS114.drew HI632.out)
 have n5_ := zO (zB HB.out)
 clear HO638
 clear HO641
 clear BK628
 clear BK644
 clear HI632
 clear HB
 have HO638 := n0_
 have HO641 := n1_
 have BK628 := n2_
 have BK644 := n3_
 have HI632 := n4_
 have HB := n5_
 clear n0_ n1_ n2_ n3_ n4_ n5_
 refine start_ (n := 10) (S := fun w' => w'.cell? ⟨gb644, 0, none⟩ = some (.int .i64 t633) ∧ w'.cell? ⟨gb644, 1, none⟩ = some (.int .i64 t634) ∧ w'.cell? ⟨gb644, 2, none⟩ = some (.int .i64 t635)) (ds := []) #[false, false, false, false, false, false, false, false, false, false] (by kernel_rfl) rfl rfl ⟨(zH BK644.out 0).trans rfl, (zH BK644.out 1).trans rfl, (zH BK644.out 2).trans rfl⟩ (fun hHeld => ?_); refine with_tabW spec_DrawSent.tab5 spec_DrawSent.bits5 (fun HT_ HW_ => ?_)
 generalize w15.drew = w16 at HO638 HO641 BK628 BK644 HI632 HB hHeld ⊢
 refine pure_ (i := 1) (N := some 26) (v := ?_) (a' := ?_) #[false, true, false, false, false, false, false, false, false, false] rfl rfl (any_of HT_.out (by kernel_rfl)) (fun _ _ _ h => h) (Or.inl ⟨by rfl, ?_⟩) ?_ ?_; rotate_left
 ·intro w'; go_simp; with_reducible rfl
 rotate_left
 ·simp only [Act.put, yF, yG, yH, i64_w, i32_w]; rfl
 refine pure_ (i := 2) (N := some 27) (v := ?_) (a' := ?_) #[false, true, true, false, false, false, false, false, false, false] rfl rfl (any_of HT_.out (by kernel_rfl)) (fun _ _ _ h => h) (Or.inl ⟨by rfl, ?_⟩) ?_ ?_; rotate_left
 ·intro w'; go_simp; with_reducible rfl
 rotate_left
 ·simp only [Act.put, yF, yG, yH, i64_w, i32_w]; rfl
 refine pure_ (i := 3) (N := some 28) (v := ?_) (a' := ?_) #[false, true, true, true, false, false, false, false, false, false] rfl rfl (any_of HT_.out (by kernel_rfl)) (fun _ _ _ h => h) (Or.inl ⟨by rfl, ?_⟩) ?_ ?_; rotate_left
 ·intro w'; go_simp; with_reducible rfl
 rotate_left
 ·simp only [Act.put, yF, yG, yH, i64_w, i32_w]; rfl
 refine pure_ (i := 4) (N := some 29) (v := ?_) (a' := ?_) #[false, true, true, true, true, false, false, false, false, false] rfl rfl (any_of HT_.out (by kernel_rfl)) (fun _ _ _ h => h) (Or.inl ⟨by rfl, ?_⟩) ?_ ?_; rotate_left
 ·intro w'; go_simp; with_reducible rfl
 rotate_left
 ·simp only [Act.put, yF, yG, yH, i64_w, i32_w]; rfl
 refine take_ (i := 0) (N := some 25) (v := ?_) (a' := ?_) #[true, true, true, true, true, false, false, false, false, false] rfl rfl (take_ofW HT_.out HW_.out (by kernel_rfl)) (fun _ _ _ h => h) (Or.inl ⟨by rfl, ?_⟩) hHeld ?_ ?_; rotate_left
 ·rintro w' ⟨s0, s1, s2⟩; go_simp; with_reducible rfl
 rotate_left
 ·simp only [Act.put, yF, yG, yH, i64_w, i32_w]; rfl
 refine one_ (i := 5) (N := some 30) #[true, true, true, true, true, true, false, false, false, false] rfl rfl (one_of HT_.out (by kernel_rfl)) (by decide) (fun K hK => ?_)
 refine goes_ Try.func91 (by kernel_rfl) rfl #[.pointer (some ⟨g632, 0, none⟩), .int .i64 t645] (by rfl) rfl rfl (by (try simp only [yK, yL, yM]); first | done | rfl | (simp only [yJ, yI]; rfl)) ?_
 with_reducible refine (spec_l1Below.calls g632 t629 t647 t648 t645 t649 t650 t651 w _ ?side1 ?side2 A6.out).mono ?_
 (case side1 => repeat (first | (with_reducible first | exact HI632.out | apply IsS114.alloc | apply IsS114.drewN | apply IsS114.drew | apply IsS114.set_1 | apply IsS114.set_2 | refine IsS114.far ?_ NB632_628.out _ | refine IsS114.far ?_ NB632_644.out _) | exact HI632.out))
 (case side2 => repeat (first | (with_reducible first | exact HB.out | apply zA | apply zL | apply zB | refine zC ?_ (IsS114.ge HI632.out) | refine zC ?_ GE628.out | refine zC ?_ GE644.out) | exact HB.out))
 rintro e w17 ⟨rfl, hi, hb, hk⟩
 refine ⟨_, rfl, ?_⟩
 have n0_ := zO (KeepBut.blk hk (g' := gb628) (o := .cells #[.int .i64 0, .int .i64 0, .int .i64 0] 24 (0, 0)) (by (with_reducible repeat (first | refine zJ ?_ _ | refine zI ?_ | refine zF ?_ _)); exact BK628.out) NB628_632.out (by simp))
 have n1_ := zO (Kd.R_mono (Kd.R_keep (IsS114.apart (show IsS114 w _ g632 t629 t647 t648 from by repeat (first | (with_reducible first | exact HI632.out | apply IsS114.alloc | apply IsS114.drewN | apply IsS114.drew | apply IsS114.set_1 | apply IsS114.set_2 | refine IsS114.far ?_ NB632_628.out _ | refine IsS114.far ?_ NB632_644.out _) | exact HI632.out)) (by (with_reducible repeat (first | apply zU | apply zW | apply zV)); exact HO638.out) (by decide)) hk (fun _ h => h.2)) (fun _ h => h.1))
 have n2_ := zO (Kd.R_mono (Kd.R_keep (IsS114.apart (show IsS114 w _ g632 t629 t647 t648 from by repeat (first | (with_reducible first | exact HI632.out | apply IsS114.alloc | apply IsS114.drewN | apply IsS114.drew | apply IsS114.set_1 | apply IsS114.set_2 | refine IsS114.far ?_ NB632_628.out _ | refine IsS114.far ?_ NB632_644.out _) | exact HI632.out)) (by (with_reducible repeat (first | apply zU | apply zW | apply zV)); exact HO641.out) (by decide)) hk (fun _ h => h.2)) (fun _ h => h.1))
 have n3_ := zO (KeepBut.blk hk (g' := gb644) (o := .cells #[.int .i64 t633, .int .i64 t634, .int .i64 t635] 24 (0, 0)) (by (with_reducible repeat (first | refine zJ ?_ _ | refine zI ?_ | refine zF ?_ _)); exact BK644.out) NB644_632.out (by simp))
 have n4_ := zO (hb)
 have n5_ := zO (hi)
 clear BK628
 clear HO638
 clear HO641
 clear BK644
 clear HB
 clear HI632
 have BK628 := n0_
 have HO638 := n1_
 have HO641 := n2_
 have BK644 := n3_
 have HB := n4_
 have HI632 := n5_
 clear n0_ n1_ n2_ n3_ n4_ n5_
 (try clear hb)
 (try clear hb2)
 (try clear hk)
 (try clear hi)
 refine hK.out _ _ ⟨(zH BK644.out 0).trans rfl, (zH BK644.out 1).trans rfl, (zH BK644.out 2).trans rfl⟩ (fun hHeld => ?_)
 clear hK K
 refine norm_ (a' := ?_) ?_ ?_; rotate_left
 ·show Act.put _ (some 30) _ = _; simp only [Act.put, yF, yG, yH, i64_w, i32_w]; rfl
 refine one_ (i := 6) (N := none) #[true, true, true, true, true, true, true, false, false, false] rfl rfl (one_of HT_.out (by kernel_rfl)) (by decide) (fun K hK => ?_)
 have hs18 : w17.cell? ⟨gb628, 0, none⟩ = some (.int .i64 0) := (zH BK628.out 0).trans rfl
 have hfs18 := zK BK628.out 0
 have hns18_1 := NB644_628.out
 have hms18_1 := NB628_644.out
 have hs19 : w17.cell? ⟨gb628, 1, none⟩ = some (.int .i64 0) := (zH BK628.out 1).trans rfl
 have hfs19 := zK BK628.out 1
 have hns19_1 := NB644_628.out
 have hms19_1 := NB628_644.out
 have hs20 : w17.cell? ⟨gb628, 2, none⟩ = some (.int .i64 0) := (zH BK628.out 2).trans rfl
 have hfs20 := zK BK628.out 2
 have hns20_1 := NB644_628.out
 have hms20_1 := NB628_644.out
 refine skip_ (w1 := ?_) (by rfl) rfl ?_ ?_; rotate_left
 ·go_simp
  rfl
 refine hK.out _ _ ⟨((cell_far (p := ⟨gb628, _, none⟩) NB644_628.out _).trans (((cell_far (p := ⟨gb628, _, none⟩) NB644_628.out _).trans (((cell_far (p := ⟨gb628, _, none⟩) NB644_628.out _).trans (hHeld.1)))))), ((cell_far (p := ⟨gb628, _, none⟩) NB644_628.out _).trans (((cell_far (p := ⟨gb628, _, none⟩) NB644_628.out _).trans (((cell_far (p := ⟨gb628, _, none⟩) NB644_628.out _).trans (hHeld.2.1)))))), ((cell_far (p := ⟨gb628, _, none⟩) NB644_628.out _).trans (((cell_far (p := ⟨gb628, _, none⟩) NB644_628.out _).trans (((cell_far (p := ⟨gb628, _, none⟩) NB644_628.out _).trans (hHeld.2.2))))))⟩ (fun hHeld => ?_)
 clear hK K
 refine pure_ (i := 7) (N := some 3) (v := ?_) (a' := ?_) #[true, true, true, true, true, true, true, true, false, false] rfl rfl (any_of HT_.out (by kernel_rfl)) (fun _ _ _ h => h) (Or.inl ⟨by rfl, ?_⟩) ?_ ?_; rotate_left
 ·intro w'; go_simp; with_reducible rfl
 rotate_left
 ·simp only [Act.put, yF, yG, yH, i64_w, i32_w]; rfl
 refine pure_ (i := 8) (N := some 4) (v := ?_) (a' := ?_) #[true, true, true, true, true, true, true, true, true, false] rfl rfl (any_of HT_.out (by kernel_rfl)) (fun _ _ _ h => h) (Or.inl ⟨by rfl, ?_⟩) ?_ ?_; rotate_left
 ·intro w'; go_simp; with_reducible rfl
 rotate_left
 ·simp only [Act.put, yF, yG, yH, i64_w, i32_w]; rfl
 refine pure_ (i := 9) (N := some 5) (v := ?_) (a' := ?_) #[true, true, true, true, true, true, true, true, true, true] rfl rfl (any_of HT_.out (by kernel_rfl)) (fun _ _ _ h => h) (Or.inl ⟨by rfl, ?_⟩) ?_ ?_; rotate_left
 ·intro w'; go_simp; with_reducible rfl
 rotate_left
 ·simp only [Act.put, yF, yG, yH, i64_w, i32_w]; rfl
 refine done_ (done_of HT_.out (by kernel_rfl)) ?_
 try go_wp2
 refine bodyPost_ret (results_list (rs := [.cell 2 24, .tmp 3, .tmp 4, .tmp 5]) rfl (by simp) (.cell gb628 24 #[.int .i64 t633, .int .i64 t634, .int .i64 t635] (0, 0) _ rfl (by (with_reducible repeat (first | refine zJ ?_ _ | refine zI ?_ | refine zF ?_ _)); refine blk_put (cs := #[.int .i64 t633, .int .i64 t634, .int .i64 0]) ?_ 2 _ rfl; (with_reducible repeat (first | refine zJ ?_ _ | refine zI ?_ | refine zF ?_ _)); refine blk_put (cs := #[.int .i64 t633, .int .i64 0, .int .i64 0]) ?_ 1 _ rfl; (with_reducible repeat (first | refine zJ ?_ _ | refine zI ?_ | refine zF ?_ _)); refine blk_put (cs := #[.int .i64 0, .int .i64 0, .int .i64 0]) ?_ 0 _ rfl; (with_reducible repeat (first | refine zJ ?_ _ | refine zI ?_ | refine zF ?_ _)); exact BK628.out) Try.underlying24 rfl (by kernel_rfl) (.tmp (.tmp (.tmp .nil))))) rfl ?_
 exact ⟨_, by first | rfl | (simp [errW_none, errW_some] <;> rfl) | (simp [*, errW_none, errW_some] <;> rfl), by (with_reducible repeat (first | apply zU | apply zW | apply zV)); exact Kd.R_mono (zZ (p := ⟨gb628, 2, none⟩) (zZ (p := ⟨gb628, 1, none⟩) (zZ (p := ⟨gb628, 0, none⟩) (Kd.R_types HO638.out BK628.out (by decide)) (fun _ hk => hk.2) (.int .i64 t633)) (fun _ hk => hk.2) (.int .i64 t634)) (fun _ hk => hk.2) (.int .i64 t635)) (fun _ hk => trivial), by repeat (first | (with_reducible first | exact HB.out | apply zA | apply zL | apply zB | refine zC ?_ (IsS114.ge HI632.out) | refine zC ?_ GE628.out | refine zC ?_ GE644.out) | exact HB.out)⟩

def spec_FrameSymbols.f (a0_0 : Int) (a0_1 : Int) (a0_2 : Int) : Option (Int) := (spec_IsValidHeader.f a0_0 a0_1 a0_2).bind fun t653 => (if t653 = true then ((spec_PayloadSymbols.f a0_0 a0_1 a0_2).bind fun t654 => (some (wrap64 (54 + t654)))) else (some 0))
theorem spec_FrameSymbols.calls (a0_0 : Int) (a0_1 : Int) (a0_2 : Int) (r : Int) (w : World) (h : spec_FrameSymbols.f a0_0 a0_1 a0_2 = some r) :
  Calls Try.prog 68 #[.agg #[.int .i64 a0_0, .int .i64 a0_1, .int .i64 a0_2]] w fun e w' => e = .returned (.int .i64 r) ∧ Below w.heap.size w w' := by
 have hu24 := Try.underlying24
 have HB := zO (Below.refl w.heap.size w)
 have H : ((spec_IsValidHeader.f a0_0 a0_1 a0_2).bind fun t653 => (if t653 = true then ((spec_PayloadSymbols.f a0_0 a0_1 a0_2).bind fun t654 => (some (wrap64 (54 + t654)))) else (some 0))) = some r := h
 clear h
 replace H := yE.mp H
 obtain ⟨t653, A20, H⟩ := H
 replace H : (if t653 = true then ((spec_PayloadSymbols.f a0_0 a0_1 a0_2).bind fun t654 => (some (wrap64 (54 + t654)))) else (some 0)) = some r := H
 have A2 := zO A20
 clear A20
 by_cases c3 : t653 = true
 ·subst c3
  have H1 : ((spec_PayloadSymbols.f a0_0 a0_1 a0_2).bind fun t654 => (some (wrap64 (54 + t654)))) = some r := by rw [if_pos rfl] at H; exact H
  clear H
  have H := H1
  clear H1
  replace H := yE.mp H
  obtain ⟨t654, A40, H⟩ := H
  replace H : (some (wrap64 (54 + t654))) = some r := H
  have A4 := zO A40
  clear A40
  obtain rfl := Option.some.inj H
  go_enter Try.func68, Try.ntmps68
  go_wp2_with (first | ((with_reducible refine zN (N := 1) rfl ?_); refine box_event ?hg (N := 1) ?hd (cs := #[.int .i64 a0_0, .int .i64 a0_1, .int .i64 a0_2]) (t := 24) ?hr ?_; (case hd => rfl); (case hg => rfl); (case hr => first | (go_simp; done) | (go_simp; rfl)); intro gb652 hg w5 hbox hb; have n0_ := zO (zE (by repeat (first | exact HB.out | apply zA | apply zL | apply zB)) hb); have n1_ := zO (hbox); have n2_ := zO ((by rw [hg]; exact (zD (by repeat (first | exact HB.out | apply zA | apply zL | apply zB))) : w.heap.size ≤ gb652)); have n3_ := zO ((by rw [hg]; exact (zD (by repeat (first | exact HB.out | apply zA | apply zL | apply zB))) : w.heap.size ≤ gb652)); clear HB; have HB := n0_; have BK652 := n1_; have GW652 := n2_; have GE652 := n3_; clear n0_ n1_ n2_ n3_; clear hb hbox hg; have hcz6_0 : w5.cell? ⟨gb652, 0, none⟩ = some (.int .i64 a0_0) := (zH BK652.out 0).trans rfl; have hcz6_1 : w5.cell? ⟨gb652, 1, none⟩ = some (.int .i64 a0_1) := (zH BK652.out 1).trans rfl; have hcz6_2 : w5.cell? ⟨gb652, 2, none⟩ = some (.int .i64 a0_2) := (zH BK652.out 2).trans rfl; have hfz6_0 := zK BK652.out 0; have hfz6_1 := zK BK652.out 1; have hfz6_2 := zK BK652.out 2) | ((with_reducible refine zM (f := 64) rfl ?_); refine goesL_ (some 4) rfl rfl Try.func64 (by kernel_rfl) rfl #[.agg #[.int .i64 a0_0, .int .i64 a0_1, .int .i64 a0_2]] rfl (by (try simp only [yK, yL, yM]); first | done | rfl | (simp only [yJ, yI]; rfl)) ?_; (with_reducible refine (spec_IsValidHeader.calls a0_0 a0_1 a0_2 true _ A2.out).mono ?_); rintro e w7 ⟨rfl, hb⟩; refine ⟨_, rfl, ?_⟩; have n0_ := zO (zG (g := gb652) (o := .cells #[.int .i64 a0_0, .int .i64 a0_1, .int .i64 a0_2] 24 (0, 0)) (by (with_reducible repeat (first | refine zJ ?_ _ | refine zI ?_ | refine zF ?_ _)); exact BK652.out) hb); have n1_ := zO (zE (by repeat (first | (with_reducible first | exact HB.out | apply zA | apply zL | apply zB | refine zC ?_ GE652.out) | exact HB.out)) hb); clear BK652; clear HB; have BK652 := n0_; have HB := n1_; clear n0_ n1_; (try clear hb); (try clear hb2); (try clear hk); (try clear hi); have hcz8_0 : w7.cell? ⟨gb652, 0, none⟩ = some (.int .i64 a0_0) := (zH BK652.out 0).trans rfl; have hcz8_1 : w7.cell? ⟨gb652, 1, none⟩ = some (.int .i64 a0_1) := (zH BK652.out 1).trans rfl; have hcz8_2 : w7.cell? ⟨gb652, 2, none⟩ = some (.int .i64 a0_2) := (zH BK652.out 2).trans rfl; have hfz8_0 := zK BK652.out 0; have hfz8_1 := zK BK652.out 1; have hfz8_2 := zK BK652.out 2) | ((with_reducible refine zM (f := 120) rfl ?_); refine goesL_ (some 7) rfl rfl Try.func120 (by kernel_rfl) rfl #[.agg #[.int .i64 a0_0, .int .i64 a0_1, .int .i64 a0_2]] rfl (by (try simp only [yK, yL, yM]); first | done | rfl | (simp only [yJ, yI]; rfl)) ?_; (with_reducible refine (spec_PayloadSymbols.calls a0_0 a0_1 a0_2 t654 _ A4.out).mono ?_); rintro e w9 ⟨rfl, hb⟩; refine ⟨_, rfl, ?_⟩; have n0_ := zO (zG (g := gb652) (o := .cells #[.int .i64 a0_0, .int .i64 a0_1, .int .i64 a0_2] 24 (0, 0)) (by (with_reducible repeat (first | refine zJ ?_ _ | refine zI ?_ | refine zF ?_ _)); exact BK652.out) hb); have n1_ := zO (zE (by repeat (first | (with_reducible first | exact HB.out | apply zA | apply zL | apply zB | refine zC ?_ GE652.out) | exact HB.out)) hb); clear BK652; clear HB; have BK652 := n0_; have HB := n1_; clear n0_ n1_; (try clear hb); (try clear hb2); (try clear hk); (try clear hi)))
  go_ret
  exact ⟨by first | rfl | exact yP _ | (simp [errW_none, errW_some] <;> rfl) | (simp [*, errW_none, errW_some] <;> rfl), by repeat (first | (with_reducible first | exact HB.out | apply zA | apply zL | apply zB | refine zC ?_ GE652.out) | exact HB.out)⟩
 ·replace c3 := Bool.eq_false_iff.mpr c3
  subst c3
  have H1 : (some 0) = some r := by rw [if_neg (show ¬ (false = true) by decide)] at H; exact H
  clear H
  have H := H1
  clear H1
  obtain rfl := Option.some.inj H
  go_enter Try.func68, Try.ntmps68
  go_wp2_with (first | ((with_reducible refine zN (N := 1) rfl ?_); refine box_event ?hg (N := 1) ?hd (cs := #[.int .i64 a0_0, .int .i64 a0_1, .int .i64 a0_2]) (t := 24) ?hr ?_; (case hd => rfl); (case hg => rfl); (case hr => first | (go_simp; done) | (go_simp; rfl)); intro gb652 hg w10 hbox hb; have n0_ := zO (zE (by repeat (first | exact HB.out | apply zA | apply zL | apply zB)) hb); have n1_ := zO (hbox); have n2_ := zO ((by rw [hg]; exact (zD (by repeat (first | exact HB.out | apply zA | apply zL | apply zB))) : w.heap.size ≤ gb652)); have n3_ := zO ((by rw [hg]; exact (zD (by repeat (first | exact HB.out | apply zA | apply zL | apply zB))) : w.heap.size ≤ gb652)); clear HB; have HB := n0_; have BK652 := n1_; have GW652 := n2_; have GE652 := n3_; clear n0_ n1_ n2_ n3_; clear hb hbox hg; have hcz11_0 : w10.cell? ⟨gb652, 0, none⟩ = some (.int .i64 a0_0) := (zH BK652.out 0).trans rfl; have hcz11_1 : w10.cell? ⟨gb652, 1, none⟩ = some (.int .i64 a0_1) := (zH BK652.out 1).trans rfl; have hcz11_2 : w10.cell? ⟨gb652, 2, none⟩ = some (.int .i64 a0_2) := (zH BK652.out 2).trans rfl; have hfz11_0 := zK BK652.out 0; have hfz11_1 := zK BK652.out 1; have hfz11_2 := zK BK652.out 2) | ((with_reducible refine zM (f := 64) rfl ?_); refine goesL_ (some 4) rfl rfl Try.func64 (by kernel_rfl) rfl #[.agg #[.int .i64 a0_0, .int .i64 a0_1, .int .i64 a0_2]] rfl (by (try simp only [yK, yL, yM]); first | done | rfl | (simp only [yJ, yI]; rfl)) ?_; (with_reducible refine (spec_IsValidHeader.calls a0_0 a0_1 a0_2 false _ A2.out).mono ?_); rintro e w12 ⟨rfl, hb⟩; refine ⟨_, rfl, ?_⟩; have n0_ := zO (zG (g := gb652) (o := .cells #[.int .i64 a0_0, .int .i64 a0_1, .int .i64 a0_2] 24 (0, 0)) (by (with_reducible repeat (first | refine zJ ?_ _ | refine zI ?_ | refine zF ?_ _)); exact BK652.out) hb); have n1_ := zO (zE (by repeat (first | (with_reducible first | exact HB.out | apply zA | apply zL | apply zB | refine zC ?_ GE652.out) | exact HB.out)) hb); clear BK652; clear HB; have BK652 := n0_; have HB := n1_; clear n0_ n1_; (try clear hb); (try clear hb2); (try clear hk); (try clear hi)))
  go_ret
  exact ⟨by first | rfl | exact yP _ | (simp [errW_none, errW_some] <;> rfl) | (simp [*, errW_none, errW_some] <;> rfl), by repeat (first | (with_reducible first | exact HB.out | apply zA | apply zL | apply zB | refine zC ?_ GE652.out) | exact HB.out)⟩

mutual
def laws_FnFrameErrors.j0 : Nat → List Int → Int → List Int → Bool → Int → Int → Int → Option (Bool)
 | 0, _, _, _, _, _, _, _ => none
 | k + 1, x4, x6, x7, x47, x665000, x665001, x665002 => if x47 = true then (if 0 ≤ x6 then (if x6 < (x7.length : Int) then (laws_FnFrameErrors.j1 k x4 (x7.set (x6 : Int).toNat (wrap64 (1 - (rd x7 x6)))) x665000 x665001 x665002) else (none)) else (none)) else (laws_FnFrameErrors.j1 k x4 x7 x665000 x665001 x665002)
def laws_FnFrameErrors.j1 : Nat → List Int → List Int → Int → Int → Int → Option (Bool)
 | 0, _, _, _, _, _ => none
 | k + 1, x4, x7, x665000, x665001, x665002 => (impl_ReceiveFrame.f k x7).bind fun bt673 => (if x665000 = 2 then (if (bt673.1 == x665000 && (bt673.2.1 == x665001 && (bt673.2.2.1 == x665002))) = true then (if bt673.2.2.2.2 = 0 then (some ((bt673.2.2.2.1.length : Int) == x665001)) else (some true)) else (none)) else (if bt673.2.2.2.2 = 0 then (if (bt673.1 == x665000 && (bt673.2.1 == x665001 && (bt673.2.2.1 == x665002))) = true then ((laws_sameBytes.f k bt673.2.2.2.1 x4).bind fun t681 => (some t681)) else (none)) else (none)))
end
def laws_FnFrameErrors.f (k : Nat) (l0 : List Int) : Option (Bool) := (laws_big.f l0).bind fun t655 => (if t655 = true then (some true) else ((spec_DrawSent.f k l0).bind fun bt656 => ((impl_TransmitFrame.f k bt656.1 bt656.2.1 bt656.2.2.1 bt656.2.2.2.1).bind fun t665 => ((spec_FrameSymbols.f bt656.1 bt656.2.1 bt656.2.2.1).bind fun t668 => (if (t665.length : Int) = t668 then (if 0 ≤ (wrap64 (bt656.2.2.2.2.1 + 54)) then (if (wrap64 (bt656.2.2.2.2.1 + 54)) < (t665.length : Int) then ((some (t665.set ((wrap64 (bt656.2.2.2.2.1 + 54)) : Int).toNat (wrap64 (1 - (rd t665 (wrap64 (bt656.2.2.2.2.1 + 54))))) : List Int)).bind fun y670 => (if (wrap64 (bt656.2.2.2.2.1 + 54)) = (wrap64 (bt656.2.2.2.2.2 + 54)) then (laws_FnFrameErrors.j0 k bt656.2.2.2.1 (wrap64 (bt656.2.2.2.2.2 + 54)) y670 false bt656.1 bt656.2.1 bt656.2.2.1) else (laws_FnFrameErrors.j0 k bt656.2.2.2.1 (wrap64 (bt656.2.2.2.2.2 + 54)) y670 (bt656.1 == 1) bt656.1 bt656.2.1 bt656.2.2.1))) else (none)) else (none)) else (none))))))
theorem laws_FnFrameErrors.calls (k : Nat) (A0 : Option Addr) (c0 : Nat) (l0 : List Int) (r : Bool) (w : World) (hr0 : Kd.C (Kd.int .u8) w A0 l0.length l0) (hc0 : l0.length ≤ c0) (h : laws_FnFrameErrors.f k l0 = some r) :
  Calls Try.prog 13 #[.slice A0 l0.length c0] w fun e w' => e = .returned (.bool r) ∧ Below w.heap.size w w' := by
 have hu24 := Try.underlying24
 have HR0 := zO hr0
 have HC0 := zO hc0
 clear hr0 hc0
 have HB := zO (Below.refl w.heap.size w)
 have H : ((laws_big.f l0).bind fun t655 => (if t655 = true then (some true) else ((spec_DrawSent.f k l0).bind fun bt656 => ((impl_TransmitFrame.f k bt656.1 bt656.2.1 bt656.2.2.1 bt656.2.2.2.1).bind fun t665 => ((spec_FrameSymbols.f bt656.1 bt656.2.1 bt656.2.2.1).bind fun t668 => (if (t665.length : Int) = t668 then (if 0 ≤ (wrap64 (bt656.2.2.2.2.1 + 54)) then (if (wrap64 (bt656.2.2.2.2.1 + 54)) < (t665.length : Int) then ((some (t665.set ((wrap64 (bt656.2.2.2.2.1 + 54)) : Int).toNat (wrap64 (1 - (rd t665 (wrap64 (bt656.2.2.2.2.1 + 54))))) : List Int)).bind fun y670 => (if (wrap64 (bt656.2.2.2.2.1 + 54)) = (wrap64 (bt656.2.2.2.2.2 + 54)) then (laws_FnFrameErrors.j0 k bt656.2.2.2.1 (wrap64 (bt656.2.2.2.2.2 + 54)) y670 false bt656.1 bt656.2.1 bt656.2.2.1) else (laws_FnFrameErrors.j0 k bt656.2.2.2.1 (wrap64 (bt656.2.2.2.2.2 + 54)) y670 (bt656.1 == 1) bt656.1 bt656.2.1 bt656.2.2.1))) else (none)) else (none)) else (none))))))) = some r := h
 clear h
 replace H := yE.mp H
 obtain ⟨t655, A20, H⟩ := H
 replace H : (if t655 = true then (some true) else ((spec_DrawSent.f k l0).bind fun bt656 => ((impl_TransmitFrame.f k bt656.1 bt656.2.1 bt656.2.2.1 bt656.2.2.2.1).bind fun t665 => ((spec_FrameSymbols.f bt656.1 bt656.2.1 bt656.2.2.1).bind fun t668 => (if (t665.length : Int) = t668 then (if 0 ≤ (wrap64 (bt656.2.2.2.2.1 + 54)) then (if (wrap64 (bt656.2.2.2.2.1 + 54)) < (t665.length : Int) then ((some (t665.set ((wrap64 (bt656.2.2.2.2.1 + 54)) : Int).toNat (wrap64 (1 - (rd t665 (wrap64 (bt656.2.2.2.2.1 + 54))))) : List Int)).bind fun y670 => (if (wrap64 (bt656.2.2.2.2.1 + 54)) = (wrap64 (bt656.2.2.2.2.2 + 54)) then (laws_FnFrameErrors.j0 k bt656.2.2.2.1 (wrap64 (bt656.2.2.2.2.2 + 54)) y670 false bt656.1 bt656.2.1 bt656.2.2.1) else (laws_FnFrameErrors.j0 k bt656.2.2.2.1 (wrap64 (bt656.2.2.2.2.2 + 54)) y670 (bt656.1 == 1) bt656.1 bt656.2.1 bt656.2.2.1))) else (none)) else (none)) else (none)))))) = some r := H
 have A2 := zO A20
 clear A20
 by_cases c3 : t655 = true
 ·subst c3
  have H1 : (some true) = some r := by rw [if_pos rfl] at H; exact H
  clear H
  have H := H1
  clear H1
  obtain rfl := Option.some.inj H
  go_enter Try.func13, Try.ntmps13
  go_wp2_with (first | ((with_reducible refine zM (f := 27) rfl ?_); refine goesL_ (some 12) rfl rfl Try.func27 (by kernel_rfl) rfl #[.slice A0 l0.length c0] rfl (by (try simp only [yK, yL, yM]); first | done | rfl | (simp only [yJ, yI]; rfl)) ?_; (with_reducible refine (laws_big.calls _ _ l0 true _ ?side1 ?side2 A2.out).mono ?_); (case side1 => repeat (first | exact HR0.out | (with_reducible refine zR ?_ _) | (with_reducible refine zT ?_ _) | (with_reducible refine zS ?_))); (case side2 => exact HC0.out); rintro e w' ⟨rfl, ⟨nd, rfl⟩⟩; refine ⟨_, rfl, ?_⟩))
  go_ret
  exact ⟨by first | rfl | exact yP _ | (simp [errW_none, errW_some] <;> rfl) | (simp [*, errW_none, errW_some] <;> rfl), by repeat (first | exact HB.out | apply zA | apply zL | apply zB)⟩
 ·replace c3 := Bool.eq_false_iff.mpr c3
  subst c3
  have H1 : ((spec_DrawSent.f k l0).bind fun bt656 => ((impl_TransmitFrame.f k bt656.1 bt656.2.1 bt656.2.2.1 bt656.2.2.2.1).bind fun t665 => ((spec_FrameSymbols.f bt656.1 bt656.2.1 bt656.2.2.1).bind fun t668 => (if (t665.length : Int) = t668 then (if 0 ≤ (wrap64 (bt656.2.2.2.2.1 + 54)) then (if (wrap64 (bt656.2.2.2.2.1 + 54)) < (t665.length : Int) then ((some (t665.set ((wrap64 (bt656.2.2.2.2.1 + 54)) : Int).toNat (wrap64 (1 - (rd t665 (wrap64 (bt656.2.2.2.2.1 + 54))))) : List Int)).bind fun y670 => (if (wrap64 (bt656.2.2.2.2.1 + 54)) = (wrap64 (bt656.2.2.2.2.2 + 54)) then (laws_FnFrameErrors.j0 k bt656.2.2.2.1 (wrap64 (bt656.2.2.2.2.2 + 54)) y670 false bt656.1 bt656.2.1 bt656.2.2.1) else (laws_FnFrameErrors.j0 k bt656.2.2.2.1 (wrap64 (bt656.2.2.2.2.2 + 54)) y670 (bt656.1 == 1) bt656.1 bt656.2.1 bt656.2.2.1))) else (none)) else (none)) else (none))))) = some r := by rw [if_neg (show ¬ (false = true) by decide)] at H; exact H
  clear H
  have H := H1
  clear H1
  replace H := yE.mp H
  obtain ⟨⟨t656, t657, t658, t659, t662, t663⟩, A40, H⟩ := H
  replace H : ((impl_TransmitFrame.f k t656 t657 t658 t659).bind fun t665 => ((spec_FrameSymbols.f t656 t657 t658).bind fun t668 => (if (t665.length : Int) = t668 then (if 0 ≤ (wrap64 (t662 + 54)) then (if (wrap64 (t662 + 54)) < (t665.length : Int) then ((some (t665.set ((wrap64 (t662 + 54)) : Int).toNat (wrap64 (1 - (rd t665 (wrap64 (t662 + 54))))) : List Int)).bind fun y670 => (if (wrap64 (t662 + 54)) = (wrap64 (t663 + 54)) then (laws_FnFrameErrors.j0 k t659 (wrap64 (t663 + 54)) y670 false t656 t657 t658) else (laws_FnFrameErrors.j0 k t659 (wrap64 (t663 + 54)) y670 (t656 == 1) t656 t657 t658))) else (none)) else (none)) else (none)))) = some r := H
  have A4 := zO A40
  clear A40
  replace H := yE.mp H
  obtain ⟨t665, A50, H⟩ := H
  replace H : ((spec_FrameSymbols.f t656 t657 t658).bind fun t668 => (if (t665.length : Int) = t668 then (if 0 ≤ (wrap64 (t662 + 54)) then (if (wrap64 (t662 + 54)) < (t665.length : Int) then ((some (t665.set ((wrap64 (t662 + 54)) : Int).toNat (wrap64 (1 - (rd t665 (wrap64 (t662 + 54))))) : List Int)).bind fun y670 => (if (wrap64 (t662 + 54)) = (wrap64 (t663 + 54)) then (laws_FnFrameErrors.j0 k t659 (wrap64 (t663 + 54)) y670 false t656 t657 t658) else (laws_FnFrameErrors.j0 k t659 (wrap64 (t663 + 54)) y670 (t656 == 1) t656 t657 t658))) else (none)) else (none)) else (none))) = some r := H
  have A5 := zO A50
  clear A50
  replace H := yE.mp H
  obtain ⟨t668, A60, H⟩ := H
  replace H : (if (t665.length : Int) = t668 then (if 0 ≤ (wrap64 (t662 + 54)) then (if (wrap64 (t662 + 54)) < (t665.length : Int) then ((some (t665.set ((wrap64 (t662 + 54)) : Int).toNat (wrap64 (1 - (rd t665 (wrap64 (t662 + 54))))) : List Int)).bind fun y670 => (if (wrap64 (t662 + 54)) = (wrap64 (t663 + 54)) then (laws_FnFrameErrors.j0 k t659 (wrap64 (t663 + 54)) y670 false t656 t657 t658) else (laws_FnFrameErrors.j0 k t659 (wrap64 (t663 + 54)) y670 (t656 == 1) t656 t657 t658))) else (none)) else (none)) else (none)) = some r := H
  have A6 := zO A60
  clear A60
  by_cases c7 : (t665.length : Int) = t668
  case neg => rw [if_neg c7] at H; exact absurd H (by simp)
  rw [if_pos c7] at H
  have c7b0 : ((t665.length : Int) == t668) = true := beq_iff_eq.mpr c7
  have c7b1 : ((t665.length : Int) != t668) = false := bne_eq_false_iff_eq.mpr c7
  clear c7
  obtain ⟨ji8, hji8⟩ : ∃ j_ : Int, (wrap64 (t662 + 54)) = j_ := ⟨_, rfl⟩
  replace H : (if 0 ≤ (ji8) then (if (ji8) < (t665.length : Int) then ((some (t665.set ((ji8) : Int).toNat (wrap64 (1 - (rd t665 (ji8)))) : List Int)).bind fun y670 => (if (ji8) = (wrap64 (t663 + 54)) then (laws_FnFrameErrors.j0 k t659 (wrap64 (t663 + 54)) y670 false t656 t657 t658) else (laws_FnFrameErrors.j0 k t659 (wrap64 (t663 + 54)) y670 (t656 == 1) t656 t657 t658))) else (none)) else (none)) = some r := by first | (rw [hji8] at H; exact H) | (simp only [hji8] at H ⊢; exact H)
  (try rw [hji8] at A2)
  (try rw [hji8] at A4)
  (try rw [hji8] at A5)
  (try rw [hji8] at A6)
  have hji8w : (IntKind.i64.wrap (t662 + 54)) = ji8 := (i64_w _).trans hji8
  by_cases c9 : 0 ≤ (ji8)
  case neg => rw [if_neg c9] at H; exact absurd H (by simp)
  rw [if_pos c9] at H
  have c9b0 : decide (0 ≤ (ji8)) = true := decide_eq_true c9
  clear c9
  by_cases c10 : (ji8) < (t665.length : Int)
  case neg => rw [if_neg c10] at H; exact absurd H (by simp)
  rw [if_pos c10] at H
  have c10b0 : decide ((ji8) < (t665.length : Int)) = true := decide_eq_true c10
  clear c10
  obtain ⟨y670, hy670⟩ : ∃ y_ : List Int, y_ = (t665.set ((ji8) : Int).toNat (wrap64 (1 - (rd t665 (ji8))))) := ⟨_, rfl⟩
  replace H : (if (ji8) = (wrap64 (t663 + 54)) then (laws_FnFrameErrors.j0 k t659 (wrap64 (t663 + 54)) y670 false t656 t657 t658) else (laws_FnFrameErrors.j0 k t659 (wrap64 (t663 + 54)) y670 (t656 == 1) t656 t657 t658)) = some r := by first | (rw [hy670]; exact H) | exact H
  have Ny670 := zO hy670
  clear hy670
  have HC12 := zO H
  clear H
  go_enter Try.func13, Try.ntmps13
  go_upto_region 10 with (first | ((with_reducible refine zM (f := 27) rfl ?_); refine goesL_ (some 12) rfl rfl Try.func27 (by kernel_rfl) rfl #[.slice A0 l0.length c0] rfl (by (try simp only [yK, yL, yM]); first | done | rfl | (simp only [yJ, yI]; rfl)) ?_; (with_reducible refine (laws_big.calls _ _ l0 false _ ?side1 ?side2 A2.out).mono ?_); (case side1 => repeat (first | exact HR0.out | (with_reducible refine zR ?_ _) | (with_reducible refine zT ?_ _) | (with_reducible refine zS ?_))); (case side2 => exact HC0.out); rintro e w' ⟨rfl, ⟨nd, rfl⟩⟩; refine ⟨_, rfl, ?_⟩) | ((with_reducible refine zM (f := 67) rfl ?_); refine goesL_ (some 15) rfl rfl Try.func67 (by kernel_rfl) rfl #[.slice A0 l0.length c0] rfl (by (try simp only [yK, yL, yM]); first | done | rfl | (simp only [yJ, yI]; rfl)) ?_; (with_reducible refine (spec_DrawSent.calls k _ _ l0 t656 t657 t658 t659 t662 t663 _ ?side1 ?side2 A4.out).mono ?_); (case side1 => repeat (first | exact HR0.out | (with_reducible refine zR ?_ _) | (with_reducible refine zT ?_ _) | (with_reducible refine zS ?_))); (case side2 => exact HC0.out); rintro e w13 ⟨v660, rfl, ho0, hb⟩; refine ⟨_, rfl, ?_⟩; have n0_ := zO (yA ho0 (zD (by repeat (first | exact HB.out | apply zA | apply zL | apply zB)))); have n1_ := zO (zE (by repeat (first | exact HB.out | apply zA | apply zL | apply zB)) hb); clear HB; have HO661 := n0_; have HB := n1_; clear n0_ n1_; (try clear hb); (try clear hb2); (try clear hk); (try clear hi); (try clear ho0)) | ((with_reducible refine zN (N := 3) rfl ?_); (try (refine gate_guard (by rfl) ?_; dsimp only)); refine box_event ?hg (N := 3) ?hd (cs := #[.int .i64 0, .int .i64 0, .int .i64 0]) (t := 24) ?hr ?_; (case hd => rfl); (case hg => rfl); (case hr => first | (go_simp; done) | (go_simp; rfl)); intro gb664 hg w14 hbox hb; have n0_ := zO (zY (by (with_reducible repeat (first | apply zU | apply zW | apply zV)); exact HO661.out) hb); have n1_ := zO (zE (by repeat (first | exact HB.out | apply zA | apply zL | apply zB)) hb); have n2_ := zO (hbox); have n3_ := zO ((by rw [hg]; exact (zD (by repeat (first | exact HB.out | apply zA | apply zL | apply zB))) : w.heap.size ≤ gb664)); have n4_ := zO ((by rw [hg]; exact (zD (by repeat (first | exact HB.out | apply zA | apply zL | apply zB))) : w.heap.size ≤ gb664)); clear HO661; clear HB; have HO661 := n0_; have HB := n1_; have BK664 := n2_; have GW664 := n3_; have GE664 := n4_; clear n0_ n1_ n2_ n3_ n4_; clear hb hbox hg; have hcz15_0 : w14.cell? ⟨gb664, 0, none⟩ = some (.int .i64 0) := (zH BK664.out 0).trans rfl; have hcz15_1 : w14.cell? ⟨gb664, 1, none⟩ = some (.int .i64 0) := (zH BK664.out 1).trans rfl; have hcz15_2 : w14.cell? ⟨gb664, 2, none⟩ = some (.int .i64 0) := (zH BK664.out 2).trans rfl; have hfz15_0 := zK BK664.out 0; have hfz15_1 := zK BK664.out 1; have hfz15_2 := zK BK664.out 2; obtain ⟨Ao16, co16, eo16⟩ := Kd.R_slice HO661.out; subst eo16) | ((with_reducible refine zM (f := 63) rfl ?_); refine goesL_ (some 22) rfl rfl Try.func63 (by kernel_rfl) rfl #[.agg #[.int .i64 t656, .int .i64 t657, .int .i64 t658], .slice Ao16 t659.length co16] rfl (by (try simp only [yK, yL, yM]); first | done | rfl | (simp only [yJ, yI]; rfl)) ?_; (with_reducible refine (impl_TransmitFrame.calls k t656 t657 t658 _ _ t659 t665 _ ?side1 ?side2 A5.out).mono ?_); (case side1 => refine (zX (e := 5) (base := w.heap.size) (ok := fun k_ => True) (n := t659.length) (c := co16) ?_).2.2; exact (by (with_reducible repeat (first | apply zU | apply zW | apply zV)); exact (Kd.R_mono (zZ (p := ⟨gb664, 2, none⟩) (zZ (p := ⟨gb664, 1, none⟩) (zZ (p := ⟨gb664, 0, none⟩) (Kd.R_types HO661.out BK664.out (by decide)) (fun _ hk => hk.2) (.int .i64 t656)) (fun _ hk => hk.2) (.int .i64 t657)) (fun _ hk => hk.2) (.int .i64 t658)) (fun _ h_ => h_.1)))); (case side2 => exact (zX HO661.out).2.1); rintro e w17 ⟨v666, rfl, ho0, hb⟩; refine ⟨_, rfl, ?_⟩; have n0_ := zO (zY (by (with_reducible repeat (first | apply zU | apply zW | apply zV)); exact (Kd.R_mono (zZ (p := ⟨gb664, 2, none⟩) (zZ (p := ⟨gb664, 1, none⟩) (zZ (p := ⟨gb664, 0, none⟩) (Kd.R_types HO661.out BK664.out (by decide)) (fun _ hk => hk.2) (.int .i64 t656)) (fun _ hk => hk.2) (.int .i64 t657)) (fun _ hk => hk.2) (.int .i64 t658)) (fun _ h_ => h_.1))) hb); have n1_ := zO (yA ho0 (zD (by repeat (first | (with_reducible first | exact HB.out | apply zA | apply zL | apply zB | refine zC ?_ GE664.out) | exact HB.out)))); have n2_ := zO (zG (g := gb664) (o := .cells #[.int .i64 t656, .int .i64 t657, .int .i64 t658] 24 (0, 0)) (by (with_reducible repeat (first | refine zJ ?_ _ | refine zI ?_ | refine zF ?_ _)); refine blk_put (cs := #[.int .i64 t656, .int .i64 t657, .int .i64 0]) ?_ 2 _ rfl; (with_reducible repeat (first | refine zJ ?_ _ | refine zI ?_ | refine zF ?_ _)); refine blk_put (cs := #[.int .i64 t656, .int .i64 0, .int .i64 0]) ?_ 1 _ rfl; (with_reducible repeat (first | refine zJ ?_ _ | refine zI ?_ | refine zF ?_ _)); refine blk_put (cs := #[.int .i64 0, .int .i64 0, .int .i64 0]) ?_ 0 _ rfl; (with_reducible repeat (first | refine zJ ?_ _ | refine zI ?_ | refine zF ?_ _)); exact BK664.out) hb); have n3_ := zO (zE (by repeat (first | (with_reducible first | exact HB.out | apply zA | apply zL | apply zB | refine zC ?_ GE664.out) | exact HB.out)) hb); clear HO661; clear BK664; clear HB; have HO661 := n0_; have HO667 := n1_; have BK664 := n2_; have HB := n3_; clear n0_ n1_ n2_ n3_; (try clear hb); (try clear hb2); (try clear hk); (try clear hi); (try clear ho0); obtain ⟨Ao18, co18, eo18⟩ := Kd.R_slice HO667.out; subst eo18; have hcz19_0 : w17.cell? ⟨gb664, 0, none⟩ = some (.int .i64 t656) := (zH BK664.out 0).trans rfl; have hcz19_1 : w17.cell? ⟨gb664, 1, none⟩ = some (.int .i64 t657) := (zH BK664.out 1).trans rfl; have hcz19_2 : w17.cell? ⟨gb664, 2, none⟩ = some (.int .i64 t658) := (zH BK664.out 2).trans rfl; have hfz19_0 := zK BK664.out 0; have hfz19_1 := zK BK664.out 1; have hfz19_2 := zK BK664.out 2) | ((with_reducible refine zM (f := 68) rfl ?_); refine goesL_ (some 26) rfl rfl Try.func68 (by kernel_rfl) rfl #[.agg #[.int .i64 t656, .int .i64 t657, .int .i64 t658]] rfl (by (try simp only [yK, yL, yM]); first | done | rfl | (simp only [yJ, yI]; rfl)) ?_; (with_reducible refine (spec_FrameSymbols.calls t656 t657 t658 t668 _ A6.out).mono ?_); rintro e w20 ⟨rfl, hb⟩; refine ⟨_, rfl, ?_⟩; have n0_ := zO (zY (by (with_reducible repeat (first | apply zU | apply zW | apply zV)); exact HO661.out) hb); have n1_ := zO (zY (by (with_reducible repeat (first | apply zU | apply zW | apply zV)); exact HO667.out) hb); have n2_ := zO (zG (g := gb664) (o := .cells #[.int .i64 t656, .int .i64 t657, .int .i64 t658] 24 (0, 0)) (by (with_reducible repeat (first | refine zJ ?_ _ | refine zI ?_ | refine zF ?_ _)); exact BK664.out) hb); have n3_ := zO (zE (by repeat (first | (with_reducible first | exact HB.out | apply zA | apply zL | apply zB | refine zC ?_ GE664.out) | exact HB.out)) hb); clear HO661; clear HO667; clear BK664; clear HB; have HO661 := n0_; have HO667 := n1_; have BK664 := n2_; have HB := n3_; clear n0_ n1_ n2_ n3_; (try clear hb); (try clear hb2); (try clear hk); (try clear hi); have p669 : 0 ≤ ((ji8) : Int) := yO (by assumption); have q669 : (ji8) < (t665.length : Int) := yO (by assumption); obtain ⟨ad669, e669, hx669_0⟩ := Kd.at_int (zX HO667.out).2.2 (ji8) p669 q669; cases e669; replace p669 := eq_true p669; replace q669 := eq_true q669; have p11 : 0 ≤ ((ji8) : Int) := yO (by assumption); have q11 : ((ji8) : Int) < ((t665.length : Int) : Int) := yO (by assumption); obtain ⟨go11, co11, eo11, gb11, gl11, cl11, HG11⟩ := Kd.R_form HO667.out (by omega); (first | cases eo11 | (injection eo11 with ea_ en_ ec_; (first | subst ea_ | (injection ea_ with ea_; subst ea_)); subst ec_; clear en_)); have GB11 := zO gb11; have GG11 := zO HG11; clear gb11 gl11 HG11; (first | simp only [add_plain] at hx669_0 | skip); obtain ⟨hx11_0, hf11_0⟩ := Kd.R_celln 0 HO667.out ((ji8) : Int) p11 q11; replace p11 := eq_true p11; replace q11 := eq_true q11; obtain ⟨hy21_, hz21_⟩ := Kd.R_celln 0 HO667.out ((ji8) : Int) (yO (by assumption)) (yO (by assumption)); have HP21 := Kd.R_putg HO667.out ((ji8) : Int) (wrap64 (1 - (rd t665 (ji8))))) | ((with_reducible refine gate_store (t := 3) (p := 39) rfl ?_); refine store_event (t := 3) (p := 39) (v := ?vo_w22) (w1 := (w20.setCell ⟨go11, ((ji8) : Int).toNat, none⟩ (.int .i64 (wrap64 (1 - (rd t665 (ji8))))))) ?hg ?ho ?hn ?hr ?_; (case ho => rfl); (case hg => rfl); (case hn => rfl); (case hr => first | (go_simp; done) | (go_simp; rfl)); intro w22 hw; have hg : w20.grownBy w22 (some go11) := (by rw [hw]; exact HP21.2); have hp_ : Kd.R (Kd.int .i64) 3 w22 w.heap.size (fun _ => True) (.slice (some ⟨go11, 0, none⟩) t665.length co18) y670 := (by rw [hw, Ny670.out]; exact HP21.1); clear HP21; have n0_ := zO (Kd.R_over' (v := (.slice (some ⟨go11, 0, none⟩) t665.length co18)) (by (with_reducible repeat (first | apply zU | apply zW | apply zV)); exact HO661.out) (Kd.R_typed HO667.out) (by decide) hg); have n1_ := zO (blk_grown (g := gb664) (o := .cells #[.int .i64 t656, .int .i64 t657, .int .i64 t658] 24 (0, 0)) (by (with_reducible repeat (first | refine zJ ?_ _ | refine zI ?_ | refine zF ?_ _)); exact BK664.out) hg (Kd.R_ne HO667.out BK664.out (by decide))); have n2_ := zO (hp_); have n3_ := zO ((by rw [hw]; exact zC (HB.out) GB11.out : Below w.heap.size w w22)); clear HO661; clear BK664; clear HO667; clear HB; have HO661 := n0_; have BK664 := n1_; have HO667 := n2_; have HB := n3_; clear n0_ n1_ n2_ n3_; clear hg hw hp_))
  (try simp only [Act.put, yF, yG, yH])
  go_cut [47] (fun v47 wc => ∃ (kq : Nat) (x47_11 : Bool), v47 = .bool x47_11 ∧ Aside0 (laws_FnFrameErrors.j0 kq t659 (wrap64 (t663 + 54)) y670 x47_11 t656 t657 t658 = some r) ∧ Aside0 (kq ≤ k) ∧ Aside0 (Kd.R (Kd.int .u8) 5 wc w.heap.size (fun _ => True) (.slice Ao16 t659.length co16) t659) ∧ Aside0 (Kd.R (Kd.int .i64) 3 wc w.heap.size (fun _ => True) (.slice (some ⟨go11, 0, none⟩) t665.length co18) y670) ∧ Aside0 (wc.heap[gb664]? = some (.cells #[.int .i64 t656, .int .i64 t657, .int .i64 t658] 24 (0, 0))) ∧ Aside0 (Below w.heap.size w wc))
  case first =>
   have H := HC12.out
   clear HC12
   by_cases c23 : (ji8) = (wrap64 (t663 + 54))
   ·rw [if_pos c23] at H
    have c23b0 : ((ji8) == (wrap64 (t663 + 54))) = true := beq_iff_eq.mpr c23
    have c23b1 : ((ji8) != (wrap64 (t663 + 54))) = false := bne_eq_false_iff_eq.mpr c23
    clear c23
    (first | rw [c23b0] | (simp only [i64_w, i32_w]; rw [c23b0]) | skip)
    have H' := zO H
    clear H
    go_wp2
    go_meet
    case rel => exact ⟨_, (false), (by first | rfl | (simp; done) | (simp [*]; done)), H', ⟨by first | omega | exact Nat.le_refl _⟩, ⟨by (with_reducible repeat (first | apply zU | apply zW | apply zV)); exact HO661.out⟩, ⟨by (with_reducible repeat (first | apply zU | apply zW | apply zV)); exact HO667.out⟩, ⟨by (with_reducible repeat (first | refine zJ ?_ _ | refine zI ?_ | refine zF ?_ _)); exact BK664.out⟩, ⟨by repeat (first | (with_reducible first | exact HB.out | apply zA | apply zL | apply zB | refine zC ?_ GE664.out) | exact HB.out)⟩⟩
   ·rw [if_neg c23] at H
    have c23b0 : ((ji8) == (wrap64 (t663 + 54))) = false := beq_eq_false_iff_ne.mpr c23
    have c23b1 : ((ji8) != (wrap64 (t663 + 54))) = true := bne_iff_ne.mpr c23
    (first | rw [c23b0] | (simp only [i64_w, i32_w]; rw [c23b0]) | skip)
    have H' := zO H
    clear H
    have hcz24_0 : w22.cell? ⟨gb664, 0, none⟩ = some (.int .i64 t656) := (zH BK664.out 0).trans rfl
    have hcz24_1 : w22.cell? ⟨gb664, 1, none⟩ = some (.int .i64 t657) := (zH BK664.out 1).trans rfl
    have hcz24_2 : w22.cell? ⟨gb664, 2, none⟩ = some (.int .i64 t658) := (zH BK664.out 2).trans rfl
    have hfz24_0 := zK BK664.out 0
    have hfz24_1 := zK BK664.out 1
    have hfz24_2 := zK BK664.out 2
    go_wp2
    go_meet
    case rel => exact ⟨_, ((t656 == 1)), (by first | rfl | (simp; done) | (simp [*]; done)), H', ⟨by first | omega | exact Nat.le_refl _⟩, ⟨by (with_reducible repeat (first | apply zU | apply zW | apply zV)); exact HO661.out⟩, ⟨by (with_reducible repeat (first | apply zU | apply zW | apply zV)); exact HO667.out⟩, ⟨by (with_reducible repeat (first | refine zJ ?_ _ | refine zI ?_ | refine zF ?_ _)); exact BK664.out⟩, ⟨by repeat (first | (with_reducible first | exact HB.out | apply zA | apply zL | apply zB | refine zC ?_ GE664.out) | exact HB.out)⟩⟩
  case rest =>
   clear HC12
   try clear c1
   try clear p1
   try clear q1
   try clear hx1
   try clear hf1
   try clear c2
   try clear p2
   try clear c3
   try clear c6
   try clear p6
   try clear q6
   try clear hx6
   try clear c7
   try clear c7b0
   try clear c7b1
   try clear c9
   try clear c9b0
   try clear c10
   try clear c10b0
   try clear p11
   try clear q11
   try clear hx11
   try clear hf11
   try clear c13
   try clear c23
   try clear c23b0
   try clear c23b1
   try clear hcz15_0
   try clear hcz15_1
   try clear hcz15_2
   try clear hcz19_0
   try clear hcz19_1
   try clear hcz19_2
   try clear hcz24_0
   try clear hcz24_1
   try clear hcz24_2
   try clear hfz15_0
   try clear hfz15_1
   try clear hfz15_2
   try clear hfz19_0
   try clear hfz19_1
   try clear hfz19_2
   try clear hfz24_0
   try clear hfz24_1
   try clear hfz24_2
   try clear hx11_0
   try clear hx669_0
   try clear p11
   try clear p669
   try clear q11
   try clear q669
   obtain ⟨kq, x47_11, rfl, HA, HJ11, HO_4, HO_7, BK664, HB⟩ := hcut
   have hl7_11 := (zX HO_7.out).1
   rw [hl7_11] at HO_7
   (try simp only [hl7_11])
   (try simp only [hl7_11] at BK664)
   (try simp only [hl7_11] at HO_4)
   cases kq with
   | zero => exact absurd HA.out (by simp [laws_FnFrameErrors.j0])
   | succ kj11 =>
    have H := HA.out
    clear HA
    simp only [laws_FnFrameErrors.j0] at H
    have HC25 := zO H
    clear H
    go_upto_if 47 with (fail)
    go_cut [] (fun wc => ∃ (kq : Nat) (x7_24 : List Int), Aside0 (laws_FnFrameErrors.j1 kq t659 x7_24 t656 t657 t658 = some r) ∧ Aside0 (kq ≤ kj11) ∧ Aside0 (Kd.R (Kd.int .u8) 5 wc w.heap.size (fun _ => True) (.slice Ao16 t659.length co16) t659) ∧ Aside0 (Kd.R (Kd.int .i64) 3 wc w.heap.size (fun _ => True) (.slice (some ⟨go11, 0, none⟩) y670.length co18) x7_24) ∧ Aside0 (wc.heap[gb664]? = some (.cells #[.int .i64 t656, .int .i64 t657, .int .i64 t658] 24 (0, 0))) ∧ Aside0 (Below w.heap.size w wc))
    case first =>
     have H := HC25.out
     clear HC25
     by_cases c26 : x47_11 = true
     ·subst c26
      have H1 : (if 0 ≤ (wrap64 (t663 + 54)) then (if (wrap64 (t663 + 54)) < (y670.length : Int) then (laws_FnFrameErrors.j1 kj11 t659 (y670.set ((wrap64 (t663 + 54)) : Int).toNat (wrap64 (1 - (rd y670 (wrap64 (t663 + 54)))))) t656 t657 t658) else (none)) else (none)) = some r := by rw [if_pos rfl] at H; exact H
      clear H
      have H := H1
      clear H1
      obtain ⟨ji27, hji27⟩ : ∃ j_ : Int, (wrap64 (t663 + 54)) = j_ := ⟨_, rfl⟩
      replace H : (if 0 ≤ (ji27) then (if (ji27) < (y670.length : Int) then (laws_FnFrameErrors.j1 kj11 t659 (y670.set ((ji27) : Int).toNat (wrap64 (1 - (rd y670 (ji27))))) t656 t657 t658) else (none)) else (none)) = some r := by first | (rw [hji27] at H; exact H) | (simp only [hji27] at H ⊢; exact H)
      have hji27w : (IntKind.i64.wrap (t663 + 54)) = ji27 := (i64_w _).trans hji27
      by_cases c28 : 0 ≤ (ji27)
      case neg => rw [if_neg c28] at H; exact absurd H (by simp)
      rw [if_pos c28] at H
      have c28b0 : decide (0 ≤ (ji27)) = true := decide_eq_true c28
      clear c28
      (first | rw [c28b0] | (simp only [i64_w, i32_w]; rw [c28b0]) | skip)
      by_cases c29 : (ji27) < (y670.length : Int)
      case neg => rw [if_neg c29] at H; exact absurd H (by simp)
      rw [if_pos c29] at H
      have c29b0 : decide ((ji27) < (y670.length : Int)) = true := decide_eq_true c29
      clear c29
      obtain ⟨y672, hy672⟩ : ∃ y_ : List Int, y_ = (y670.set ((ji27) : Int).toNat (wrap64 (1 - (rd y670 (ji27))))) := ⟨_, rfl⟩
      replace H : (laws_FnFrameErrors.j1 kj11 t659 y672 t656 t657 t658) = some r := by first | (rw [hy672]; exact H) | exact H
      have Ny672 := zO hy672
      clear hy672
      have H' := zO H
      clear H
      have p671 : 0 ≤ ((ji27) : Int) := yO (by assumption)
      have q671 : (ji27) < (y670.length : Int) := yO (by assumption)
      obtain ⟨ad671, e671, hx671_0⟩ := Kd.at_int (zX HO_7.out).2.2 (ji27) p671 q671
      obtain rfl : (⟨go11, 0, none⟩ : Addr) = ad671 := (by injection e671)
      (first | simp only [add_plain] at hx671_0 | simp only [add_at] at hx671_0 | simp only [Addr.add, Nat.zero_add] at hx671_0 | skip)
      replace p671 := eq_true p671
      replace q671 := eq_true q671
      have p30 : 0 ≤ ((ji27) : Int) := yO (by assumption)
      have q30 : ((ji27) : Int) < ((y670.length : Int) : Int) := yO (by assumption)
      obtain ⟨hx30_0, hf30_0⟩ := Kd.R_celln 0 HO_7.out ((ji27) : Int) p30 q30
      replace p30 := eq_true p30
      replace q30 := eq_true q30
      have HP31 := Kd.R_putg HO_7.out ((ji27) : Int) (wrap64 (1 - (rd y670 (ji27))))
      go_wp2_with (first | ((with_reducible refine gate_store (t := 3) (p := 55) rfl ?_); refine store_event (t := 3) (p := 55) (v := ?vo_w32) (w1 := (wc.setCell ⟨go11, ((ji27) : Int).toNat, none⟩ (.int .i64 (wrap64 (1 - (rd y670 (ji27))))))) ?hg ?ho ?hn ?hr ?_; (case ho => rfl); (case hg => rfl); (case hn => rfl); (case hr => first | (go_simp; done) | (go_simp; rfl)); intro w32 hw; have hg : wc.grownBy w32 (some go11) := (by rw [hw]; exact HP31.2); have hp_ : Kd.R (Kd.int .i64) 3 w32 w.heap.size (fun _ => True) (.slice (some ⟨go11, 0, none⟩) y670.length co18) y672 := (by rw [hw, Ny672.out]; exact HP31.1); clear HP31; have n0_ := zO (Kd.R_over' (v := (.slice (some ⟨go11, 0, none⟩) y670.length co18)) (by (with_reducible repeat (first | apply zU | apply zW | apply zV)); exact HO_4.out) (Kd.R_typed HO_7.out) (by decide) hg); have n1_ := zO (hp_); have n2_ := zO (blk_grown (g := gb664) (o := .cells #[.int .i64 t656, .int .i64 t657, .int .i64 t658] 24 (0, 0)) (by (with_reducible repeat (first | refine zJ ?_ _ | refine zI ?_ | refine zF ?_ _)); exact BK664.out) hg (Kd.R_ne HO_7.out BK664.out (by decide))); have n3_ := zO ((by rw [hw]; exact zC (HB.out) GB11.out : Below w.heap.size w w32)); clear HO_4; clear HO_7; clear BK664; clear HB; have HO_4 := n0_; have HO_7 := n1_; have BK664 := n2_; have HB := n3_; clear n0_ n1_ n2_ n3_; clear hg hw hp_))
      subst hji27
      go_meet
      case rel => exact ⟨_, (y672), H', ⟨by have := HJ11.out; first | omega | exact Nat.le_refl _⟩, ⟨by (try simp only [hl7_11]); (with_reducible repeat (first | apply zU | apply zW | apply zV)); exact HO_4.out⟩, ⟨by (try simp only [hl7_11]); (with_reducible repeat (first | apply zU | apply zW | apply zV)); exact HO_7.out⟩, ⟨by (try simp only [hl7_11]); (with_reducible repeat (first | refine zJ ?_ _ | refine zI ?_ | refine zF ?_ _)); exact BK664.out⟩, ⟨by repeat (first | (with_reducible first | exact HB.out | apply zA | apply zL | apply zB | refine zC ?_ GE664.out) | exact HB.out)⟩⟩
     ·replace c26 := Bool.eq_false_iff.mpr c26
      subst c26
      have H1 : (laws_FnFrameErrors.j1 kj11 t659 y670 t656 t657 t658) = some r := by rw [if_neg (show ¬ (false = true) by decide)] at H; exact H
      clear H
      have H := H1
      clear H1
      have H' := zO H
      clear H
      go_wp2
      go_meet
      case rel => exact ⟨_, (y670), H', ⟨by have := HJ11.out; first | omega | exact Nat.le_refl _⟩, ⟨by (try simp only [hl7_11]); (with_reducible repeat (first | apply zU | apply zW | apply zV)); exact HO_4.out⟩, ⟨by (try simp only [hl7_11]); (with_reducible repeat (first | apply zU | apply zW | apply zV)); exact HO_7.out⟩, ⟨by (try simp only [hl7_11]); (with_reducible repeat (first | refine zJ ?_ _ | refine zI ?_ | refine zF ?_ _)); exact BK664.out⟩, ⟨by repeat (first | (with_reducible first | exact HB.out | apply zA | apply zL | apply zB | refine zC ?_ GE664.out) | exact HB.out)⟩⟩
    case rest =>
     clear HC25
     try clear c1
     try clear p1
     try clear q1
     try clear hx1
     try clear hf1
     try clear c2
     try clear p2
     try clear c3
     try clear p3
     try clear q3
     try clear hx3
     try clear hf3
     try clear c6
     try clear p6
     try clear q6
     try clear hx6
     try clear c7
     try clear c7b0
     try clear c7b1
     try clear c9
     try clear c9b0
     try clear c10
     try clear c10b0
     try clear p11
     try clear q11
     try clear hx11
     try clear hf11
     try clear c13
     try clear c23
     try clear c23b0
     try clear c23b1
     try clear c26
     try clear c27
     try clear c28
     try clear c28b0
     try clear c29
     try clear c29b0
     try clear p30
     try clear q30
     try clear hx30
     try clear hf30
     try clear hcz15_0
     try clear hcz15_1
     try clear hcz15_2
     try clear hcz19_0
     try clear hcz19_1
     try clear hcz19_2
     try clear hcz24_0
     try clear hcz24_1
     try clear hcz24_2
     try clear hfz15_0
     try clear hfz15_1
     try clear hfz15_2
     try clear hfz19_0
     try clear hfz19_1
     try clear hfz19_2
     try clear hfz24_0
     try clear hfz24_1
     try clear hfz24_2
     try clear hx11_0
     try clear hx30_0
     try clear hx669_0
     try clear hx671_0
     try clear p1
     try clear p11
     try clear p2
     try clear p30
     try clear p6
     try clear p669
     try clear p671
     try clear q1
     try clear q11
     try clear q30
     try clear q6
     try clear q669
     try clear q671
     obtain ⟨kq, x7_24, HA, HJ24, HO_4, HO_7, BK664, HB⟩ := hcut
     have hl7_24 := (zX HO_7.out).1
     rw [hl7_24] at HO_7
     (try simp only [hl7_24])
     (try simp only [hl7_24] at BK664)
     (try simp only [hl7_24] at HO_4)
     cases kq with
     | zero => exact absurd HA.out (by simp [laws_FnFrameErrors.j1])
     | succ kj24 =>
      have H := HA.out
      clear HA
      simp only [laws_FnFrameErrors.j1] at H
      replace H := yE.mp H
      obtain ⟨⟨t673, t674, t675, t676, t679⟩, A330, H⟩ := H
      replace H : (if t656 = 2 then (if (t673 == t656 && (t674 == t657 && (t675 == t658))) = true then (if t679 = 0 then (some ((t676.length : Int) == t657)) else (some true)) else (none)) else (if t679 = 0 then (if (t673 == t656 && (t674 == t657 && (t675 == t658))) = true then ((laws_sameBytes.f kj24 t676 t659).bind fun t681 => (some t681)) else (none)) else (none))) = some r := H
      have A33 := zO A330
      clear A330
      by_cases c34 : t656 = 2
      ·rw [if_pos c34] at H
       have c34b0 : (t656 == 2) = true := beq_iff_eq.mpr c34
       have c34b1 : (t656 != 2) = false := bne_eq_false_iff_eq.mpr c34
       clear c34
       by_cases c35 : (t673 == t656 && (t674 == t657 && (t675 == t658))) = true
       case neg => rw [if_neg c35] at H; exact absurd H (by simp)
       rw [if_pos c35] at H
       have c35b0 : (t673 == t656 && (t674 == t657 && (t675 == t658))) = true := c35
       (try (have c35b1 : decide (t673 = t656 && (t674 == t657 && (t675 == t658))) = true := by simpa using c35))
       (try (have c35b2 : (t673 == t656 && (t674 == t657 && (t675 == t658))) = true := by simpa using c35))
       clear c35
       by_cases c36 : t679 = 0
       ·rw [if_pos c36] at H
        have c36b0 : (t679 == 0) = true := beq_iff_eq.mpr c36
        have c36b1 : (t679 != 0) = false := bne_eq_false_iff_eq.mpr c36
        clear c36
        obtain rfl := Option.some.inj H
        go_wp2_with (first | ((with_reducible refine zM (f := 60) rfl ?_); refine goesL_ (some 58) rfl rfl Try.func60 (by kernel_rfl) rfl #[.slice (some ⟨go11, 0, none⟩) x7_24.length co18] rfl (by (try simp only [yK, yL, yM]); first | done | rfl | (simp only [yJ, yI]; rfl)) ?_; (with_reducible refine (impl_ReceiveFrame.calls kj24 _ _ x7_24 t673 t674 t675 t676 t679 _ ?side1 ?side2 A33.out).mono ?_); (case side1 => repeat (first | exact (zX HO_7.out).2.2 | (with_reducible refine zR ?_ _) | (with_reducible refine zT ?_ _) | (with_reducible refine zS ?_))); (case side2 => exact (zX HO_7.out).2.1); rintro e w37 ⟨v677, rfl, ho0, hb⟩; refine ⟨_, rfl, ?_⟩; have n0_ := zO (Kd.R_elder' (by (with_reducible repeat (first | apply zU | apply zW | apply zV)); exact HO_4.out) (Kd.R_base ho0) hb); have n1_ := zO (zY (by (with_reducible repeat (first | apply zU | apply zW | apply zV)); exact HO_7.out) hb); have n2_ := zO (yA (Kd.R_new' ho0 (Kd.R_lt (by (with_reducible repeat (first | apply zU | apply zW | apply zV)); exact HO_4.out))) (zD (by repeat (first | (with_reducible first | exact HB.out | apply zA | apply zL | apply zB | refine zC ?_ GE664.out) | exact HB.out)))); have n3_ := zO (zG (g := gb664) (o := .cells #[.int .i64 t656, .int .i64 t657, .int .i64 t658] 24 (0, 0)) (by (with_reducible repeat (first | refine zJ ?_ _ | refine zI ?_ | refine zF ?_ _)); exact BK664.out) hb); have n4_ := zO (zE (by repeat (first | (with_reducible first | exact HB.out | apply zA | apply zL | apply zB | refine zC ?_ GE664.out) | exact HB.out)) hb); clear HO_4; clear HO_7; clear BK664; clear HB; have HO_4 := n0_; have HO_7 := n1_; have HO678 := n2_; have BK664 := n3_; have HB := n4_; clear n0_ n1_ n2_ n3_ n4_; (try clear hb); (try clear hb2); (try clear hk); (try clear hi); (try clear ho0)) | ((with_reducible refine zN (N := 8) rfl ?_); (try (refine gate_guard (by rfl) ?_; dsimp only)); refine box_event ?hg (N := 8) ?hd (cs := #[.int .i64 0, .int .i64 0, .int .i64 0]) (t := 24) ?hr ?_; (case hd => rfl); (case hg => rfl); (case hr => first | (go_simp; done) | (go_simp; rfl)); intro gb680 hg w38 hbox hb; have n0_ := zO (zY (by (with_reducible repeat (first | apply zU | apply zW | apply zV)); exact HO_4.out) hb); have n1_ := zO (zY (by (with_reducible repeat (first | apply zU | apply zW | apply zV)); exact HO_7.out) hb); have n2_ := zO (zY (by (with_reducible repeat (first | apply zU | apply zW | apply zV)); exact HO678.out) hb); have n3_ := zO (zG (g := gb664) (o := .cells #[.int .i64 t656, .int .i64 t657, .int .i64 t658] 24 (0, 0)) (by (with_reducible repeat (first | refine zJ ?_ _ | refine zI ?_ | refine zF ?_ _)); exact BK664.out) hb); have n4_ := zO (zE (by repeat (first | (with_reducible first | exact HB.out | apply zA | apply zL | apply zB | refine zC ?_ GE664.out) | exact HB.out)) hb); have n5_ := zO (hbox); have n6_ := zO ((by rw [hg]; exact (zD (by repeat (first | (with_reducible first | exact HB.out | apply zA | apply zL | apply zB | refine zC ?_ GE664.out) | exact HB.out))) : w.heap.size ≤ gb680)); have n7_ := zO ((by rw [hg]; exact (zD (by repeat (first | (with_reducible first | exact HB.out | apply zA | apply zL | apply zB | refine zC ?_ GE664.out) | exact HB.out))) : w.heap.size ≤ gb680)); have n8_ := zO ((by rw [hg]; exact Nat.ne_of_lt (blk_lt (g := gb664) (o := .cells #[.int .i64 t656, .int .i64 t657, .int .i64 t658] 24 (0, 0)) (by (with_reducible repeat (first | refine zJ ?_ _ | refine zI ?_ | refine zF ?_ _)); exact BK664.out)) : gb664 ≠ gb680)); have n9_ := zO ((by rw [hg]; exact Nat.ne_of_gt (blk_lt (g := gb664) (o := .cells #[.int .i64 t656, .int .i64 t657, .int .i64 t658] 24 (0, 0)) (by (with_reducible repeat (first | refine zJ ?_ _ | refine zI ?_ | refine zF ?_ _)); exact BK664.out)) : gb680 ≠ gb664)); clear HO_4; clear HO_7; clear HO678; clear BK664; clear HB; have HO_4 := n0_; have HO_7 := n1_; have HO678 := n2_; have BK664 := n3_; have HB := n4_; have BK680 := n5_; have GW680 := n6_; have GE680 := n7_; have NB664_680 := n8_; have NB680_664 := n9_; clear n0_ n1_ n2_ n3_ n4_ n5_ n6_ n7_ n8_ n9_; clear hb hbox hg; have hnb39 := NB680_664.out; have hnc39 := NB664_680.out; have hcz40_0 : w38.cell? ⟨gb680, 0, none⟩ = some (.int .i64 0) := (zH BK680.out 0).trans rfl; have hcz40_1 : w38.cell? ⟨gb680, 1, none⟩ = some (.int .i64 0) := (zH BK680.out 1).trans rfl; have hcz40_2 : w38.cell? ⟨gb680, 2, none⟩ = some (.int .i64 0) := (zH BK680.out 2).trans rfl; have hfz40_0 := zK BK680.out 0; have hfz40_1 := zK BK680.out 1; have hfz40_2 := zK BK680.out 2; have hcz41_0 : w38.cell? ⟨gb664, 0, none⟩ = some (.int .i64 t656) := (zH BK664.out 0).trans rfl; have hcz41_1 : w38.cell? ⟨gb664, 1, none⟩ = some (.int .i64 t657) := (zH BK664.out 1).trans rfl; have hcz41_2 : w38.cell? ⟨gb664, 2, none⟩ = some (.int .i64 t658) := (zH BK664.out 2).trans rfl; have hfz41_0 := zK BK664.out 0; have hfz41_1 := zK BK664.out 1; have hfz41_2 := zK BK664.out 2; obtain ⟨Ao42, co42, eo42⟩ := Kd.R_slice HO678.out; subst eo42))
        go_ret
        exact ⟨by first | rfl | exact yP _ | (simp [errW_none, errW_some] <;> rfl) | (simp only [← hji8]; first | rfl | (simp [errW_none, errW_some] <;> rfl)) | (simp [*, errW_none, errW_some] <;> rfl), by repeat (first | (with_reducible first | exact HB.out | apply zA | apply zL | apply zB | refine zC ?_ GE664.out | refine zC ?_ GE680.out) | exact HB.out)⟩
       ·rw [if_neg c36] at H
        have c36b0 : (t679 == 0) = false := beq_eq_false_iff_ne.mpr c36
        have c36b1 : (t679 != 0) = true := bne_iff_ne.mpr c36
        obtain rfl := Option.some.inj H
        go_wp2_with (first | ((with_reducible refine zM (f := 60) rfl ?_); refine goesL_ (some 58) rfl rfl Try.func60 (by kernel_rfl) rfl #[.slice (some ⟨go11, 0, none⟩) x7_24.length co18] rfl (by (try simp only [yK, yL, yM]); first | done | rfl | (simp only [yJ, yI]; rfl)) ?_; (with_reducible refine (impl_ReceiveFrame.calls kj24 _ _ x7_24 t673 t674 t675 t676 t679 _ ?side1 ?side2 A33.out).mono ?_); (case side1 => repeat (first | exact (zX HO_7.out).2.2 | (with_reducible refine zR ?_ _) | (with_reducible refine zT ?_ _) | (with_reducible refine zS ?_))); (case side2 => exact (zX HO_7.out).2.1); rintro e w43 ⟨v677, rfl, ho0, hb⟩; refine ⟨_, rfl, ?_⟩; have n0_ := zO (Kd.R_elder' (by (with_reducible repeat (first | apply zU | apply zW | apply zV)); exact HO_4.out) (Kd.R_base ho0) hb); have n1_ := zO (zY (by (with_reducible repeat (first | apply zU | apply zW | apply zV)); exact HO_7.out) hb); have n2_ := zO (yA (Kd.R_new' ho0 (Kd.R_lt (by (with_reducible repeat (first | apply zU | apply zW | apply zV)); exact HO_4.out))) (zD (by repeat (first | (with_reducible first | exact HB.out | apply zA | apply zL | apply zB | refine zC ?_ GE664.out) | exact HB.out)))); have n3_ := zO (zG (g := gb664) (o := .cells #[.int .i64 t656, .int .i64 t657, .int .i64 t658] 24 (0, 0)) (by (with_reducible repeat (first | refine zJ ?_ _ | refine zI ?_ | refine zF ?_ _)); exact BK664.out) hb); have n4_ := zO (zE (by repeat (first | (with_reducible first | exact HB.out | apply zA | apply zL | apply zB | refine zC ?_ GE664.out) | exact HB.out)) hb); clear HO_4; clear HO_7; clear BK664; clear HB; have HO_4 := n0_; have HO_7 := n1_; have HO678 := n2_; have BK664 := n3_; have HB := n4_; clear n0_ n1_ n2_ n3_ n4_; (try clear hb); (try clear hb2); (try clear hk); (try clear hi); (try clear ho0)) | ((with_reducible refine zN (N := 8) rfl ?_); (try (refine gate_guard (by rfl) ?_; dsimp only)); refine box_event ?hg (N := 8) ?hd (cs := #[.int .i64 0, .int .i64 0, .int .i64 0]) (t := 24) ?hr ?_; (case hd => rfl); (case hg => rfl); (case hr => first | (go_simp; done) | (go_simp; rfl)); intro gb680 hg w44 hbox hb; have n0_ := zO (zY (by (with_reducible repeat (first | apply zU | apply zW | apply zV)); exact HO_4.out) hb); have n1_ := zO (zY (by (with_reducible repeat (first | apply zU | apply zW | apply zV)); exact HO_7.out) hb); have n2_ := zO (zY (by (with_reducible repeat (first | apply zU | apply zW | apply zV)); exact HO678.out) hb); have n3_ := zO (zG (g := gb664) (o := .cells #[.int .i64 t656, .int .i64 t657, .int .i64 t658] 24 (0, 0)) (by (with_reducible repeat (first | refine zJ ?_ _ | refine zI ?_ | refine zF ?_ _)); exact BK664.out) hb); have n4_ := zO (zE (by repeat (first | (with_reducible first | exact HB.out | apply zA | apply zL | apply zB | refine zC ?_ GE664.out) | exact HB.out)) hb); have n5_ := zO (hbox); have n6_ := zO ((by rw [hg]; exact (zD (by repeat (first | (with_reducible first | exact HB.out | apply zA | apply zL | apply zB | refine zC ?_ GE664.out) | exact HB.out))) : w.heap.size ≤ gb680)); have n7_ := zO ((by rw [hg]; exact (zD (by repeat (first | (with_reducible first | exact HB.out | apply zA | apply zL | apply zB | refine zC ?_ GE664.out) | exact HB.out))) : w.heap.size ≤ gb680)); have n8_ := zO ((by rw [hg]; exact Nat.ne_of_lt (blk_lt (g := gb664) (o := .cells #[.int .i64 t656, .int .i64 t657, .int .i64 t658] 24 (0, 0)) (by (with_reducible repeat (first | refine zJ ?_ _ | refine zI ?_ | refine zF ?_ _)); exact BK664.out)) : gb664 ≠ gb680)); have n9_ := zO ((by rw [hg]; exact Nat.ne_of_gt (blk_lt (g := gb664) (o := .cells #[.int .i64 t656, .int .i64 t657, .int .i64 t658] 24 (0, 0)) (by (with_reducible repeat (first | refine zJ ?_ _ | refine zI ?_ | refine zF ?_ _)); exact BK664.out)) : gb680 ≠ gb664)); clear HO_4; clear HO_7; clear HO678; clear BK664; clear HB; have HO_4 := n0_; have HO_7 := n1_; have HO678 := n2_; have BK664 := n3_; have HB := n4_; have BK680 := n5_; have GW680 := n6_; have GE680 := n7_; have NB664_680 := n8_; have NB680_664 := n9_; clear n0_ n1_ n2_ n3_ n4_ n5_ n6_ n7_ n8_ n9_; clear hb hbox hg; have hnb45 := NB680_664.out; have hnc45 := NB664_680.out; have hcz46_0 : w44.cell? ⟨gb680, 0, none⟩ = some (.int .i64 0) := (zH BK680.out 0).trans rfl; have hcz46_1 : w44.cell? ⟨gb680, 1, none⟩ = some (.int .i64 0) := (zH BK680.out 1).trans rfl; have hcz46_2 : w44.cell? ⟨gb680, 2, none⟩ = some (.int .i64 0) := (zH BK680.out 2).trans rfl; have hfz46_0 := zK BK680.out 0; have hfz46_1 := zK BK680.out 1; have hfz46_2 := zK BK680.out 2; have hcz47_0 : w44.cell? ⟨gb664, 0, none⟩ = some (.int .i64 t656) := (zH BK664.out 0).trans rfl; have hcz47_1 : w44.cell? ⟨gb664, 1, none⟩ = some (.int .i64 t657) := (zH BK664.out 1).trans rfl; have hcz47_2 : w44.cell? ⟨gb664, 2, none⟩ = some (.int .i64 t658) := (zH BK664.out 2).trans rfl; have hfz47_0 := zK BK664.out 0; have hfz47_1 := zK BK664.out 1; have hfz47_2 := zK BK664.out 2))
        go_ret
        exact ⟨by first | rfl | exact yP _ | (simp [errW_none, errW_some] <;> rfl) | (simp only [← hji8]; first | rfl | (simp [errW_none, errW_some] <;> rfl)) | (simp [*, errW_none, errW_some] <;> rfl), by repeat (first | (with_reducible first | exact HB.out | apply zA | apply zL | apply zB | refine zC ?_ GE664.out | refine zC ?_ GE680.out) | exact HB.out)⟩
      ·rw [if_neg c34] at H
       have c34b0 : (t656 == 2) = false := beq_eq_false_iff_ne.mpr c34
       have c34b1 : (t656 != 2) = true := bne_iff_ne.mpr c34
       by_cases c48 : t679 = 0
       case neg => rw [if_neg c48] at H; exact absurd H (by simp)
       rw [if_pos c48] at H
       have c48b0 : (t679 == 0) = true := beq_iff_eq.mpr c48
       have c48b1 : (t679 != 0) = false := bne_eq_false_iff_eq.mpr c48
       clear c48
       by_cases c49 : (t673 == t656 && (t674 == t657 && (t675 == t658))) = true
       case neg => rw [if_neg c49] at H; exact absurd H (by simp)
       rw [if_pos c49] at H
       have c49b0 : (t673 == t656 && (t674 == t657 && (t675 == t658))) = true := c49
       (try (have c49b1 : decide (t673 = t656 && (t674 == t657 && (t675 == t658))) = true := by simpa using c49))
       (try (have c49b2 : (t673 == t656 && (t674 == t657 && (t675 == t658))) = true := by simpa using c49))
       clear c49
       replace H := yE.mp H
       obtain ⟨t681, A500, H⟩ := H
       replace H : (some t681) = some r := H
       have A50 := zO A500
       clear A500
       obtain rfl := Option.some.inj H
       go_wp2_with (first | ((with_reducible refine zM (f := 60) rfl ?_); refine goesL_ (some 58) rfl rfl Try.func60 (by kernel_rfl) rfl #[.slice (some ⟨go11, 0, none⟩) x7_24.length co18] rfl (by (try simp only [yK, yL, yM]); first | done | rfl | (simp only [yJ, yI]; rfl)) ?_; (with_reducible refine (impl_ReceiveFrame.calls kj24 _ _ x7_24 t673 t674 t675 t676 t679 _ ?side1 ?side2 A33.out).mono ?_); (case side1 => repeat (first | exact (zX HO_7.out).2.2 | (with_reducible refine zR ?_ _) | (with_reducible refine zT ?_ _) | (with_reducible refine zS ?_))); (case side2 => exact (zX HO_7.out).2.1); rintro e w51 ⟨v677, rfl, ho0, hb⟩; refine ⟨_, rfl, ?_⟩; have n0_ := zO (Kd.R_elder' (by (with_reducible repeat (first | apply zU | apply zW | apply zV)); exact HO_4.out) (Kd.R_base ho0) hb); have n1_ := zO (zY (by (with_reducible repeat (first | apply zU | apply zW | apply zV)); exact HO_7.out) hb); have n2_ := zO (yA (Kd.R_new' ho0 (Kd.R_lt (by (with_reducible repeat (first | apply zU | apply zW | apply zV)); exact HO_4.out))) (zD (by repeat (first | (with_reducible first | exact HB.out | apply zA | apply zL | apply zB | refine zC ?_ GE664.out) | exact HB.out)))); have n3_ := zO (zG (g := gb664) (o := .cells #[.int .i64 t656, .int .i64 t657, .int .i64 t658] 24 (0, 0)) (by (with_reducible repeat (first | refine zJ ?_ _ | refine zI ?_ | refine zF ?_ _)); exact BK664.out) hb); have n4_ := zO (zE (by repeat (first | (with_reducible first | exact HB.out | apply zA | apply zL | apply zB | refine zC ?_ GE664.out) | exact HB.out)) hb); clear HO_4; clear HO_7; clear BK664; clear HB; have HO_4 := n0_; have HO_7 := n1_; have HO678 := n2_; have BK664 := n3_; have HB := n4_; clear n0_ n1_ n2_ n3_ n4_; (try clear hb); (try clear hb2); (try clear hk); (try clear hi); (try clear ho0)) | ((with_reducible refine zN (N := 8) rfl ?_); (try (refine gate_guard (by rfl) ?_; dsimp only)); refine box_event ?hg (N := 8) ?hd (cs := #[.int .i64 0, .int .i64 0, .int .i64 0]) (t := 24) ?hr ?_; (case hd => rfl); (case hg => rfl); (case hr => first | (go_simp; done) | (go_simp; rfl)); intro gb680 hg w52 hbox hb; have n0_ := zO (zY (by (with_reducible repeat (first | apply zU | apply zW | apply zV)); exact HO_4.out) hb); have n1_ := zO (zY (by (with_reducible repeat (first | apply zU | apply zW | apply zV)); exact HO_7.out) hb); have n2_ := zO (zY (by (with_reducible repeat (first | apply zU | apply zW | apply zV)); exact HO678.out) hb); have n3_ := zO (zG (g := gb664) (o := .cells #[.int .i64 t656, .int .i64 t657, .int .i64 t658] 24 (0, 0)) (by (with_reducible repeat (first | refine zJ ?_ _ | refine zI ?_ | refine zF ?_ _)); exact BK664.out) hb); have n4_ := zO (zE (by repeat (first | (with_reducible first | exact HB.out | apply zA | apply zL | apply zB | refine zC ?_ GE664.out) | exact HB.out)) hb); have n5_ := zO (hbox); have n6_ := zO ((by rw [hg]; exact (zD (by repeat (first | (with_reducible first | exact HB.out | apply zA | apply zL | apply zB | refine zC ?_ GE664.out) | exact HB.out))) : w.heap.size ≤ gb680)); have n7_ := zO ((by rw [hg]; exact (zD (by repeat (first | (with_reducible first | exact HB.out | apply zA | apply zL | apply zB | refine zC ?_ GE664.out) | exact HB.out))) : w.heap.size ≤ gb680)); have n8_ := zO ((by rw [hg]; exact Nat.ne_of_lt (blk_lt (g := gb664) (o := .cells #[.int .i64 t656, .int .i64 t657, .int .i64 t658] 24 (0, 0)) (by (with_reducible repeat (first | refine zJ ?_ _ | refine zI ?_ | refine zF ?_ _)); exact BK664.out)) : gb664 ≠ gb680)); have n9_ := zO ((by rw [hg]; exact Nat.ne_of_gt (blk_lt (g := gb664) (o := .cells #[.int .i64 t656, .int .i64 t657, .int .i64 t658] 24 (0, 0)) (by (with_reducible repeat (first | refine zJ ?_ _ | refine zI ?_ | refine zF ?_ _)); exact BK664.out)) : gb680 ≠ gb664)); clear HO_4; clear HO_7; clear HO678; clear BK664; clear HB; have HO_4 := n0_; have HO_7 := n1_; have HO678 := n2_; have BK664 := n3_; have HB := n4_; have BK680 := n5_; have GW680 := n6_; have GE680 := n7_; have NB664_680 := n8_; have NB680_664 := n9_; clear n0_ n1_ n2_ n3_ n4_ n5_ n6_ n7_ n8_ n9_; clear hb hbox hg; have hnb53 := NB680_664.out; have hnc53 := NB664_680.out; have hcz54_0 : w52.cell? ⟨gb680, 0, none⟩ = some (.int .i64 0) := (zH BK680.out 0).trans rfl; have hcz54_1 : w52.cell? ⟨gb680, 1, none⟩ = some (.int .i64 0) := (zH BK680.out 1).trans rfl; have hcz54_2 : w52.cell? ⟨gb680, 2, none⟩ = some (.int .i64 0) := (zH BK680.out 2).trans rfl; have hfz54_0 := zK BK680.out 0; have hfz54_1 := zK BK680.out 1; have hfz54_2 := zK BK680.out 2; have hcz55_0 : w52.cell? ⟨gb664, 0, none⟩ = some (.int .i64 t656) := (zH BK664.out 0).trans rfl; have hcz55_1 : w52.cell? ⟨gb664, 1, none⟩ = some (.int .i64 t657) := (zH BK664.out 1).trans rfl; have hcz55_2 : w52.cell? ⟨gb664, 2, none⟩ = some (.int .i64 t658) := (zH BK664.out 2).trans rfl; have hfz55_0 := zK BK664.out 0; have hfz55_1 := zK BK664.out 1; have hfz55_2 := zK BK664.out 2; obtain ⟨Ao56, co56, eo56⟩ := Kd.R_slice HO678.out; subst eo56) | (go_at_call 33; (with_reducible refine (laws_sameBytes.calls kj24 _ _ t676 _ _ t659 t681 _ ?side1 ?side2 ?side3 ?side4 A50.out).mono ?_); (case side1 => refine (zX (e := 5) (base := w.heap.size) (ok := fun k_ => (True ∧ some k_ ≠ (.slice Ao16 t659.length co16 : Value).ownBlock)) (n := t676.length) (c := co56) ?_).2.2; exact (by (with_reducible repeat (first | apply zU | apply zW | apply zV)); exact (Kd.R_mono (zZ (p := ⟨gb680, 2, none⟩) (zZ (p := ⟨gb680, 1, none⟩) (zZ (p := ⟨gb680, 0, none⟩) (Kd.R_types HO678.out BK680.out (by decide)) (fun _ hk => hk.2) (.int .i64 t673)) (fun _ hk => hk.2) (.int .i64 t674)) (fun _ hk => hk.2) (.int .i64 t675)) (fun _ h_ => h_.1)))); (case side2 => exact (zX HO678.out).2.1); (case side3 => refine (zX (e := 5) (base := w.heap.size) (ok := fun k_ => (True ∧ some k_ ≠ (.slice Ao56 t676.length co56 : Value).ownBlock)) (n := t659.length) (c := co16) ?_).2.2; exact (by (with_reducible repeat (first | apply zU | apply zW | apply zV)); exact (Kd.R_mono (zZ (p := ⟨gb680, 2, none⟩) (zZ (p := ⟨gb680, 1, none⟩) (zZ (p := ⟨gb680, 0, none⟩) (Kd.R_types HO_4.out BK680.out (by decide)) (fun _ hk => hk.2) (.int .i64 t673)) (fun _ hk => hk.2) (.int .i64 t674)) (fun _ hk => hk.2) (.int .i64 t675)) (fun _ h_ => h_.1)))); (case side4 => exact (zX HO_4.out).2.1); rintro e w' ⟨rfl, ⟨nd, rfl⟩⟩))
       go_ret
       exact ⟨by first | rfl | exact yP _ | (simp [errW_none, errW_some] <;> rfl) | (simp only [← hji8]; first | rfl | (simp [errW_none, errW_some] <;> rfl)) | (simp [*, errW_none, errW_some] <;> rfl), by repeat (first | (with_reducible first | exact HB.out | apply zA | apply zL | apply zB | refine zC ?_ GE664.out | refine zC ?_ GE680.out) | exact HB.out)⟩

/-- THE ONE PURE STATEMENT of laws_FnFrameErrors: yours. -/
def laws_FnFrameErrors.Pure : Prop := ∀ (l0 : List Int), l0.length ≤ maxLen → l0.length * 1 ≤ 140737488351232 → (∀ x ∈ l0, (Lit.int .u8 x).wf = true) → ∃ k, laws_FnFrameErrors.f k l0 = some true
theorem laws_FnFrameErrors.walk (P : laws_FnFrameErrors.Pure) (a0 : Option Addr) (len0 cap0 : Nat) (z0 : List Int) (w : World) (w0 : (a0 = none ∧ len0 = 0 ∧ cap0 = 0 ∧ z0 = []) ∨ ∃ x, a0 = some x ∧ len0 ≤ cap0 ∧ cap0 ≤ maxLen ∧ z0.length = cap0 ∧ (∀ i, i < z0.length → w.cell? (x.add i) = some (.int .u8 (z0.getD i 0))) ∧ ∀ n ∈ z0, (Lit.int .u8 n).wf = true) (y0 : len0 * 1 ≤ 140737488351232) :
  Calls Try.prog 13 #[.slice a0 len0 cap0] w fun e w' => e = .returned (.bool true) ∧ Below w.heap.size w w' := by
 obtain ⟨l0, rfl, hr0, hm0, hw0, hc0⟩ := ReadsInt.ofRowC w0
 obtain ⟨k, h⟩ := P l0 hm0 y0 hw0
 refine (laws_FnFrameErrors.calls k _ _ l0 true w (Kd.C_of_reads (d := (0 : Int)) (h1 := fun _ => rfl) hr0) hc0 h).mono ?_
 rintro e w' ⟨rfl, hd⟩
 exact ⟨rfl, hd⟩

end Go.Proofs.Ytldbmljooafkcaa.PFnFrameErrors
