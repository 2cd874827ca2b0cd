/- Contracts of Go functions. Conditions: the arguments read as the Lean function's. Written by print2.py, shrink.py (this session's). -/
import Derived.Test.YtldbmljooafkcaaPFnPhysicalFramesx0
import Derived.Test.YtldbmljooafkcaaPFnPhysicalFramesx2
import Derived.Test.YtldbmljooafkcaaPFnPhysicalFramesx4
import Derived.Test.YtldbmljooafkcaaPFnPhysicalFramesx9
namespace Go.Proofs.Ytldbmljooafkcaa.PFnPhysicalFrames
open Go.RowKit Go.Proofs.YtldbmljooafkcaaW.PrintWords Go.Proofs.YtldbmljooafkcaaW.PrintLast Go.Proofs.YtldbmljooafkcaaW.PrintMore
open Go.Proofs.YtldbmljooafkcaaW.PrintWords renaming below_alloc → zA, below_drew1 → zB, below_set → zC, below_size → zD, below_step → zE, blk_alloc → zF, blk_below → zG, blk_cell → zH, blk_drew → zI, blk_drewN → zJ, blk_frozen → zK, pw_below_drewN → zL, gate_callee → zM, gate_dst → zN
open Go.Proofs.YtldbmljooafkcaaW.PrintWords.Aside0 renaming mk → zO
open Go.Proofs.YtldbmljooafkcaaW.PrintWords.Kd renaming C_alloc → zR, C_drew → zS, C_drewN → zT, R_alloc → zU, R_drew → zV, R_drewN → zW, R_reads' → zX, R_far → zZ, R_lower → yA
open Option renaming bind_eq_some_iff → yE
open List renaming setIfInBounds_toArray → yF, set_cons_zero → yG, set_cons_succ → yH, length_take → yI, length_drop → yJ, map_toArray → yK, map_cons → yL, map_nil → yM
set_option maxHeartbeats 8000000
set_option maxRecDepth 100000
attribute [local go_sem] max2_int min2_int max_two min_two max_three min_three max_four min_four
set_option linter.unusedVariables false
set_option linter.unusedSimpArgs false

def spec_DrawTransmitFrame.f (k : Nat) (l0 : List Int) : Option (Int × Int × Int × List Int) := (spec_l1New.f k l0).bind fun bt348 => ((spec_l10Any.f bt348.1 bt348.2.1 bt348.2.2).bind fun bt352 => ((spec_l1Once.f bt348.1 bt352.2.2.2.1 bt352.2.2.2.2 6).bind fun bt358 => (if bt358.1 = true then ((spec_l1Below.f bt348.1 bt358.2.1 bt358.2.2 6).bind fun bt361 => ((spec_l1Bytes.f k bt348.1 bt361.2.1 bt361.2.2 bt361.1).bind fun bt364 => (some (bt352.1, bt352.2.1, bt352.2.2.1, bt364.1)))) else ((spec_l1Bytes.f k bt348.1 bt358.2.1 bt358.2.2 bt352.2.1).bind fun bt369 => (some (bt352.1, bt352.2.1, bt352.2.2.1, bt369.1))))))
theorem spec_DrawTransmitFrame.calls (k : Nat) (A0 : Option Addr) (c0 : Nat) (l0 : List Int) (r1 : Int) (r2 : Int) (r3 : Int) (r4 : List Int) (w : World) (hr0 : Kd.C (Kd.int .u8) w A0 l0.length l0) (hc0 : l0.length ≤ c0) (h : spec_DrawTransmitFrame.f k l0 = some (r1, r2, r3, r4)) :
  Calls Try.prog 62 #[.slice A0 l0.length c0] w fun e w' => ∃ v3_ : Value, e = .returned (.tuple #[.agg #[.int .i64 r1, .int .i64 r2, .int .i64 r3], v3_]) ∧ Kd.R (Kd.int .u8) 5 w' w.heap.size (fun _ => True) v3_ r4 ∧ Below w.heap.size w w' := by
 have hu24 := Try.underlying24
 have HR0 := zO hr0
 have HC0 := zO hc0
 clear hr0 hc0
 have HB := zO (Below.refl w.heap.size w)
 have H : ((spec_l1New.f k l0).bind fun bt348 => ((spec_l10Any.f bt348.1 bt348.2.1 bt348.2.2).bind fun bt352 => ((spec_l1Once.f bt348.1 bt352.2.2.2.1 bt352.2.2.2.2 6).bind fun bt358 => (if bt358.1 = true then ((spec_l1Below.f bt348.1 bt358.2.1 bt358.2.2 6).bind fun bt361 => ((spec_l1Bytes.f k bt348.1 bt361.2.1 bt361.2.2 bt361.1).bind fun bt364 => (some (bt352.1, bt352.2.1, bt352.2.2.1, bt364.1)))) else ((spec_l1Bytes.f k bt348.1 bt358.2.1 bt358.2.2 bt352.2.1).bind fun bt369 => (some (bt352.1, bt352.2.1, bt352.2.2.1, bt369.1))))))) = some (r1, r2, r3, r4) := h
 clear h
 replace H := yE.mp H
 obtain ⟨⟨t348, t349, t350⟩, A20, H⟩ := H
 replace H : ((spec_l10Any.f t348 t349 t350).bind fun bt352 => ((spec_l1Once.f t348 bt352.2.2.2.1 bt352.2.2.2.2 6).bind fun bt358 => (if bt358.1 = true then ((spec_l1Below.f t348 bt358.2.1 bt358.2.2 6).bind fun bt361 => ((spec_l1Bytes.f k t348 bt361.2.1 bt361.2.2 bt361.1).bind fun bt364 => (some (bt352.1, bt352.2.1, bt352.2.2.1, bt364.1)))) else ((spec_l1Bytes.f k t348 bt358.2.1 bt358.2.2 bt352.2.1).bind fun bt369 => (some (bt352.1, bt352.2.1, bt352.2.2.1, bt369.1)))))) = some (r1, r2, r3, r4) := H
 have A2 := zO A20
 clear A20
 replace H := yE.mp H
 obtain ⟨⟨t352, t353, t354, t355, t356⟩, A30, H⟩ := H
 replace H : ((spec_l1Once.f t348 t355 t356 6).bind fun bt358 => (if bt358.1 = true then ((spec_l1Below.f t348 bt358.2.1 bt358.2.2 6).bind fun bt361 => ((spec_l1Bytes.f k t348 bt361.2.1 bt361.2.2 bt361.1).bind fun bt364 => (some (t352, t353, t354, bt364.1)))) else ((spec_l1Bytes.f k t348 bt358.2.1 bt358.2.2 t353).bind fun bt369 => (some (t352, t353, t354, bt369.1))))) = some (r1, r2, r3, r4) := H
 have A3 := zO A30
 clear A30
 replace H := yE.mp H
 obtain ⟨⟨t358, t359, t360⟩, A40, H⟩ := H
 replace H : (if t358 = true then ((spec_l1Below.f t348 t359 t360 6).bind fun bt361 => ((spec_l1Bytes.f k t348 bt361.2.1 bt361.2.2 bt361.1).bind fun bt364 => (some (t352, t353, t354, bt364.1)))) else ((spec_l1Bytes.f k t348 t359 t360 t353).bind fun bt369 => (some (t352, t353, t354, bt369.1)))) = some (r1, r2, r3, r4) := H
 have A4 := zO A40
 clear A40
 by_cases c5 : t358 = true
 ·subst c5
  have H1 : ((spec_l1Below.f t348 t359 t360 6).bind fun bt361 => ((spec_l1Bytes.f k t348 bt361.2.1 bt361.2.2 bt361.1).bind fun bt364 => (some (t352, t353, t354, bt364.1)))) = some (r1, r2, r3, r4) := by rw [if_pos rfl] at H; exact H
  clear H
  have H := H1
  clear H1
  replace H := yE.mp H
  obtain ⟨⟨t361, t362, t363⟩, A60, H⟩ := H
  replace H : ((spec_l1Bytes.f k t348 t362 t363 t361).bind fun bt364 => (some (t352, t353, t354, bt364.1))) = some (r1, r2, r3, r4) := H
  have A6 := zO A60
  clear A60
  replace H := yE.mp H
  obtain ⟨⟨t364, t367, t368⟩, A70, H⟩ := H
  replace H : (some (t352, t353, t354, t364)) = some (r1, r2, r3, r4) := H
  have A7 := zO A70
  clear A70
  simp only [Option.some.injEq, Prod.mk.injEq] at H
  obtain ⟨rfl, rfl, rfl, rfl⟩ := H
  go_enter Try.func62, Try.ntmps62
  try go_wp2_with (first | ((with_reducible refine zN (N := 2) rfl ?_); refine box_event ?hg (N := 2) ?hd (cs := #[.int .i64 0, .int .i64 0, .int .i64 0]) (t := 24) ?hr ?_; (case hd => rfl); (case hg => rfl); (case hr => first | (go_simp; done) | (go_simp; rfl)); intro gb347 hg w8 hbox hb; have n0_ := zO (zE (by repeat (first | exact HB.out | apply zA | apply zL | apply zB)) hb); have n1_ := zO (hbox); have n2_ := zO ((by rw [hg]; exact (zD (by repeat (first | exact HB.out | apply zA | apply zL | apply zB))) : w.heap.size ≤ gb347)); have n3_ := zO ((by rw [hg]; exact (zD (by repeat (first | exact HB.out | apply zA | apply zL | apply zB))) : w.heap.size ≤ gb347)); clear HB; have HB := n0_; have BK347 := n1_; have GW347 := n2_; have GE347 := n3_; clear n0_ n1_ n2_ n3_; clear hb hbox hg) | ((with_reducible refine zM (f := 84) rfl ?_); refine goesL_ (some 7) rfl rfl Try.func84 (by kernel_rfl) rfl #[.slice A0 l0.length c0] rfl (by (try simp only [yK, yL, yM]); first | done | rfl | (simp only [yJ, yI]; rfl)) ?_; (with_reducible refine (spec_l1New.calls k _ _ l0 t348 t349 t350 w _ ?side1 ?side2 ?side3 A2.out).mono ?_); (case side1 => repeat (first | (with_reducible first | exact HB.out | apply zA | apply zL | apply zB | refine zC ?_ GE347.out) | exact HB.out)); (case side2 => exact HR0.out); (case side3 => exact HC0.out); rintro e w9 ⟨g351, rfl, hi, hb, hb2⟩; refine ⟨_, rfl, ?_⟩; have n0_ := zO (zG (g := gb347) (o := .cells #[.int .i64 0, .int .i64 0, .int .i64 0] 24 (0, 0)) (by (with_reducible repeat (first | refine zJ ?_ _ | refine zI ?_ | refine zF ?_ _)); exact BK347.out) hb2); have n1_ := zO (hb); have n2_ := zO (hi); have n3_ := zO (IsS114.ne_blk hi (zG (g := gb347) (o := .cells #[.int .i64 0, .int .i64 0, .int .i64 0] 24 (0, 0)) (by (with_reducible repeat (first | refine zJ ?_ _ | refine zI ?_ | refine zF ?_ _)); exact BK347.out) hb2) (by decide)); have n4_ := zO (Ne.symm (IsS114.ne_blk hi (zG (g := gb347) (o := .cells #[.int .i64 0, .int .i64 0, .int .i64 0] 24 (0, 0)) (by (with_reducible repeat (first | refine zJ ?_ _ | refine zI ?_ | refine zF ?_ _)); exact BK347.out) hb2) (by decide))); clear BK347; clear HB; have BK347 := n0_; have HB := n1_; have HI351 := n2_; have NB351_347 := n3_; have NB347_351 := n4_; clear n0_ n1_ n2_ n3_ n4_; (try clear hb); (try clear hb2); (try clear hk); (try clear hi)) | ((with_reducible refine zM (f := 131) rfl ?_); refine goesL_ (some 9) rfl rfl Try.func131 (by kernel_rfl) rfl #[.pointer (some ⟨g351, 0, none⟩)] rfl (by (try simp only [yK, yL, yM]); first | done | rfl | (simp only [yJ, yI]; rfl)) ?_; (with_reducible refine (spec_l10Any.calls g351 t348 t349 t350 t352 t353 t354 t355 t356 w _ ?side1 ?side2 A3.out).mono ?_); (case side1 => repeat (first | (with_reducible first | exact HI351.out | apply IsS114.alloc | apply IsS114.drewN | apply IsS114.drew | apply IsS114.set_1 | apply IsS114.set_2 | refine IsS114.far ?_ NB351_347.out _) | exact HI351.out)); (case side2 => repeat (first | (with_reducible first | exact HB.out | apply zA | apply zL | apply zB | refine zC ?_ (IsS114.ge HI351.out) | refine zC ?_ GE347.out) | exact HB.out)); rintro e w10 ⟨rfl, hi, hb, hk⟩; refine ⟨_, rfl, ?_⟩; have n0_ := zO (KeepBut.blk hk (g' := gb347) (o := .cells #[.int .i64 0, .int .i64 0, .int .i64 0] 24 (0, 0)) (by (with_reducible repeat (first | refine zJ ?_ _ | refine zI ?_ | refine zF ?_ _)); exact BK347.out) NB347_351.out (by simp)); have n1_ := zO (hb); have n2_ := zO (hi); clear BK347; clear HB; clear HI351; have BK347 := n0_; have HB := n1_; have HI351 := n2_; clear n0_ n1_ n2_; (try clear hb); (try clear hb2); (try clear hk); (try clear hi)) | ((with_reducible refine zN (N := 5) rfl ?_); refine box_event ?hg (N := 5) ?hd (cs := #[.int .i64 0, .int .i64 0, .int .i64 0]) (t := 24) ?hr ?_; (case hd => rfl); (case hg => rfl); (case hr => first | (go_simp; done) | (go_simp; rfl)); intro gb357 hg w11 hbox hb; have n0_ := zO (zG (g := gb347) (o := .cells #[.int .i64 0, .int .i64 0, .int .i64 0] 24 (0, 0)) (by (with_reducible repeat (first | refine zJ ?_ _ | refine zI ?_ | refine zF ?_ _)); exact BK347.out) hb); have n1_ := zO (IsS114.below (by repeat (first | (with_reducible first | exact HI351.out | apply IsS114.alloc | apply IsS114.drewN | apply IsS114.drew | apply IsS114.set_1 | apply IsS114.set_2 | refine IsS114.far ?_ NB351_347.out _) | exact HI351.out)) hb); have n2_ := zO (zE (by repeat (first | (with_reducible first | exact HB.out | apply zA | apply zL | apply zB | refine zC ?_ (IsS114.ge HI351.out) | refine zC ?_ GE347.out) | exact HB.out)) hb); have n3_ := zO (hbox); have n4_ := zO ((by rw [hg]; exact (zD (by repeat (first | (with_reducible first | exact HB.out | apply zA | apply zL | apply zB | refine zC ?_ (IsS114.ge HI351.out) | refine zC ?_ GE347.out) | exact HB.out))) : w.heap.size ≤ gb357)); have n5_ := zO ((by rw [hg]; exact (zD (by repeat (first | (with_reducible first | exact HB.out | apply zA | apply zL | apply zB | refine zC ?_ (IsS114.ge HI351.out) | refine zC ?_ GE347.out) | exact HB.out))) : w.heap.size ≤ gb357)); have n6_ := zO ((by rw [hg]; exact Nat.ne_of_lt (blk_lt (g := gb347) (o := .cells #[.int .i64 0, .int .i64 0, .int .i64 0] 24 (0, 0)) (by (with_reducible repeat (first | refine zJ ?_ _ | refine zI ?_ | refine zF ?_ _)); exact BK347.out)) : gb347 ≠ gb357)); have n7_ := zO ((by rw [hg]; exact Nat.ne_of_gt (blk_lt (g := gb347) (o := .cells #[.int .i64 0, .int .i64 0, .int .i64 0] 24 (0, 0)) (by (with_reducible repeat (first | refine zJ ?_ _ | refine zI ?_ | refine zF ?_ _)); exact BK347.out)) : gb357 ≠ gb347)); have n8_ := zO ((by rw [hg]; exact Nat.ne_of_lt (IsS114.lt (show IsS114 w _ g351 t348 t355 t356 from by repeat (first | (with_reducible first | exact HI351.out | apply IsS114.alloc | apply IsS114.drewN | apply IsS114.drew | apply IsS114.set_1 | apply IsS114.set_2 | refine IsS114.far ?_ NB351_347.out _) | exact HI351.out))) : g351 ≠ gb357)); have n9_ := zO ((by rw [hg]; exact Nat.ne_of_gt (IsS114.lt (show IsS114 w _ g351 t348 t355 t356 from by repeat (first | (with_reducible first | exact HI351.out | apply IsS114.alloc | apply IsS114.drewN | apply IsS114.drew | apply IsS114.set_1 | apply IsS114.set_2 | refine IsS114.far ?_ NB351_347.out _) | exact HI351.out))) : gb357 ≠ g351)); clear BK347; clear HI351; clear HB; have BK347 := n0_; have HI351 := n1_; have HB := n2_; have BK357 := n3_; have GW357 := n4_; have GE357 := n5_; have NB347_357 := n6_; have NB357_347 := n7_; have NB351_357 := n8_; have NB357_351 := n9_; clear n0_ n1_ n2_ n3_ n4_ n5_ n6_ n7_ n8_ n9_; clear hb hbox hg; have hnb12 := NB357_347.out; have hnc12 := NB347_357.out; have hnb13 := NB357_351.out; have hnc13 := NB351_357.out; have hcz14_0 : w11.cell? ⟨gb357, 0, none⟩ = some (.int .i64 0) := (zH BK357.out 0).trans rfl; have hcz14_1 : w11.cell? ⟨gb357, 1, none⟩ = some (.int .i64 0) := (zH BK357.out 1).trans rfl; have hcz14_2 : w11.cell? ⟨gb357, 2, none⟩ = some (.int .i64 0) := (zH BK357.out 2).trans rfl; have hfz14_0 := zK BK357.out 0; have hfz14_1 := zK BK357.out 1; have hfz14_2 := zK BK357.out 2) | ((with_reducible refine zM (f := 87) rfl ?_); refine goesL_ (some 11) rfl rfl Try.func87 (by kernel_rfl) rfl #[.pointer (some ⟨g351, 0, none⟩), .int .i64 6] rfl (by (try simp only [yK, yL, yM]); first | done | rfl | (simp only [yJ, yI]; rfl)) ?_; (with_reducible refine (spec_l1Once.calls g351 t348 t355 t356 6 true t359 t360 w _ ?side1 ?side2 A4.out).mono ?_); (case side1 => repeat (first | (with_reducible first | exact HI351.out | apply IsS114.alloc | apply IsS114.drewN | apply IsS114.drew | apply IsS114.set_1 | apply IsS114.set_2 | refine IsS114.far ?_ NB351_347.out _ | refine IsS114.far ?_ NB351_357.out _) | exact HI351.out)); (case side2 => repeat (first | (with_reducible first | exact HB.out | apply zA | apply zL | apply zB | refine zC ?_ (IsS114.ge HI351.out) | refine zC ?_ GE347.out | refine zC ?_ GE357.out) | exact HB.out)); rintro e w15 ⟨rfl, hi, hb, hk⟩; refine ⟨_, rfl, ?_⟩; have n0_ := zO (KeepBut.blk hk (g' := gb347) (o := .cells #[.int .i64 0, .int .i64 0, .int .i64 0] 24 (0, 0)) (by (with_reducible repeat (first | refine zJ ?_ _ | refine zI ?_ | refine zF ?_ _)); refine blk_far ?_ NB347_357.out _; (with_reducible repeat (first | refine zJ ?_ _ | refine zI ?_ | refine zF ?_ _)); refine blk_far ?_ NB347_357.out _; (with_reducible repeat (first | refine zJ ?_ _ | refine zI ?_ | refine zF ?_ _)); refine blk_far ?_ NB347_357.out _; (with_reducible repeat (first | refine zJ ?_ _ | refine zI ?_ | refine zF ?_ _)); exact BK347.out) NB347_351.out (by simp)); have n1_ := zO (KeepBut.blk hk (g' := gb357) (o := .cells #[.int .i64 t352, .int .i64 t353, .int .i64 t354] 24 (0, 0)) (by (with_reducible repeat (first | refine zJ ?_ _ | refine zI ?_ | refine zF ?_ _)); refine blk_put (cs := #[.int .i64 t352, .int .i64 t353, .int .i64 0]) ?_ 2 _ rfl; (with_reducible repeat (first | refine zJ ?_ _ | refine zI ?_ | refine zF ?_ _)); refine blk_put (cs := #[.int .i64 t352, .int .i64 0, .int .i64 0]) ?_ 1 _ rfl; (with_reducible repeat (first | refine zJ ?_ _ | refine zI ?_ | refine zF ?_ _)); refine blk_put (cs := #[.int .i64 0, .int .i64 0, .int .i64 0]) ?_ 0 _ rfl; (with_reducible repeat (first | refine zJ ?_ _ | refine zI ?_ | refine zF ?_ _)); exact BK357.out) NB357_351.out (by simp)); have n2_ := zO (hb); have n3_ := zO (hi); clear BK347; clear BK357; clear HB; clear HI351; have BK347 := n0_; have BK357 := n1_; have HB := n2_; have HI351 := n3_; clear n0_ n1_ n2_ n3_; (try clear hb); (try clear hb2); (try clear hk); (try clear hi)))
  have n0_ := zO (zI BK347.out)
  have n1_ := zO (zI BK357.out)
  have n2_ := zO (IsS114.drew HI351.out)
  have n3_ := zO (zB HB.out)
  clear BK347
  clear BK357
  clear HI351
  clear HB
  have BK347 := n0_
  have BK357 := n1_
  have HI351 := n2_
  have HB := n3_
  clear n0_ n1_ n2_ n3_
  refine start_ (n := 7) (S := fun w' => w'.cell? ⟨gb357, 0, none⟩ = some (.int .i64 t352) ∧ w'.cell? ⟨gb357, 1, none⟩ = some (.int .i64 t353) ∧ w'.cell? ⟨gb357, 2, none⟩ = some (.int .i64 t354)) (ds := []) #[false, false, false, false, false, false, false] (by kernel_rfl) rfl rfl ⟨(zH BK357.out 0).trans rfl, (zH BK357.out 1).trans rfl, (zH BK357.out 2).trans rfl⟩ (fun hHeld => ?_)
  generalize w15.drew = w16 at BK347 BK357 HI351 HB hHeld ⊢
  refine pure_ (i := 1) (N := some 13) (v := ?_) (a' := ?_) #[false, true, false, false, false, false, false] rfl rfl (by kernel_rfl) (fun _ _ _ h => h) (Or.inl ⟨by rfl, ?_⟩) ?_ ?_; rotate_left
  ·intro w'; go_simp; with_reducible rfl
  rotate_left
  ·simp only [Act.put, yF, yG, yH, i64_w, i32_w]; rfl
  refine pure_ (i := 2) (N := some 14) (v := ?_) (a' := ?_) #[false, true, true, false, false, false, false] rfl rfl (by kernel_rfl) (fun _ _ _ h => h) (Or.inl ⟨by rfl, ?_⟩) ?_ ?_; rotate_left
  ·intro w'; go_simp; with_reducible rfl
  rotate_left
  ·simp only [Act.put, yF, yG, yH, i64_w, i32_w]; rfl
  refine take_ (i := 0) (N := some 12) (v := ?_) (a' := ?_) #[true, true, true, false, false, false, false] rfl rfl (by kernel_rfl) (fun _ _ _ h => h) (Or.inl ⟨by rfl, ?_⟩) hHeld ?_ ?_; rotate_left
  ·rintro w' ⟨s0, s1, s2⟩; go_simp; with_reducible rfl
  rotate_left
  ·simp only [Act.put, yF, yG, yH, i64_w, i32_w]; rfl
  refine one_ (i := 3) (N := some 15) #[true, true, true, true, false, false, false] rfl rfl (by kernel_rfl) (by decide) (fun K hK => ?_)
  refine goes_ Try.func91 (by kernel_rfl) rfl #[.pointer (some ⟨g351, 0, none⟩), .int .i64 6] (by rfl) rfl rfl (by (try simp only [yK, yL, yM]); first | done | rfl | (simp only [yJ, yI]; rfl)) ?_
  with_reducible refine (spec_l1Below.calls g351 t348 t359 t360 6 t361 t362 t363 w _ ?side1 ?side2 A6.out).mono ?_
  (case side1 => repeat (first | (with_reducible first | exact HI351.out | apply IsS114.alloc | apply IsS114.drewN | apply IsS114.drew | apply IsS114.set_1 | apply IsS114.set_2 | refine IsS114.far ?_ NB351_347.out _ | refine IsS114.far ?_ NB351_357.out _) | exact HI351.out))
  (case side2 => repeat (first | (with_reducible first | exact HB.out | apply zA | apply zL | apply zB | refine zC ?_ (IsS114.ge HI351.out) | refine zC ?_ GE347.out | refine zC ?_ GE357.out) | exact HB.out))
  rintro e w17 ⟨rfl, hi, hb, hk⟩
  refine ⟨_, rfl, ?_⟩
  have n0_ := zO (KeepBut.blk hk (g' := gb347) (o := .cells #[.int .i64 0, .int .i64 0, .int .i64 0] 24 (0, 0)) (by (with_reducible repeat (first | refine zJ ?_ _ | refine zI ?_ | refine zF ?_ _)); exact BK347.out) NB347_351.out (by simp))
  have n1_ := zO (KeepBut.blk hk (g' := gb357) (o := .cells #[.int .i64 t352, .int .i64 t353, .int .i64 t354] 24 (0, 0)) (by (with_reducible repeat (first | refine zJ ?_ _ | refine zI ?_ | refine zF ?_ _)); exact BK357.out) NB357_351.out (by simp))
  have n2_ := zO (hb)
  have n3_ := zO (hi)
  clear BK347
  clear BK357
  clear HB
  clear HI351
  have BK347 := n0_
  have BK357 := n1_
  have HB := n2_
  have HI351 := n3_
  clear n0_ n1_ n2_ n3_
  (try clear hb)
  (try clear hb2)
  (try clear hk)
  (try clear hi)
  refine hK.out _ _ ⟨(zH BK357.out 0).trans rfl, (zH BK357.out 1).trans rfl, (zH BK357.out 2).trans rfl⟩ (fun hHeld => ?_)
  clear hK K
  refine norm_ (a' := ?_) ?_ ?_; rotate_left
  ·show Act.put _ (some 15) _ = _; simp only [Act.put, yF, yG, yH, i64_w, i32_w]; rfl
  refine one_ (i := 4) (N := some 16) #[true, true, true, true, true, false, false] rfl rfl (by kernel_rfl) (by decide) (fun K hK => ?_)
  refine goes_ Try.func132 (by kernel_rfl) rfl #[.pointer (some ⟨g351, 0, none⟩), .int .i64 t361] (by rfl) rfl rfl (by (try simp only [yK, yL, yM]); first | done | rfl | (simp only [yJ, yI]; rfl)) ?_
  with_reducible refine (spec_l1Bytes.calls k g351 t348 t362 t363 t361 t364 t367 t368 w _ ?side1 ?side2 A7.out).mono ?_
  (case side1 => repeat (first | (with_reducible first | exact HI351.out | apply IsS114.alloc | apply IsS114.drewN | apply IsS114.drew | apply IsS114.set_1 | apply IsS114.set_2 | refine IsS114.far ?_ NB351_347.out _ | refine IsS114.far ?_ NB351_357.out _) | exact HI351.out))
  (case side2 => repeat (first | (with_reducible first | exact HB.out | apply zA | apply zL | apply zB | refine zC ?_ (IsS114.ge HI351.out) | refine zC ?_ GE347.out | refine zC ?_ GE357.out) | exact HB.out))
  rintro e w18 ⟨v365, rfl, ho0, hi, hb, hk⟩
  refine ⟨_, rfl, ?_⟩
  have n0_ := zO (KeepBut.blk hk (g' := gb347) (o := .cells #[.int .i64 0, .int .i64 0, .int .i64 0] 24 (0, 0)) (by (with_reducible repeat (first | refine zJ ?_ _ | refine zI ?_ | refine zF ?_ _)); exact BK347.out) NB347_351.out (by simp))
  have n1_ := zO (KeepBut.blk hk (g' := gb357) (o := .cells #[.int .i64 t352, .int .i64 t353, .int .i64 t354] 24 (0, 0)) (by (with_reducible repeat (first | refine zJ ?_ _ | refine zI ?_ | refine zF ?_ _)); exact BK357.out) NB357_351.out (by simp))
  have n2_ := zO (yA ho0 (zD (by repeat (first | (with_reducible first | exact HB.out | apply zA | apply zL | apply zB | refine zC ?_ (IsS114.ge HI351.out) | refine zC ?_ GE347.out | refine zC ?_ GE357.out) | exact HB.out))))
  have n3_ := zO (hb)
  have n4_ := zO (hi)
  clear BK347
  clear BK357
  clear HB
  clear HI351
  have BK347 := n0_
  have BK357 := n1_
  have HO366 := n2_
  have HB := n3_
  have HI351 := n4_
  clear n0_ n1_ n2_ n3_ n4_
  (try clear hb)
  (try clear hb2)
  (try clear hk)
  (try clear hi)
  (try clear ho0)
  refine hK.out _ _ ⟨(zH BK357.out 0).trans rfl, (zH BK357.out 1).trans rfl, (zH BK357.out 2).trans rfl⟩ (fun hHeld => ?_)
  clear hK K
  refine norm_ (a' := ?_) ?_ ?_; rotate_left
  ·show Act.put _ (some 16) _ = _; simp only [Act.put, yF, yG, yH, i64_w, i32_w]; rfl
  refine one_ (i := 5) (N := none) #[true, true, true, true, true, true, false] rfl rfl (by kernel_rfl) (by decide) (fun K hK => ?_)
  have hs19 : w18.cell? ⟨gb347, 0, none⟩ = some (.int .i64 0) := (zH BK347.out 0).trans rfl
  have hfs19 := zK BK347.out 0
  have hns19_1 := NB357_347.out
  have hms19_1 := NB347_357.out
  have hs20 : w18.cell? ⟨gb347, 1, none⟩ = some (.int .i64 0) := (zH BK347.out 1).trans rfl
  have hfs20 := zK BK347.out 1
  have hns20_1 := NB357_347.out
  have hms20_1 := NB347_357.out
  have hs21 : w18.cell? ⟨gb347, 2, none⟩ = some (.int .i64 0) := (zH BK347.out 2).trans rfl
  have hfs21 := zK BK347.out 2
  have hns21_1 := NB357_347.out
  have hms21_1 := NB347_357.out
  refine skip_ (w1 := ?_) (by rfl) rfl ?_ ?_; rotate_left
  ·go_simp
   rfl
  refine hK.out _ _ ⟨((cell_far (p := ⟨gb347, _, none⟩) NB357_347.out _).trans (((cell_far (p := ⟨gb347, _, none⟩) NB357_347.out _).trans (((cell_far (p := ⟨gb347, _, none⟩) NB357_347.out _).trans (hHeld.1)))))), ((cell_far (p := ⟨gb347, _, none⟩) NB357_347.out _).trans (((cell_far (p := ⟨gb347, _, none⟩) NB357_347.out _).trans (((cell_far (p := ⟨gb347, _, none⟩) NB357_347.out _).trans (hHeld.2.1)))))), ((cell_far (p := ⟨gb347, _, none⟩) NB357_347.out _).trans (((cell_far (p := ⟨gb347, _, none⟩) NB357_347.out _).trans (((cell_far (p := ⟨gb347, _, none⟩) NB357_347.out _).trans (hHeld.2.2))))))⟩ (fun hHeld => ?_)
  clear hK K
  refine pure_ (i := 6) (N := some 3) (v := ?_) (a' := ?_) #[true, true, true, true, true, true, true] rfl rfl (by kernel_rfl) (fun _ _ _ h => h) (Or.inl ⟨by rfl, ?_⟩) ?_ ?_; rotate_left
  ·intro w'; go_simp; with_reducible rfl
  rotate_left
  ·simp only [Act.put, yF, yG, yH, i64_w, i32_w]; rfl
  refine done_ (by kernel_rfl) ?_
  try go_wp2
  refine bodyPost_ret (results_ct rfl _ _ gb347 24 #[.int .i64 t352, .int .i64 t353, .int .i64 t354] (0, 0) _ rfl (by (with_reducible repeat (first | refine zJ ?_ _ | refine zI ?_ | refine zF ?_ _)); refine blk_put (cs := #[.int .i64 t352, .int .i64 t353, .int .i64 0]) ?_ 2 _ rfl; (with_reducible repeat (first | refine zJ ?_ _ | refine zI ?_ | refine zF ?_ _)); refine blk_put (cs := #[.int .i64 t352, .int .i64 0, .int .i64 0]) ?_ 1 _ rfl; (with_reducible repeat (first | refine zJ ?_ _ | refine zI ?_ | refine zF ?_ _)); refine blk_put (cs := #[.int .i64 0, .int .i64 0, .int .i64 0]) ?_ 0 _ rfl; (with_reducible repeat (first | refine zJ ?_ _ | refine zI ?_ | refine zF ?_ _)); exact BK347.out) Try.underlying24 rfl (by kernel_rfl)) rfl ?_
  exact ⟨_, by first | rfl | (simp [errW_none, errW_some] <;> rfl) | (simp [*, errW_none, errW_some] <;> rfl), by (with_reducible repeat (first | apply zU | apply zW | apply zV)); exact Kd.R_mono (zZ (p := ⟨gb347, 2, none⟩) (zZ (p := ⟨gb347, 1, none⟩) (zZ (p := ⟨gb347, 0, none⟩) (Kd.R_types HO366.out BK347.out (by decide)) (fun _ hk => hk.2) (.int .i64 t352)) (fun _ hk => hk.2) (.int .i64 t353)) (fun _ hk => hk.2) (.int .i64 t354)) (fun _ hk => trivial), by repeat (first | (with_reducible first | exact HB.out | apply zA | apply zL | apply zB | refine zC ?_ (IsS114.ge HI351.out) | refine zC ?_ GE347.out | refine zC ?_ GE357.out) | exact HB.out)⟩
 ·replace c5 := Bool.eq_false_iff.mpr c5
  subst c5
  have H1 : ((spec_l1Bytes.f k t348 t359 t360 t353).bind fun bt369 => (some (t352, t353, t354, bt369.1))) = some (r1, r2, r3, r4) := by rw [if_neg (show ¬ (false = true) by decide)] at H; exact H
  clear H
  have H := H1
  clear H1
  replace H := yE.mp H
  obtain ⟨⟨t369, t372, t373⟩, A220, H⟩ := H
  replace H : (some (t352, t353, t354, t369)) = some (r1, r2, r3, r4) := H
  have A22 := zO A220
  clear A220
  simp only [Option.some.injEq, Prod.mk.injEq] at H
  obtain ⟨rfl, rfl, rfl, rfl⟩ := H
  go_enter Try.func62, Try.ntmps62
  try go_wp2_with (first | ((with_reducible refine zN (N := 2) rfl ?_); refine box_event ?hg (N := 2) ?hd (cs := #[.int .i64 0, .int .i64 0, .int .i64 0]) (t := 24) ?hr ?_; (case hd => rfl); (case hg => rfl); (case hr => first | (go_simp; done) | (go_simp; rfl)); intro gb347 hg w23 hbox hb; have n0_ := zO (zE (by repeat (first | exact HB.out | apply zA | apply zL | apply zB)) hb); have n1_ := zO (hbox); have n2_ := zO ((by rw [hg]; exact (zD (by repeat (first | exact HB.out | apply zA | apply zL | apply zB))) : w.heap.size ≤ gb347)); have n3_ := zO ((by rw [hg]; exact (zD (by repeat (first | exact HB.out | apply zA | apply zL | apply zB))) : w.heap.size ≤ gb347)); clear HB; have HB := n0_; have BK347 := n1_; have GW347 := n2_; have GE347 := n3_; clear n0_ n1_ n2_ n3_; clear hb hbox hg) | ((with_reducible refine zM (f := 84) rfl ?_); refine goesL_ (some 7) rfl rfl Try.func84 (by kernel_rfl) rfl #[.slice A0 l0.length c0] rfl (by (try simp only [yK, yL, yM]); first | done | rfl | (simp only [yJ, yI]; rfl)) ?_; (with_reducible refine (spec_l1New.calls k _ _ l0 t348 t349 t350 w _ ?side1 ?side2 ?side3 A2.out).mono ?_); (case side1 => repeat (first | (with_reducible first | exact HB.out | apply zA | apply zL | apply zB | refine zC ?_ GE347.out) | exact HB.out)); (case side2 => exact HR0.out); (case side3 => exact HC0.out); rintro e w24 ⟨g351, rfl, hi, hb, hb2⟩; refine ⟨_, rfl, ?_⟩; have n0_ := zO (zG (g := gb347) (o := .cells #[.int .i64 0, .int .i64 0, .int .i64 0] 24 (0, 0)) (by (with_reducible repeat (first | refine zJ ?_ _ | refine zI ?_ | refine zF ?_ _)); exact BK347.out) hb2); have n1_ := zO (hb); have n2_ := zO (hi); have n3_ := zO (IsS114.ne_blk hi (zG (g := gb347) (o := .cells #[.int .i64 0, .int .i64 0, .int .i64 0] 24 (0, 0)) (by (with_reducible repeat (first | refine zJ ?_ _ | refine zI ?_ | refine zF ?_ _)); exact BK347.out) hb2) (by decide)); have n4_ := zO (Ne.symm (IsS114.ne_blk hi (zG (g := gb347) (o := .cells #[.int .i64 0, .int .i64 0, .int .i64 0] 24 (0, 0)) (by (with_reducible repeat (first | refine zJ ?_ _ | refine zI ?_ | refine zF ?_ _)); exact BK347.out) hb2) (by decide))); clear BK347; clear HB; have BK347 := n0_; have HB := n1_; have HI351 := n2_; have NB351_347 := n3_; have NB347_351 := n4_; clear n0_ n1_ n2_ n3_ n4_; (try clear hb); (try clear hb2); (try clear hk); (try clear hi)) | ((with_reducible refine zM (f := 131) rfl ?_); refine goesL_ (some 9) rfl rfl Try.func131 (by kernel_rfl) rfl #[.pointer (some ⟨g351, 0, none⟩)] rfl (by (try simp only [yK, yL, yM]); first | done | rfl | (simp only [yJ, yI]; rfl)) ?_; (with_reducible refine (spec_l10Any.calls g351 t348 t349 t350 t352 t353 t354 t355 t356 w _ ?side1 ?side2 A3.out).mono ?_); (case side1 => repeat (first | (with_reducible first | exact HI351.out | apply IsS114.alloc | apply IsS114.drewN | apply IsS114.drew | apply IsS114.set_1 | apply IsS114.set_2 | refine IsS114.far ?_ NB351_347.out _) | exact HI351.out)); (case side2 => repeat (first | (with_reducible first | exact HB.out | apply zA | apply zL | apply zB | refine zC ?_ (IsS114.ge HI351.out) | refine zC ?_ GE347.out) | exact HB.out)); rintro e w25 ⟨rfl, hi, hb, hk⟩; refine ⟨_, rfl, ?_⟩; have n0_ := zO (KeepBut.blk hk (g' := gb347) (o := .cells #[.int .i64 0, .int .i64 0, .int .i64 0] 24 (0, 0)) (by (with_reducible repeat (first | refine zJ ?_ _ | refine zI ?_ | refine zF ?_ _)); exact BK347.out) NB347_351.out (by simp)); have n1_ := zO (hb); have n2_ := zO (hi); clear BK347; clear HB; clear HI351; have BK347 := n0_; have HB := n1_; have HI351 := n2_; clear n0_ n1_ n2_; (try clear hb); (try clear hb2); (try clear hk); (try clear hi)) | ((with_reducible refine zN (N := 5) rfl ?_); refine box_event ?hg (N := 5) ?hd (cs := #[.int .i64 0, .int .i64 0, .int .i64 0]) (t := 24) ?hr ?_; (case hd => rfl); (case hg => rfl); (case hr => first | (go_simp; done) | (go_simp; rfl)); intro gb357 hg w26 hbox hb; have n0_ := zO (zG (g := gb347) (o := .cells #[.int .i64 0, .int .i64 0, .int .i64 0] 24 (0, 0)) (by (with_reducible repeat (first | refine zJ ?_ _ | refine zI ?_ | refine zF ?_ _)); exact BK347.out) hb); have n1_ := zO (IsS114.below (by repeat (first | (with_reducible first | exact HI351.out | apply IsS114.alloc | apply IsS114.drewN | apply IsS114.drew | apply IsS114.set_1 | apply IsS114.set_2 | refine IsS114.far ?_ NB351_347.out _) | exact HI351.out)) hb); have n2_ := zO (zE (by repeat (first | (with_reducible first | exact HB.out | apply zA | apply zL | apply zB | refine zC ?_ (IsS114.ge HI351.out) | refine zC ?_ GE347.out) | exact HB.out)) hb); have n3_ := zO (hbox); have n4_ := zO ((by rw [hg]; exact (zD (by repeat (first | (with_reducible first | exact HB.out | apply zA | apply zL | apply zB | refine zC ?_ (IsS114.ge HI351.out) | refine zC ?_ GE347.out) | exact HB.out))) : w.heap.size ≤ gb357)); have n5_ := zO ((by rw [hg]; exact (zD (by repeat (first | (with_reducible first | exact HB.out | apply zA | apply zL | apply zB | refine zC ?_ (IsS114.ge HI351.out) | refine zC ?_ GE347.out) | exact HB.out))) : w.heap.size ≤ gb357)); have n6_ := zO ((by rw [hg]; exact Nat.ne_of_lt (blk_lt (g := gb347) (o := .cells #[.int .i64 0, .int .i64 0, .int .i64 0] 24 (0, 0)) (by (with_reducible repeat (first | refine zJ ?_ _ | refine zI ?_ | refine zF ?_ _)); exact BK347.out)) : gb347 ≠ gb357)); have n7_ := zO ((by rw [hg]; exact Nat.ne_of_gt (blk_lt (g := gb347) (o := .cells #[.int .i64 0, .int .i64 0, .int .i64 0] 24 (0, 0)) (by (with_reducible repeat (first | refine zJ ?_ _ | refine zI ?_ | refine zF ?_ _)); exact BK347.out)) : gb357 ≠ gb347)); have n8_ := zO ((by rw [hg]; exact Nat.ne_of_lt (IsS114.lt (show IsS114 w _ g351 t348 t355 t356 from by repeat (first | (with_reducible first | exact HI351.out | apply IsS114.alloc | apply IsS114.drewN | apply IsS114.drew | apply IsS114.set_1 | apply IsS114.set_2 | refine IsS114.far ?_ NB351_347.out _) | exact HI351.out))) : g351 ≠ gb357)); have n9_ := zO ((by rw [hg]; exact Nat.ne_of_gt (IsS114.lt (show IsS114 w _ g351 t348 t355 t356 from by repeat (first | (with_reducible first | exact HI351.out | apply IsS114.alloc | apply IsS114.drewN | apply IsS114.drew | apply IsS114.set_1 | apply IsS114.set_2 | refine IsS114.far ?_ NB351_347.out _) | exact HI351.out))) : gb357 ≠ g351)); clear BK347; clear HI351; clear HB; have BK347 := n0_; have HI351 := n1_; have HB := n2_; have BK357 := n3_; have GW357 := n4_; have GE357 := n5_; have NB347_357 := n6_; have NB357_347 := n7_; have NB351_357 := n8_; have NB357_351 := n9_; clear n0_ n1_ n2_ n3_ n4_ n5_ n6_ n7_ n8_ n9_; clear hb hbox hg; have hnb27 := NB357_347.out; have hnc27 := NB347_357.out; have hnb28 := NB357_351.out; have hnc28 := NB351_357.out; have hcz29_0 : w26.cell? ⟨gb357, 0, none⟩ = some (.int .i64 0) := (zH BK357.out 0).trans rfl; have hcz29_1 : w26.cell? ⟨gb357, 1, none⟩ = some (.int .i64 0) := (zH BK357.out 1).trans rfl; have hcz29_2 : w26.cell? ⟨gb357, 2, none⟩ = some (.int .i64 0) := (zH BK357.out 2).trans rfl; have hfz29_0 := zK BK357.out 0; have hfz29_1 := zK BK357.out 1; have hfz29_2 := zK BK357.out 2) | ((with_reducible refine zM (f := 87) rfl ?_); refine goesL_ (some 11) rfl rfl Try.func87 (by kernel_rfl) rfl #[.pointer (some ⟨g351, 0, none⟩), .int .i64 6] rfl (by (try simp only [yK, yL, yM]); first | done | rfl | (simp only [yJ, yI]; rfl)) ?_; (with_reducible refine (spec_l1Once.calls g351 t348 t355 t356 6 false t359 t360 w _ ?side1 ?side2 A4.out).mono ?_); (case side1 => repeat (first | (with_reducible first | exact HI351.out | apply IsS114.alloc | apply IsS114.drewN | apply IsS114.drew | apply IsS114.set_1 | apply IsS114.set_2 | refine IsS114.far ?_ NB351_347.out _ | refine IsS114.far ?_ NB351_357.out _) | exact HI351.out)); (case side2 => repeat (first | (with_reducible first | exact HB.out | apply zA | apply zL | apply zB | refine zC ?_ (IsS114.ge HI351.out) | refine zC ?_ GE347.out | refine zC ?_ GE357.out) | exact HB.out)); rintro e w30 ⟨rfl, hi, hb, hk⟩; refine ⟨_, rfl, ?_⟩; have n0_ := zO (KeepBut.blk hk (g' := gb347) (o := .cells #[.int .i64 0, .int .i64 0, .int .i64 0] 24 (0, 0)) (by (with_reducible repeat (first | refine zJ ?_ _ | refine zI ?_ | refine zF ?_ _)); refine blk_far ?_ NB347_357.out _; (with_reducible repeat (first | refine zJ ?_ _ | refine zI ?_ | refine zF ?_ _)); refine blk_far ?_ NB347_357.out _; (with_reducible repeat (first | refine zJ ?_ _ | refine zI ?_ | refine zF ?_ _)); refine blk_far ?_ NB347_357.out _; (with_reducible repeat (first | refine zJ ?_ _ | refine zI ?_ | refine zF ?_ _)); exact BK347.out) NB347_351.out (by simp)); have n1_ := zO (KeepBut.blk hk (g' := gb357) (o := .cells #[.int .i64 t352, .int .i64 t353, .int .i64 t354] 24 (0, 0)) (by (with_reducible repeat (first | refine zJ ?_ _ | refine zI ?_ | refine zF ?_ _)); refine blk_put (cs := #[.int .i64 t352, .int .i64 t353, .int .i64 0]) ?_ 2 _ rfl; (with_reducible repeat (first | refine zJ ?_ _ | refine zI ?_ | refine zF ?_ _)); refine blk_put (cs := #[.int .i64 t352, .int .i64 0, .int .i64 0]) ?_ 1 _ rfl; (with_reducible repeat (first | refine zJ ?_ _ | refine zI ?_ | refine zF ?_ _)); refine blk_put (cs := #[.int .i64 0, .int .i64 0, .int .i64 0]) ?_ 0 _ rfl; (with_reducible repeat (first | refine zJ ?_ _ | refine zI ?_ | refine zF ?_ _)); exact BK357.out) NB357_351.out (by simp)); have n2_ := zO (hb); have n3_ := zO (hi); clear BK347; clear BK357; clear HB; clear HI351; have BK347 := n0_; have BK357 := n1_; have HB := n2_; have HI351 := n3_; clear n0_ n1_ n2_ n3_; (try clear hb); (try clear hb2); (try clear hk); (try clear hi)))
  have n0_ := zO (zI BK347.out)
  have n1_ := zO (zI BK357.out)
  have n2_ := zO (IsS114.drew HI351.out)
  have n3_ := zO (zB HB.out)
  clear BK347
  clear BK357
  clear HI351
  clear HB
  have BK347 := n0_
  have BK357 := n1_
  have HI351 := n2_
  have HB := n3_
  clear n0_ n1_ n2_ n3_
  refine start_ (n := 7) (S := fun w' => w'.cell? ⟨gb357, 0, none⟩ = some (.int .i64 t352) ∧ w'.cell? ⟨gb357, 1, none⟩ = some (.int .i64 t353) ∧ w'.cell? ⟨gb357, 2, none⟩ = some (.int .i64 t354)) (ds := []) #[false, false, false, false, false, false, false] (by kernel_rfl) rfl rfl ⟨(zH BK357.out 0).trans rfl, (zH BK357.out 1).trans rfl, (zH BK357.out 2).trans rfl⟩ (fun hHeld => ?_)
  generalize w30.drew = w31 at BK347 BK357 HI351 HB hHeld ⊢
  refine pure_ (i := 1) (N := some 18) (v := ?_) (a' := ?_) #[false, true, false, false, false, false, false] rfl rfl (by kernel_rfl) (fun _ _ _ h => h) (Or.inl ⟨by rfl, ?_⟩) ?_ ?_; rotate_left
  ·intro w'; go_simp; with_reducible rfl
  rotate_left
  ·simp only [Act.put, yF, yG, yH, i64_w, i32_w]; rfl
  refine pure_ (i := 2) (N := some 19) (v := ?_) (a' := ?_) #[false, true, true, false, false, false, false] rfl rfl (by kernel_rfl) (fun _ _ _ h => h) (Or.inl ⟨by rfl, ?_⟩) ?_ ?_; rotate_left
  ·intro w'; go_simp; with_reducible rfl
  rotate_left
  ·simp only [Act.put, yF, yG, yH, i64_w, i32_w]; rfl
  refine take_ (i := 0) (N := some 17) (v := ?_) (a' := ?_) #[true, true, true, false, false, false, false] rfl rfl (by kernel_rfl) (fun _ _ _ h => h) (Or.inl ⟨by rfl, ?_⟩) hHeld ?_ ?_; rotate_left
  ·rintro w' ⟨s0, s1, s2⟩; go_simp; with_reducible rfl
  rotate_left
  ·simp only [Act.put, yF, yG, yH, i64_w, i32_w]; rfl
  refine take_ (i := 3) (N := some 20) (v := ?_) (a' := ?_) #[true, true, true, true, false, false, false] rfl rfl (by kernel_rfl) (fun _ _ _ h => h) (Or.inl ⟨by rfl, ?_⟩) hHeld ?_ ?_; rotate_left
  ·rintro w' ⟨s0, s1, s2⟩; go_simp; with_reducible rfl
  rotate_left
  ·simp only [Act.put, yF, yG, yH, i64_w, i32_w]; rfl
  refine one_ (i := 4) (N := some 21) #[true, true, true, true, true, false, false] rfl rfl (by kernel_rfl) (by decide) (fun K hK => ?_)
  refine goes_ Try.func132 (by kernel_rfl) rfl #[.pointer (some ⟨g351, 0, none⟩), .int .i64 t353] (by rfl) rfl rfl (by (try simp only [yK, yL, yM]); first | done | rfl | (simp only [yJ, yI]; rfl)) ?_
  with_reducible refine (spec_l1Bytes.calls k g351 t348 t359 t360 t353 t369 t372 t373 w _ ?side1 ?side2 A22.out).mono ?_
  (case side1 => repeat (first | (with_reducible first | exact HI351.out | apply IsS114.alloc | apply IsS114.drewN | apply IsS114.drew | apply IsS114.set_1 | apply IsS114.set_2 | refine IsS114.far ?_ NB351_347.out _ | refine IsS114.far ?_ NB351_357.out _) | exact HI351.out))
  (case side2 => repeat (first | (with_reducible first | exact HB.out | apply zA | apply zL | apply zB | refine zC ?_ (IsS114.ge HI351.out) | refine zC ?_ GE347.out | refine zC ?_ GE357.out) | exact HB.out))
  rintro e w32 ⟨v370, rfl, ho0, hi, hb, hk⟩
  refine ⟨_, rfl, ?_⟩
  have n0_ := zO (KeepBut.blk hk (g' := gb347) (o := .cells #[.int .i64 0, .int .i64 0, .int .i64 0] 24 (0, 0)) (by (with_reducible repeat (first | refine zJ ?_ _ | refine zI ?_ | refine zF ?_ _)); exact BK347.out) NB347_351.out (by simp))
  have n1_ := zO (KeepBut.blk hk (g' := gb357) (o := .cells #[.int .i64 t352, .int .i64 t353, .int .i64 t354] 24 (0, 0)) (by (with_reducible repeat (first | refine zJ ?_ _ | refine zI ?_ | refine zF ?_ _)); exact BK357.out) NB357_351.out (by simp))
  have n2_ := zO (yA ho0 (zD (by repeat (first | (with_reducible first | exact HB.out | apply zA | apply zL | apply zB | refine zC ?_ (IsS114.ge HI351.out) | refine zC ?_ GE347.out | refine zC ?_ GE357.out) | exact HB.out))))
  have n3_ := zO (hb)
  have n4_ := zO (hi)
  clear BK347
  clear BK357
  clear HB
  clear HI351
  have BK347 := n0_
  have BK357 := n1_
  have HO371 := n2_
  have HB := n3_
  have HI351 := n4_
  clear n0_ n1_ n2_ n3_ n4_
  (try clear hb)
  (try clear hb2)
  (try clear hk)
  (try clear hi)
  (try clear ho0)
  refine hK.out _ _ ⟨(zH BK357.out 0).trans rfl, (zH BK357.out 1).trans rfl, (zH BK357.out 2).trans rfl⟩ (fun hHeld => ?_)
  clear hK K
  refine norm_ (a' := ?_) ?_ ?_; rotate_left
  ·show Act.put _ (some 21) _ = _; simp only [Act.put, yF, yG, yH, i64_w, i32_w]; rfl
  refine one_ (i := 5) (N := none) #[true, true, true, true, true, true, false] rfl rfl (by kernel_rfl) (by decide) (fun K hK => ?_)
  have hs33 : w32.cell? ⟨gb347, 0, none⟩ = some (.int .i64 0) := (zH BK347.out 0).trans rfl
  have hfs33 := zK BK347.out 0
  have hns33_1 := NB357_347.out
  have hms33_1 := NB347_357.out
  have hs34 : w32.cell? ⟨gb347, 1, none⟩ = some (.int .i64 0) := (zH BK347.out 1).trans rfl
  have hfs34 := zK BK347.out 1
  have hns34_1 := NB357_347.out
  have hms34_1 := NB347_357.out
  have hs35 : w32.cell? ⟨gb347, 2, none⟩ = some (.int .i64 0) := (zH BK347.out 2).trans rfl
  have hfs35 := zK BK347.out 2
  have hns35_1 := NB357_347.out
  have hms35_1 := NB347_357.out
  refine skip_ (w1 := ?_) (by rfl) rfl ?_ ?_; rotate_left
  ·go_simp
   rfl
  refine hK.out _ _ ⟨((cell_far (p := ⟨gb347, _, none⟩) NB357_347.out _).trans (((cell_far (p := ⟨gb347, _, none⟩) NB357_347.out _).trans (((cell_far (p := ⟨gb347, _, none⟩) NB357_347.out _).trans (hHeld.1)))))), ((cell_far (p := ⟨gb347, _, none⟩) NB357_347.out _).trans (((cell_far (p := ⟨gb347, _, none⟩) NB357_347.out _).trans (((cell_far (p := ⟨gb347, _, none⟩) NB357_347.out _).trans (hHeld.2.1)))))), ((cell_far (p := ⟨gb347, _, none⟩) NB357_347.out _).trans (((cell_far (p := ⟨gb347, _, none⟩) NB357_347.out _).trans (((cell_far (p := ⟨gb347, _, none⟩) NB357_347.out _).trans (hHeld.2.2))))))⟩ (fun hHeld => ?_)
  clear hK K
  refine pure_ (i := 6) (N := some 3) (v := ?_) (a' := ?_) #[true, true, true, true, true, true, true] rfl rfl (by kernel_rfl) (fun _ _ _ h => h) (Or.inl ⟨by rfl, ?_⟩) ?_ ?_; rotate_left
  ·intro w'; go_simp; with_reducible rfl
  rotate_left
  ·simp only [Act.put, yF, yG, yH, i64_w, i32_w]; rfl
  refine done_ (by kernel_rfl) ?_
  try go_wp2
  refine bodyPost_ret (results_ct rfl _ _ gb347 24 #[.int .i64 t352, .int .i64 t353, .int .i64 t354] (0, 0) _ rfl (by (with_reducible repeat (first | refine zJ ?_ _ | refine zI ?_ | refine zF ?_ _)); refine blk_put (cs := #[.int .i64 t352, .int .i64 t353, .int .i64 0]) ?_ 2 _ rfl; (with_reducible repeat (first | refine zJ ?_ _ | refine zI ?_ | refine zF ?_ _)); refine blk_put (cs := #[.int .i64 t352, .int .i64 0, .int .i64 0]) ?_ 1 _ rfl; (with_reducible repeat (first | refine zJ ?_ _ | refine zI ?_ | refine zF ?_ _)); refine blk_put (cs := #[.int .i64 0, .int .i64 0, .int .i64 0]) ?_ 0 _ rfl; (with_reducible repeat (first | refine zJ ?_ _ | refine zI ?_ | refine zF ?_ _)); exact BK347.out) Try.underlying24 rfl (by kernel_rfl)) rfl ?_
  exact ⟨_, by first | rfl | (simp [errW_none, errW_some] <;> rfl) | (simp [*, errW_none, errW_some] <;> rfl), by (with_reducible repeat (first | apply zU | apply zW | apply zV)); exact Kd.R_mono (zZ (p := ⟨gb347, 2, none⟩) (zZ (p := ⟨gb347, 1, none⟩) (zZ (p := ⟨gb347, 0, none⟩) (Kd.R_types HO371.out BK347.out (by decide)) (fun _ hk => hk.2) (.int .i64 t352)) (fun _ hk => hk.2) (.int .i64 t353)) (fun _ hk => hk.2) (.int .i64 t354)) (fun _ hk => trivial), by repeat (first | (with_reducible first | exact HB.out | apply zA | apply zL | apply zB | refine zC ?_ (IsS114.ge HI351.out) | refine zC ?_ GE347.out | refine zC ?_ GE357.out) | exact HB.out)⟩

def impl_ConvolutionalEncode.l0 : Nat → List Int → List Int → Int → Int → Option (List Int)
 | 0, _, _, _, _ => none
 | k + 1, x0, x3, x4, x5 => if x5 < (wrap64 ((x0.length : Int) + 2)) then (if x5 < (x0.length : Int) then (if 0 ≤ x5 then ((impl_OutputPair.f x4 (rd x0 x5)).bind fun bt382 => ((some (([bt382.1, bt382.2] : List Int) : List Int)).bind fun y384 => (if x3.length + y384.length < 17592186044416 then ((impl_NextState.f x4 (rd x0 x5)).bind fun t390 => (impl_ConvolutionalEncode.l0 k x0 (x3 ++ y384) t390 (wrap64 (x5 + 1)))) else (none)))) else (none)) else ((impl_OutputPair.f x4 0).bind fun bt391 => ((some (([bt391.1, bt391.2] : List Int) : List Int)).bind fun y393 => (if x3.length + y393.length < 17592186044416 then ((impl_NextState.f x4 0).bind fun t399 => (impl_ConvolutionalEncode.l0 k x0 (x3 ++ y393) t399 (wrap64 (x5 + 1)))) else (none))))) else (some x3)
def impl_ConvolutionalEncode.f (k : Nat) (l0 : List Int) : Option (List Int) := (impl_IsBitString.f k l0).bind fun t374 => (if t374 = true then (if 0 ≤ (wrap64 (2 * (wrap64 ((l0.length : Int) + 2)))) then (if (wrap64 (2 * (wrap64 ((l0.length : Int) + 2))) : Int).toNat ≤ 35184372088832 then (impl_ConvolutionalEncode.l0 k l0 (([] : List Int)) 0 0) else (none)) else (none)) else (some (([] : List Int))))
theorem impl_ConvolutionalEncode.calls (k : Nat) (A0 : Option Addr) (c0 : Nat) (l0 : List Int) (r : List Int) (w : World) (hr0 : Kd.C (Kd.int .i64) w A0 l0.length l0) (hc0 : l0.length ≤ c0) (h : impl_ConvolutionalEncode.f k l0 = some r) :
  Calls Try.prog 118 #[.slice A0 l0.length c0] w fun e w' => ∃ v0_ : Value, e = .returned (v0_) ∧ Kd.R (Kd.int .i64) 3 w' w.heap.size (fun _ => True) v0_ r ∧ Below w.heap.size w w' := by
 have HR0 := zO hr0
 have HC0 := zO hc0
 clear hr0 hc0
 have HB := zO (Below.refl w.heap.size w)
 have H : ((impl_IsBitString.f k l0).bind fun t374 => (if t374 = true then (if 0 ≤ (wrap64 (2 * (wrap64 ((l0.length : Int) + 2)))) then (if (wrap64 (2 * (wrap64 ((l0.length : Int) + 2))) : Int).toNat ≤ 35184372088832 then (impl_ConvolutionalEncode.l0 k l0 (([] : List Int)) 0 0) else (none)) else (none)) else (some (([] : List Int))))) = some r := h
 clear h
 replace H := yE.mp H
 obtain ⟨t374, A20, H⟩ := H
 replace H : (if t374 = true then (if 0 ≤ (wrap64 (2 * (wrap64 ((l0.length : Int) + 2)))) then (if (wrap64 (2 * (wrap64 ((l0.length : Int) + 2))) : Int).toNat ≤ 35184372088832 then (impl_ConvolutionalEncode.l0 k l0 (([] : List Int)) 0 0) else (none)) else (none)) else (some (([] : List Int)))) = some r := H
 have A2 := zO A20
 clear A20
 by_cases c3 : t374 = true
 ·subst c3
  have H1 : (if 0 ≤ (wrap64 (2 * (wrap64 ((l0.length : Int) + 2)))) then (if (wrap64 (2 * (wrap64 ((l0.length : Int) + 2))) : Int).toNat ≤ 35184372088832 then (impl_ConvolutionalEncode.l0 k l0 (([] : List Int)) 0 0) else (none)) else (none)) = some r := by rw [if_pos rfl] at H; exact H
  clear H
  have H := H1
  clear H1
  obtain ⟨ji4, hji4⟩ : ∃ j_ : Int, (wrap64 (2 * (wrap64 ((l0.length : Int) + 2)))) = j_ := ⟨_, rfl⟩
  replace H : (if 0 ≤ (ji4) then (if (ji4 : Int).toNat ≤ 35184372088832 then (impl_ConvolutionalEncode.l0 k l0 (([] : List Int)) 0 0) else (none)) else (none)) = some r := by first | (rw [hji4] at H; exact H) | (simp only [hji4] at H ⊢; exact H)
  (try rw [hji4] at A2)
  have hji4w : (IntKind.i64.wrap (2 * (wrap64 ((l0.length : Int) + 2)))) = ji4 := (i64_w _).trans hji4
  by_cases c5 : 0 ≤ (ji4)
  case neg => rw [if_neg c5] at H; exact absurd H (by simp)
  rw [if_pos c5] at H
  have c5b0 := eq_true c5
  have c5b1 : decide (0 ≤ (ji4)) = true := decide_eq_true c5
  clear c5
  by_cases c6 : (ji4 : Int).toNat ≤ 35184372088832
  case neg => rw [if_neg c6] at H; exact absurd H (by simp)
  rw [if_pos c6] at H
  have c6b0 := eq_true c6
  have c6b1 : decide ((ji4 : Int).toNat ≤ 35184372088832) = true := decide_eq_true c6
  clear c6
  obtain ⟨y378, hy378⟩ : ∃ y_ : List Int, y_ = (([] : List Int)) := ⟨_, rfl⟩
  replace H : (impl_ConvolutionalEncode.l0 k l0 y378 0 0) = some r := by first | (rw [hy378]; exact H) | exact H
  have Ny378 := zO hy378
  clear hy378
  have H' := zO H
  clear H
  go_enter Try.func118, Try.ntmps118
  go_wp2_with (first | ((with_reducible refine zM (f := 116) rfl ?_); refine goesL_ (some 10) rfl rfl Try.func116 (by kernel_rfl) rfl #[.slice A0 l0.length c0] rfl (by (try simp only [yK, yL, yM]); first | done | rfl | (simp only [yJ, yI]; rfl)) ?_; (with_reducible refine (impl_IsBitString.calls k _ _ l0 true _ ?side1 ?side2 A2.out).mono ?_); (case side1 => repeat (first | exact HR0.out | (with_reducible refine zR ?_ _) | (with_reducible refine zT ?_ _) | (with_reducible refine zS ?_))); (case side2 => exact HC0.out); rintro e w' ⟨rfl, ⟨nd, rfl⟩⟩; refine ⟨_, rfl, ?_⟩) | ((with_reducible refine zN (N := 17) rfl ?_); refine Kd.R_make0 .i64 _ 3 rfl (N := 17) rfl 22 _ _ rfl ji4 rfl rfl Try.underlying22 (.int .i64 0) 8 info3 (by decide) (ok := fun _ => True) trivial (yO (by assumption)) (Nat.le_trans (Nat.mul_le_mul_right _ (yO (by assumption) : (ji4 : Int).toNat ≤ 35184372088832)) (by omega)) (Below.refl _ _) (Nat.le_refl _) ?_; intro v379 w7 ho8 hb hg_ hnew_; clear hg_ hnew_; (first | rw [← Ny378.out] at ho8 | (simp only [Int.reduceToNat] at ho8; rw [← Ny378.out] at ho8)); have n0_ := zO (yA ho8 (zD (by repeat (first | exact HB.out | apply zA | apply zL | apply zB)))); have n1_ := zO (zE (by repeat (first | exact HB.out | apply zA | apply zL | apply zB)) hb); clear HB; have HO380 := n0_; have HB := n1_; clear n0_ n1_; clear hb ho8))
  go_loopg [3, 4, 5] k (fun kq v3 v4 v5 w' => ∃ (x3_1 : List Int) (x4_1 : Int) (x5_1 : Int), v4 = .int .i64 x4_1 ∧ v5 = .int .i64 x5_1 ∧ Aside0 (impl_ConvolutionalEncode.l0 kq l0 x3_1 x4_1 x5_1 = some r) ∧ Aside0 (kq ≤ k) ∧ Aside0 (Kd.R (Kd.int .i64) 3 w' w.heap.size (fun _ => True) v3 x3_1) ∧ Aside0 (Below w.heap.size w w'))
  case atStart => exact ⟨(y378), (0), (0), (by first | rfl | (simp; done) | (simp [*]; done)), (by first | rfl | (simp; done) | (simp [*]; done)), H', ⟨Nat.le_refl _⟩, ⟨by (with_reducible repeat (first | apply zU | apply zW | apply zV)); exact HO380.out⟩, ⟨by repeat (first | exact HB.out | apply zA | apply zL | apply zB)⟩⟩
  case round =>
   clear H'
   try clear c1
   try clear p2
   try clear c3
   try clear c5
   try clear c5b0
   try clear c5b1
   try clear c6
   try clear c6b0
   try clear c6b1
   try clear p6
   obtain ⟨x3_1, x4_1, x5_1, rfl, rfl, HA, HK1, HO_3, HB⟩ := hrel
   cases gk with
   | zero => exact absurd HA.out (by simp [impl_ConvolutionalEncode.l0])
   | succ k1 =>
    have H := HA.out
    clear HA
    simp only [impl_ConvolutionalEncode.l0] at H
    by_cases c9 : x5_1 < (wrap64 ((l0.length : Int) + 2))
    ·rw [if_pos c9] at H
     have c9b0 : decide (x5_1 < (wrap64 ((l0.length : Int) + 2))) = true := decide_eq_true c9
     clear c9
     by_cases c10 : x5_1 < (l0.length : Int)
     ·rw [if_pos c10] at H
      have c10b0 : decide (x5_1 < (l0.length : Int)) = true := decide_eq_true c10
      clear c10
      by_cases c11 : 0 ≤ x5_1
      case neg => rw [if_neg c11] at H; exact absurd H (by simp)
      rw [if_pos c11] at H
      have c11b0 : decide (0 ≤ x5_1) = true := decide_eq_true c11
      clear c11
      replace H := yE.mp H
      obtain ⟨⟨t382, t383⟩, A120, H⟩ := H
      replace H : ((some (([t382, t383] : List Int) : List Int)).bind fun y384 => (if x3_1.length + y384.length < 17592186044416 then ((impl_NextState.f x4_1 (rd l0 x5_1)).bind fun t390 => (impl_ConvolutionalEncode.l0 k1 l0 (x3_1 ++ y384) t390 (wrap64 (x5_1 + 1)))) else (none))) = some r := H
      have A12 := zO A120
      clear A120
      obtain ⟨y384, hy384⟩ : ∃ y_ : List Int, y_ = (([t382, t383] : List Int)) := ⟨_, rfl⟩
      replace H : (if x3_1.length + y384.length < 17592186044416 then ((impl_NextState.f x4_1 (rd l0 x5_1)).bind fun t390 => (impl_ConvolutionalEncode.l0 k1 l0 (x3_1 ++ y384) t390 (wrap64 (x5_1 + 1)))) else (none)) = some r := by first | (rw [hy384]; exact H) | exact H
      have Ny384 := zO hy384
      clear hy384
      by_cases c13 : x3_1.length + y384.length < 17592186044416
      case neg => rw [if_neg c13] at H; exact absurd H (by simp)
      rw [if_pos c13] at H
      have LMc13 := zO c13
      clear c13
      obtain ⟨y387, hy387⟩ : ∃ y_ : List Int, y_ = (x3_1 ++ y384) := ⟨_, rfl⟩
      replace H : ((impl_NextState.f x4_1 (rd l0 x5_1)).bind fun t390 => (impl_ConvolutionalEncode.l0 k1 l0 y387 t390 (wrap64 (x5_1 + 1)))) = some r := by first | (rw [hy387]; exact H) | exact H
      have Ny387 := zO hy387
      clear hy387
      replace H := yE.mp H
      obtain ⟨t390, A140, H⟩ := H
      replace H : (impl_ConvolutionalEncode.l0 k1 l0 y387 t390 (wrap64 (x5_1 + 1))) = some r := H
      have A14 := zO A140
      clear A140
      have H' := zO H
      clear H
      have p381 : 0 ≤ (x5_1 : Int) := yO (by assumption)
      have q381 : x5_1 < (l0.length : Int) := yO (by assumption)
      obtain ⟨ad381, e381, hx381_0⟩ := Kd.at_int HR0.out x5_1 p381 q381
      cases e381
      replace hx381_0 := (HB.out.cell (World.block_lt_of_cell? w _ hx381_0)).trans hx381_0
      replace p381 := eq_true p381
      replace q381 := eq_true q381
      go_wp2_with (first | ((with_reducible refine zM (f := 155) rfl ?_); refine goesL_ (some 36) rfl rfl Try.func155 (by kernel_rfl) rfl #[.int .i64 x4_1, .int .i64 (rd l0 x5_1)] rfl (by (try simp only [yK, yL, yM]); first | done | rfl | (simp only [yJ, yI]; rfl)) ?_; (with_reducible refine (impl_OutputPair.calls x4_1 (rd l0 x5_1) t382 t383 _ A12.out).mono ?_); rintro e w' ⟨rfl, ⟨nd, rfl⟩⟩; refine ⟨_, rfl, ?_⟩) | ((with_reducible refine zN (N := 42) rfl ?_); refine Kd.R_lit (Kd.int .i64) _ 3 ?hg (N := 42) ?hd (xs := ([t382, t383] : List Int)) (inner := [.int .i64 t382, .int .i64 t383]) (ok := fun _ => True) (okp := fun _ => True) ?hr ?hp (fun _ hk => hk) trivial (Below.refl _ _) (Nat.le_refl _) (by simp) ?_; (case hd => rfl); (case hg => rfl); (case hr => first | (go_simp; done) | (go_simp; rfl)); (case hp => exact (Reps.one (show Kd.M (Kd.int .i64) _ _ _ t382 [.int .i64 t382] from rfl) (Reps.one (show Kd.M (Kd.int .i64) _ _ _ t383 [.int .i64 t383] from rfl) (Reps.none _ _)))); intro v385 w15 ho16 hb hg_ hnew_; clear hg_ hnew_; (first | rw [← Ny384.out] at ho16 | (simp only [Int.reduceToNat] at ho16; rw [← Ny384.out] at ho16)); have n0_ := zO (Kd.R_elder' (by (with_reducible repeat (first | apply zU | apply zW | apply zV)); exact HO_3.out) (Kd.R_base ho16) hb); have n1_ := zO (yA (Kd.R_new' ho16 (Kd.R_lt (by (with_reducible repeat (first | apply zU | apply zW | apply zV)); exact HO_3.out))) (zD (by repeat (first | exact HB.out | apply zA | apply zL | apply zB)))); have n2_ := zO (zE (by repeat (first | exact HB.out | apply zA | apply zL | apply zB)) hb); clear HO_3; clear HB; have HO_3 := n0_; have HO386 := n1_; have HB := n2_; clear n0_ n1_ n2_; clear hb ho16; obtain ⟨Ao18, co18, eo18⟩ := Kd.R_slice HO386.out; subst eo18) | ((with_reducible refine gate_builtin (b := .append) (xs := #[.tmp 39, .tmp 42]) rfl ?_); at_builtin; refine Kd.R_append_rows (Kd.int .i64) (w0 := w) w.heap.size rfl (.tmp 39) (.tmp 42) 22 3 (.int .i64 0) 8 rfl Try.underlying22 info3 rfl (by decide) (by omega) u3 x3_1 y384 _ _ _ (fun k_ => some k_ ≠ (.slice Ao18 y384.length co18 : Value).ownBlock) (fun _ => False) rfl rfl ?aO ?aR (fun _ _ h => h) (fun _ h => h.elim) ?aF ?aB ?aS ?aL ?_; (case aR => repeat (first | exact (zX HO386.out).2.2 | (with_reducible refine zR ?_ _) | (with_reducible refine zT ?_ _) | (with_reducible refine zS ?_))); (case aB => exact (by repeat (first | exact HB.out | apply zA | apply zL | apply zB))); (case aF => exact (fun k_ hk => Kd.fresh' (Kd.R_lt (by (with_reducible repeat (first | apply zU | apply zW | apply zV)); exact HO386.out)) k_ hk)); (case aO => exact (by (with_reducible repeat (first | apply zU | apply zW | apply zV)); exact Kd.R_mono HO_3.out (fun _ hk => hk.2))); (case aS => exact (zD (by repeat (first | exact HB.out | apply zA | apply zL | apply zB)))); (case aL => have := LMc13.out; omega); intro v388 w17 ho hb hg hat; rw [← Ny387.out] at ho; have n0_ := zO (Kd.R_after (ok := (fun _ => True)) (by (with_reducible repeat (first | apply zU | apply zW | apply zV)); exact HO386.out) hg hat); have n1_ := zO (hb); have n2_ := zO (ho); clear HO386; clear HB; clear HO_3; have HO386 := n0_; have HB := n1_; have HO389 := n2_; clear n0_ n1_ n2_; clear ho hb hg hat) | ((with_reducible refine zM (f := 153) rfl ?_); refine goesL_ (some 46) rfl rfl Try.func153 (by kernel_rfl) rfl #[.int .i64 x4_1, .int .i64 (rd l0 x5_1)] rfl (by (try simp only [yK, yL, yM]); first | done | rfl | (simp only [yJ, yI]; rfl)) ?_; (with_reducible refine (impl_NextState.calls x4_1 (rd l0 x5_1) t390 _ A14.out).mono ?_); rintro e w' ⟨rfl, ⟨nd, rfl⟩⟩; refine ⟨_, rfl, ?_⟩))
      go_roundg k1
      case measure => have := HK1.out; omega
      case rel => exact ⟨(y387), (t390), (wrap64 (x5_1 + 1)), (by first | rfl | (simp; done) | (simp [*]; done)), (by first | rfl | (simp; done) | (simp [*]; done)), H', ⟨by have := HK1.out; omega⟩, ⟨by (with_reducible repeat (first | apply zU | apply zW | apply zV)); exact Kd.R_mono HO389.out (fun _ hk => trivial)⟩, ⟨by repeat (first | exact HB.out | apply zA | apply zL | apply zB)⟩⟩
     ·rw [if_neg c10] at H
      have c10b0 : decide (x5_1 < (l0.length : Int)) = false := decide_eq_false c10
      clear c10
      replace H := yE.mp H
      obtain ⟨⟨t391, t392⟩, A190, H⟩ := H
      replace H : ((some (([t391, t392] : List Int) : List Int)).bind fun y393 => (if x3_1.length + y393.length < 17592186044416 then ((impl_NextState.f x4_1 0).bind fun t399 => (impl_ConvolutionalEncode.l0 k1 l0 (x3_1 ++ y393) t399 (wrap64 (x5_1 + 1)))) else (none))) = some r := H
      have A19 := zO A190
      clear A190
      obtain ⟨y393, hy393⟩ : ∃ y_ : List Int, y_ = (([t391, t392] : List Int)) := ⟨_, rfl⟩
      replace H : (if x3_1.length + y393.length < 17592186044416 then ((impl_NextState.f x4_1 0).bind fun t399 => (impl_ConvolutionalEncode.l0 k1 l0 (x3_1 ++ y393) t399 (wrap64 (x5_1 + 1)))) else (none)) = some r := by first | (rw [hy393]; exact H) | exact H
      have Ny393 := zO hy393
      clear hy393
      by_cases c20 : x3_1.length + y393.length < 17592186044416
      case neg => rw [if_neg c20] at H; exact absurd H (by simp)
      rw [if_pos c20] at H
      have LMc20 := zO c20
      clear c20
      obtain ⟨y396, hy396⟩ : ∃ y_ : List Int, y_ = (x3_1 ++ y393) := ⟨_, rfl⟩
      replace H : ((impl_NextState.f x4_1 0).bind fun t399 => (impl_ConvolutionalEncode.l0 k1 l0 y396 t399 (wrap64 (x5_1 + 1)))) = some r := by first | (rw [hy396]; exact H) | exact H
      have Ny396 := zO hy396
      clear hy396
      replace H := yE.mp H
      obtain ⟨t399, A210, H⟩ := H
      replace H : (impl_ConvolutionalEncode.l0 k1 l0 y396 t399 (wrap64 (x5_1 + 1))) = some r := H
      have A21 := zO A210
      clear A210
      have H' := zO H
      clear H
      go_wp2_with (first | ((with_reducible refine zM (f := 155) rfl ?_); refine goesL_ (some 36) rfl rfl Try.func155 (by kernel_rfl) rfl #[.int .i64 x4_1, .int .i64 0] rfl (by (try simp only [yK, yL, yM]); first | done | rfl | (simp only [yJ, yI]; rfl)) ?_; (with_reducible refine (impl_OutputPair.calls x4_1 0 t391 t392 _ A19.out).mono ?_); rintro e w' ⟨rfl, ⟨nd, rfl⟩⟩; refine ⟨_, rfl, ?_⟩) | ((with_reducible refine zN (N := 42) rfl ?_); refine Kd.R_lit (Kd.int .i64) _ 3 ?hg (N := 42) ?hd (xs := ([t391, t392] : List Int)) (inner := [.int .i64 t391, .int .i64 t392]) (ok := fun _ => True) (okp := fun _ => True) ?hr ?hp (fun _ hk => hk) trivial (Below.refl _ _) (Nat.le_refl _) (by simp) ?_; (case hd => rfl); (case hg => rfl); (case hr => first | (go_simp; done) | (go_simp; rfl)); (case hp => exact (Reps.one (show Kd.M (Kd.int .i64) _ _ _ t391 [.int .i64 t391] from rfl) (Reps.one (show Kd.M (Kd.int .i64) _ _ _ t392 [.int .i64 t392] from rfl) (Reps.none _ _)))); intro v394 w22 ho23 hb hg_ hnew_; clear hg_ hnew_; (first | rw [← Ny393.out] at ho23 | (simp only [Int.reduceToNat] at ho23; rw [← Ny393.out] at ho23)); have n0_ := zO (Kd.R_elder' (by (with_reducible repeat (first | apply zU | apply zW | apply zV)); exact HO_3.out) (Kd.R_base ho23) hb); have n1_ := zO (yA (Kd.R_new' ho23 (Kd.R_lt (by (with_reducible repeat (first | apply zU | apply zW | apply zV)); exact HO_3.out))) (zD (by repeat (first | exact HB.out | apply zA | apply zL | apply zB)))); have n2_ := zO (zE (by repeat (first | exact HB.out | apply zA | apply zL | apply zB)) hb); clear HO_3; clear HB; have HO_3 := n0_; have HO395 := n1_; have HB := n2_; clear n0_ n1_ n2_; clear hb ho23; obtain ⟨Ao25, co25, eo25⟩ := Kd.R_slice HO395.out; subst eo25) | ((with_reducible refine gate_builtin (b := .append) (xs := #[.tmp 39, .tmp 42]) rfl ?_); at_builtin; refine Kd.R_append_rows (Kd.int .i64) (w0 := w) w.heap.size rfl (.tmp 39) (.tmp 42) 22 3 (.int .i64 0) 8 rfl Try.underlying22 info3 rfl (by decide) (by omega) u3 x3_1 y393 _ _ _ (fun k_ => some k_ ≠ (.slice Ao25 y393.length co25 : Value).ownBlock) (fun _ => False) rfl rfl ?aO ?aR (fun _ _ h => h) (fun _ h => h.elim) ?aF ?aB ?aS ?aL ?_; (case aR => repeat (first | exact (zX HO395.out).2.2 | (with_reducible refine zR ?_ _) | (with_reducible refine zT ?_ _) | (with_reducible refine zS ?_))); (case aB => exact (by repeat (first | exact HB.out | apply zA | apply zL | apply zB))); (case aF => exact (fun k_ hk => Kd.fresh' (Kd.R_lt (by (with_reducible repeat (first | apply zU | apply zW | apply zV)); exact HO395.out)) k_ hk)); (case aO => exact (by (with_reducible repeat (first | apply zU | apply zW | apply zV)); exact Kd.R_mono HO_3.out (fun _ hk => hk.2))); (case aS => exact (zD (by repeat (first | exact HB.out | apply zA | apply zL | apply zB)))); (case aL => have := LMc20.out; omega); intro v397 w24 ho hb hg hat; rw [← Ny396.out] at ho; have n0_ := zO (Kd.R_after (ok := (fun _ => True)) (by (with_reducible repeat (first | apply zU | apply zW | apply zV)); exact HO395.out) hg hat); have n1_ := zO (hb); have n2_ := zO (ho); clear HO395; clear HB; clear HO_3; have HO395 := n0_; have HB := n1_; have HO398 := n2_; clear n0_ n1_ n2_; clear ho hb hg hat) | ((with_reducible refine zM (f := 153) rfl ?_); refine goesL_ (some 46) rfl rfl Try.func153 (by kernel_rfl) rfl #[.int .i64 x4_1, .int .i64 0] rfl (by (try simp only [yK, yL, yM]); first | done | rfl | (simp only [yJ, yI]; rfl)) ?_; (with_reducible refine (impl_NextState.calls x4_1 0 t399 _ A21.out).mono ?_); rintro e w' ⟨rfl, ⟨nd, rfl⟩⟩; refine ⟨_, rfl, ?_⟩))
      go_roundg k1
      case measure => have := HK1.out; omega
      case rel => exact ⟨(y396), (t399), (wrap64 (x5_1 + 1)), (by first | rfl | (simp; done) | (simp [*]; done)), (by first | rfl | (simp; done) | (simp [*]; done)), H', ⟨by have := HK1.out; omega⟩, ⟨by (with_reducible repeat (first | apply zU | apply zW | apply zV)); exact Kd.R_mono HO398.out (fun _ hk => trivial)⟩, ⟨by repeat (first | exact HB.out | apply zA | apply zL | apply zB)⟩⟩
    ·rw [if_neg c9] at H
     have c9b0 : decide (x5_1 < (wrap64 ((l0.length : Int) + 2))) = false := decide_eq_false c9
     clear c9
     obtain rfl := Option.some.inj H
     go_wp2
     go_ret
     exact ⟨_, by first | rfl | (simp [errW_none, errW_some] <;> rfl) | (simp only [← hji4]; first | rfl | (simp [errW_none, errW_some] <;> rfl)) | (simp [*, errW_none, errW_some] <;> rfl), by (with_reducible repeat (first | apply zU | apply zW | apply zV)); exact HO_3.out, by repeat (first | exact HB.out | apply zA | apply zL | apply zB)⟩
 ·replace c3 := Bool.eq_false_iff.mpr c3
  subst c3
  have H1 : (some (([] : List Int))) = some r := by rw [if_neg (show ¬ (false = true) by decide)] at H; exact H
  clear H
  have H := H1
  clear H1
  obtain ⟨y375, hy375⟩ : ∃ y_ : List Int, y_ = (([] : List Int)) := ⟨_, rfl⟩
  replace H : (some y375) = some r := by first | (rw [hy375]; exact H) | exact H
  have Ny375 := zO hy375
  clear hy375
  obtain rfl := Option.some.inj H
  go_enter Try.func118, Try.ntmps118
  go_wp2_with (first | ((with_reducible refine zM (f := 116) rfl ?_); refine goesL_ (some 10) rfl rfl Try.func116 (by kernel_rfl) rfl #[.slice A0 l0.length c0] rfl (by (try simp only [yK, yL, yM]); first | done | rfl | (simp only [yJ, yI]; rfl)) ?_; (with_reducible refine (impl_IsBitString.calls k _ _ l0 false _ ?side1 ?side2 A2.out).mono ?_); (case side1 => repeat (first | exact HR0.out | (with_reducible refine zR ?_ _) | (with_reducible refine zT ?_ _) | (with_reducible refine zS ?_))); (case side2 => exact HC0.out); rintro e w' ⟨rfl, ⟨nd, rfl⟩⟩; refine ⟨_, rfl, ?_⟩) | ((with_reducible refine zN (N := 12) rfl ?_); refine Kd.R_lit (Kd.int .i64) _ 3 ?hg (N := 12) ?hd (xs := ([] : List Int)) (inner := []) (ok := fun _ => True) (okp := fun _ => True) ?hr ?hp (fun _ hk => hk) trivial (Below.refl _ _) (Nat.le_refl _) (by simp) ?_; (case hd => rfl); (case hg => rfl); (case hr => first | (go_simp; done) | (go_simp; rfl)); (case hp => exact (Reps.none _ _)); intro v376 w26 ho27 hb hg_ hnew_; clear hg_ hnew_; (first | rw [← Ny375.out] at ho27 | (simp only [Int.reduceToNat] at ho27; rw [← Ny375.out] at ho27)); have n0_ := zO (yA ho27 (zD (by repeat (first | exact HB.out | apply zA | apply zL | apply zB)))); have n1_ := zO (zE (by repeat (first | exact HB.out | apply zA | apply zL | apply zB)) hb); clear HB; have HO377 := n0_; have HB := n1_; clear n0_ n1_; clear hb ho27))
  go_ret
  exact ⟨_, by first | rfl | (simp [errW_none, errW_some] <;> rfl) | (simp [*, errW_none, errW_some] <;> rfl), by (with_reducible repeat (first | apply zU | apply zW | apply zV)); exact HO377.out, by repeat (first | exact HB.out | apply zA | apply zL | apply zB)⟩

mutual
def impl_BytesToBits.l0 : Nat → List Int → List Int → Int → Int → Option (List Int)
 | 0, _, _, _, _ => none
 | k + 1, x3, x11, x12, x13 => if x13 < x12 then (if 0 ≤ x13 then (if x13 < (x11.length : Int) then (impl_BytesToBits.l1 k x3 (rd x11 x13) 0 x11 x12 x13) else (none)) else (none)) else (some x3)
def impl_BytesToBits.l1 : Nat → List Int → Int → Int → List Int → Int → Int → Option (List Int)
 | 0, _, _, _, _, _, _ => none
 | k + 1, x3, x5, x6, x11, x12, x13 => if x6 < 8 then (if 0 ≤ x6 then (if x3.length < 17592186044416 then (impl_BytesToBits.l1 k (x3 ++ [Go.bits .and .i64 (wrap64 (shr .u8 x5 x6)) 1]) x5 (wrap64 (x6 + 1)) x11 x12 x13) else (none)) else (none)) else (impl_BytesToBits.l0 k x3 x11 x12 (wrap64 (x13 + 1)))
end
def impl_BytesToBits.f (k : Nat) (l0 : List Int) : Option (List Int) := if 0 ≤ (wrap64 (8 * (l0.length : Int))) then (if (wrap64 (8 * (l0.length : Int)) : Int).toNat ≤ 35184372088832 then (impl_BytesToBits.l0 k (([] : List Int)) l0 (l0.length : Int) 0) else (none)) else (none)
theorem impl_BytesToBits.calls (k : Nat) (A0 : Option Addr) (c0 : Nat) (l0 : List Int) (r : List Int) (w : World) (hr0 : Kd.C (Kd.int .u8) w A0 l0.length l0) (hc0 : l0.length ≤ c0) (h : impl_BytesToBits.f k l0 = some r) :
  Calls Try.prog 133 #[.slice A0 l0.length c0] w fun e w' => ∃ v0_ : Value, e = .returned (v0_) ∧ Kd.R (Kd.int .i64) 3 w' w.heap.size (fun _ => True) v0_ r ∧ Below w.heap.size w w' := by
 have HR0 := zO hr0
 have HC0 := zO hc0
 clear hr0 hc0
 have HB := zO (Below.refl w.heap.size w)
 have H : (if 0 ≤ (wrap64 (8 * (l0.length : Int))) then (if (wrap64 (8 * (l0.length : Int)) : Int).toNat ≤ 35184372088832 then (impl_BytesToBits.l0 k (([] : List Int)) l0 (l0.length : Int) 0) else (none)) else (none)) = some r := h
 clear h
 obtain ⟨ji2, hji2⟩ : ∃ j_ : Int, (wrap64 (8 * (l0.length : Int))) = j_ := ⟨_, rfl⟩
 replace H : (if 0 ≤ (ji2) then (if (ji2 : Int).toNat ≤ 35184372088832 then (impl_BytesToBits.l0 k (([] : List Int)) l0 (l0.length : Int) 0) else (none)) else (none)) = some r := by first | (rw [hji2] at H; exact H) | (simp only [hji2] at H ⊢; exact H)
 have hji2w : (IntKind.i64.wrap (8 * (l0.length : Int))) = ji2 := (i64_w _).trans hji2
 by_cases c3 : 0 ≤ (ji2)
 case neg => rw [if_neg c3] at H; exact absurd H (by simp)
 rw [if_pos c3] at H
 have c3b0 := eq_true c3
 have c3b1 : decide (0 ≤ (ji2)) = true := decide_eq_true c3
 clear c3
 by_cases c4 : (ji2 : Int).toNat ≤ 35184372088832
 case neg => rw [if_neg c4] at H; exact absurd H (by simp)
 rw [if_pos c4] at H
 have c4b0 := eq_true c4
 have c4b1 : decide ((ji2 : Int).toNat ≤ 35184372088832) = true := decide_eq_true c4
 clear c4
 obtain ⟨y400, hy400⟩ : ∃ y_ : List Int, y_ = (([] : List Int)) := ⟨_, rfl⟩
 replace H : (impl_BytesToBits.l0 k y400 l0 (l0.length : Int) 0) = some r := by first | (rw [hy400]; exact H) | exact H
 have Ny400 := zO hy400
 clear hy400
 have H' := zO H
 clear H
 go_enter Try.func133, Try.ntmps133
 go_wp2_with (first | ((with_reducible refine zN (N := 10) rfl ?_); refine Kd.R_make0 .i64 _ 3 rfl (N := 10) rfl 22 _ _ rfl ji2 rfl rfl Try.underlying22 (.int .i64 0) 8 info3 (by decide) (ok := fun _ => True) trivial (yO (by assumption)) (Nat.le_trans (Nat.mul_le_mul_right _ (yO (by assumption) : (ji2 : Int).toNat ≤ 35184372088832)) (by omega)) (Below.refl _ _) (Nat.le_refl _) ?_; intro v401 w5 ho6 hb hg_ hnew_; clear hg_ hnew_; (first | rw [← Ny400.out] at ho6 | (simp only [Int.reduceToNat] at ho6; rw [← Ny400.out] at ho6)); have n0_ := zO (yA ho6 (zD (by repeat (first | exact HB.out | apply zA | apply zL | apply zB)))); have n1_ := zO (zE (by repeat (first | exact HB.out | apply zA | apply zL | apply zB)) hb); clear HB; have HO402 := n0_; have HB := n1_; clear n0_ n1_; clear hb ho6))
 go_loopg [3, 13] k (fun kq v3 v13 w' => ∃ (x3_1 : List Int) (x13_1 : Int), v13 = .int .i64 x13_1 ∧ Aside0 (impl_BytesToBits.l0 kq x3_1 l0 (l0.length : Int) x13_1 = some r) ∧ Aside0 (kq ≤ k) ∧ Aside0 (Kd.R (Kd.int .i64) 3 w' w.heap.size (fun _ => True) v3 x3_1) ∧ Aside0 (Below w.heap.size w w'))
 case atStart => exact ⟨(y400), (0), (by first | rfl | (simp; done) | (simp [*]; done)), H', ⟨Nat.le_refl _⟩, ⟨by (with_reducible repeat (first | apply zU | apply zW | apply zV)); exact HO402.out⟩, ⟨by repeat (first | exact HB.out | apply zA | apply zL | apply zB)⟩⟩
 case round =>
  clear H'
  try clear c1
  try clear p2
  try clear c3
  try clear c3b0
  try clear c3b1
  try clear c4
  try clear c4b0
  try clear c4b1
  try clear p6
  obtain ⟨x3_1, x13_1, rfl, HA, HK1, HO_3, HB⟩ := hrel
  cases gk with
  | zero => exact absurd HA.out (by simp [impl_BytesToBits.l0])
  | succ k1 =>
   have H := HA.out
   clear HA
   simp only [impl_BytesToBits.l0] at H
   by_cases c7 : x13_1 < (l0.length : Int)
   ·rw [if_pos c7] at H
    have c7b0 : decide (x13_1 < (l0.length : Int)) = true := decide_eq_true c7
    clear c7
    by_cases c8 : 0 ≤ x13_1
    case neg => rw [if_neg c8] at H; exact absurd H (by simp)
    rw [if_pos c8] at H
    have c8b0 : decide (0 ≤ x13_1) = true := decide_eq_true c8
    clear c8
    by_cases c9 : x13_1 < (l0.length : Int)
    case neg => rw [if_neg c9] at H; exact absurd H (by simp)
    rw [if_pos c9] at H
    have c9b0 : decide (x13_1 < (l0.length : Int)) = true := decide_eq_true c9
    clear c9
    have H' := zO H
    clear H
    have p403 : 0 ≤ (x13_1 : Int) := yO (by assumption)
    have q403 : x13_1 < (l0.length : Int) := yO (by assumption)
    obtain ⟨ad403, e403, hx403_0⟩ := Kd.at_int HR0.out x13_1 p403 q403
    cases e403
    replace hx403_0 := (HB.out.cell (World.block_lt_of_cell? w _ hx403_0)).trans hx403_0
    replace p403 := eq_true p403
    replace q403 := eq_true q403
    go_wp2
    go_loopg [3, 6] k1 (fun kq v3 v6 w' => ∃ (x3_2 : List Int) (x6_2 : Int), v6 = .int .i64 x6_2 ∧ Aside0 (impl_BytesToBits.l1 kq x3_2 (rd l0 x13_1) x6_2 l0 (l0.length : Int) x13_1 = some r) ∧ Aside0 (kq ≤ k1) ∧ Aside0 (Kd.R (Kd.int .i64) 3 w' w.heap.size (fun _ => True) v3 x3_2) ∧ Aside0 (Below w.heap.size w w'))
    case atStart => exact ⟨(x3_1), (0), (by first | rfl | (simp; done) | (simp [*]; done)), H', ⟨Nat.le_refl _⟩, ⟨by (with_reducible repeat (first | apply zU | apply zW | apply zV)); exact HO_3.out⟩, ⟨by repeat (first | exact HB.out | apply zA | apply zL | apply zB)⟩⟩
    case round =>
     clear H'
     try clear c1
     try clear p2
     try clear c3
     try clear c3b0
     try clear c3b1
     try clear c4
     try clear c4b0
     try clear c4b1
     try clear p4
     try clear q4
     try clear hx4
     try clear p6
     try clear c7
     try clear c7b0
     try clear c8
     try clear c8b0
     try clear c9
     try clear c9b0
     try clear hx403_0
     try clear p2
     try clear p403
     try clear p6
     try clear q403
     obtain ⟨x3_2, x6_2, rfl, HA, HK2, HO_3, HB⟩ := hrel
     cases gk with
     | zero => exact absurd HA.out (by simp [impl_BytesToBits.l1])
     | succ k2 =>
      have H := HA.out
      clear HA
      simp only [impl_BytesToBits.l1] at H
      by_cases c10 : x6_2 < 8
      ·rw [if_pos c10] at H
       have c10b0 : decide (x6_2 < 8) = true := decide_eq_true c10
       clear c10
       by_cases c11 : 0 ≤ x6_2
       case neg => rw [if_neg c11] at H; exact absurd H (by simp)
       rw [if_pos c11] at H
       have c11b0 := eq_true c11
       have c11b1 : decide (0 ≤ x6_2) = true := decide_eq_true c11
       clear c11
       obtain ⟨ji12, hji12⟩ : ∃ j_ : Int, (shr .u8 (rd l0 x13_1) x6_2) = j_ := ⟨_, rfl⟩
       replace H : (if x3_2.length < 17592186044416 then (impl_BytesToBits.l1 k2 (x3_2 ++ [Go.bits .and .i64 (wrap64 (ji12)) 1]) (rd l0 x13_1) (wrap64 (x6_2 + 1)) l0 (l0.length : Int) x13_1) else (none)) = some r := by first | (rw [hji12] at H; exact H) | (simp only [hji12] at H ⊢; exact H)
       have hji12_ : ((rd l0 x13_1) / 2 ^ min x6_2.toNat 8) = ji12 := hji12
       have hji12z : x6_2 ≤ 8 → ((rd l0 x13_1) / 2 ^ x6_2.toNat) = ji12 := shr_small hji12
       by_cases c13 : x3_2.length < 17592186044416
       case neg => rw [if_neg c13] at H; exact absurd H (by simp)
       rw [if_pos c13] at H
       have LMc13 := zO c13
       clear c13
       obtain ⟨y404, hy404⟩ : ∃ y_ : List Int, y_ = (x3_2 ++ [Go.bits .and .i64 (wrap64 (ji12)) 1]) := ⟨_, rfl⟩
       replace H : (impl_BytesToBits.l1 k2 y404 (rd l0 x13_1) (wrap64 (x6_2 + 1)) l0 (l0.length : Int) x13_1) = some r := by first | (rw [hy404]; exact H) | exact H
       have Ny404 := zO hy404
       clear hy404
       have H' := zO H
       clear H
       go_wp2_with (first | ((with_reducible refine gate_builtin (b := .append) (xs := #[.tmp 21, .tmp 27]) rfl ?_); at_builtin; refine Kd.R_append (Kd.int .i64) (w0 := w) w.heap.size rfl (.tmp 21) (.tmp 27) 22 3 (.int .i64 0) 8 rfl Try.underlying22 info3 rfl (by decide) (by omega) u3 x3_2 (Go.bits .and .i64 (wrap64 (ji12)) 1) [.int .i64 (Go.bits .and .i64 (wrap64 (ji12)) 1)] (fun _ => True) (fun _ => False) rfl rfl ?aP (fun _ hk => hk.elim) ?aF ?aO ?aB ?aS ?aL ?_; (case aP => exact rfl); (case aB => exact (by repeat (first | exact HB.out | apply zA | apply zL | apply zB))); (case aF => exact (fun _ _ => trivial)); (case aO => exact (by (with_reducible repeat (first | apply zU | apply zW | apply zV)); exact HO_3.out)); (case aS => exact (zD (by repeat (first | exact HB.out | apply zA | apply zL | apply zB)))); (case aL => have := LMc13.out; omega); intro v405 w14 ho hb hg hat; rw [← Ny404.out] at ho; have n0_ := zO (hb); have n1_ := zO (ho); clear HB; clear HO_3; have HB := n0_; have HO406 := n1_; clear n0_ n1_; clear ho hb hg hat))
       go_roundg k2
       case measure => have := HK1.out; have := HK2.out; omega
       case rel => exact ⟨(y404), (wrap64 (x6_2 + 1)), (by first | rfl | (simp; done) | (simp [*]; done)), H', ⟨by have := HK1.out; have := HK2.out; omega⟩, ⟨by (with_reducible repeat (first | apply zU | apply zW | apply zV)); exact HO406.out⟩, ⟨by repeat (first | exact HB.out | apply zA | apply zL | apply zB)⟩⟩
      ·rw [if_neg c10] at H
       have c10b0 : decide (x6_2 < 8) = false := decide_eq_false c10
       clear c10
       have H' := zO H
       clear H
       go_wp2
       go_roundg k2
       case measure => have := HK1.out; have := HK2.out; omega
       case rel => exact ⟨(x3_2), (wrap64 (x13_1 + 1)), (by first | rfl | (simp; done) | (simp [*]; done)), H', ⟨by have := HK1.out; have := HK2.out; omega⟩, ⟨by (with_reducible repeat (first | apply zU | apply zW | apply zV)); exact HO_3.out⟩, ⟨by repeat (first | exact HB.out | apply zA | apply zL | apply zB)⟩⟩
   ·rw [if_neg c7] at H
    have c7b0 : decide (x13_1 < (l0.length : Int)) = false := decide_eq_false c7
    clear c7
    obtain rfl := Option.some.inj H
    go_wp2
    go_ret
    exact ⟨_, by first | rfl | (simp [errW_none, errW_some] <;> rfl) | (simp only [← hji2]; first | rfl | (simp [errW_none, errW_some] <;> rfl)) | (simp [*, errW_none, errW_some] <;> rfl), by (with_reducible repeat (first | apply zU | apply zW | apply zV)); exact HO_3.out, by repeat (first | exact HB.out | apply zA | apply zL | apply zB)⟩

def impl_Puncture.l0 : Nat → List Int → List Int → Int → Int → Option (List Int)
 | 0, _, _, _, _ => none
 | k + 1, x3, x7, x8, x9 => if x9 < x8 then (if 0 ≤ x9 then (if x9 < (x7.length : Int) then (if (Int.tmod x9 4) = 3 then (impl_Puncture.l0 k x3 x7 x8 (wrap64 (x9 + 1))) else (if x3.length < 17592186044416 then (impl_Puncture.l0 k (x3 ++ [rd x7 x9]) x7 x8 (wrap64 (x9 + 1))) else (none))) else (none)) else (none)) else (some x3)
def impl_Puncture.f (k : Nat) (l0 : List Int) : Option (List Int) := impl_Puncture.l0 k (([] : List Int)) l0 (l0.length : Int) 0
theorem impl_Puncture.calls (k : Nat) (A0 : Option Addr) (c0 : Nat) (l0 : List Int) (r : List Int) (w : World) (hr0 : Kd.C (Kd.int .i64) w A0 l0.length l0) (hc0 : l0.length ≤ c0) (h : impl_Puncture.f k l0 = some r) :
  Calls Try.prog 134 #[.slice A0 l0.length c0] w fun e w' => ∃ v0_ : Value, e = .returned (v0_) ∧ Kd.R (Kd.int .i64) 3 w' w.heap.size (fun _ => True) v0_ r ∧ Below w.heap.size w w' := by
 have HR0 := zO hr0
 have HC0 := zO hc0
 clear hr0 hc0
 have HB := zO (Below.refl w.heap.size w)
 have H : (impl_Puncture.l0 k (([] : List Int)) l0 (l0.length : Int) 0) = some r := h
 clear h
 obtain ⟨y407, hy407⟩ : ∃ y_ : List Int, y_ = (([] : List Int)) := ⟨_, rfl⟩
 replace H : (impl_Puncture.l0 k y407 l0 (l0.length : Int) 0) = some r := by first | (rw [hy407]; exact H) | exact H
 have Ny407 := zO hy407
 clear hy407
 have H' := zO H
 clear H
 go_enter Try.func134, Try.ntmps134
 go_wp2_with (first | ((with_reducible refine zN (N := 6) rfl ?_); refine Kd.R_lit (Kd.int .i64) _ 3 ?hg (N := 6) ?hd (xs := ([] : List Int)) (inner := []) (ok := fun _ => True) (okp := fun _ => True) ?hr ?hp (fun _ hk => hk) trivial (Below.refl _ _) (Nat.le_refl _) (by simp) ?_; (case hd => rfl); (case hg => rfl); (case hr => first | (go_simp; done) | (go_simp; rfl)); (case hp => exact (Reps.none _ _)); intro v408 w2 ho3 hb hg_ hnew_; clear hg_ hnew_; (first | rw [← Ny407.out] at ho3 | (simp only [Int.reduceToNat] at ho3; rw [← Ny407.out] at ho3)); have n0_ := zO (yA ho3 (zD (by repeat (first | exact HB.out | apply zA | apply zL | apply zB)))); have n1_ := zO (zE (by repeat (first | exact HB.out | apply zA | apply zL | apply zB)) hb); clear HB; have HO409 := n0_; have HB := n1_; clear n0_ n1_; clear hb ho3))
 go_loopg [3, 9] k (fun kq v3 v9 w' => ∃ (x3_1 : List Int) (x9_1 : Int), v9 = .int .i64 x9_1 ∧ Aside0 (impl_Puncture.l0 kq x3_1 l0 (l0.length : Int) x9_1 = some r) ∧ Aside0 (kq ≤ k) ∧ Aside0 (Kd.R (Kd.int .i64) 3 w' w.heap.size (fun _ => True) v3 x3_1) ∧ Aside0 (Below w.heap.size w w'))
 case atStart => exact ⟨(y407), (0), (by first | rfl | (simp; done) | (simp [*]; done)), H', ⟨Nat.le_refl _⟩, ⟨by (with_reducible repeat (first | apply zU | apply zW | apply zV)); exact HO409.out⟩, ⟨by repeat (first | exact HB.out | apply zA | apply zL | apply zB)⟩⟩
 case round =>
  clear H'
  try clear c1
  try clear p2
  obtain ⟨x3_1, x9_1, rfl, HA, HK1, HO_3, HB⟩ := hrel
  cases gk with
  | zero => exact absurd HA.out (by simp [impl_Puncture.l0])
  | succ k1 =>
   have H := HA.out
   clear HA
   simp only [impl_Puncture.l0] at H
   by_cases c4 : x9_1 < (l0.length : Int)
   ·rw [if_pos c4] at H
    have c4b0 : decide (x9_1 < (l0.length : Int)) = true := decide_eq_true c4
    clear c4
    by_cases c5 : 0 ≤ x9_1
    case neg => rw [if_neg c5] at H; exact absurd H (by simp)
    rw [if_pos c5] at H
    have c5b0 : decide (0 ≤ x9_1) = true := decide_eq_true c5
    clear c5
    by_cases c6 : x9_1 < (l0.length : Int)
    case neg => rw [if_neg c6] at H; exact absurd H (by simp)
    rw [if_pos c6] at H
    have c6b0 : decide (x9_1 < (l0.length : Int)) = true := decide_eq_true c6
    clear c6
    by_cases c7 : (Int.tmod x9_1 4) = 3
    ·rw [if_pos c7] at H
     have c7b0 : ((Int.tmod x9_1 4) == 3) = true := beq_iff_eq.mpr c7
     have c7b1 : ((Int.tmod x9_1 4) != 3) = false := bne_eq_false_iff_eq.mpr c7
     clear c7
     have H' := zO H
     clear H
     have p410 : 0 ≤ (x9_1 : Int) := yO (by assumption)
     have q410 : x9_1 < (l0.length : Int) := yO (by assumption)
     obtain ⟨ad410, e410, hx410_0⟩ := Kd.at_int HR0.out x9_1 p410 q410
     cases e410
     replace hx410_0 := (HB.out.cell (World.block_lt_of_cell? w _ hx410_0)).trans hx410_0
     replace p410 := eq_true p410
     replace q410 := eq_true q410
     go_wp2
     go_roundg k1
     case measure => have := HK1.out; omega
     case rel => exact ⟨(x3_1), (wrap64 (x9_1 + 1)), (by first | rfl | (simp; done) | (simp [*]; done)), H', ⟨by have := HK1.out; omega⟩, ⟨by (with_reducible repeat (first | apply zU | apply zW | apply zV)); exact HO_3.out⟩, ⟨by repeat (first | exact HB.out | apply zA | apply zL | apply zB)⟩⟩
    ·rw [if_neg c7] at H
     have c7b0 : ((Int.tmod x9_1 4) == 3) = false := beq_eq_false_iff_ne.mpr c7
     have c7b1 : ((Int.tmod x9_1 4) != 3) = true := bne_iff_ne.mpr c7
     by_cases c8 : x3_1.length < 17592186044416
     case neg => rw [if_neg c8] at H; exact absurd H (by simp)
     rw [if_pos c8] at H
     have LMc8 := zO c8
     clear c8
     obtain ⟨y411, hy411⟩ : ∃ y_ : List Int, y_ = (x3_1 ++ [rd l0 x9_1]) := ⟨_, rfl⟩
     replace H : (impl_Puncture.l0 k1 y411 l0 (l0.length : Int) (wrap64 (x9_1 + 1))) = some r := by first | (rw [hy411]; exact H) | exact H
     have Ny411 := zO hy411
     clear hy411
     have H' := zO H
     clear H
     have p410 : 0 ≤ (x9_1 : Int) := yO (by assumption)
     have q410 : x9_1 < (l0.length : Int) := yO (by assumption)
     obtain ⟨ad410, e410, hx410_0⟩ := Kd.at_int HR0.out x9_1 p410 q410
     cases e410
     replace hx410_0 := (HB.out.cell (World.block_lt_of_cell? w _ hx410_0)).trans hx410_0
     replace p410 := eq_true p410
     replace q410 := eq_true q410
     go_wp2_with (first | ((with_reducible refine gate_builtin (b := .append) (xs := #[.tmp 17, .tmp 19]) rfl ?_); at_builtin; refine Kd.R_append (Kd.int .i64) (w0 := w) w.heap.size rfl (.tmp 17) (.tmp 19) 22 3 (.int .i64 0) 8 rfl Try.underlying22 info3 rfl (by decide) (by omega) u3 x3_1 (rd l0 x9_1) [.int .i64 (rd l0 x9_1)] (fun _ => True) (fun _ => False) rfl rfl ?aP (fun _ hk => hk.elim) ?aF ?aO ?aB ?aS ?aL ?_; (case aP => exact rfl); (case aB => exact (by repeat (first | exact HB.out | apply zA | apply zL | apply zB))); (case aF => exact (fun _ _ => trivial)); (case aO => exact (by (with_reducible repeat (first | apply zU | apply zW | apply zV)); exact HO_3.out)); (case aS => exact (zD (by repeat (first | exact HB.out | apply zA | apply zL | apply zB)))); (case aL => have := LMc8.out; omega); intro v412 w9 ho hb hg hat; rw [← Ny411.out] at ho; have n0_ := zO (hb); have n1_ := zO (ho); clear HB; clear HO_3; have HB := n0_; have HO413 := n1_; clear n0_ n1_; clear ho hb hg hat))
     go_roundg k1
     case measure => have := HK1.out; omega
     case rel => exact ⟨(y411), (wrap64 (x9_1 + 1)), (by first | rfl | (simp; done) | (simp [*]; done)), H', ⟨by have := HK1.out; omega⟩, ⟨by (with_reducible repeat (first | apply zU | apply zW | apply zV)); exact HO413.out⟩, ⟨by repeat (first | exact HB.out | apply zA | apply zL | apply zB)⟩⟩
   ·rw [if_neg c4] at H
    have c4b0 : decide (x9_1 < (l0.length : Int)) = false := decide_eq_false c4
    clear c4
    obtain rfl := Option.some.inj H
    go_wp2
    go_ret
    exact ⟨_, by first | rfl | (simp [errW_none, errW_some] <;> rfl) | (simp [*, errW_none, errW_some] <;> rfl), by (with_reducible repeat (first | apply zU | apply zW | apply zV)); exact HO_3.out, by repeat (first | exact HB.out | apply zA | apply zL | apply zB)⟩

end Go.Proofs.Ytldbmljooafkcaa.PFnPhysicalFrames
