/- Contracts of Go functions. Conditions: the arguments read as the Lean function's. Written by print2.py, shrink.py (this session's). -/
import Derived.Test.YtldbmljooafkcaaPFnExactReceiveFramex0
import Derived.Test.YtldbmljooafkcaaPFnExactReceiveFramex3
import Derived.Test.YtldbmljooafkcaaPFnExactReceiveFramex7
import Derived.Test.YtldbmljooafkcaaPFnExactReceiveFramex8
import Derived.Test.YtldbmljooafkcaaPFnExactReceiveFramex9
namespace Go.Proofs.Ytldbmljooafkcaa.PFnExactReceiveFrame
open Go.RowKit Go.Proofs.YtldbmljooafkcaaW.PrintWords Go.Proofs.YtldbmljooafkcaaW.PrintLast Go.Proofs.YtldbmljooafkcaaW.PrintMore
open Go.Proofs.YtldbmljooafkcaaW.PrintWords renaming below_alloc → zA, below_drew1 → zB, below_set → zC, below_size → zD, below_step → zE, blk_alloc → zF, blk_below → zG, blk_cell → zH, blk_drew → zI, blk_drewN → zJ, blk_frozen → zK, pw_below_drewN → zL, gate_callee → zM, gate_dst → zN
open Go.Proofs.YtldbmljooafkcaaW.PrintWords.Aside0 renaming mk → zO
open Go.Proofs.YtldbmljooafkcaaW.PrintWords.Drawn0 renaming refl → zP, step → zQ
open Go.Proofs.YtldbmljooafkcaaW.PrintWords.Kd renaming C_alloc → zR, C_drew → zS, C_drewN → zT, R_alloc → zU, R_drew → zV, R_drewN → zW, R_reads' → zX, R_below → zY, R_far → zZ, R_lower → yA
open Option renaming bind_eq_some_iff → yE
open List renaming setIfInBounds_toArray → yF, set_cons_zero → yG, set_cons_succ → yH, length_take → yI, length_drop → yJ, map_toArray → yK, map_cons → yL, map_nil → yM
set_option maxHeartbeats 8000000
set_option maxRecDepth 100000
attribute [local go_sem] max2_int min2_int max_two min_two max_three min_three max_four min_four
set_option linter.unusedVariables false
set_option linter.unusedSimpArgs false

mutual
def spec_ReceiveFrame.j0 : Nat → List Int → Bool → Int → Int → Int → Option (Int × Int × Int × List Int × Int)
 | 0, _, _, _, _, _ => none
 | k + 1, x0, x34, x301000, x301001, x301002 => if x34 = true then (some (0, 0, 0, (([] : List Int)), 1)) else (if 54 ≤ (x0.length : Int) then ((spec_Deinterleave.f k (x0.drop 54) 8).bind fun t306 => (if x301000 = 2 then ((spec_EncodedLength.f (wrap64 (8 * (wrap64 (x301001 + 2))))).bind fun t309 => ((spec_Depuncture.f k t306 t309).bind fun t310 => (spec_ReceiveFrame.j1 k t310 x301000 x301001 x301002))) else (spec_ReceiveFrame.j1 k t306 x301000 x301001 x301002))) else (none))
def spec_ReceiveFrame.j1 : Nat → List Int → Int → Int → Int → Option (Int × Int × Int × List Int × Int)
 | 0, _, _, _, _ => none
 | k + 1, x7, x301000, x301001, x301002 => (spec_ViterbiDecode.f k x7).bind fun bt313 => ((spec_Scramble.f k x301002 bt313.1).bind fun t317 => ((spec_BitsToBytes.f k t317).bind fun bt320 => (if bt313.2 < 0 then (spec_ReceiveFrame.j2 k bt320.1 true x301000 x301001 x301002) else (spec_ReceiveFrame.j2 k bt320.1 (!bt320.2) x301000 x301001 x301002))))
def spec_ReceiveFrame.j2 : Nat → List Int → Bool → Int → Int → Int → Option (Int × Int × Int × List Int × Int)
 | 0, _, _, _, _, _ => none
 | k + 1, x10, x68, x301000, x301001, x301002 => if x68 = true then (some (x301000, x301001, x301002, (([] : List Int)), 2)) else ((spec_CheckCrc.f k x10).bind fun bt327 => (if bt327.2 = true then (some (x301000, x301001, x301002, bt327.1, 0)) else (some (x301000, x301001, x301002, (([] : List Int)), 2))))
end
def spec_ReceiveFrame.f (k : Nat) (l0 : List Int) : Option (Int × Int × Int × List Int × Int) := if (l0.length : Int) < 54 then (some (0, 0, 0, (([] : List Int)), 1)) else (if 54 ≤ (l0.length : Int) then ((spec_DecodeHeader.f k (l0.take 54)).bind fun bt296 => (if bt296.2.2.2 = true then ((spec_PayloadSymbols.f bt296.1 bt296.2.1 bt296.2.2.1).bind fun t301 => (spec_ReceiveFrame.j0 k l0 ((wrap64 ((l0.length : Int) - 54)) != t301) bt296.1 bt296.2.1 bt296.2.2.1)) else (spec_ReceiveFrame.j0 k l0 true bt296.1 bt296.2.1 bt296.2.2.1))) else (none))
theorem spec_ReceiveFrame.calls (k : Nat) (A0 : Option Addr) (c0 : Nat) (l0 : List Int) (r1 : Int) (r2 : Int) (r3 : Int) (r4 : List Int) (r5 : Int) (w : World) (hr0 : Kd.C (Kd.int .i64) w A0 l0.length l0) (hc0 : l0.length ≤ c0) (h : spec_ReceiveFrame.f k l0 = some (r1, r2, r3, r4, r5)) :
  Calls Try.prog 59 #[.slice A0 l0.length c0] w fun e w' => ∃ v3_ : Value, e = .returned (.tuple #[.agg #[.int .i64 r1, .int .i64 r2, .int .i64 r3], v3_, .int .i64 r5]) ∧ Kd.R (Kd.int .u8) 5 w' w.heap.size (fun _ => True) v3_ r4 ∧ Below w.heap.size w w' := by
 have hu24 := Try.underlying24
 have HR0 := zO hr0
 have HC0 := zO hc0
 clear hr0 hc0
 have HB := zO (Below.refl w.heap.size w)
 have H : (if (l0.length : Int) < 54 then (some (0, 0, 0, (([] : List Int)), 1)) else (if 54 ≤ (l0.length : Int) then ((spec_DecodeHeader.f k (l0.take 54)).bind fun bt296 => (if bt296.2.2.2 = true then ((spec_PayloadSymbols.f bt296.1 bt296.2.1 bt296.2.2.1).bind fun t301 => (spec_ReceiveFrame.j0 k l0 ((wrap64 ((l0.length : Int) - 54)) != t301) bt296.1 bt296.2.1 bt296.2.2.1)) else (spec_ReceiveFrame.j0 k l0 true bt296.1 bt296.2.1 bt296.2.2.1))) else (none))) = some (r1, r2, r3, r4, r5) := h
 clear h
 by_cases c2 : (l0.length : Int) < 54
 ·rw [if_pos c2] at H
  have c2b0 : decide ((l0.length : Int) < 54) = true := decide_eq_true c2
  have c2b1 : decide (l0.length < 54) = true := decide_eq_true (by omega)
  clear c2
  obtain ⟨y292, hy292⟩ : ∃ y_ : List Int, y_ = (([] : List Int)) := ⟨_, rfl⟩
  replace H : (some (0, 0, 0, y292, 1)) = some (r1, r2, r3, r4, r5) := by first | (rw [hy292]; exact H) | exact H
  have Ny292 := zO hy292
  clear hy292
  simp only [Option.some.injEq, Prod.mk.injEq] at H
  obtain ⟨rfl, rfl, rfl, rfl, rfl⟩ := H
  go_enter Try.func59, Try.ntmps59
  go_wp2_with (first | ((with_reducible refine zN (N := 2) rfl ?_); (try (refine gate_guard (by rfl) ?_; dsimp only)); refine box_event ?hg (N := 2) ?hd (cs := #[.int .i64 0, .int .i64 0, .int .i64 0]) (t := 24) ?hr ?_; (case hd => rfl); (case hg => rfl); (case hr => first | (go_simp; done) | (go_simp; rfl)); intro gb291 hg w3 hbox hb; have n0_ := zO (zE (by repeat (first | exact HB.out | apply zA | apply zL | apply zB)) hb); have n1_ := zO (hbox); have n2_ := zO ((by rw [hg]; exact (zD (by repeat (first | exact HB.out | apply zA | apply zL | apply zB))) : w.heap.size ≤ gb291)); have n3_ := zO ((by rw [hg]; exact (zD (by repeat (first | exact HB.out | apply zA | apply zL | apply zB))) : w.heap.size ≤ gb291)); clear HB; have HB := n0_; have BK291 := n1_; have GW291 := n2_; have GE291 := n3_; clear n0_ n1_ n2_ n3_; clear hb hbox hg) | ((with_reducible refine zN (N := 18) rfl ?_); (try (refine gate_guard (by rfl) ?_; dsimp only)); refine Kd.R_lit (Kd.int .u8) _ 5 ?hg (N := 18) ?hd (xs := ([] : List Int)) (inner := []) (ok := fun _ => True) (okp := fun _ => True) ?hr ?hp (fun _ hk => hk) trivial (Below.refl _ _) (Nat.le_refl _) (by simp) ?_; (case hd => rfl); (case hg => rfl); (case hr => first | (go_simp; done) | (go_simp; rfl)); (case hp => exact (Reps.none _ _)); intro v293 w4 ho5 hb hg_ hnew_; clear hg_ hnew_; (first | rw [← Ny292.out] at ho5 | (simp only [Int.reduceToNat] at ho5; rw [← Ny292.out] at ho5)); have n0_ := zO (yA ho5 (zD (by repeat (first | (with_reducible first | exact HB.out | apply zA | apply zL | apply zB | refine zC ?_ GE291.out) | exact HB.out)))); have n1_ := zO (zG (g := gb291) (o := .cells #[.int .i64 0, .int .i64 0, .int .i64 0] 24 (0, 0)) (by (with_reducible repeat (first | refine zJ ?_ _ | refine zI ?_ | refine zF ?_ _)); exact BK291.out) hb); have n2_ := zO (zE (by repeat (first | (with_reducible first | exact HB.out | apply zA | apply zL | apply zB | refine zC ?_ GE291.out) | exact HB.out)) hb); clear BK291; clear HB; have HO294 := n0_; have BK291 := n1_; have HB := n2_; clear n0_ n1_ n2_; clear hb ho5; have hcz6_0 : w4.cell? ⟨gb291, 0, none⟩ = some (.int .i64 0) := (zH BK291.out 0).trans rfl; have hcz6_1 : w4.cell? ⟨gb291, 1, none⟩ = some (.int .i64 0) := (zH BK291.out 1).trans rfl; have hcz6_2 : w4.cell? ⟨gb291, 2, none⟩ = some (.int .i64 0) := (zH BK291.out 2).trans rfl; have hfz6_0 := zK BK291.out 0; have hfz6_1 := zK BK291.out 1; have hfz6_2 := zK BK291.out 2))
  refine bodyPost_ret (results_ctt rfl _ _ gb291 24 #[.int .i64 0, .int .i64 0, .int .i64 0] (0, 0) _ rfl (by (with_reducible repeat (first | refine zJ ?_ _ | refine zI ?_ | refine zF ?_ _)); refine blk_put (cs := #[.int .i64 0, .int .i64 0, .int .i64 0]) ?_ 2 _ rfl; (with_reducible repeat (first | refine zJ ?_ _ | refine zI ?_ | refine zF ?_ _)); refine blk_put (cs := #[.int .i64 0, .int .i64 0, .int .i64 0]) ?_ 1 _ rfl; (with_reducible repeat (first | refine zJ ?_ _ | refine zI ?_ | refine zF ?_ _)); refine blk_put (cs := #[.int .i64 0, .int .i64 0, .int .i64 0]) ?_ 0 _ rfl; (with_reducible repeat (first | refine zJ ?_ _ | refine zI ?_ | refine zF ?_ _)); exact BK291.out) Try.underlying24 rfl (by kernel_rfl)) rfl ?_
  exact ⟨_, by first | rfl | (simp [errW_none, errW_some] <;> rfl) | (simp [*, errW_none, errW_some] <;> rfl), by (with_reducible repeat (first | apply zU | apply zW | apply zV)); exact Kd.R_mono (zZ (p := ⟨gb291, 2, none⟩) (zZ (p := ⟨gb291, 1, none⟩) (zZ (p := ⟨gb291, 0, none⟩) (Kd.R_types HO294.out BK291.out (by decide)) (fun _ hk => hk.2) (.int .i64 0)) (fun _ hk => hk.2) (.int .i64 0)) (fun _ hk => hk.2) (.int .i64 0)) (fun _ hk => trivial), by repeat (first | (with_reducible first | exact HB.out | apply zA | apply zL | apply zB | refine zC ?_ GE291.out) | exact HB.out)⟩
 ·rw [if_neg c2] at H
  have c2b0 : decide ((l0.length : Int) < 54) = false := decide_eq_false c2
  have c2b1 : decide (l0.length < 54) = false := decide_eq_false (by omega)
  clear c2
  by_cases c7 : 54 ≤ (l0.length : Int)
  case neg => rw [if_neg c7] at H; exact absurd H (by simp)
  rw [if_pos c7] at H
  have c7b0 := eq_true c7
  have c7b1 : decide (54 ≤ (l0.length : Int)) = true := decide_eq_true c7
  clear c7
  replace H := yE.mp H
  obtain ⟨⟨t296, t297, t298, t299⟩, A80, H⟩ := H
  replace H : (if t299 = true then ((spec_PayloadSymbols.f t296 t297 t298).bind fun t301 => (spec_ReceiveFrame.j0 k l0 ((wrap64 ((l0.length : Int) - 54)) != t301) t296 t297 t298)) else (spec_ReceiveFrame.j0 k l0 true t296 t297 t298)) = some (r1, r2, r3, r4, r5) := H
  have A8 := zO A80
  clear A80
  have HC9 := zO H
  clear H
  go_enter Try.func59, Try.ntmps59
  go_upto_region 4 with (first | ((with_reducible refine zN (N := 2) rfl ?_); (try (refine gate_guard (by rfl) ?_; dsimp only)); refine box_event ?hg (N := 2) ?hd (cs := #[.int .i64 0, .int .i64 0, .int .i64 0]) (t := 24) ?hr ?_; (case hd => rfl); (case hg => rfl); (case hr => first | (go_simp; done) | (go_simp; rfl)); intro gb291 hg w10 hbox hb; have n0_ := zO (zE (by repeat (first | exact HB.out | apply zA | apply zL | apply zB)) hb); have n1_ := zO (hbox); have n2_ := zO ((by rw [hg]; exact (zD (by repeat (first | exact HB.out | apply zA | apply zL | apply zB))) : w.heap.size ≤ gb291)); have n3_ := zO ((by rw [hg]; exact (zD (by repeat (first | exact HB.out | apply zA | apply zL | apply zB))) : w.heap.size ≤ gb291)); clear HB; have HB := n0_; have BK291 := n1_; have GW291 := n2_; have GE291 := n3_; clear n0_ n1_ n2_ n3_; clear hb hbox hg; obtain ⟨i011, hi011, _, hsz11, _⟩ := info_parts info3; obtain ⟨hcut11, hA11, hC11⟩ := print_take_of (P := Try.prog) (Value.int .i64) 0 22 3 .i64 Try.underlying22 hi011 hsz11 A0 c0 l0 54 (by omega) (yO (by assumption)) HC0.out; have HR295 := zO (Kd.C_of_reads (h1 := fun _ => rfl) (hA11 _ (Kd.reads_of_C HR0.out))); have HC295 := zO hC11; clear hA11 hC11 hi011 hsz11) | ((with_reducible refine zM (f := 14) rfl ?_); refine goesL_ (some 22) rfl rfl Try.func14 (by kernel_rfl) rfl #[.slice A0 (l0.take 54).length c0] rfl (by (try simp only [yK, yL, yM]); first | done | (rw [show (l0.take 54).length = 54 from (by rw [yI]; have h_ : (54 : Int) ≤ (l0.length : Int) := yO (by assumption); omega)] <;> rfl) | rfl | (simp only [yJ, yI]; rfl)) ?_; (with_reducible refine (spec_DecodeHeader.calls k _ _ (l0.take 54) t296 t297 t298 t299 _ ?side1 ?side2 A8.out).mono ?_); (case side1 => repeat (first | exact (Kd.C_below HR295.out HB.out) | (with_reducible refine zR ?_ _) | (with_reducible refine zT ?_ _) | (with_reducible refine zS ?_))); (case side2 => exact HC295.out); rintro e w12 ⟨rfl, hb⟩; refine ⟨_, rfl, ?_⟩; have n0_ := zO (zG (g := gb291) (o := .cells #[.int .i64 0, .int .i64 0, .int .i64 0] 24 (0, 0)) (by (with_reducible repeat (first | refine zJ ?_ _ | refine zI ?_ | refine zF ?_ _)); exact BK291.out) hb); have n1_ := zO (zE (by repeat (first | (with_reducible first | exact HB.out | apply zA | apply zL | apply zB | refine zC ?_ GE291.out) | exact HB.out)) hb); clear BK291; clear HB; have BK291 := n0_; have HB := n1_; clear n0_ n1_; (try clear hb); (try clear hb2); (try clear hk); (try clear hi)) | ((with_reducible refine zN (N := 5) rfl ?_); (try (refine gate_guard (by rfl) ?_; dsimp only)); refine box_event ?hg (N := 5) ?hd (cs := #[.int .i64 0, .int .i64 0, .int .i64 0]) (t := 24) ?hr ?_; (case hd => rfl); (case hg => rfl); (case hr => first | (go_simp; done) | (go_simp; rfl)); intro gb300 hg w13 hbox hb; have n0_ := zO (zG (g := gb291) (o := .cells #[.int .i64 0, .int .i64 0, .int .i64 0] 24 (0, 0)) (by (with_reducible repeat (first | refine zJ ?_ _ | refine zI ?_ | refine zF ?_ _)); exact BK291.out) hb); have n1_ := zO (zE (by repeat (first | (with_reducible first | exact HB.out | apply zA | apply zL | apply zB | refine zC ?_ GE291.out) | exact HB.out)) hb); have n2_ := zO (hbox); have n3_ := zO ((by rw [hg]; exact (zD (by repeat (first | (with_reducible first | exact HB.out | apply zA | apply zL | apply zB | refine zC ?_ GE291.out) | exact HB.out))) : w.heap.size ≤ gb300)); have n4_ := zO ((by rw [hg]; exact (zD (by repeat (first | (with_reducible first | exact HB.out | apply zA | apply zL | apply zB | refine zC ?_ GE291.out) | exact HB.out))) : w.heap.size ≤ gb300)); have n5_ := zO ((by rw [hg]; exact Nat.ne_of_lt (blk_lt (g := gb291) (o := .cells #[.int .i64 0, .int .i64 0, .int .i64 0] 24 (0, 0)) (by (with_reducible repeat (first | refine zJ ?_ _ | refine zI ?_ | refine zF ?_ _)); exact BK291.out)) : gb291 ≠ gb300)); have n6_ := zO ((by rw [hg]; exact Nat.ne_of_gt (blk_lt (g := gb291) (o := .cells #[.int .i64 0, .int .i64 0, .int .i64 0] 24 (0, 0)) (by (with_reducible repeat (first | refine zJ ?_ _ | refine zI ?_ | refine zF ?_ _)); exact BK291.out)) : gb300 ≠ gb291)); clear BK291; clear HB; have BK291 := n0_; have HB := n1_; have BK300 := n2_; have GW300 := n3_; have GE300 := n4_; have NB291_300 := n5_; have NB300_291 := n6_; clear n0_ n1_ n2_ n3_ n4_ n5_ n6_; clear hb hbox hg; have hnb14 := NB300_291.out; have hnc14 := NB291_300.out; have hcz15_0 : w13.cell? ⟨gb300, 0, none⟩ = some (.int .i64 0) := (zH BK300.out 0).trans rfl; have hcz15_1 : w13.cell? ⟨gb300, 1, none⟩ = some (.int .i64 0) := (zH BK300.out 1).trans rfl; have hcz15_2 : w13.cell? ⟨gb300, 2, none⟩ = some (.int .i64 0) := (zH BK300.out 2).trans rfl; have hfz15_0 := zK BK300.out 0; have hfz15_1 := zK BK300.out 1; have hfz15_2 := zK BK300.out 2))
  (try simp only [Act.put, yF, yG, yH])
  go_cut [34] (fun v34 wc => ∃ (kq : Nat) (x34_8 : Bool), v34 = .bool x34_8 ∧ Aside0 (spec_ReceiveFrame.j0 kq l0 x34_8 t296 t297 t298 = some (r1, r2, r3, r4, r5)) ∧ Aside0 (kq ≤ k) ∧ Aside0 (wc.heap[gb291]? = some (.cells #[.int .i64 0, .int .i64 0, .int .i64 0] 24 (0, 0))) ∧ Aside0 (wc.heap[gb300]? = some (.cells #[.int .i64 t296, .int .i64 t297, .int .i64 t298] 24 (0, 0))) ∧ Aside0 (Below w.heap.size w wc))
  case first =>
   have H := HC9.out
   clear HC9
   by_cases c16 : t299 = true
   ·subst c16
    have H1 : ((spec_PayloadSymbols.f t296 t297 t298).bind fun t301 => (spec_ReceiveFrame.j0 k l0 ((wrap64 ((l0.length : Int) - 54)) != t301) t296 t297 t298)) = some (r1, r2, r3, r4, r5) := by rw [if_pos rfl] at H; exact H
    clear H
    have H := H1
    clear H1
    replace H := yE.mp H
    obtain ⟨t301, A170, H⟩ := H
    replace H : (spec_ReceiveFrame.j0 k l0 ((wrap64 ((l0.length : Int) - 54)) != t301) t296 t297 t298) = some (r1, r2, r3, r4, r5) := H
    have A17 := zO A170
    clear A170
    have H' := zO H
    clear H
    have hnb18 := NB300_291.out
    have hnc18 := NB291_300.out
    have hcz19_0 : w13.cell? ⟨gb300, 0, none⟩ = some (.int .i64 0) := (zH BK300.out 0).trans rfl
    have hcz19_1 : w13.cell? ⟨gb300, 1, none⟩ = some (.int .i64 0) := (zH BK300.out 1).trans rfl
    have hcz19_2 : w13.cell? ⟨gb300, 2, none⟩ = some (.int .i64 0) := (zH BK300.out 2).trans rfl
    have hfz19_0 := zK BK300.out 0
    have hfz19_1 := zK BK300.out 1
    have hfz19_2 := zK BK300.out 2
    go_wp2_with (first | (go_at_call 120; (with_reducible refine (spec_PayloadSymbols.calls t296 t297 t298 t301 _ A17.out).mono ?_); rintro e w20 ⟨rfl, hb⟩; have n0_ := zO (zG (g := gb291) (o := .cells #[.int .i64 0, .int .i64 0, .int .i64 0] 24 (0, 0)) (by (with_reducible repeat (first | refine zJ ?_ _ | refine zI ?_ | refine zF ?_ _)); refine blk_far ?_ NB291_300.out _; (with_reducible repeat (first | refine zJ ?_ _ | refine zI ?_ | refine zF ?_ _)); refine blk_far ?_ NB291_300.out _; (with_reducible repeat (first | refine zJ ?_ _ | refine zI ?_ | refine zF ?_ _)); refine blk_far ?_ NB291_300.out _; (with_reducible repeat (first | refine zJ ?_ _ | refine zI ?_ | refine zF ?_ _)); exact BK291.out) hb); have n1_ := zO (zG (g := gb300) (o := .cells #[.int .i64 t296, .int .i64 t297, .int .i64 t298] 24 (0, 0)) (by (with_reducible repeat (first | refine zJ ?_ _ | refine zI ?_ | refine zF ?_ _)); refine blk_put (cs := #[.int .i64 t296, .int .i64 t297, .int .i64 0]) ?_ 2 _ rfl; (with_reducible repeat (first | refine zJ ?_ _ | refine zI ?_ | refine zF ?_ _)); refine blk_put (cs := #[.int .i64 t296, .int .i64 0, .int .i64 0]) ?_ 1 _ rfl; (with_reducible repeat (first | refine zJ ?_ _ | refine zI ?_ | refine zF ?_ _)); refine blk_put (cs := #[.int .i64 0, .int .i64 0, .int .i64 0]) ?_ 0 _ rfl; (with_reducible repeat (first | refine zJ ?_ _ | refine zI ?_ | refine zF ?_ _)); exact BK300.out) hb); have n2_ := zO (zE (by repeat (first | (with_reducible first | exact HB.out | apply zA | apply zL | apply zB | refine zC ?_ GE291.out | refine zC ?_ GE300.out) | exact HB.out)) hb); clear BK291; clear BK300; clear HB; have BK291 := n0_; have BK300 := n1_; have HB := n2_; clear n0_ n1_ n2_; (try clear hb); (try clear hb2); (try clear hk); (try clear hi)))
    go_meet
    case rel => exact ⟨_, (((wrap64 ((l0.length : Int) - 54)) != t301)), (by first | rfl | (simp; done) | (simp [*]; done)), H', ⟨by first | omega | exact Nat.le_refl _⟩, ⟨by (with_reducible repeat (first | refine zJ ?_ _ | refine zI ?_ | refine zF ?_ _)); exact BK291.out⟩, ⟨by (with_reducible repeat (first | refine zJ ?_ _ | refine zI ?_ | refine zF ?_ _)); exact BK300.out⟩, ⟨by repeat (first | (with_reducible first | exact HB.out | apply zA | apply zL | apply zB | refine zC ?_ GE291.out | refine zC ?_ GE300.out) | exact HB.out)⟩⟩
   ·replace c16 := Bool.eq_false_iff.mpr c16
    subst c16
    have H1 : (spec_ReceiveFrame.j0 k l0 true t296 t297 t298) = some (r1, r2, r3, r4, r5) := by rw [if_neg (show ¬ (false = true) by decide)] at H; exact H
    clear H
    have H := H1
    clear H1
    have H' := zO H
    clear H
    go_wp2
    go_meet
    case rel => exact ⟨_, (true), (by first | rfl | (simp; done) | (simp [*]; done)), H', ⟨by first | omega | exact Nat.le_refl _⟩, ⟨by (with_reducible repeat (first | refine zJ ?_ _ | refine zI ?_ | refine zF ?_ _)); refine blk_far ?_ NB291_300.out _; (with_reducible repeat (first | refine zJ ?_ _ | refine zI ?_ | refine zF ?_ _)); refine blk_far ?_ NB291_300.out _; (with_reducible repeat (first | refine zJ ?_ _ | refine zI ?_ | refine zF ?_ _)); refine blk_far ?_ NB291_300.out _; (with_reducible repeat (first | refine zJ ?_ _ | refine zI ?_ | refine zF ?_ _)); exact BK291.out⟩, ⟨by (with_reducible repeat (first | refine zJ ?_ _ | refine zI ?_ | refine zF ?_ _)); refine blk_put (cs := #[.int .i64 t296, .int .i64 t297, .int .i64 0]) ?_ 2 _ rfl; (with_reducible repeat (first | refine zJ ?_ _ | refine zI ?_ | refine zF ?_ _)); refine blk_put (cs := #[.int .i64 t296, .int .i64 0, .int .i64 0]) ?_ 1 _ rfl; (with_reducible repeat (first | refine zJ ?_ _ | refine zI ?_ | refine zF ?_ _)); refine blk_put (cs := #[.int .i64 0, .int .i64 0, .int .i64 0]) ?_ 0 _ rfl; (with_reducible repeat (first | refine zJ ?_ _ | refine zI ?_ | refine zF ?_ _)); exact BK300.out⟩, ⟨by repeat (first | (with_reducible first | exact HB.out | apply zA | apply zL | apply zB | refine zC ?_ GE291.out | refine zC ?_ GE300.out) | exact HB.out)⟩⟩
  case rest =>
   clear HC9
   try clear c1
   try clear c2
   try clear c2b0
   try clear c2b1
   try clear p2
   try clear c5
   try clear p6
   try clear c7
   try clear c7b0
   try clear c7b1
   try clear c14
   try clear c16
   try clear c18
   try clear hcz15_0
   try clear hcz15_1
   try clear hcz15_2
   try clear hcz19_0
   try clear hcz19_1
   try clear hcz19_2
   try clear hcz6_0
   try clear hcz6_1
   try clear hcz6_2
   try clear hfz15_0
   try clear hfz15_1
   try clear hfz15_2
   try clear hfz19_0
   try clear hfz19_1
   try clear hfz19_2
   try clear hfz6_0
   try clear hfz6_1
   try clear hfz6_2
   obtain ⟨kq, x34_8, rfl, HA, HJ8, BK291, BK300, HB⟩ := hcut
   cases kq with
   | zero => exact absurd HA.out (by simp [spec_ReceiveFrame.j0])
   | succ kj8 =>
    have H := HA.out
    clear HA
    simp only [spec_ReceiveFrame.j0] at H
    by_cases c21 : x34_8 = true
    ·subst c21
     have H1 : (some (0, 0, 0, (([] : List Int)), 1)) = some (r1, r2, r3, r4, r5) := by rw [if_pos rfl] at H; exact H
     clear H
     have H := H1
     clear H1
     obtain ⟨y302, hy302⟩ : ∃ y_ : List Int, y_ = (([] : List Int)) := ⟨_, rfl⟩
     replace H : (some (0, 0, 0, y302, 1)) = some (r1, r2, r3, r4, r5) := by first | (rw [hy302]; exact H) | exact H
     have Ny302 := zO hy302
     clear hy302
     simp only [Option.some.injEq, Prod.mk.injEq] at H
     obtain ⟨rfl, rfl, rfl, rfl, rfl⟩ := H
     go_wp2_with (first | ((with_reducible refine zN (N := 36) rfl ?_); (try (refine gate_guard (by rfl) ?_; dsimp only)); refine Kd.R_lit (Kd.int .u8) _ 5 ?hg (N := 36) ?hd (xs := ([] : List Int)) (inner := []) (ok := fun _ => True) (okp := fun _ => True) ?hr ?hp (fun _ hk => hk) trivial (Below.refl _ _) (Nat.le_refl _) (by simp) ?_; (case hd => rfl); (case hg => rfl); (case hr => first | (go_simp; done) | (go_simp; rfl)); (case hp => exact (Reps.none _ _)); intro v303 w22 ho23 hb hg_ hnew_; clear hg_ hnew_; (first | rw [← Ny302.out] at ho23 | (simp only [Int.reduceToNat] at ho23; rw [← Ny302.out] at ho23)); have n0_ := zO (yA ho23 (zD (by repeat (first | (with_reducible first | exact HB.out | apply zA | apply zL | apply zB | refine zC ?_ GE291.out | refine zC ?_ GE300.out) | exact HB.out)))); have n1_ := zO (zG (g := gb291) (o := .cells #[.int .i64 0, .int .i64 0, .int .i64 0] 24 (0, 0)) (by (with_reducible repeat (first | refine zJ ?_ _ | refine zI ?_ | refine zF ?_ _)); exact BK291.out) hb); have n2_ := zO (zG (g := gb300) (o := .cells #[.int .i64 t296, .int .i64 t297, .int .i64 t298] 24 (0, 0)) (by (with_reducible repeat (first | refine zJ ?_ _ | refine zI ?_ | refine zF ?_ _)); exact BK300.out) hb); have n3_ := zO (zE (by repeat (first | (with_reducible first | exact HB.out | apply zA | apply zL | apply zB | refine zC ?_ GE291.out | refine zC ?_ GE300.out) | exact HB.out)) hb); clear BK291; clear BK300; clear HB; have HO304 := n0_; have BK291 := n1_; have BK300 := n2_; have HB := n3_; clear n0_ n1_ n2_ n3_; clear hb ho23; have hnb24 := NB291_300.out; have hnc24 := NB300_291.out; have hcz25_0 : w22.cell? ⟨gb291, 0, none⟩ = some (.int .i64 0) := (zH BK291.out 0).trans rfl; have hcz25_1 : w22.cell? ⟨gb291, 1, none⟩ = some (.int .i64 0) := (zH BK291.out 1).trans rfl; have hcz25_2 : w22.cell? ⟨gb291, 2, none⟩ = some (.int .i64 0) := (zH BK291.out 2).trans rfl; have hfz25_0 := zK BK291.out 0; have hfz25_1 := zK BK291.out 1; have hfz25_2 := zK BK291.out 2))
     refine bodyPost_ret (results_ctt rfl _ _ gb291 24 #[.int .i64 0, .int .i64 0, .int .i64 0] (0, 0) _ rfl (by (with_reducible repeat (first | refine zJ ?_ _ | refine zI ?_ | refine zF ?_ _)); refine blk_put (cs := #[.int .i64 0, .int .i64 0, .int .i64 0]) ?_ 2 _ rfl; (with_reducible repeat (first | refine zJ ?_ _ | refine zI ?_ | refine zF ?_ _)); refine blk_put (cs := #[.int .i64 0, .int .i64 0, .int .i64 0]) ?_ 1 _ rfl; (with_reducible repeat (first | refine zJ ?_ _ | refine zI ?_ | refine zF ?_ _)); refine blk_put (cs := #[.int .i64 0, .int .i64 0, .int .i64 0]) ?_ 0 _ rfl; (with_reducible repeat (first | refine zJ ?_ _ | refine zI ?_ | refine zF ?_ _)); exact BK291.out) Try.underlying24 rfl (by kernel_rfl)) rfl ?_
     exact ⟨_, by first | rfl | (simp [errW_none, errW_some] <;> rfl) | (simp [*, errW_none, errW_some] <;> rfl), by (with_reducible repeat (first | apply zU | apply zW | apply zV)); exact Kd.R_mono (zZ (p := ⟨gb291, 2, none⟩) (zZ (p := ⟨gb291, 1, none⟩) (zZ (p := ⟨gb291, 0, none⟩) (Kd.R_types HO304.out BK291.out (by decide)) (fun _ hk => hk.2) (.int .i64 0)) (fun _ hk => hk.2) (.int .i64 0)) (fun _ hk => hk.2) (.int .i64 0)) (fun _ hk => trivial), by repeat (first | (with_reducible first | exact HB.out | apply zA | apply zL | apply zB | refine zC ?_ GE291.out | refine zC ?_ GE300.out) | exact HB.out)⟩
    ·replace c21 := Bool.eq_false_iff.mpr c21
     subst c21
     have H1 : (if 54 ≤ (l0.length : Int) then ((spec_Deinterleave.f kj8 (l0.drop 54) 8).bind fun t306 => (if t296 = 2 then ((spec_EncodedLength.f (wrap64 (8 * (wrap64 (t297 + 2))))).bind fun t309 => ((spec_Depuncture.f kj8 t306 t309).bind fun t310 => (spec_ReceiveFrame.j1 kj8 t310 t296 t297 t298))) else (spec_ReceiveFrame.j1 kj8 t306 t296 t297 t298))) else (none)) = some (r1, r2, r3, r4, r5) := by rw [if_neg (show ¬ (false = true) by decide)] at H; exact H
     clear H
     have H := H1
     clear H1
     by_cases c26 : 54 ≤ (l0.length : Int)
     case neg => rw [if_neg c26] at H; exact absurd H (by simp)
     rw [if_pos c26] at H
     have c26b0 := eq_true c26
     have c26b1 : decide (54 ≤ (l0.length : Int)) = true := decide_eq_true c26
     clear c26
     replace H := yE.mp H
     obtain ⟨t306, A270, H⟩ := H
     replace H : (if t296 = 2 then ((spec_EncodedLength.f (wrap64 (8 * (wrap64 (t297 + 2))))).bind fun t309 => ((spec_Depuncture.f kj8 t306 t309).bind fun t310 => (spec_ReceiveFrame.j1 kj8 t310 t296 t297 t298))) else (spec_ReceiveFrame.j1 kj8 t306 t296 t297 t298)) = some (r1, r2, r3, r4, r5) := H
     have A27 := zO A270
     clear A270
     have HC28 := zO H
     clear H
     obtain ⟨i029, hi029, _, hsz29, _⟩ := info_parts info3
     obtain ⟨A29, hcut29, hA29, hC29⟩ := print_drop_of (P := Try.prog) (Value.int .i64) 0 22 3 .i64 Try.underlying22 hi029 hsz29 A0 c0 l0 54 (by omega) (yO (by assumption)) HC0.out
     have HR305 := zO (Kd.C_of_reads (h1 := fun _ => rfl) (hA29 _ (Kd.reads_of_C HR0.out)))
     have HC305 := zO hC29
     clear hA29 hC29 hi029 hsz29
     go_upto_if 42 with (first | ((with_reducible refine zM (f := 121) rfl ?_); refine goesL_ (some 39) rfl rfl Try.func121 (by kernel_rfl) rfl #[.slice A29 (l0.drop 54).length (c0 - 54), .int .i64 8] rfl (by (try simp only [yK, yL, yM]); first | done | (rw [show (l0.drop 54).length = (l0.length - 54) from yJ] <;> rfl) | rfl | (simp only [yJ, yI]; rfl)) ?_; (with_reducible refine (spec_Deinterleave.calls kj8 _ _ (l0.drop 54) 8 t306 _ ?side1 ?side2 A27.out).mono ?_); (case side1 => repeat (first | exact (Kd.C_below HR305.out HB.out) | (with_reducible refine zR ?_ _) | (with_reducible refine zT ?_ _) | (with_reducible refine zS ?_))); (case side2 => exact HC305.out); rintro e w30 ⟨v307, rfl, ho0, hb⟩; refine ⟨_, rfl, ?_⟩; have n0_ := zO (yA ho0 (zD (by repeat (first | (with_reducible first | exact HB.out | apply zA | apply zL | apply zB | refine zC ?_ GE291.out | refine zC ?_ GE300.out) | exact HB.out)))); have n1_ := zO (zG (g := gb291) (o := .cells #[.int .i64 0, .int .i64 0, .int .i64 0] 24 (0, 0)) (by (with_reducible repeat (first | refine zJ ?_ _ | refine zI ?_ | refine zF ?_ _)); exact BK291.out) hb); have n2_ := zO (zG (g := gb300) (o := .cells #[.int .i64 t296, .int .i64 t297, .int .i64 t298] 24 (0, 0)) (by (with_reducible repeat (first | refine zJ ?_ _ | refine zI ?_ | refine zF ?_ _)); exact BK300.out) hb); have n3_ := zO (zE (by repeat (first | (with_reducible first | exact HB.out | apply zA | apply zL | apply zB | refine zC ?_ GE291.out | refine zC ?_ GE300.out) | exact HB.out)) hb); clear BK291; clear BK300; clear HB; have HO308 := n0_; have BK291 := n1_; have BK300 := n2_; have HB := n3_; clear n0_ n1_ n2_ n3_; (try clear hb); (try clear hb2); (try clear hk); (try clear hi); (try clear ho0); have hnb31 := NB300_291.out; have hnc31 := NB291_300.out; have hcz32_0 : w30.cell? ⟨gb300, 0, none⟩ = some (.int .i64 t296) := (zH BK300.out 0).trans rfl; have hcz32_1 : w30.cell? ⟨gb300, 1, none⟩ = some (.int .i64 t297) := (zH BK300.out 1).trans rfl; have hcz32_2 : w30.cell? ⟨gb300, 2, none⟩ = some (.int .i64 t298) := (zH BK300.out 2).trans rfl; have hfz32_0 := zK BK300.out 0; have hfz32_1 := zK BK300.out 1; have hfz32_2 := zK BK300.out 2))
     (try simp only [Act.put, yF, yG, yH])
     go_cut [7] (fun v7 wc => ∃ (kq : Nat) (x7_27 : List Int), Aside0 (spec_ReceiveFrame.j1 kq x7_27 t296 t297 t298 = some (r1, r2, r3, r4, r5)) ∧ Aside0 (kq ≤ kj8) ∧ Aside0 (Kd.R (Kd.int .i64) 3 wc w.heap.size (fun _ => True) v7 x7_27) ∧ Aside0 (wc.heap[gb291]? = some (.cells #[.int .i64 0, .int .i64 0, .int .i64 0] 24 (0, 0))) ∧ Aside0 (wc.heap[gb300]? = some (.cells #[.int .i64 t296, .int .i64 t297, .int .i64 t298] 24 (0, 0))) ∧ Aside0 (Below w.heap.size w wc))
     case first =>
      have H := HC28.out
      clear HC28
      by_cases c33 : t296 = 2
      ·rw [if_pos c33] at H
       have c33b0 : (t296 == 2) = true := beq_iff_eq.mpr c33
       have c33b1 : (t296 != 2) = false := bne_eq_false_iff_eq.mpr c33
       clear c33
       (first | rw [c33b0] | (simp only [i64_w, i32_w]; rw [c33b0]) | skip)
       replace H := yE.mp H
       obtain ⟨t309, A340, H⟩ := H
       replace H : ((spec_Depuncture.f kj8 t306 t309).bind fun t310 => (spec_ReceiveFrame.j1 kj8 t310 t296 t297 t298)) = some (r1, r2, r3, r4, r5) := H
       have A34 := zO A340
       clear A340
       replace H := yE.mp H
       obtain ⟨t310, A350, H⟩ := H
       replace H : (spec_ReceiveFrame.j1 kj8 t310 t296 t297 t298) = some (r1, r2, r3, r4, r5) := H
       have A35 := zO A350
       clear A350
       have H' := zO H
       clear H
       have hnb36 := NB300_291.out
       have hnc36 := NB291_300.out
       have hcz37_0 : w30.cell? ⟨gb300, 0, none⟩ = some (.int .i64 t296) := (zH BK300.out 0).trans rfl
       have hcz37_1 : w30.cell? ⟨gb300, 1, none⟩ = some (.int .i64 t297) := (zH BK300.out 1).trans rfl
       have hcz37_2 : w30.cell? ⟨gb300, 2, none⟩ = some (.int .i64 t298) := (zH BK300.out 2).trans rfl
       have hfz37_0 := zK BK300.out 0
       have hfz37_1 := zK BK300.out 1
       have hfz37_2 := zK BK300.out 2
       go_wp2_with (first | ((with_reducible refine zM (f := 111) rfl ?_); refine goesL_ (some 48) rfl rfl Try.func111 (by kernel_rfl) rfl #[.int .i64 (wrap64 (8 * (wrap64 (t297 + 2))))] rfl (by (try simp only [yK, yL, yM]); first | done | rfl | (simp only [yJ, yI]; rfl)) ?_; (with_reducible refine (spec_EncodedLength.calls (wrap64 (8 * (wrap64 (t297 + 2)))) t309 _ A34.out).mono ?_); rintro e w' ⟨rfl, ⟨nd, rfl⟩⟩; refine ⟨_, rfl, ?_⟩; obtain ⟨Ao38, co38, eo38⟩ := Kd.R_slice HO308.out; subst eo38) | ((with_reducible refine zM (f := 122) rfl ?_); refine goesL_ (some 49) rfl rfl Try.func122 (by kernel_rfl) rfl #[.slice Ao38 t306.length co38, .int .i64 t309] rfl (by (try simp only [yK, yL, yM]); first | done | rfl | (simp only [yJ, yI]; rfl)) ?_; (with_reducible refine (spec_Depuncture.calls kj8 _ _ t306 t309 t310 _ ?side1 ?side2 A35.out).mono ?_); (case side1 => repeat (first | exact (zX HO308.out).2.2 | (with_reducible refine zR ?_ _) | (with_reducible refine zT ?_ _) | (with_reducible refine zS ?_))); (case side2 => exact (zX HO308.out).2.1); rintro e w39 ⟨v311, rfl, ho0, hb⟩; refine ⟨_, rfl, ?_⟩; have n0_ := zO (Kd.R_elder' (by (with_reducible repeat (first | apply zU | apply zW | apply zV)); exact HO308.out) (Kd.R_base ho0) hb); have n1_ := zO (yA (Kd.R_new' ho0 (Kd.R_lt (by (with_reducible repeat (first | apply zU | apply zW | apply zV)); exact HO308.out))) (zD (by repeat (first | (with_reducible first | exact HB.out | apply zA | apply zL | apply zB | refine zC ?_ GE291.out | refine zC ?_ GE300.out) | exact HB.out)))); have n2_ := zO (zG (g := gb291) (o := .cells #[.int .i64 0, .int .i64 0, .int .i64 0] 24 (0, 0)) (by (with_reducible repeat (first | refine zJ ?_ _ | refine zI ?_ | refine zF ?_ _)); exact BK291.out) hb); have n3_ := zO (zG (g := gb300) (o := .cells #[.int .i64 t296, .int .i64 t297, .int .i64 t298] 24 (0, 0)) (by (with_reducible repeat (first | refine zJ ?_ _ | refine zI ?_ | refine zF ?_ _)); exact BK300.out) hb); have n4_ := zO (zE (by repeat (first | (with_reducible first | exact HB.out | apply zA | apply zL | apply zB | refine zC ?_ GE291.out | refine zC ?_ GE300.out) | exact HB.out)) hb); clear HO308; clear BK291; clear BK300; clear HB; have HO308 := n0_; have HO312 := n1_; have BK291 := n2_; have BK300 := n3_; have HB := n4_; clear n0_ n1_ n2_ n3_ n4_; (try clear hb); (try clear hb2); (try clear hk); (try clear hi); (try clear ho0)))
       go_meet
       case rel => exact ⟨_, (t310), H', ⟨by have := HJ8.out; first | omega | exact Nat.le_refl _⟩, ⟨by (with_reducible repeat (first | apply zU | apply zW | apply zV)); exact Kd.R_mono HO312.out (fun _ hk => trivial)⟩, ⟨by (with_reducible repeat (first | refine zJ ?_ _ | refine zI ?_ | refine zF ?_ _)); exact BK291.out⟩, ⟨by (with_reducible repeat (first | refine zJ ?_ _ | refine zI ?_ | refine zF ?_ _)); exact BK300.out⟩, ⟨by repeat (first | (with_reducible first | exact HB.out | apply zA | apply zL | apply zB | refine zC ?_ GE291.out | refine zC ?_ GE300.out) | exact HB.out)⟩⟩
      ·rw [if_neg c33] at H
       have c33b0 : (t296 == 2) = false := beq_eq_false_iff_ne.mpr c33
       have c33b1 : (t296 != 2) = true := bne_iff_ne.mpr c33
       (first | rw [c33b0] | (simp only [i64_w, i32_w]; rw [c33b0]) | skip)
       have H' := zO H
       clear H
       go_wp2
       go_meet
       case rel => exact ⟨_, (t306), H', ⟨by have := HJ8.out; first | omega | exact Nat.le_refl _⟩, ⟨by (with_reducible repeat (first | apply zU | apply zW | apply zV)); exact HO308.out⟩, ⟨by (with_reducible repeat (first | refine zJ ?_ _ | refine zI ?_ | refine zF ?_ _)); exact BK291.out⟩, ⟨by (with_reducible repeat (first | refine zJ ?_ _ | refine zI ?_ | refine zF ?_ _)); exact BK300.out⟩, ⟨by repeat (first | (with_reducible first | exact HB.out | apply zA | apply zL | apply zB | refine zC ?_ GE291.out | refine zC ?_ GE300.out) | exact HB.out)⟩⟩
     case rest =>
      clear HC28
      try clear c1
      try clear c2
      try clear c2b0
      try clear c2b1
      try clear p2
      try clear c3
      try clear c5
      try clear p6
      try clear c7
      try clear c7b0
      try clear c7b1
      try clear c11
      try clear c12
      try clear c14
      try clear c16
      try clear c18
      try clear c21
      try clear c24
      try clear c26
      try clear c26b0
      try clear c26b1
      try clear c31
      try clear c33
      try clear c33b0
      try clear c33b1
      try clear c36
      try clear hcz15_0
      try clear hcz15_1
      try clear hcz15_2
      try clear hcz19_0
      try clear hcz19_1
      try clear hcz19_2
      try clear hcz25_0
      try clear hcz25_1
      try clear hcz25_2
      try clear hcz32_0
      try clear hcz32_1
      try clear hcz32_2
      try clear hcz37_0
      try clear hcz37_1
      try clear hcz37_2
      try clear hcz6_0
      try clear hcz6_1
      try clear hcz6_2
      try clear hfz15_0
      try clear hfz15_1
      try clear hfz15_2
      try clear hfz19_0
      try clear hfz19_1
      try clear hfz19_2
      try clear hfz25_0
      try clear hfz25_1
      try clear hfz25_2
      try clear hfz32_0
      try clear hfz32_1
      try clear hfz32_2
      try clear hfz37_0
      try clear hfz37_1
      try clear hfz37_2
      try clear hfz6_0
      try clear hfz6_1
      try clear hfz6_2
      try clear p2
      try clear p6
      obtain ⟨kq, x7_27, HA, HJ27, HO_7, BK291, BK300, HB⟩ := hcut
      cases kq with
      | zero => exact absurd HA.out (by simp [spec_ReceiveFrame.j1])
      | succ kj27 =>
       have H := HA.out
       clear HA
       simp only [spec_ReceiveFrame.j1] at H
       replace H := yE.mp H
       obtain ⟨⟨t313, t314⟩, A400, H⟩ := H
       replace H : ((spec_Scramble.f kj27 t298 t313).bind fun t317 => ((spec_BitsToBytes.f kj27 t317).bind fun bt320 => (if t314 < 0 then (spec_ReceiveFrame.j2 kj27 bt320.1 true t296 t297 t298) else (spec_ReceiveFrame.j2 kj27 bt320.1 (!bt320.2) t296 t297 t298)))) = some (r1, r2, r3, r4, r5) := H
       have A40 := zO A400
       clear A400
       replace H := yE.mp H
       obtain ⟨t317, A410, H⟩ := H
       replace H : ((spec_BitsToBytes.f kj27 t317).bind fun bt320 => (if t314 < 0 then (spec_ReceiveFrame.j2 kj27 bt320.1 true t296 t297 t298) else (spec_ReceiveFrame.j2 kj27 bt320.1 (!bt320.2) t296 t297 t298))) = some (r1, r2, r3, r4, r5) := H
       have A41 := zO A410
       clear A410
       replace H := yE.mp H
       obtain ⟨⟨t320, t321⟩, A420, H⟩ := H
       replace H : (if t314 < 0 then (spec_ReceiveFrame.j2 kj27 t320 true t296 t297 t298) else (spec_ReceiveFrame.j2 kj27 t320 (!t321) t296 t297 t298)) = some (r1, r2, r3, r4, r5) := H
       have A42 := zO A420
       clear A420
       have HC43 := zO H
       clear H
       obtain ⟨Ao44, co44, eo44⟩ := Kd.R_slice HO_7.out
       subst eo44
       go_upto_region 11 with (first | ((with_reducible refine zM (f := 49) rfl ?_); refine goesL_ (some 52) rfl rfl Try.func49 (by kernel_rfl) rfl #[.slice Ao44 x7_27.length co44] rfl (by (try simp only [yK, yL, yM]); first | done | rfl | (simp only [yJ, yI]; rfl)) ?_; (with_reducible refine (spec_ViterbiDecode.calls kj27 _ _ x7_27 t313 t314 _ ?side1 ?side2 A40.out).mono ?_); (case side1 => repeat (first | exact (zX HO_7.out).2.2 | (with_reducible refine zR ?_ _) | (with_reducible refine zT ?_ _) | (with_reducible refine zS ?_))); (case side2 => exact (zX HO_7.out).2.1); rintro e w45 ⟨v315, rfl, ho0, hb⟩; refine ⟨_, rfl, ?_⟩; have n0_ := zO (Kd.R_elder' (by (with_reducible repeat (first | apply zU | apply zW | apply zV)); exact HO_7.out) (Kd.R_base ho0) hb); have n1_ := zO (yA (Kd.R_new' ho0 (Kd.R_lt (by (with_reducible repeat (first | apply zU | apply zW | apply zV)); exact HO_7.out))) (zD (by repeat (first | (with_reducible first | exact HB.out | apply zA | apply zL | apply zB | refine zC ?_ GE291.out | refine zC ?_ GE300.out) | exact HB.out)))); have n2_ := zO (zG (g := gb291) (o := .cells #[.int .i64 0, .int .i64 0, .int .i64 0] 24 (0, 0)) (by (with_reducible repeat (first | refine zJ ?_ _ | refine zI ?_ | refine zF ?_ _)); exact BK291.out) hb); have n3_ := zO (zG (g := gb300) (o := .cells #[.int .i64 t296, .int .i64 t297, .int .i64 t298] 24 (0, 0)) (by (with_reducible repeat (first | refine zJ ?_ _ | refine zI ?_ | refine zF ?_ _)); exact BK300.out) hb); have n4_ := zO (zE (by repeat (first | (with_reducible first | exact HB.out | apply zA | apply zL | apply zB | refine zC ?_ GE291.out | refine zC ?_ GE300.out) | exact HB.out)) hb); clear HO_7; clear BK291; clear BK300; clear HB; have HO_7 := n0_; have HO316 := n1_; have BK291 := n2_; have BK300 := n3_; have HB := n4_; clear n0_ n1_ n2_ n3_ n4_; (try clear hb); (try clear hb2); (try clear hk); (try clear hi); (try clear ho0); have hnb46 := NB300_291.out; have hnc46 := NB291_300.out; have hcz47_0 : w45.cell? ⟨gb300, 0, none⟩ = some (.int .i64 t296) := (zH BK300.out 0).trans rfl; have hcz47_1 : w45.cell? ⟨gb300, 1, none⟩ = some (.int .i64 t297) := (zH BK300.out 1).trans rfl; have hcz47_2 : w45.cell? ⟨gb300, 2, none⟩ = some (.int .i64 t298) := (zH BK300.out 2).trans rfl; have hfz47_0 := zK BK300.out 0; have hfz47_1 := zK BK300.out 1; have hfz47_2 := zK BK300.out 2; obtain ⟨Ao48, co48, eo48⟩ := Kd.R_slice HO316.out; subst eo48) | ((with_reducible refine zM (f := 124) rfl ?_); refine goesL_ (some 59) rfl rfl Try.func124 (by kernel_rfl) rfl #[.int .i64 t298, .slice Ao48 t313.length co48] rfl (by (try simp only [yK, yL, yM]); first | done | rfl | (simp only [yJ, yI]; rfl)) ?_; (with_reducible refine (spec_Scramble.calls kj27 t298 _ _ t313 t317 _ ?side1 ?side2 A41.out).mono ?_); (case side1 => repeat (first | exact (zX HO316.out).2.2 | (with_reducible refine zR ?_ _) | (with_reducible refine zT ?_ _) | (with_reducible refine zS ?_))); (case side2 => exact (zX HO316.out).2.1); rintro e w49 ⟨v318, rfl, ho0, hb⟩; refine ⟨_, rfl, ?_⟩; have n0_ := zO (Kd.R_elder' (by (with_reducible repeat (first | apply zU | apply zW | apply zV)); exact HO_7.out) (Kd.R_base ho0) hb); have n1_ := zO (Kd.R_elder' (by (with_reducible repeat (first | apply zU | apply zW | apply zV)); exact HO316.out) (Kd.R_base ho0) hb); have n2_ := zO (yA (Kd.R_new' (Kd.R_new' ho0 (Kd.R_lt (by (with_reducible repeat (first | apply zU | apply zW | apply zV)); exact HO_7.out))) (Kd.R_lt (by (with_reducible repeat (first | apply zU | apply zW | apply zV)); exact HO316.out))) (zD (by repeat (first | (with_reducible first | exact HB.out | apply zA | apply zL | apply zB | refine zC ?_ GE291.out | refine zC ?_ GE300.out) | exact HB.out)))); have n3_ := zO (zG (g := gb291) (o := .cells #[.int .i64 0, .int .i64 0, .int .i64 0] 24 (0, 0)) (by (with_reducible repeat (first | refine zJ ?_ _ | refine zI ?_ | refine zF ?_ _)); exact BK291.out) hb); have n4_ := zO (zG (g := gb300) (o := .cells #[.int .i64 t296, .int .i64 t297, .int .i64 t298] 24 (0, 0)) (by (with_reducible repeat (first | refine zJ ?_ _ | refine zI ?_ | refine zF ?_ _)); exact BK300.out) hb); have n5_ := zO (zE (by repeat (first | (with_reducible first | exact HB.out | apply zA | apply zL | apply zB | refine zC ?_ GE291.out | refine zC ?_ GE300.out) | exact HB.out)) hb); clear HO_7; clear HO316; clear BK291; clear BK300; clear HB; have HO_7 := n0_; have HO316 := n1_; have HO319 := n2_; have BK291 := n3_; have BK300 := n4_; have HB := n5_; clear n0_ n1_ n2_ n3_ n4_ n5_; (try clear hb); (try clear hb2); (try clear hk); (try clear hi); (try clear ho0); obtain ⟨Ao50, co50, eo50⟩ := Kd.R_slice HO319.out; subst eo50) | ((with_reducible refine zM (f := 123) rfl ?_); refine goesL_ (some 60) rfl rfl Try.func123 (by kernel_rfl) rfl #[.slice Ao50 t317.length co50] rfl (by (try simp only [yK, yL, yM]); first | done | rfl | (simp only [yJ, yI]; rfl)) ?_; (with_reducible refine (spec_BitsToBytes.calls kj27 _ _ t317 t320 t321 _ ?side1 ?side2 A42.out).mono ?_); (case side1 => repeat (first | exact (zX HO319.out).2.2 | (with_reducible refine zR ?_ _) | (with_reducible refine zT ?_ _) | (with_reducible refine zS ?_))); (case side2 => exact (zX HO319.out).2.1); rintro e w51 ⟨v322, rfl, ho0, hb⟩; refine ⟨_, rfl, ?_⟩; have n0_ := zO (zY (by (with_reducible repeat (first | apply zU | apply zW | apply zV)); exact HO_7.out) hb); have n1_ := zO (zY (by (with_reducible repeat (first | apply zU | apply zW | apply zV)); exact HO316.out) hb); have n2_ := zO (zY (by (with_reducible repeat (first | apply zU | apply zW | apply zV)); exact HO319.out) hb); have n3_ := zO (yA ho0 (zD (by repeat (first | (with_reducible first | exact HB.out | apply zA | apply zL | apply zB | refine zC ?_ GE291.out | refine zC ?_ GE300.out) | exact HB.out)))); have n4_ := zO (zG (g := gb291) (o := .cells #[.int .i64 0, .int .i64 0, .int .i64 0] 24 (0, 0)) (by (with_reducible repeat (first | refine zJ ?_ _ | refine zI ?_ | refine zF ?_ _)); exact BK291.out) hb); have n5_ := zO (zG (g := gb300) (o := .cells #[.int .i64 t296, .int .i64 t297, .int .i64 t298] 24 (0, 0)) (by (with_reducible repeat (first | refine zJ ?_ _ | refine zI ?_ | refine zF ?_ _)); exact BK300.out) hb); have n6_ := zO (zE (by repeat (first | (with_reducible first | exact HB.out | apply zA | apply zL | apply zB | refine zC ?_ GE291.out | refine zC ?_ GE300.out) | exact HB.out)) hb); clear HO_7; clear HO316; clear HO319; clear BK291; clear BK300; clear HB; have HO_7 := n0_; have HO316 := n1_; have HO319 := n2_; have HO323 := n3_; have BK291 := n4_; have BK300 := n5_; have HB := n6_; clear n0_ n1_ n2_ n3_ n4_ n5_ n6_; (try clear hb); (try clear hb2); (try clear hk); (try clear hi); (try clear ho0)))
       (try simp only [Act.put, yF, yG, yH])
       go_cut [68] (fun v68 wc => ∃ (kq : Nat) (x68_42 : Bool), v68 = .bool x68_42 ∧ Aside0 (spec_ReceiveFrame.j2 kq t320 x68_42 t296 t297 t298 = some (r1, r2, r3, r4, r5)) ∧ Aside0 (kq ≤ kj27) ∧ Aside0 (Kd.R (Kd.int .u8) 5 wc w.heap.size (fun _ => True) v322 t320) ∧ Aside0 (wc.heap[gb291]? = some (.cells #[.int .i64 0, .int .i64 0, .int .i64 0] 24 (0, 0))) ∧ Aside0 (wc.heap[gb300]? = some (.cells #[.int .i64 t296, .int .i64 t297, .int .i64 t298] 24 (0, 0))) ∧ Aside0 (Below w.heap.size w wc))
       case first =>
        have H := HC43.out
        clear HC43
        by_cases c52 : t314 < 0
        ·rw [if_pos c52] at H
         have c52b0 : decide (t314 < 0) = true := decide_eq_true c52
         clear c52
         (first | rw [c52b0] | (simp only [i64_w, i32_w]; rw [c52b0]) | skip)
         have H' := zO H
         clear H
         go_wp2
         go_meet
         case rel => exact ⟨_, (true), (by first | rfl | (simp; done) | (simp [*]; done)), H', ⟨by have := HJ8.out; have := HJ27.out; first | omega | exact Nat.le_refl _⟩, ⟨by (with_reducible repeat (first | apply zU | apply zW | apply zV)); exact HO323.out⟩, ⟨by (with_reducible repeat (first | refine zJ ?_ _ | refine zI ?_ | refine zF ?_ _)); exact BK291.out⟩, ⟨by (with_reducible repeat (first | refine zJ ?_ _ | refine zI ?_ | refine zF ?_ _)); exact BK300.out⟩, ⟨by repeat (first | (with_reducible first | exact HB.out | apply zA | apply zL | apply zB | refine zC ?_ GE291.out | refine zC ?_ GE300.out) | exact HB.out)⟩⟩
        ·rw [if_neg c52] at H
         have c52b0 : decide (t314 < 0) = false := decide_eq_false c52
         clear c52
         (first | rw [c52b0] | (simp only [i64_w, i32_w]; rw [c52b0]) | skip)
         have H' := zO H
         clear H
         go_wp2
         go_meet
         case rel => exact ⟨_, (!t321), (by first | rfl | (simp; done) | (simp [*]; done)), H', ⟨by have := HJ8.out; have := HJ27.out; first | omega | exact Nat.le_refl _⟩, ⟨by (with_reducible repeat (first | apply zU | apply zW | apply zV)); exact HO323.out⟩, ⟨by (with_reducible repeat (first | refine zJ ?_ _ | refine zI ?_ | refine zF ?_ _)); exact BK291.out⟩, ⟨by (with_reducible repeat (first | refine zJ ?_ _ | refine zI ?_ | refine zF ?_ _)); exact BK300.out⟩, ⟨by repeat (first | (with_reducible first | exact HB.out | apply zA | apply zL | apply zB | refine zC ?_ GE291.out | refine zC ?_ GE300.out) | exact HB.out)⟩⟩
       case rest =>
        clear HC43
        try clear c1
        try clear c2
        try clear c2b0
        try clear c2b1
        try clear p2
        try clear c3
        try clear c4
        try clear c5
        try clear p6
        try clear c7
        try clear c7b0
        try clear c7b1
        try clear c11
        try clear c12
        try clear c14
        try clear c16
        try clear c18
        try clear c21
        try clear c24
        try clear c26
        try clear c26b0
        try clear c26b1
        try clear c31
        try clear c33
        try clear c33b0
        try clear c33b1
        try clear c36
        try clear c46
        try clear c49
        try clear c52
        try clear c52b0
        try clear hcz15_0
        try clear hcz15_1
        try clear hcz15_2
        try clear hcz19_0
        try clear hcz19_1
        try clear hcz19_2
        try clear hcz25_0
        try clear hcz25_1
        try clear hcz25_2
        try clear hcz32_0
        try clear hcz32_1
        try clear hcz32_2
        try clear hcz37_0
        try clear hcz37_1
        try clear hcz37_2
        try clear hcz47_0
        try clear hcz47_1
        try clear hcz47_2
        try clear hcz6_0
        try clear hcz6_1
        try clear hcz6_2
        try clear hfz15_0
        try clear hfz15_1
        try clear hfz15_2
        try clear hfz19_0
        try clear hfz19_1
        try clear hfz19_2
        try clear hfz25_0
        try clear hfz25_1
        try clear hfz25_2
        try clear hfz32_0
        try clear hfz32_1
        try clear hfz32_2
        try clear hfz37_0
        try clear hfz37_1
        try clear hfz37_2
        try clear hfz47_0
        try clear hfz47_1
        try clear hfz47_2
        try clear hfz6_0
        try clear hfz6_1
        try clear hfz6_2
        try clear p2
        try clear p6
        obtain ⟨kq, x68_42, rfl, HA, HJ42, HO_10, BK291, BK300, HB⟩ := hcut
        cases kq with
        | zero => exact absurd HA.out (by simp [spec_ReceiveFrame.j2])
        | succ kj42 =>
         have H := HA.out
         clear HA
         simp only [spec_ReceiveFrame.j2] at H
         by_cases c53 : x68_42 = true
         ·subst c53
          have H1 : (some (t296, t297, t298, (([] : List Int)), 2)) = some (r1, r2, r3, r4, r5) := by rw [if_pos rfl] at H; exact H
          clear H
          have H := H1
          clear H1
          obtain ⟨y324, hy324⟩ : ∃ y_ : List Int, y_ = (([] : List Int)) := ⟨_, rfl⟩
          replace H : (some (t296, t297, t298, y324, 2)) = some (r1, r2, r3, r4, r5) := by first | (rw [hy324]; exact H) | exact H
          have Ny324 := zO hy324
          clear hy324
          simp only [Option.some.injEq, Prod.mk.injEq] at H
          obtain ⟨rfl, rfl, rfl, rfl, rfl⟩ := H
          have hnb54 := NB300_291.out
          have hnc54 := NB291_300.out
          have hcz55_0 : wc.cell? ⟨gb300, 0, none⟩ = some (.int .i64 t296) := (zH BK300.out 0).trans rfl
          have hcz55_1 : wc.cell? ⟨gb300, 1, none⟩ = some (.int .i64 t297) := (zH BK300.out 1).trans rfl
          have hcz55_2 : wc.cell? ⟨gb300, 2, none⟩ = some (.int .i64 t298) := (zH BK300.out 2).trans rfl
          have hfz55_0 := zK BK300.out 0
          have hfz55_1 := zK BK300.out 1
          have hfz55_2 := zK BK300.out 2
          go_wp2_with (first | ((with_reducible refine zN (N := 70) rfl ?_); (try (refine gate_guard (by rfl) ?_; dsimp only)); refine Kd.R_lit (Kd.int .u8) _ 5 ?hg (N := 70) ?hd (xs := ([] : List Int)) (inner := []) (ok := fun _ => True) (okp := fun _ => True) ?hr ?hp (fun _ hk => hk) trivial (Below.refl _ _) (Nat.le_refl _) (by simp) ?_; (case hd => rfl); (case hg => rfl); (case hr => first | (go_simp; done) | (go_simp; rfl)); (case hp => exact (Reps.none _ _)); intro v325 w56 ho57 hb hg_ hnew_; clear hg_ hnew_; (first | rw [← Ny324.out] at ho57 | (simp only [Int.reduceToNat] at ho57; rw [← Ny324.out] at ho57)); have n0_ := zO (Kd.R_elder' (by (with_reducible repeat (first | apply zU | apply zW | apply zV)); exact HO_10.out) (Kd.R_base ho57) hb); have n1_ := zO (yA (Kd.R_new' ho57 (Kd.R_lt (by (with_reducible repeat (first | apply zU | apply zW | apply zV)); exact HO_10.out))) (zD (by repeat (first | (with_reducible first | exact HB.out | apply zA | apply zL | apply zB | refine zC ?_ GE291.out | refine zC ?_ GE300.out) | exact HB.out)))); have n2_ := zO (zG (g := gb291) (o := .cells #[.int .i64 0, .int .i64 0, .int .i64 0] 24 (0, 0)) (by (with_reducible repeat (first | refine zJ ?_ _ | refine zI ?_ | refine zF ?_ _)); exact BK291.out) hb); have n3_ := zO (zG (g := gb300) (o := .cells #[.int .i64 t296, .int .i64 t297, .int .i64 t298] 24 (0, 0)) (by (with_reducible repeat (first | refine zJ ?_ _ | refine zI ?_ | refine zF ?_ _)); exact BK300.out) hb); have n4_ := zO (zE (by repeat (first | (with_reducible first | exact HB.out | apply zA | apply zL | apply zB | refine zC ?_ GE291.out | refine zC ?_ GE300.out) | exact HB.out)) hb); clear HO_10; clear BK291; clear BK300; clear HB; have HO_10 := n0_; have HO326 := n1_; have BK291 := n2_; have BK300 := n3_; have HB := n4_; clear n0_ n1_ n2_ n3_ n4_; clear hb ho57; have hcz58_0 : w56.cell? ⟨gb291, 0, none⟩ = some (.int .i64 0) := (zH BK291.out 0).trans rfl; have hcz58_1 : w56.cell? ⟨gb291, 1, none⟩ = some (.int .i64 0) := (zH BK291.out 1).trans rfl; have hcz58_2 : w56.cell? ⟨gb291, 2, none⟩ = some (.int .i64 0) := (zH BK291.out 2).trans rfl; have hfz58_0 := zK BK291.out 0; have hfz58_1 := zK BK291.out 1; have hfz58_2 := zK BK291.out 2))
          refine bodyPost_ret (results_ctt rfl _ _ gb291 24 #[.int .i64 t296, .int .i64 t297, .int .i64 t298] (0, 0) _ rfl (by (with_reducible repeat (first | refine zJ ?_ _ | refine zI ?_ | refine zF ?_ _)); refine blk_put (cs := #[.int .i64 t296, .int .i64 t297, .int .i64 0]) ?_ 2 _ rfl; (with_reducible repeat (first | refine zJ ?_ _ | refine zI ?_ | refine zF ?_ _)); refine blk_put (cs := #[.int .i64 t296, .int .i64 0, .int .i64 0]) ?_ 1 _ rfl; (with_reducible repeat (first | refine zJ ?_ _ | refine zI ?_ | refine zF ?_ _)); refine blk_put (cs := #[.int .i64 0, .int .i64 0, .int .i64 0]) ?_ 0 _ rfl; (with_reducible repeat (first | refine zJ ?_ _ | refine zI ?_ | refine zF ?_ _)); exact BK291.out) Try.underlying24 rfl (by kernel_rfl)) rfl ?_
          exact ⟨_, by first | rfl | (simp [errW_none, errW_some] <;> rfl) | (simp [*, errW_none, errW_some] <;> rfl), by (with_reducible repeat (first | apply zU | apply zW | apply zV)); exact Kd.R_mono (zZ (p := ⟨gb291, 2, none⟩) (zZ (p := ⟨gb291, 1, none⟩) (zZ (p := ⟨gb291, 0, none⟩) (Kd.R_types HO326.out BK291.out (by decide)) (fun _ hk => hk.2) (.int .i64 t296)) (fun _ hk => hk.2) (.int .i64 t297)) (fun _ hk => hk.2) (.int .i64 t298)) (fun _ hk => trivial), by repeat (first | (with_reducible first | exact HB.out | apply zA | apply zL | apply zB | refine zC ?_ GE291.out | refine zC ?_ GE300.out) | exact HB.out)⟩
         ·replace c53 := Bool.eq_false_iff.mpr c53
          subst c53
          have H1 : ((spec_CheckCrc.f kj42 t320).bind fun bt327 => (if bt327.2 = true then (some (t296, t297, t298, bt327.1, 0)) else (some (t296, t297, t298, (([] : List Int)), 2)))) = some (r1, r2, r3, r4, r5) := by rw [if_neg (show ¬ (false = true) by decide)] at H; exact H
          clear H
          have H := H1
          clear H1
          replace H := yE.mp H
          obtain ⟨⟨t327, t328⟩, A590, H⟩ := H
          replace H : (if t328 = true then (some (t296, t297, t298, t327, 0)) else (some (t296, t297, t298, (([] : List Int)), 2))) = some (r1, r2, r3, r4, r5) := H
          have A59 := zO A590
          clear A590
          by_cases c60 : t328 = true
          ·subst c60
           have H1 : (some (t296, t297, t298, t327, 0)) = some (r1, r2, r3, r4, r5) := by rw [if_pos rfl] at H; exact H
           clear H
           have H := H1
           clear H1
           simp only [Option.some.injEq, Prod.mk.injEq] at H
           obtain ⟨rfl, rfl, rfl, rfl, rfl⟩ := H
           obtain ⟨Ao61, co61, eo61⟩ := Kd.R_slice HO_10.out
           subst eo61
           go_wp2_with (first | ((with_reducible refine zM (f := 76) rfl ?_); refine goesL_ (some 73) rfl rfl Try.func76 (by kernel_rfl) rfl #[.slice Ao61 t320.length co61] rfl (by (try simp only [yK, yL, yM]); first | done | rfl | (simp only [yJ, yI]; rfl)) ?_; (with_reducible refine (spec_CheckCrc.calls kj42 _ _ t320 t327 true _ ?side1 ?side2 A59.out).mono ?_); (case side1 => repeat (first | exact (zX HO_10.out).2.2 | (with_reducible refine zR ?_ _) | (with_reducible refine zT ?_ _) | (with_reducible refine zS ?_))); (case side2 => exact (zX HO_10.out).2.1); rintro e w62 ⟨v329, rfl, ho0, hb⟩; refine ⟨_, rfl, ?_⟩; have n0_ := zO (Kd.R_elder' (by (with_reducible repeat (first | apply zU | apply zW | apply zV)); exact HO_10.out) (Kd.R_base ho0) hb); have n1_ := zO (yA (Kd.R_new' ho0 (Kd.R_lt (by (with_reducible repeat (first | apply zU | apply zW | apply zV)); exact HO_10.out))) (zD (by repeat (first | (with_reducible first | exact HB.out | apply zA | apply zL | apply zB | refine zC ?_ GE291.out | refine zC ?_ GE300.out) | exact HB.out)))); have n2_ := zO (zG (g := gb291) (o := .cells #[.int .i64 0, .int .i64 0, .int .i64 0] 24 (0, 0)) (by (with_reducible repeat (first | refine zJ ?_ _ | refine zI ?_ | refine zF ?_ _)); exact BK291.out) hb); have n3_ := zO (zG (g := gb300) (o := .cells #[.int .i64 t296, .int .i64 t297, .int .i64 t298] 24 (0, 0)) (by (with_reducible repeat (first | refine zJ ?_ _ | refine zI ?_ | refine zF ?_ _)); exact BK300.out) hb); have n4_ := zO (zE (by repeat (first | (with_reducible first | exact HB.out | apply zA | apply zL | apply zB | refine zC ?_ GE291.out | refine zC ?_ GE300.out) | exact HB.out)) hb); clear HO_10; clear BK291; clear BK300; clear HB; have HO_10 := n0_; have HO330 := n1_; have BK291 := n2_; have BK300 := n3_; have HB := n4_; clear n0_ n1_ n2_ n3_ n4_; (try clear hb); (try clear hb2); (try clear hk); (try clear hi); (try clear ho0); have hnb63 := NB300_291.out; have hnc63 := NB291_300.out; have hcz64_0 : w62.cell? ⟨gb300, 0, none⟩ = some (.int .i64 t296) := (zH BK300.out 0).trans rfl; have hcz64_1 : w62.cell? ⟨gb300, 1, none⟩ = some (.int .i64 t297) := (zH BK300.out 1).trans rfl; have hcz64_2 : w62.cell? ⟨gb300, 2, none⟩ = some (.int .i64 t298) := (zH BK300.out 2).trans rfl; have hfz64_0 := zK BK300.out 0; have hfz64_1 := zK BK300.out 1; have hfz64_2 := zK BK300.out 2; have hcz65_0 : w62.cell? ⟨gb291, 0, none⟩ = some (.int .i64 0) := (zH BK291.out 0).trans rfl; have hcz65_1 : w62.cell? ⟨gb291, 1, none⟩ = some (.int .i64 0) := (zH BK291.out 1).trans rfl; have hcz65_2 : w62.cell? ⟨gb291, 2, none⟩ = some (.int .i64 0) := (zH BK291.out 2).trans rfl; have hfz65_0 := zK BK291.out 0; have hfz65_1 := zK BK291.out 1; have hfz65_2 := zK BK291.out 2))
           refine bodyPost_ret (results_ctt rfl _ _ gb291 24 #[.int .i64 t296, .int .i64 t297, .int .i64 t298] (0, 0) _ rfl (by (with_reducible repeat (first | refine zJ ?_ _ | refine zI ?_ | refine zF ?_ _)); refine blk_put (cs := #[.int .i64 t296, .int .i64 t297, .int .i64 0]) ?_ 2 _ rfl; (with_reducible repeat (first | refine zJ ?_ _ | refine zI ?_ | refine zF ?_ _)); refine blk_put (cs := #[.int .i64 t296, .int .i64 0, .int .i64 0]) ?_ 1 _ rfl; (with_reducible repeat (first | refine zJ ?_ _ | refine zI ?_ | refine zF ?_ _)); refine blk_put (cs := #[.int .i64 0, .int .i64 0, .int .i64 0]) ?_ 0 _ rfl; (with_reducible repeat (first | refine zJ ?_ _ | refine zI ?_ | refine zF ?_ _)); exact BK291.out) Try.underlying24 rfl (by kernel_rfl)) rfl ?_
           exact ⟨_, by first | rfl | (simp [errW_none, errW_some] <;> rfl) | (simp [*, errW_none, errW_some] <;> rfl), by (with_reducible repeat (first | apply zU | apply zW | apply zV)); exact Kd.R_mono (zZ (p := ⟨gb291, 2, none⟩) (zZ (p := ⟨gb291, 1, none⟩) (zZ (p := ⟨gb291, 0, none⟩) (Kd.R_types HO330.out BK291.out (by decide)) (fun _ hk => hk.2) (.int .i64 t296)) (fun _ hk => hk.2) (.int .i64 t297)) (fun _ hk => hk.2) (.int .i64 t298)) (fun _ hk => trivial), by repeat (first | (with_reducible first | exact HB.out | apply zA | apply zL | apply zB | refine zC ?_ GE291.out | refine zC ?_ GE300.out) | exact HB.out)⟩
          ·replace c60 := Bool.eq_false_iff.mpr c60
           subst c60
           have H1 : (some (t296, t297, t298, (([] : List Int)), 2)) = some (r1, r2, r3, r4, r5) := by rw [if_neg (show ¬ (false = true) by decide)] at H; exact H
           clear H
           have H := H1
           clear H1
           obtain ⟨y331, hy331⟩ : ∃ y_ : List Int, y_ = (([] : List Int)) := ⟨_, rfl⟩
           replace H : (some (t296, t297, t298, y331, 2)) = some (r1, r2, r3, r4, r5) := by first | (rw [hy331]; exact H) | exact H
           have Ny331 := zO hy331
           clear hy331
           simp only [Option.some.injEq, Prod.mk.injEq] at H
           obtain ⟨rfl, rfl, rfl, rfl, rfl⟩ := H
           obtain ⟨Ao66, co66, eo66⟩ := Kd.R_slice HO_10.out
           subst eo66
           go_wp2_with (first | ((with_reducible refine zM (f := 76) rfl ?_); refine goesL_ (some 73) rfl rfl Try.func76 (by kernel_rfl) rfl #[.slice Ao66 t320.length co66] rfl (by (try simp only [yK, yL, yM]); first | done | rfl | (simp only [yJ, yI]; rfl)) ?_; (with_reducible refine (spec_CheckCrc.calls kj42 _ _ t320 t327 false _ ?side1 ?side2 A59.out).mono ?_); (case side1 => repeat (first | exact (zX HO_10.out).2.2 | (with_reducible refine zR ?_ _) | (with_reducible refine zT ?_ _) | (with_reducible refine zS ?_))); (case side2 => exact (zX HO_10.out).2.1); rintro e w67 ⟨v329, rfl, ho0, hb⟩; refine ⟨_, rfl, ?_⟩; have n0_ := zO (Kd.R_elder' (by (with_reducible repeat (first | apply zU | apply zW | apply zV)); exact HO_10.out) (Kd.R_base ho0) hb); have n1_ := zO (yA (Kd.R_new' ho0 (Kd.R_lt (by (with_reducible repeat (first | apply zU | apply zW | apply zV)); exact HO_10.out))) (zD (by repeat (first | (with_reducible first | exact HB.out | apply zA | apply zL | apply zB | refine zC ?_ GE291.out | refine zC ?_ GE300.out) | exact HB.out)))); have n2_ := zO (zG (g := gb291) (o := .cells #[.int .i64 0, .int .i64 0, .int .i64 0] 24 (0, 0)) (by (with_reducible repeat (first | refine zJ ?_ _ | refine zI ?_ | refine zF ?_ _)); exact BK291.out) hb); have n3_ := zO (zG (g := gb300) (o := .cells #[.int .i64 t296, .int .i64 t297, .int .i64 t298] 24 (0, 0)) (by (with_reducible repeat (first | refine zJ ?_ _ | refine zI ?_ | refine zF ?_ _)); exact BK300.out) hb); have n4_ := zO (zE (by repeat (first | (with_reducible first | exact HB.out | apply zA | apply zL | apply zB | refine zC ?_ GE291.out | refine zC ?_ GE300.out) | exact HB.out)) hb); clear HO_10; clear BK291; clear BK300; clear HB; have HO_10 := n0_; have HO330 := n1_; have BK291 := n2_; have BK300 := n3_; have HB := n4_; clear n0_ n1_ n2_ n3_ n4_; (try clear hb); (try clear hb2); (try clear hk); (try clear hi); (try clear ho0); have hnb68 := NB300_291.out; have hnc68 := NB291_300.out; have hcz69_0 : w67.cell? ⟨gb300, 0, none⟩ = some (.int .i64 t296) := (zH BK300.out 0).trans rfl; have hcz69_1 : w67.cell? ⟨gb300, 1, none⟩ = some (.int .i64 t297) := (zH BK300.out 1).trans rfl; have hcz69_2 : w67.cell? ⟨gb300, 2, none⟩ = some (.int .i64 t298) := (zH BK300.out 2).trans rfl; have hfz69_0 := zK BK300.out 0; have hfz69_1 := zK BK300.out 1; have hfz69_2 := zK BK300.out 2) | ((with_reducible refine zN (N := 79) rfl ?_); (try (refine gate_guard (by rfl) ?_; dsimp only)); refine Kd.R_lit (Kd.int .u8) _ 5 ?hg (N := 79) ?hd (xs := ([] : List Int)) (inner := []) (ok := fun _ => True) (okp := fun _ => True) ?hr ?hp (fun _ hk => hk) trivial (Below.refl _ _) (Nat.le_refl _) (by simp) ?_; (case hd => rfl); (case hg => rfl); (case hr => first | (go_simp; done) | (go_simp; rfl)); (case hp => exact (Reps.none _ _)); intro v332 w70 ho71 hb hg_ hnew_; clear hg_ hnew_; (first | rw [← Ny331.out] at ho71 | (simp only [Int.reduceToNat] at ho71; rw [← Ny331.out] at ho71)); have n0_ := zO (Kd.R_elder' (by (with_reducible repeat (first | apply zU | apply zW | apply zV)); exact HO_10.out) (Kd.R_base ho71) hb); have n1_ := zO (Kd.R_elder' (by (with_reducible repeat (first | apply zU | apply zW | apply zV)); exact HO330.out) (Kd.R_base ho71) hb); have n2_ := zO (yA (Kd.R_new' (Kd.R_new' ho71 (Kd.R_lt (by (with_reducible repeat (first | apply zU | apply zW | apply zV)); exact HO_10.out))) (Kd.R_lt (by (with_reducible repeat (first | apply zU | apply zW | apply zV)); exact HO330.out))) (zD (by repeat (first | (with_reducible first | exact HB.out | apply zA | apply zL | apply zB | refine zC ?_ GE291.out | refine zC ?_ GE300.out) | exact HB.out)))); have n3_ := zO (zG (g := gb291) (o := .cells #[.int .i64 0, .int .i64 0, .int .i64 0] 24 (0, 0)) (by (with_reducible repeat (first | refine zJ ?_ _ | refine zI ?_ | refine zF ?_ _)); exact BK291.out) hb); have n4_ := zO (zG (g := gb300) (o := .cells #[.int .i64 t296, .int .i64 t297, .int .i64 t298] 24 (0, 0)) (by (with_reducible repeat (first | refine zJ ?_ _ | refine zI ?_ | refine zF ?_ _)); exact BK300.out) hb); have n5_ := zO (zE (by repeat (first | (with_reducible first | exact HB.out | apply zA | apply zL | apply zB | refine zC ?_ GE291.out | refine zC ?_ GE300.out) | exact HB.out)) hb); clear HO_10; clear HO330; clear BK291; clear BK300; clear HB; have HO_10 := n0_; have HO330 := n1_; have HO333 := n2_; have BK291 := n3_; have BK300 := n4_; have HB := n5_; clear n0_ n1_ n2_ n3_ n4_ n5_; clear hb ho71; have hcz72_0 : w70.cell? ⟨gb291, 0, none⟩ = some (.int .i64 0) := (zH BK291.out 0).trans rfl; have hcz72_1 : w70.cell? ⟨gb291, 1, none⟩ = some (.int .i64 0) := (zH BK291.out 1).trans rfl; have hcz72_2 : w70.cell? ⟨gb291, 2, none⟩ = some (.int .i64 0) := (zH BK291.out 2).trans rfl; have hfz72_0 := zK BK291.out 0; have hfz72_1 := zK BK291.out 1; have hfz72_2 := zK BK291.out 2))
           refine bodyPost_ret (results_ctt rfl _ _ gb291 24 #[.int .i64 t296, .int .i64 t297, .int .i64 t298] (0, 0) _ rfl (by (with_reducible repeat (first | refine zJ ?_ _ | refine zI ?_ | refine zF ?_ _)); refine blk_put (cs := #[.int .i64 t296, .int .i64 t297, .int .i64 0]) ?_ 2 _ rfl; (with_reducible repeat (first | refine zJ ?_ _ | refine zI ?_ | refine zF ?_ _)); refine blk_put (cs := #[.int .i64 t296, .int .i64 0, .int .i64 0]) ?_ 1 _ rfl; (with_reducible repeat (first | refine zJ ?_ _ | refine zI ?_ | refine zF ?_ _)); refine blk_put (cs := #[.int .i64 0, .int .i64 0, .int .i64 0]) ?_ 0 _ rfl; (with_reducible repeat (first | refine zJ ?_ _ | refine zI ?_ | refine zF ?_ _)); exact BK291.out) Try.underlying24 rfl (by kernel_rfl)) rfl ?_
           exact ⟨_, by first | rfl | (simp [errW_none, errW_some] <;> rfl) | (simp [*, errW_none, errW_some] <;> rfl), by (with_reducible repeat (first | apply zU | apply zW | apply zV)); exact Kd.R_mono (zZ (p := ⟨gb291, 2, none⟩) (zZ (p := ⟨gb291, 1, none⟩) (zZ (p := ⟨gb291, 0, none⟩) (Kd.R_types HO333.out BK291.out (by decide)) (fun _ hk => hk.2) (.int .i64 t296)) (fun _ hk => hk.2) (.int .i64 t297)) (fun _ hk => hk.2) (.int .i64 t298)) (fun _ hk => trivial), by repeat (first | (with_reducible first | exact HB.out | apply zA | apply zL | apply zB | refine zC ?_ GE291.out | refine zC ?_ GE300.out) | exact HB.out)⟩

def impl_Weight.l0 : Nat → Int → List Int → Int → Int → Option (Int)
 | 0, _, _, _, _ => none
 | k + 1, x3, x6, x7, x8 => if x8 < x7 then (if 0 ≤ x8 then (if x8 < (x6.length : Int) then (if (rd x6 x8) = 1 then (impl_Weight.l0 k (wrap64 (x3 + 1)) x6 x7 (wrap64 (x8 + 1))) else (impl_Weight.l0 k x3 x6 x7 (wrap64 (x8 + 1)))) else (none)) else (none)) else (some x3)
def impl_Weight.f (k : Nat) (l0 : List Int) : Option (Int) := impl_Weight.l0 k 0 l0 (l0.length : Int) 0
theorem impl_Weight.calls (k : Nat) (A0 : Option Addr) (c0 : Nat) (l0 : List Int) (r : Int) (w : World) (hr0 : Kd.C (Kd.int .i64) w A0 l0.length l0) (hc0 : l0.length ≤ c0) (h : impl_Weight.f k l0 = some r) :
  Calls Try.prog 72 #[.slice A0 l0.length c0] w fun e w' => e = .returned (.int .i64 r) ∧ Drawn0 w w' := by
 have HR0 := zO hr0
 have HC0 := zO hc0
 clear hr0 hc0
 have H : (impl_Weight.l0 k 0 l0 (l0.length : Int) 0) = some r := h
 clear h
 have H' := zO H
 clear H
 go_enter Try.func72, Try.ntmps72
 go_wp2
 go_loopg [3, 8] k (fun kq v3 v8 w' => ∃ (x3_1 : Int) (x8_1 : Int), v3 = .int .i64 x3_1 ∧ v8 = .int .i64 x8_1 ∧ Aside0 (impl_Weight.l0 kq x3_1 l0 (l0.length : Int) x8_1 = some r) ∧ Aside0 (kq ≤ k) ∧ Drawn0 w w')
 case atStart => exact ⟨(0), (0), (by first | rfl | (simp; done) | (simp [*]; done)), (by first | rfl | (simp; done) | (simp [*]; done)), H', ⟨Nat.le_refl _⟩, by repeat (first | exact zP _ | apply zQ)⟩
 case round =>
  clear H'
  obtain ⟨x3_1, x8_1, rfl, rfl, HA, HK1, ⟨m1, rfl⟩⟩ := hrel
  cases gk with
  | zero => exact absurd HA.out (by simp [impl_Weight.l0])
  | succ k1 =>
   have H := HA.out
   clear HA
   simp only [impl_Weight.l0] at H
   by_cases c2 : x8_1 < (l0.length : Int)
   ·rw [if_pos c2] at H
    have c2b0 : decide (x8_1 < (l0.length : Int)) = true := decide_eq_true c2
    clear c2
    by_cases c3 : 0 ≤ x8_1
    case neg => rw [if_neg c3] at H; exact absurd H (by simp)
    rw [if_pos c3] at H
    have c3b0 : decide (0 ≤ x8_1) = true := decide_eq_true c3
    clear c3
    by_cases c4 : x8_1 < (l0.length : Int)
    case neg => rw [if_neg c4] at H; exact absurd H (by simp)
    rw [if_pos c4] at H
    have c4b0 : decide (x8_1 < (l0.length : Int)) = true := decide_eq_true c4
    clear c4
    by_cases c5 : (rd l0 x8_1) = 1
    ·rw [if_pos c5] at H
     have c5b0 : ((rd l0 x8_1) == 1) = true := beq_iff_eq.mpr c5
     have c5b1 : ((rd l0 x8_1) != 1) = false := bne_eq_false_iff_eq.mpr c5
     clear c5
     have H' := zO H
     clear H
     have p334 : 0 ≤ (x8_1 : Int) := yO (by assumption)
     have q334 : x8_1 < (l0.length : Int) := yO (by assumption)
     obtain ⟨ad334, e334, hx334_0⟩ := Kd.at_int HR0.out x8_1 p334 q334
     cases e334
     replace p334 := eq_true p334
     replace q334 := eq_true q334
     go_wp2
     go_roundg k1
     case measure => have := HK1.out; omega
     case rel => exact ⟨(wrap64 (x3_1 + 1)), (wrap64 (x8_1 + 1)), (by first | rfl | (simp; done) | (simp [*]; done)), (by first | rfl | (simp; done) | (simp [*]; done)), H', ⟨by have := HK1.out; omega⟩, by repeat (first | exact zP _ | apply zQ)⟩
    ·rw [if_neg c5] at H
     have c5b0 : ((rd l0 x8_1) == 1) = false := beq_eq_false_iff_ne.mpr c5
     have c5b1 : ((rd l0 x8_1) != 1) = true := bne_iff_ne.mpr c5
     have H' := zO H
     clear H
     have p334 : 0 ≤ (x8_1 : Int) := yO (by assumption)
     have q334 : x8_1 < (l0.length : Int) := yO (by assumption)
     obtain ⟨ad334, e334, hx334_0⟩ := Kd.at_int HR0.out x8_1 p334 q334
     cases e334
     replace p334 := eq_true p334
     replace q334 := eq_true q334
     go_wp2
     go_roundg k1
     case measure => have := HK1.out; omega
     case rel => exact ⟨(x3_1), (wrap64 (x8_1 + 1)), (by first | rfl | (simp; done) | (simp [*]; done)), (by first | rfl | (simp; done) | (simp [*]; done)), H', ⟨by have := HK1.out; omega⟩, by repeat (first | exact zP _ | apply zQ)⟩
   ·rw [if_neg c2] at H
    have c2b0 : decide (x8_1 < (l0.length : Int)) = false := decide_eq_false c2
    clear c2
    obtain rfl := Option.some.inj H
    go_wp2
    go_ret
    exact ⟨by first | rfl | exact yP _ | (simp; done) | (simp [*]; done), by repeat (first | exact zP _ | apply zQ)⟩

def impl_IsBitString.l0 : Nat → List Int → Int → Int → Option (Bool)
 | 0, _, _, _ => none
 | k + 1, x5, x6, x7 => if x7 < x6 then (if 0 ≤ x7 then (if x7 < (x5.length : Int) then (if (rd x5 x7) = 0 then (impl_IsBitString.l0 k x5 x6 (wrap64 (x7 + 1))) else (if (rd x5 x7) = 1 then (impl_IsBitString.l0 k x5 x6 (wrap64 (x7 + 1))) else (some false))) else (none)) else (none)) else (some true)
def impl_IsBitString.f (k : Nat) (l0 : List Int) : Option (Bool) := impl_IsBitString.l0 k l0 (l0.length : Int) 0
theorem impl_IsBitString.calls (k : Nat) (A0 : Option Addr) (c0 : Nat) (l0 : List Int) (r : Bool) (w : World) (hr0 : Kd.C (Kd.int .i64) w A0 l0.length l0) (hc0 : l0.length ≤ c0) (h : impl_IsBitString.f k l0 = some r) :
  Calls Try.prog 116 #[.slice A0 l0.length c0] w fun e w' => e = .returned (.bool r) ∧ Drawn0 w w' := by
 have HR0 := zO hr0
 have HC0 := zO hc0
 clear hr0 hc0
 have H : (impl_IsBitString.l0 k l0 (l0.length : Int) 0) = some r := h
 clear h
 have H' := zO H
 clear H
 go_enter Try.func116, Try.ntmps116
 go_wp2
 go_loopg [7] k (fun kq v7 w' => ∃ (x7_1 : Int), v7 = .int .i64 x7_1 ∧ Aside0 (impl_IsBitString.l0 kq l0 (l0.length : Int) x7_1 = some r) ∧ Aside0 (kq ≤ k) ∧ Drawn0 w w')
 case atStart => exact ⟨(0), (by first | rfl | (simp; done) | (simp [*]; done)), H', ⟨Nat.le_refl _⟩, by repeat (first | exact zP _ | apply zQ)⟩
 case round =>
  clear H'
  try clear c1
  obtain ⟨x7_1, rfl, HA, HK1, ⟨m1, rfl⟩⟩ := hrel
  cases gk with
  | zero => exact absurd HA.out (by simp [impl_IsBitString.l0])
  | succ k1 =>
   have H := HA.out
   clear HA
   simp only [impl_IsBitString.l0] at H
   by_cases c2 : x7_1 < (l0.length : Int)
   ·rw [if_pos c2] at H
    have c2b0 : decide (x7_1 < (l0.length : Int)) = true := decide_eq_true c2
    clear c2
    by_cases c3 : 0 ≤ x7_1
    case neg => rw [if_neg c3] at H; exact absurd H (by simp)
    rw [if_pos c3] at H
    have c3b0 : decide (0 ≤ x7_1) = true := decide_eq_true c3
    clear c3
    by_cases c4 : x7_1 < (l0.length : Int)
    case neg => rw [if_neg c4] at H; exact absurd H (by simp)
    rw [if_pos c4] at H
    have c4b0 : decide (x7_1 < (l0.length : Int)) = true := decide_eq_true c4
    clear c4
    by_cases c5 : (rd l0 x7_1) = 0
    ·rw [if_pos c5] at H
     have c5b0 : ((rd l0 x7_1) == 0) = true := beq_iff_eq.mpr c5
     have c5b1 : ((rd l0 x7_1) != 0) = false := bne_eq_false_iff_eq.mpr c5
     clear c5
     have H' := zO H
     clear H
     have p335 : 0 ≤ (x7_1 : Int) := yO (by assumption)
     have q335 : x7_1 < (l0.length : Int) := yO (by assumption)
     obtain ⟨ad335, e335, hx335_0⟩ := Kd.at_int HR0.out x7_1 p335 q335
     cases e335
     replace p335 := eq_true p335
     replace q335 := eq_true q335
     go_wp2
     go_roundg k1
     case measure => have := HK1.out; omega
     case rel => exact ⟨(wrap64 (x7_1 + 1)), (by first | rfl | (simp; done) | (simp [*]; done)), H', ⟨by have := HK1.out; omega⟩, by repeat (first | exact zP _ | apply zQ)⟩
    ·rw [if_neg c5] at H
     have c5b0 : ((rd l0 x7_1) == 0) = false := beq_eq_false_iff_ne.mpr c5
     have c5b1 : ((rd l0 x7_1) != 0) = true := bne_iff_ne.mpr c5
     by_cases c6 : (rd l0 x7_1) = 1
     ·rw [if_pos c6] at H
      have c6b0 : ((rd l0 x7_1) == 1) = true := beq_iff_eq.mpr c6
      have c6b1 : ((rd l0 x7_1) != 1) = false := bne_eq_false_iff_eq.mpr c6
      clear c6
      have H' := zO H
      clear H
      have p335 : 0 ≤ (x7_1 : Int) := yO (by assumption)
      have q335 : x7_1 < (l0.length : Int) := yO (by assumption)
      obtain ⟨ad335, e335, hx335_0⟩ := Kd.at_int HR0.out x7_1 p335 q335
      cases e335
      replace p335 := eq_true p335
      replace q335 := eq_true q335
      go_wp2
      go_roundg k1
      case measure => have := HK1.out; omega
      case rel => exact ⟨(wrap64 (x7_1 + 1)), (by first | rfl | (simp; done) | (simp [*]; done)), H', ⟨by have := HK1.out; omega⟩, by repeat (first | exact zP _ | apply zQ)⟩
     ·rw [if_neg c6] at H
      have c6b0 : ((rd l0 x7_1) == 1) = false := beq_eq_false_iff_ne.mpr c6
      have c6b1 : ((rd l0 x7_1) != 1) = true := bne_iff_ne.mpr c6
      obtain rfl := Option.some.inj H
      have p335 : 0 ≤ (x7_1 : Int) := yO (by assumption)
      have q335 : x7_1 < (l0.length : Int) := yO (by assumption)
      obtain ⟨ad335, e335, hx335_0⟩ := Kd.at_int HR0.out x7_1 p335 q335
      cases e335
      replace p335 := eq_true p335
      replace q335 := eq_true q335
      go_wp2
      go_ret
      exact ⟨by first | rfl | exact yP _ | (simp; done) | (simp [*]; done), by repeat (first | exact zP _ | apply zQ)⟩
   ·rw [if_neg c2] at H
    have c2b0 : decide (x7_1 < (l0.length : Int)) = false := decide_eq_false c2
    clear c2
    obtain rfl := Option.some.inj H
    go_wp2
    go_ret
    exact ⟨by first | rfl | exact yP _ | (simp; done) | (simp [*]; done), by repeat (first | exact zP _ | apply zQ)⟩

end Go.Proofs.Ytldbmljooafkcaa.PFnExactReceiveFrame
