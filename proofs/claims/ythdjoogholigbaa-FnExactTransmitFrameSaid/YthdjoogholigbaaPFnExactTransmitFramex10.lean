/- Contracts of Go functions: what each returns is what the Lean function of its name computes. Conditions: its arguments read as that function's arguments. Written by this session's program print2.py (the kit's print, with changes of this session's). -/
import Derived.Test.YthdjoogholigbaaPFnExactTransmitFramex0
import Derived.Test.YthdjoogholigbaaPFnExactTransmitFramex1
import Derived.Test.YthdjoogholigbaaPFnExactTransmitFramex5
import Derived.Test.YthdjoogholigbaaPFnExactTransmitFramex9
namespace Go.Proofs.Ythdjoogholigbaa.PFnExactTransmitFrame
open Go.RowKit Go.Proofs.YthdjoogholigbaaW.PrintWords Go.Proofs.YthdjoogholigbaaW.PrintLast Go.Proofs.YthdjoogholigbaaW.PrintMore
attribute [local go_sem] max2_int min2_int max_two min_two max_three min_three max_four min_four   -- for this text's walks alone
set_option linter.unusedVariables false
set_option linter.unusedSimpArgs false

/-! ### laws_FnExactTransmitFrame: function 10 -/
def laws_FnExactTransmitFrame.j0 : Nat → List Int → List Int → List Int → Bool → Int → Int → Int → Option (Bool)
 | 0, _, _, _, _, _, _, _ => none
 | k + 1, x1, x5, x7, x45, x451000, x451001, x451002 => if x45 = true then (none) else ((laws_markIntS.f k x7 1).bind fun bt477 => ((laws_heldIntS.f k bt477.2 1).bind fun t479 => (if t479 < 0 then (none) else (if t479 = bt477.1 then ((laws_toPhyHeader.f x451000 x451001 x451002).bind fun bt480 => ((laws_toByteS.f k x1).bind fun t483 => ((impl_TransmitFrame.f k bt480.1 bt480.2.1 bt480.2.2 t483).bind fun t486 => ((laws_eqIntS.f k t486 x5).bind fun t489 => (if t489 = true then ((laws_heldIntS.f k bt477.2 1).bind fun t490 => (if t490 < 0 then (none) else (if t490 = bt477.1 then (some true) else (none)))) else (none)))))) else (none)))))
def laws_FnExactTransmitFrame.f (k : Nat) (a0_0 : Int) (a0_1 : Int) (a0_2 : Int) (l1 : List Int) : Option (Bool) := if (l1.length : Int) > 1048576 then (some true) else ((laws_toPhyHeader.f a0_0 a0_1 a0_2).bind fun bt451 => ((laws_toByteS.f k l1).bind fun t454 => ((spec_TransmitFrame.f k bt451.1 bt451.2.1 bt451.2.2 t454).bind fun t457 => ((laws_toByteS.f k l1).bind fun t460 => ((laws_toPhyHeader.f a0_0 a0_1 a0_2).bind fun bt463 => ((impl_TransmitFrame.f k bt463.1 bt463.2.1 bt463.2.2 t460).bind fun t466 => ((laws_eqIntS.f k t466 t457).bind fun t469 => (if t469 = true then ((laws_toByteS.f k l1).bind fun t470 => ((laws_eqByteS.f k t460 t470).bind fun t473 => (if t473 = true then ((laws_markByteS.f k t460 1).bind fun bt474 => (if bt474.1 < 0 then (none) else ((laws_eqIntS.f k t466 t457).bind fun t476 => (laws_FnExactTransmitFrame.j0 k l1 t457 t466 (!t476) a0_0 a0_1 a0_2)))) else (none)))) else (none)))))))))
theorem laws_FnExactTransmitFrame.mono_l : ∀ k, (∀ y0 y1 y2 y3 y4 y5 y6, LeO (laws_FnExactTransmitFrame.j0 k y0 y1 y2 y3 y4 y5 y6) (laws_FnExactTransmitFrame.j0 (k + 1) y0 y1 y2 y3 y4 y5 y6))
 | 0 => fun _ _ _ _ _ _ _ r h => by simp [laws_FnExactTransmitFrame.j0] at h
 | k + 1 => by
  have ih0 := laws_FnExactTransmitFrame.mono_l k
  ·intro y0 y1 y2 y3 y4 y5 y6
   unfold laws_FnExactTransmitFrame.j0
   repeat' first
   | (with_reducible exact ih0 _ _ _ _ _ _ _)
   | (with_reducible exact impl_TransmitFrame.mono _ _ _ _ _)
   | (with_reducible exact laws_eqByteS.mono _ _ _)
   | (with_reducible exact laws_eqIntS.mono _ _ _)
   | (with_reducible exact laws_heldIntS.mono _ _ _)
   | (with_reducible exact laws_markByteS.mono _ _ _)
   | (with_reducible exact laws_markIntS.mono _ _ _)
   | (with_reducible exact laws_toByteS.mono _ _)
   | (with_reducible exact spec_TransmitFrame.mono _ _ _ _ _)
   | (with_reducible exact LeO.refl _)
   | (with_reducible exact LeO.none _)
   | (with_reducible refine LeO.ite ?_ ?_)
   | (with_reducible refine LeO.bind ?_ (fun _ => ?_))
   | exact ih0 _ _ _ _ _ _ _
   | exact impl_TransmitFrame.mono _ _ _ _ _
   | exact laws_eqByteS.mono _ _ _
   | exact laws_eqIntS.mono _ _ _
   | exact laws_heldIntS.mono _ _ _
   | exact laws_markByteS.mono _ _ _
   | exact laws_markIntS.mono _ _ _
   | exact laws_toByteS.mono _ _
   | exact spec_TransmitFrame.mono _ _ _ _ _
   | exact LeO.none _
   | refine LeO.ite ?_ ?_
   | refine LeO.bind ?_ (fun _ => ?_)
theorem laws_FnExactTransmitFrame.mono : ∀ a0 a1 a2 a3 k, LeO (laws_FnExactTransmitFrame.f k a0 a1 a2 a3) (laws_FnExactTransmitFrame.f (k + 1) a0 a1 a2 a3) := by
 intro a0 a1 a2 a3 k
 have ih0 := laws_FnExactTransmitFrame.mono_l k
 unfold laws_FnExactTransmitFrame.f
 repeat' first
   | (with_reducible exact ih0 _ _ _ _ _ _ _)
   | (with_reducible exact impl_TransmitFrame.mono _ _ _ _ _)
   | (with_reducible exact laws_eqByteS.mono _ _ _)
   | (with_reducible exact laws_eqIntS.mono _ _ _)
   | (with_reducible exact laws_heldIntS.mono _ _ _)
   | (with_reducible exact laws_markByteS.mono _ _ _)
   | (with_reducible exact laws_markIntS.mono _ _ _)
   | (with_reducible exact laws_toByteS.mono _ _)
   | (with_reducible exact spec_TransmitFrame.mono _ _ _ _ _)
   | (with_reducible exact LeO.refl _)
   | (with_reducible exact LeO.none _)
   | (with_reducible refine LeO.ite ?_ ?_)
   | (with_reducible refine LeO.bind ?_ (fun _ => ?_))
   | exact ih0 _ _ _ _ _ _ _
   | exact impl_TransmitFrame.mono _ _ _ _ _
   | exact laws_eqByteS.mono _ _ _
   | exact laws_eqIntS.mono _ _ _
   | exact laws_heldIntS.mono _ _ _
   | exact laws_markByteS.mono _ _ _
   | exact laws_markIntS.mono _ _ _
   | exact laws_toByteS.mono _ _
   | exact spec_TransmitFrame.mono _ _ _ _ _
   | exact LeO.none _
   | refine LeO.ite ?_ ?_
   | refine LeO.bind ?_ (fun _ => ?_)
set_option maxHeartbeats 8000000 in
set_option maxRecDepth 100000 in
theorem laws_FnExactTransmitFrame.calls (k : Nat) (a0_0 : Int) (a0_1 : Int) (a0_2 : Int) (A1 : Option Addr) (c1 : Nat) (l1 : List Int) (r : Bool) (w : World) (hr1 : Kd.C (Kd.int .u8) w A1 l1.length l1) (hc1 : l1.length ≤ c1) (h : laws_FnExactTransmitFrame.f k a0_0 a0_1 a0_2 l1 = some r) :
  Calls Try.prog 10 #[.agg #[.int .i64 a0_0, .int .i64 a0_1, .int .i64 a0_2], .slice A1 l1.length c1] w fun e w' => e = .returned (.bool r) ∧ Below w.heap.size w w' := by
 have hu52 := Try.underlying52
 have HR1 := Aside0.mk hr1
 have HC1 := Aside0.mk hc1
 clear hr1 hc1
 have HB := Aside0.mk (Below.refl w.heap.size w)
 have H : (if (l1.length : Int) > 1048576 then (some true) else ((laws_toPhyHeader.f a0_0 a0_1 a0_2).bind fun bt451 => ((laws_toByteS.f k l1).bind fun t454 => ((spec_TransmitFrame.f k bt451.1 bt451.2.1 bt451.2.2 t454).bind fun t457 => ((laws_toByteS.f k l1).bind fun t460 => ((laws_toPhyHeader.f a0_0 a0_1 a0_2).bind fun bt463 => ((impl_TransmitFrame.f k bt463.1 bt463.2.1 bt463.2.2 t460).bind fun t466 => ((laws_eqIntS.f k t466 t457).bind fun t469 => (if t469 = true then ((laws_toByteS.f k l1).bind fun t470 => ((laws_eqByteS.f k t460 t470).bind fun t473 => (if t473 = true then ((laws_markByteS.f k t460 1).bind fun bt474 => (if bt474.1 < 0 then (none) else ((laws_eqIntS.f k t466 t457).bind fun t476 => (laws_FnExactTransmitFrame.j0 k l1 t457 t466 (!t476) a0_0 a0_1 a0_2)))) else (none)))) else (none)))))))))) = some r := h
 clear h
 by_cases c3 : (l1.length : Int) > 1048576
 ·rw [if_pos c3] at H
  have c3b0 : decide (1048576 < (l1.length : Int)) = true := decide_eq_true c3
  have c3b1 : decide (1048576 < l1.length) = true := decide_eq_true (by omega)
  clear c3
  obtain rfl := Option.some.inj H
  go_enter Try.func10, Try.ntmps10
  go_wp2_with (first | ((with_reducible refine gate_dst (N := 2) rfl ?_); refine box_event ?hg (N := 2) ?hd (cs := #[.int .i64 a0_0, .int .i64 a0_1, .int .i64 a0_2]) (t := 52) ?hr ?_; (case hd => rfl); (case hg => rfl); (case hr => first | (go_simp; done) | (go_simp; rfl)); intro gb450 hg w4 hbox hb; have n0_ := Aside0.mk (below_step (by repeat (first | (with_reducible first | exact HB.out | apply below_alloc | apply pw_below_drewN | apply below_drew1) | exact HB.out)) hb); have n1_ := Aside0.mk (hbox); have n2_ := Aside0.mk ((by rw [hg]; exact (below_size (by repeat (first | (with_reducible first | exact HB.out | apply below_alloc | apply pw_below_drewN | apply below_drew1) | exact HB.out))) : w.heap.size ≤ gb450)); have n3_ := Aside0.mk ((by rw [hg]; exact (below_size (by repeat (first | (with_reducible first | exact HB.out | apply below_alloc | apply pw_below_drewN | apply below_drew1) | exact HB.out))) : w.heap.size ≤ gb450)); clear HB; have HB := n0_; have BK450 := n1_; have GW450 := n2_; have GE450 := n3_; clear n0_ n1_ n2_ n3_; clear hb hbox hg))
  go_ret
  exact ⟨by first | rfl | exact congrArg (fun z_ : Int => Ending.returned (Value.int .i64 z_)) (i64_w _) | (simp [errW_none, errW_some] <;> rfl) | (simp [*, errW_none, errW_some] <;> rfl), by repeat (first | (with_reducible first | exact HB.out | apply below_alloc | apply pw_below_drewN | apply below_drew1 | refine below_set ?_ GE450.out) | exact HB.out)⟩
 ·rw [if_neg c3] at H
  have c3b0 : decide (1048576 < (l1.length : Int)) = false := decide_eq_false c3
  have c3b1 : decide (1048576 < l1.length) = false := decide_eq_false (by omega)
  clear c3
  replace H := Option.bind_eq_some_iff.mp H
  obtain ⟨⟨t451, t452, t453⟩, A50, H⟩ := H
  replace H : ((laws_toByteS.f k l1).bind fun t454 => ((spec_TransmitFrame.f k t451 t452 t453 t454).bind fun t457 => ((laws_toByteS.f k l1).bind fun t460 => ((laws_toPhyHeader.f a0_0 a0_1 a0_2).bind fun bt463 => ((impl_TransmitFrame.f k bt463.1 bt463.2.1 bt463.2.2 t460).bind fun t466 => ((laws_eqIntS.f k t466 t457).bind fun t469 => (if t469 = true then ((laws_toByteS.f k l1).bind fun t470 => ((laws_eqByteS.f k t460 t470).bind fun t473 => (if t473 = true then ((laws_markByteS.f k t460 1).bind fun bt474 => (if bt474.1 < 0 then (none) else ((laws_eqIntS.f k t466 t457).bind fun t476 => (laws_FnExactTransmitFrame.j0 k l1 t457 t466 (!t476) a0_0 a0_1 a0_2)))) else (none)))) else (none)))))))) = some r := H
  have A5 := Aside0.mk A50
  clear A50
  replace H := Option.bind_eq_some_iff.mp H
  obtain ⟨t454, A60, H⟩ := H
  replace H : ((spec_TransmitFrame.f k t451 t452 t453 t454).bind fun t457 => ((laws_toByteS.f k l1).bind fun t460 => ((laws_toPhyHeader.f a0_0 a0_1 a0_2).bind fun bt463 => ((impl_TransmitFrame.f k bt463.1 bt463.2.1 bt463.2.2 t460).bind fun t466 => ((laws_eqIntS.f k t466 t457).bind fun t469 => (if t469 = true then ((laws_toByteS.f k l1).bind fun t470 => ((laws_eqByteS.f k t460 t470).bind fun t473 => (if t473 = true then ((laws_markByteS.f k t460 1).bind fun bt474 => (if bt474.1 < 0 then (none) else ((laws_eqIntS.f k t466 t457).bind fun t476 => (laws_FnExactTransmitFrame.j0 k l1 t457 t466 (!t476) a0_0 a0_1 a0_2)))) else (none)))) else (none))))))) = some r := H
  have A6 := Aside0.mk A60
  clear A60
  replace H := Option.bind_eq_some_iff.mp H
  obtain ⟨t457, A70, H⟩ := H
  replace H : ((laws_toByteS.f k l1).bind fun t460 => ((laws_toPhyHeader.f a0_0 a0_1 a0_2).bind fun bt463 => ((impl_TransmitFrame.f k bt463.1 bt463.2.1 bt463.2.2 t460).bind fun t466 => ((laws_eqIntS.f k t466 t457).bind fun t469 => (if t469 = true then ((laws_toByteS.f k l1).bind fun t470 => ((laws_eqByteS.f k t460 t470).bind fun t473 => (if t473 = true then ((laws_markByteS.f k t460 1).bind fun bt474 => (if bt474.1 < 0 then (none) else ((laws_eqIntS.f k t466 t457).bind fun t476 => (laws_FnExactTransmitFrame.j0 k l1 t457 t466 (!t476) a0_0 a0_1 a0_2)))) else (none)))) else (none)))))) = some r := H
  have A7 := Aside0.mk A70
  clear A70
  replace H := Option.bind_eq_some_iff.mp H
  obtain ⟨t460, A80, H⟩ := H
  replace H : ((laws_toPhyHeader.f a0_0 a0_1 a0_2).bind fun bt463 => ((impl_TransmitFrame.f k bt463.1 bt463.2.1 bt463.2.2 t460).bind fun t466 => ((laws_eqIntS.f k t466 t457).bind fun t469 => (if t469 = true then ((laws_toByteS.f k l1).bind fun t470 => ((laws_eqByteS.f k t460 t470).bind fun t473 => (if t473 = true then ((laws_markByteS.f k t460 1).bind fun bt474 => (if bt474.1 < 0 then (none) else ((laws_eqIntS.f k t466 t457).bind fun t476 => (laws_FnExactTransmitFrame.j0 k l1 t457 t466 (!t476) a0_0 a0_1 a0_2)))) else (none)))) else (none))))) = some r := H
  have A8 := Aside0.mk A80
  clear A80
  replace H := Option.bind_eq_some_iff.mp H
  obtain ⟨⟨t463, t464, t465⟩, A90, H⟩ := H
  replace H : ((impl_TransmitFrame.f k t463 t464 t465 t460).bind fun t466 => ((laws_eqIntS.f k t466 t457).bind fun t469 => (if t469 = true then ((laws_toByteS.f k l1).bind fun t470 => ((laws_eqByteS.f k t460 t470).bind fun t473 => (if t473 = true then ((laws_markByteS.f k t460 1).bind fun bt474 => (if bt474.1 < 0 then (none) else ((laws_eqIntS.f k t466 t457).bind fun t476 => (laws_FnExactTransmitFrame.j0 k l1 t457 t466 (!t476) a0_0 a0_1 a0_2)))) else (none)))) else (none)))) = some r := H
  have A9 := Aside0.mk A90
  clear A90
  replace H := Option.bind_eq_some_iff.mp H
  obtain ⟨t466, A100, H⟩ := H
  replace H : ((laws_eqIntS.f k t466 t457).bind fun t469 => (if t469 = true then ((laws_toByteS.f k l1).bind fun t470 => ((laws_eqByteS.f k t460 t470).bind fun t473 => (if t473 = true then ((laws_markByteS.f k t460 1).bind fun bt474 => (if bt474.1 < 0 then (none) else ((laws_eqIntS.f k t466 t457).bind fun t476 => (laws_FnExactTransmitFrame.j0 k l1 t457 t466 (!t476) a0_0 a0_1 a0_2)))) else (none)))) else (none))) = some r := H
  have A10 := Aside0.mk A100
  clear A100
  replace H := Option.bind_eq_some_iff.mp H
  obtain ⟨t469, A110, H⟩ := H
  replace H : (if t469 = true then ((laws_toByteS.f k l1).bind fun t470 => ((laws_eqByteS.f k t460 t470).bind fun t473 => (if t473 = true then ((laws_markByteS.f k t460 1).bind fun bt474 => (if bt474.1 < 0 then (none) else ((laws_eqIntS.f k t466 t457).bind fun t476 => (laws_FnExactTransmitFrame.j0 k l1 t457 t466 (!t476) a0_0 a0_1 a0_2)))) else (none)))) else (none)) = some r := H
  have A11 := Aside0.mk A110
  clear A110
  by_cases c12 : t469 = true
  ·subst c12
   have H1 : ((laws_toByteS.f k l1).bind fun t470 => ((laws_eqByteS.f k t460 t470).bind fun t473 => (if t473 = true then ((laws_markByteS.f k t460 1).bind fun bt474 => (if bt474.1 < 0 then (none) else ((laws_eqIntS.f k t466 t457).bind fun t476 => (laws_FnExactTransmitFrame.j0 k l1 t457 t466 (!t476) a0_0 a0_1 a0_2)))) else (none)))) = some r := by rw [if_pos rfl] at H; exact H
   clear H
   have H := H1
   clear H1
   replace H := Option.bind_eq_some_iff.mp H
   obtain ⟨t470, A130, H⟩ := H
   replace H : ((laws_eqByteS.f k t460 t470).bind fun t473 => (if t473 = true then ((laws_markByteS.f k t460 1).bind fun bt474 => (if bt474.1 < 0 then (none) else ((laws_eqIntS.f k t466 t457).bind fun t476 => (laws_FnExactTransmitFrame.j0 k l1 t457 t466 (!t476) a0_0 a0_1 a0_2)))) else (none))) = some r := H
   have A13 := Aside0.mk A130
   clear A130
   replace H := Option.bind_eq_some_iff.mp H
   obtain ⟨t473, A140, H⟩ := H
   replace H : (if t473 = true then ((laws_markByteS.f k t460 1).bind fun bt474 => (if bt474.1 < 0 then (none) else ((laws_eqIntS.f k t466 t457).bind fun t476 => (laws_FnExactTransmitFrame.j0 k l1 t457 t466 (!t476) a0_0 a0_1 a0_2)))) else (none)) = some r := H
   have A14 := Aside0.mk A140
   clear A140
   by_cases c15 : t473 = true
   ·subst c15
    have H1 : ((laws_markByteS.f k t460 1).bind fun bt474 => (if bt474.1 < 0 then (none) else ((laws_eqIntS.f k t466 t457).bind fun t476 => (laws_FnExactTransmitFrame.j0 k l1 t457 t466 (!t476) a0_0 a0_1 a0_2)))) = some r := by rw [if_pos rfl] at H; exact H
    clear H
    have H := H1
    clear H1
    replace H := Option.bind_eq_some_iff.mp H
    obtain ⟨⟨t474, t475⟩, A160, H⟩ := H
    replace H : (if t474 < 0 then (none) else ((laws_eqIntS.f k t466 t457).bind fun t476 => (laws_FnExactTransmitFrame.j0 k l1 t457 t466 (!t476) a0_0 a0_1 a0_2))) = some r := H
    have A16 := Aside0.mk A160
    clear A160
    have HC17 := Aside0.mk H
    clear H
    go_enter Try.func10, Try.ntmps10
    go_upto_region 12 with (first | ((with_reducible refine gate_dst (N := 2) rfl ?_); refine box_event ?hg (N := 2) ?hd (cs := #[.int .i64 a0_0, .int .i64 a0_1, .int .i64 a0_2]) (t := 52) ?hr ?_; (case hd => rfl); (case hg => rfl); (case hr => first | (go_simp; done) | (go_simp; rfl)); intro gb450 hg w18 hbox hb; have n0_ := Aside0.mk (below_step (by repeat (first | (with_reducible first | exact HB.out | apply below_alloc | apply pw_below_drewN | apply below_drew1) | exact HB.out)) hb); have n1_ := Aside0.mk (hbox); have n2_ := Aside0.mk ((by rw [hg]; exact (below_size (by repeat (first | (with_reducible first | exact HB.out | apply below_alloc | apply pw_below_drewN | apply below_drew1) | exact HB.out))) : w.heap.size ≤ gb450)); have n3_ := Aside0.mk ((by rw [hg]; exact (below_size (by repeat (first | (with_reducible first | exact HB.out | apply below_alloc | apply pw_below_drewN | apply below_drew1) | exact HB.out))) : w.heap.size ≤ gb450)); clear HB; have HB := n0_; have BK450 := n1_; have GW450 := n2_; have GE450 := n3_; clear n0_ n1_ n2_ n3_; clear hb hbox hg; have hcz19_0 : w18.cell? ⟨gb450, 0, none⟩ = some (.int .i64 a0_0) := (blk_cell BK450.out 0).trans rfl; have hcz19_1 : w18.cell? ⟨gb450, 1, none⟩ = some (.int .i64 a0_1) := (blk_cell BK450.out 1).trans rfl; have hcz19_2 : w18.cell? ⟨gb450, 2, none⟩ = some (.int .i64 a0_2) := (blk_cell BK450.out 2).trans rfl; have hfz19_0 := blk_frozen BK450.out 0; have hfz19_1 := blk_frozen BK450.out 1; have hfz19_2 := blk_frozen BK450.out 2) | ((with_reducible refine gate_callee (f := 48) rfl ?_); refine goesL_ (some 16) rfl rfl Try.func48 (by kernel_rfl) rfl #[.agg #[.int .i64 a0_0, .int .i64 a0_1, .int .i64 a0_2]] rfl (by (try simp only [List.map_toArray, List.map_cons, List.map_nil]); first | done | rfl | (simp only [List.length_drop, List.length_take]; rfl)) ?_; (with_reducible refine (laws_toPhyHeader.calls a0_0 a0_1 a0_2 t451 t452 t453 _ A5.out).mono ?_); rintro e w20 ⟨rfl, hb⟩; refine ⟨_, rfl, ?_⟩; have n0_ := Aside0.mk (blk_below (g := gb450) (o := .cells #[.int .i64 a0_0, .int .i64 a0_1, .int .i64 a0_2] 52 (0, 0)) (by (with_reducible repeat (first | refine blk_drewN ?_ _ | refine blk_drew ?_ | refine blk_alloc ?_ _)); exact BK450.out) hb); have n1_ := Aside0.mk (below_step (by repeat (first | (with_reducible first | exact HB.out | apply below_alloc | apply pw_below_drewN | apply below_drew1 | refine below_set ?_ GE450.out) | exact HB.out)) hb); clear BK450; clear HB; have BK450 := n0_; have HB := n1_; clear n0_ n1_; (try clear hb); (try clear hb2); (try clear hk); (try clear hi)) | ((with_reducible refine gate_callee (f := 37) rfl ?_); refine goesL_ (some 18) rfl rfl Try.func37 (by kernel_rfl) rfl #[.slice A1 l1.length c1] rfl (by (try simp only [List.map_toArray, List.map_cons, List.map_nil]); first | done | rfl | (simp only [List.length_drop, List.length_take]; rfl)) ?_; (with_reducible refine (laws_toByteS.calls k _ _ l1 t454 _ ?side1 ?side2 A6.out).mono ?_); (case side1 => repeat (first | exact (Kd.C_below HR1.out HB.out) | (with_reducible refine Kd.C_alloc ?_ _) | (with_reducible refine Kd.C_drewN ?_ _) | (with_reducible refine Kd.C_drew ?_))); (case side2 => exact HC1.out); rintro e w21 ⟨v455, rfl, ho0, hb⟩; refine ⟨_, rfl, ?_⟩; have n0_ := Aside0.mk (Kd.R_lower ho0 (below_size (by repeat (first | (with_reducible first | exact HB.out | apply below_alloc | apply pw_below_drewN | apply below_drew1 | refine below_set ?_ GE450.out) | exact HB.out)))); have n1_ := Aside0.mk (blk_below (g := gb450) (o := .cells #[.int .i64 a0_0, .int .i64 a0_1, .int .i64 a0_2] 52 (0, 0)) (by (with_reducible repeat (first | refine blk_drewN ?_ _ | refine blk_drew ?_ | refine blk_alloc ?_ _)); exact BK450.out) hb); have n2_ := Aside0.mk (below_step (by repeat (first | (with_reducible first | exact HB.out | apply below_alloc | apply pw_below_drewN | apply below_drew1 | refine below_set ?_ GE450.out) | exact HB.out)) hb); clear BK450; clear HB; have HO456 := n0_; have BK450 := n1_; have HB := n2_; clear n0_ n1_ n2_; (try clear hb); (try clear hb2); (try clear hk); (try clear hi); (try clear ho0); obtain ⟨Ao22, co22, eo22⟩ := Kd.R_slice HO456.out; subst eo22) | ((with_reducible refine gate_callee (f := 47) rfl ?_); refine goesL_ (some 19) rfl rfl Try.func47 (by kernel_rfl) rfl #[.agg #[.int .i64 t451, .int .i64 t452, .int .i64 t453], .slice Ao22 t454.length co22] rfl (by (try simp only [List.map_toArray, List.map_cons, List.map_nil]); first | done | rfl | (simp only [List.length_drop, List.length_take]; rfl)) ?_; (with_reducible refine (spec_TransmitFrame.calls k t451 t452 t453 _ _ t454 t457 _ ?side1 ?side2 A7.out).mono ?_); (case side1 => repeat (first | exact (Kd.R_reads' HO456.out).2.2 | (with_reducible refine Kd.C_alloc ?_ _) | (with_reducible refine Kd.C_drewN ?_ _) | (with_reducible refine Kd.C_drew ?_))); (case side2 => exact (Kd.R_reads' HO456.out).2.1); rintro e w23 ⟨v458, rfl, ho0, hb⟩; refine ⟨_, rfl, ?_⟩; have n0_ := Aside0.mk (Kd.R_below (by (with_reducible repeat (first | apply Kd.R_alloc | apply Kd.R_drewN | apply Kd.R_drew)); exact HO456.out) hb); have n1_ := Aside0.mk (Kd.R_lower ho0 (below_size (by repeat (first | (with_reducible first | exact HB.out | apply below_alloc | apply pw_below_drewN | apply below_drew1 | refine below_set ?_ GE450.out) | exact HB.out)))); have n2_ := Aside0.mk (blk_below (g := gb450) (o := .cells #[.int .i64 a0_0, .int .i64 a0_1, .int .i64 a0_2] 52 (0, 0)) (by (with_reducible repeat (first | refine blk_drewN ?_ _ | refine blk_drew ?_ | refine blk_alloc ?_ _)); exact BK450.out) hb); have n3_ := Aside0.mk (below_step (by repeat (first | (with_reducible first | exact HB.out | apply below_alloc | apply pw_below_drewN | apply below_drew1 | refine below_set ?_ GE450.out) | exact HB.out)) hb); clear HO456; clear BK450; clear HB; have HO456 := n0_; have HO459 := n1_; have BK450 := n2_; have HB := n3_; clear n0_ n1_ n2_ n3_; (try clear hb); (try clear hb2); (try clear hk); (try clear hi); (try clear ho0)) | ((with_reducible refine gate_callee (f := 37) rfl ?_); refine goesL_ (some 21) rfl rfl Try.func37 (by kernel_rfl) rfl #[.slice A1 l1.length c1] rfl (by (try simp only [List.map_toArray, List.map_cons, List.map_nil]); first | done | rfl | (simp only [List.length_drop, List.length_take]; rfl)) ?_; (with_reducible refine (laws_toByteS.calls k _ _ l1 t460 _ ?side1 ?side2 A8.out).mono ?_); (case side1 => repeat (first | exact (Kd.C_below HR1.out HB.out) | (with_reducible refine Kd.C_alloc ?_ _) | (with_reducible refine Kd.C_drewN ?_ _) | (with_reducible refine Kd.C_drew ?_))); (case side2 => exact HC1.out); rintro e w24 ⟨v461, rfl, ho0, hb⟩; refine ⟨_, rfl, ?_⟩; have n0_ := Aside0.mk (Kd.R_elder' (by (with_reducible repeat (first | apply Kd.R_alloc | apply Kd.R_drewN | apply Kd.R_drew)); exact HO456.out) (Kd.R_base ho0) hb); have n1_ := Aside0.mk (Kd.R_below (by (with_reducible repeat (first | apply Kd.R_alloc | apply Kd.R_drewN | apply Kd.R_drew)); exact HO459.out) hb); have n2_ := Aside0.mk (Kd.R_lower (Kd.R_new' ho0 (Kd.R_lt (by (with_reducible repeat (first | apply Kd.R_alloc | apply Kd.R_drewN | apply Kd.R_drew)); exact HO456.out))) (below_size (by repeat (first | (with_reducible first | exact HB.out | apply below_alloc | apply pw_below_drewN | apply below_drew1 | refine below_set ?_ GE450.out) | exact HB.out)))); have n3_ := Aside0.mk (blk_below (g := gb450) (o := .cells #[.int .i64 a0_0, .int .i64 a0_1, .int .i64 a0_2] 52 (0, 0)) (by (with_reducible repeat (first | refine blk_drewN ?_ _ | refine blk_drew ?_ | refine blk_alloc ?_ _)); exact BK450.out) hb); have n4_ := Aside0.mk (below_step (by repeat (first | (with_reducible first | exact HB.out | apply below_alloc | apply pw_below_drewN | apply below_drew1 | refine below_set ?_ GE450.out) | exact HB.out)) hb); clear HO456; clear HO459; clear BK450; clear HB; have HO456 := n0_; have HO459 := n1_; have HO462 := n2_; have BK450 := n3_; have HB := n4_; clear n0_ n1_ n2_ n3_ n4_; (try clear hb); (try clear hb2); (try clear hk); (try clear hi); (try clear ho0); have hcz25_0 : w24.cell? ⟨gb450, 0, none⟩ = some (.int .i64 a0_0) := (blk_cell BK450.out 0).trans rfl; have hcz25_1 : w24.cell? ⟨gb450, 1, none⟩ = some (.int .i64 a0_1) := (blk_cell BK450.out 1).trans rfl; have hcz25_2 : w24.cell? ⟨gb450, 2, none⟩ = some (.int .i64 a0_2) := (blk_cell BK450.out 2).trans rfl; have hfz25_0 := blk_frozen BK450.out 0; have hfz25_1 := blk_frozen BK450.out 1; have hfz25_2 := blk_frozen BK450.out 2) | ((with_reducible refine gate_callee (f := 48) rfl ?_); refine goesL_ (some 23) rfl rfl Try.func48 (by kernel_rfl) rfl #[.agg #[.int .i64 a0_0, .int .i64 a0_1, .int .i64 a0_2]] rfl (by (try simp only [List.map_toArray, List.map_cons, List.map_nil]); first | done | rfl | (simp only [List.length_drop, List.length_take]; rfl)) ?_; (with_reducible refine (laws_toPhyHeader.calls a0_0 a0_1 a0_2 t463 t464 t465 _ A9.out).mono ?_); rintro e w26 ⟨rfl, hb⟩; refine ⟨_, rfl, ?_⟩; have n0_ := Aside0.mk (Kd.R_below (by (with_reducible repeat (first | apply Kd.R_alloc | apply Kd.R_drewN | apply Kd.R_drew)); exact HO456.out) hb); have n1_ := Aside0.mk (Kd.R_below (by (with_reducible repeat (first | apply Kd.R_alloc | apply Kd.R_drewN | apply Kd.R_drew)); exact HO459.out) hb); have n2_ := Aside0.mk (Kd.R_below (by (with_reducible repeat (first | apply Kd.R_alloc | apply Kd.R_drewN | apply Kd.R_drew)); exact HO462.out) hb); have n3_ := Aside0.mk (blk_below (g := gb450) (o := .cells #[.int .i64 a0_0, .int .i64 a0_1, .int .i64 a0_2] 52 (0, 0)) (by (with_reducible repeat (first | refine blk_drewN ?_ _ | refine blk_drew ?_ | refine blk_alloc ?_ _)); exact BK450.out) hb); have n4_ := Aside0.mk (below_step (by repeat (first | (with_reducible first | exact HB.out | apply below_alloc | apply pw_below_drewN | apply below_drew1 | refine below_set ?_ GE450.out) | exact HB.out)) hb); clear HO456; clear HO459; clear HO462; clear BK450; clear HB; have HO456 := n0_; have HO459 := n1_; have HO462 := n2_; have BK450 := n3_; have HB := n4_; clear n0_ n1_ n2_ n3_ n4_; (try clear hb); (try clear hb2); (try clear hk); (try clear hi); obtain ⟨Ao27, co27, eo27⟩ := Kd.R_slice HO462.out; subst eo27) | ((with_reducible refine gate_callee (f := 49) rfl ?_); refine goesL_ (some 25) rfl rfl Try.func49 (by kernel_rfl) rfl #[.agg #[.int .i64 t463, .int .i64 t464, .int .i64 t465], .slice Ao27 t460.length co27] rfl (by (try simp only [List.map_toArray, List.map_cons, List.map_nil]); first | done | rfl | (simp only [List.length_drop, List.length_take]; rfl)) ?_; (with_reducible refine (impl_TransmitFrame.calls k t463 t464 t465 _ _ t460 t466 _ ?side1 ?side2 A10.out).mono ?_); (case side1 => repeat (first | exact (Kd.R_reads' HO462.out).2.2 | (with_reducible refine Kd.C_alloc ?_ _) | (with_reducible refine Kd.C_drewN ?_ _) | (with_reducible refine Kd.C_drew ?_))); (case side2 => exact (Kd.R_reads' HO462.out).2.1); rintro e w28 ⟨v467, rfl, ho0, hb⟩; refine ⟨_, rfl, ?_⟩; have n0_ := Aside0.mk (Kd.R_below (by (with_reducible repeat (first | apply Kd.R_alloc | apply Kd.R_drewN | apply Kd.R_drew)); exact HO456.out) hb); have n1_ := Aside0.mk (Kd.R_elder' (by (with_reducible repeat (first | apply Kd.R_alloc | apply Kd.R_drewN | apply Kd.R_drew)); exact HO459.out) (Kd.R_base ho0) hb); have n2_ := Aside0.mk (Kd.R_below (by (with_reducible repeat (first | apply Kd.R_alloc | apply Kd.R_drewN | apply Kd.R_drew)); exact HO462.out) hb); have n3_ := Aside0.mk (Kd.R_lower (Kd.R_new' ho0 (Kd.R_lt (by (with_reducible repeat (first | apply Kd.R_alloc | apply Kd.R_drewN | apply Kd.R_drew)); exact HO459.out))) (below_size (by repeat (first | (with_reducible first | exact HB.out | apply below_alloc | apply pw_below_drewN | apply below_drew1 | refine below_set ?_ GE450.out) | exact HB.out)))); have n4_ := Aside0.mk (blk_below (g := gb450) (o := .cells #[.int .i64 a0_0, .int .i64 a0_1, .int .i64 a0_2] 52 (0, 0)) (by (with_reducible repeat (first | refine blk_drewN ?_ _ | refine blk_drew ?_ | refine blk_alloc ?_ _)); exact BK450.out) hb); have n5_ := Aside0.mk (below_step (by repeat (first | (with_reducible first | exact HB.out | apply below_alloc | apply pw_below_drewN | apply below_drew1 | refine below_set ?_ GE450.out) | exact HB.out)) hb); clear HO456; clear HO459; clear HO462; clear BK450; clear HB; have HO456 := n0_; have HO459 := n1_; have HO462 := n2_; have HO468 := n3_; have BK450 := n4_; have HB := n5_; clear n0_ n1_ n2_ n3_ n4_ n5_; (try clear hb); (try clear hb2); (try clear hk); (try clear hi); (try clear ho0); obtain ⟨Ao29, co29, eo29⟩ := Kd.R_slice HO468.out; subst eo29; obtain ⟨Ao30, co30, eo30⟩ := Kd.R_slice HO459.out; subst eo30) | ((with_reducible refine gate_callee (f := 15) rfl ?_); refine goesL_ (some 28) rfl rfl Try.func15 (by kernel_rfl) rfl #[.slice Ao29 t466.length co29, .slice Ao30 t457.length co30] rfl (by (try simp only [List.map_toArray, List.map_cons, List.map_nil]); first | done | rfl | (simp only [List.length_drop, List.length_take]; rfl)) ?_; (with_reducible refine (laws_eqIntS.calls k _ _ t466 _ _ t457 true _ ?side1 ?side2 ?side3 ?side4 A11.out).mono ?_); (case side1 => repeat (first | exact (Kd.R_reads' HO468.out).2.2 | (with_reducible refine Kd.C_alloc ?_ _) | (with_reducible refine Kd.C_drewN ?_ _) | (with_reducible refine Kd.C_drew ?_))); (case side2 => exact (Kd.R_reads' HO468.out).2.1); (case side3 => repeat (first | exact (Kd.R_reads' HO459.out).2.2 | (with_reducible refine Kd.C_alloc ?_ _) | (with_reducible refine Kd.C_drewN ?_ _) | (with_reducible refine Kd.C_drew ?_))); (case side4 => exact (Kd.R_reads' HO459.out).2.1); rintro e w' ⟨rfl, ⟨nd, rfl⟩⟩; refine ⟨_, rfl, ?_⟩) | ((with_reducible refine gate_callee (f := 37) rfl ?_); refine goesL_ (some 32) rfl rfl Try.func37 (by kernel_rfl) rfl #[.slice A1 l1.length c1] rfl (by (try simp only [List.map_toArray, List.map_cons, List.map_nil]); first | done | rfl | (simp only [List.length_drop, List.length_take]; rfl)) ?_; (with_reducible refine (laws_toByteS.calls k _ _ l1 t470 _ ?side1 ?side2 A13.out).mono ?_); (case side1 => repeat (first | exact (Kd.C_below HR1.out (by repeat (first | (with_reducible first | exact HB.out | apply below_alloc | apply pw_below_drewN | apply below_drew1 | refine below_set ?_ GE450.out) | exact HB.out))) | (with_reducible refine Kd.C_alloc ?_ _) | (with_reducible refine Kd.C_drewN ?_ _) | (with_reducible refine Kd.C_drew ?_))); (case side2 => exact HC1.out); rintro e w31 ⟨v471, rfl, ho0, hb⟩; refine ⟨_, rfl, ?_⟩; have n0_ := Aside0.mk (Kd.R_elder' (by (with_reducible repeat (first | apply Kd.R_alloc | apply Kd.R_drewN | apply Kd.R_drew)); exact HO456.out) (Kd.R_base ho0) hb); have n1_ := Aside0.mk (Kd.R_below (by (with_reducible repeat (first | apply Kd.R_alloc | apply Kd.R_drewN | apply Kd.R_drew)); exact HO459.out) hb); have n2_ := Aside0.mk (Kd.R_elder' (by (with_reducible repeat (first | apply Kd.R_alloc | apply Kd.R_drewN | apply Kd.R_drew)); exact HO462.out) (Kd.R_base ho0) hb); have n3_ := Aside0.mk (Kd.R_below (by (with_reducible repeat (first | apply Kd.R_alloc | apply Kd.R_drewN | apply Kd.R_drew)); exact HO468.out) hb); have n4_ := Aside0.mk (Kd.R_lower (Kd.R_new' (Kd.R_new' ho0 (Kd.R_lt (by (with_reducible repeat (first | apply Kd.R_alloc | apply Kd.R_drewN | apply Kd.R_drew)); exact HO456.out))) (Kd.R_lt (by (with_reducible repeat (first | apply Kd.R_alloc | apply Kd.R_drewN | apply Kd.R_drew)); exact HO462.out))) (below_size (by repeat (first | (with_reducible first | exact HB.out | apply below_alloc | apply pw_below_drewN | apply below_drew1 | refine below_set ?_ GE450.out) | exact HB.out)))); have n5_ := Aside0.mk (blk_below (g := gb450) (o := .cells #[.int .i64 a0_0, .int .i64 a0_1, .int .i64 a0_2] 52 (0, 0)) (by (with_reducible repeat (first | refine blk_drewN ?_ _ | refine blk_drew ?_ | refine blk_alloc ?_ _)); exact BK450.out) hb); have n6_ := Aside0.mk (below_step (by repeat (first | (with_reducible first | exact HB.out | apply below_alloc | apply pw_below_drewN | apply below_drew1 | refine below_set ?_ GE450.out) | exact HB.out)) hb); clear HO456; clear HO459; clear HO462; clear HO468; clear BK450; clear HB; have HO456 := n0_; have HO459 := n1_; have HO462 := n2_; have HO468 := n3_; have HO472 := n4_; have BK450 := n5_; have HB := n6_; clear n0_ n1_ n2_ n3_ n4_ n5_ n6_; (try clear hb); (try clear hb2); (try clear hk); (try clear hi); (try clear ho0); obtain ⟨Ao32, co32, eo32⟩ := Kd.R_slice HO472.out; subst eo32) | ((with_reducible refine gate_callee (f := 31) rfl ?_); refine goesL_ (some 33) rfl rfl Try.func31 (by kernel_rfl) rfl #[.slice Ao27 t460.length co27, .slice Ao32 t470.length co32] rfl (by (try simp only [List.map_toArray, List.map_cons, List.map_nil]); first | done | rfl | (simp only [List.length_drop, List.length_take]; rfl)) ?_; (with_reducible refine (laws_eqByteS.calls k _ _ t460 _ _ t470 true _ ?side1 ?side2 ?side3 ?side4 A14.out).mono ?_); (case side1 => repeat (first | exact (Kd.R_reads' HO462.out).2.2 | (with_reducible refine Kd.C_alloc ?_ _) | (with_reducible refine Kd.C_drewN ?_ _) | (with_reducible refine Kd.C_drew ?_))); (case side2 => exact (Kd.R_reads' HO462.out).2.1); (case side3 => repeat (first | exact (Kd.R_reads' HO472.out).2.2 | (with_reducible refine Kd.C_alloc ?_ _) | (with_reducible refine Kd.C_drewN ?_ _) | (with_reducible refine Kd.C_drew ?_))); (case side4 => exact (Kd.R_reads' HO472.out).2.1); rintro e w' ⟨rfl, ⟨nd, rfl⟩⟩; refine ⟨_, rfl, ?_⟩) | ((with_reducible refine gate_callee (f := 34) rfl ?_); refine goesL_ (some 37) rfl rfl Try.func34 (by kernel_rfl) rfl #[.slice Ao27 t460.length co27, .int .i64 1] rfl (by (try simp only [List.map_toArray, List.map_cons, List.map_nil]); first | done | rfl | (simp only [List.length_drop, List.length_take]; rfl)) ?_; (with_reducible refine (laws_markByteS.calls k (fun k_ => some k_ = (.slice Ao27 t460.length co27 : Value).ownBlock) (.slice Ao27 t460.length co27) t460 1 t474 t475 w _ ?side1 ?side2 A16.out).mono ?_); (case side1 => repeat (first | (with_reducible first | exact HB.out | apply below_alloc | apply pw_below_drewN | apply below_drew1 | refine below_set ?_ GE450.out) | exact HB.out)); (case side2 => exact Kd.R_tight rfl HO462.out); rintro e w33 ⟨rfl, hy0, hb, hkp⟩; refine ⟨_, rfl, ?_⟩; have n0_ := Aside0.mk (blk_kept (by (with_reducible repeat (first | refine blk_drewN ?_ _ | refine blk_drew ?_ | refine blk_alloc ?_ _)); exact BK450.out) hkp (fun hs_ => (fun e_ => (Kd.R_ne HO462.out BK450.out (by decide)) e_) hs_)); have n1_ := Aside0.mk (Kd.R_mono (ok' := fun k_ => some k_ ≠ (.slice Ao27 t460.length co27 : Value).ownBlock ∧ some k_ ≠ (.slice Ao32 t470.length co32 : Value).ownBlock) (Kd.R_keptB (HO456.out) hkp (fun k_ hk_ hs_ => (hk_.1.2) hs_)) (fun k_ hk_ => ⟨hk_.1.1.2, hk_.1.2⟩)); have n2_ := Aside0.mk (Kd.R_mono (ok' := fun k_ => some k_ ≠ (.slice Ao29 t466.length co29 : Value).ownBlock) (Kd.R_keptB ((Kd.R_apart' HO459.out (Kd.R_typed HO462.out) (by decide))) hkp (fun k_ hk_ hs_ => (hk_.2) hs_)) (fun k_ hk_ => hk_.1.1.2)); have n3_ := Aside0.mk (Kd.R_reok rfl hy0 (fun k_ e_ => HO462.out.1 k_ e_)); have n4_ := Aside0.mk (Kd.R_mono (ok' := fun k_ => some k_ ≠ (.slice Ao30 t457.length co30 : Value).ownBlock) (Kd.R_keptB ((Kd.R_apart' HO468.out (Kd.R_typed HO462.out) (by decide))) hkp (fun k_ hk_ hs_ => (hk_.2) hs_)) (fun k_ hk_ => hk_.1.1.2)); have n5_ := Aside0.mk (Kd.R_mono (ok' := fun k_ => some k_ ≠ (.slice Ao22 t454.length co22 : Value).ownBlock ∧ some k_ ≠ (.slice Ao27 t460.length co27 : Value).ownBlock) (Kd.R_keptB (HO472.out) hkp (fun k_ hk_ hs_ => (hk_.2) hs_)) (fun k_ hk_ => ⟨hk_.1.1.2, hk_.1.2⟩)); have n6_ := Aside0.mk (hb); clear BK450; clear HO456; clear HO459; clear HO462; clear HO468; clear HO472; clear HB; have BK450 := n0_; have HO456 := n1_; have HO459 := n2_; have HO462 := n3_; have HO468 := n4_; have HO472 := n5_; have HB := n6_; clear n0_ n1_ n2_ n3_ n4_ n5_ n6_; (try clear hb); (try clear hkp); (try clear hy0)))
    (try simp only [Act.put, List.setIfInBounds_toArray, List.set_cons_zero, List.set_cons_succ])
    go_cut [45] (fun v45 wc => ∃ (kq : Nat) (x45_16 : Bool), v45 = .bool x45_16 ∧ Aside0 (laws_FnExactTransmitFrame.j0 kq l1 t457 t466 x45_16 a0_0 a0_1 a0_2 = some r) ∧ Aside0 (kq ≤ k) ∧ Aside0 (Kd.R (Kd.int .i64) 3 wc w.heap.size (fun k_ => some k_ ≠ ((.slice Ao29 t466.length co29) : Value).ownBlock) (.slice Ao30 t457.length co30) t457) ∧ Aside0 (Kd.R (Kd.int .i64) 3 wc w.heap.size (fun k_ => some k_ ≠ ((.slice Ao30 t457.length co30) : Value).ownBlock) (.slice Ao29 t466.length co29) t466) ∧ Aside0 (wc.heap[gb450]? = some (.cells #[.int .i64 a0_0, .int .i64 a0_1, .int .i64 a0_2] 52 (0, 0))) ∧ Aside0 (Below w.heap.size w wc))
    case first =>
     have H := HC17.out
     clear HC17
     by_cases c34 : t474 < 0
     ·rw [if_pos c34] at H
      exact absurd H (by simp)
     ·rw [if_neg c34] at H
      have c34b0 : decide (t474 < 0) = false := decide_eq_false c34
      clear c34
      (first | rw [c34b0] | (simp only [i64_w, i32_w]; rw [c34b0]) | skip)
      replace H := Option.bind_eq_some_iff.mp H
      obtain ⟨t476, A350, H⟩ := H
      replace H : (laws_FnExactTransmitFrame.j0 k l1 t457 t466 (!t476) a0_0 a0_1 a0_2) = some r := H
      have A35 := Aside0.mk A350
      clear A350
      have H' := Aside0.mk H
      clear H
      go_wp2_with (first | (go_at_call 15; (with_reducible refine (laws_eqIntS.calls k _ _ t466 _ _ t457 t476 _ ?side1 ?side2 ?side3 ?side4 A35.out).mono ?_); (case side1 => repeat (first | exact (Kd.R_reads' HO468.out).2.2 | (with_reducible refine Kd.C_alloc ?_ _) | (with_reducible refine Kd.C_drewN ?_ _) | (with_reducible refine Kd.C_drew ?_))); (case side2 => exact (Kd.R_reads' HO468.out).2.1); (case side3 => repeat (first | exact (Kd.R_reads' HO459.out).2.2 | (with_reducible refine Kd.C_alloc ?_ _) | (with_reducible refine Kd.C_drewN ?_ _) | (with_reducible refine Kd.C_drew ?_))); (case side4 => exact (Kd.R_reads' HO459.out).2.1); rintro e w' ⟨rfl, ⟨nd, rfl⟩⟩))
      go_meet
      case rel => exact ⟨_, (!t476), (by first | rfl | (simp; done) | (simp [*]; done)), H', ⟨by first | omega | exact Nat.le_refl _⟩, ⟨by (with_reducible repeat (first | apply Kd.R_alloc | apply Kd.R_drewN | apply Kd.R_drew)); exact HO459.out⟩, ⟨by (with_reducible repeat (first | apply Kd.R_alloc | apply Kd.R_drewN | apply Kd.R_drew)); exact HO468.out⟩, ⟨by (with_reducible repeat (first | refine blk_drewN ?_ _ | refine blk_drew ?_ | refine blk_alloc ?_ _)); exact BK450.out⟩, ⟨by repeat (first | (with_reducible first | exact HB.out | apply below_alloc | apply pw_below_drewN | apply below_drew1 | refine below_set ?_ GE450.out) | exact HB.out)⟩⟩
    case rest =>
     clear HC17
     try clear c1
     try clear p2
     try clear c3
     try clear c3b0
     try clear c3b1
     try clear c4
     try clear c10
     try clear c12
     try clear c15
     try clear c31
     try clear c34
     try clear c34b0
     try clear hcz19_0
     try clear hcz19_1
     try clear hcz19_2
     try clear hcz25_0
     try clear hcz25_1
     try clear hcz25_2
     try clear hfz19_0
     try clear hfz19_1
     try clear hfz19_2
     try clear hfz25_0
     try clear hfz25_1
     try clear hfz25_2
     obtain ⟨kq, x45_16, rfl, HA, HJ16, HO_5, HO_7, BK450, HB⟩ := hcut
     cases kq with
     | zero => exact absurd HA.out (by simp [laws_FnExactTransmitFrame.j0])
     | succ kj16 =>
      have H := HA.out
      clear HA
      simp only [laws_FnExactTransmitFrame.j0] at H
      by_cases c36 : x45_16 = true
      ·subst c36
       have H1 : (none) = some r := by rw [if_pos rfl] at H; exact H
       clear H
       have H := H1
       clear H1
       exact absurd H (by simp)
      ·replace c36 := Bool.eq_false_iff.mpr c36
       subst c36
       have H1 : ((laws_markIntS.f kj16 t466 1).bind fun bt477 => ((laws_heldIntS.f kj16 bt477.2 1).bind fun t479 => (if t479 < 0 then (none) else (if t479 = bt477.1 then ((laws_toPhyHeader.f a0_0 a0_1 a0_2).bind fun bt480 => ((laws_toByteS.f kj16 l1).bind fun t483 => ((impl_TransmitFrame.f kj16 bt480.1 bt480.2.1 bt480.2.2 t483).bind fun t486 => ((laws_eqIntS.f kj16 t486 t457).bind fun t489 => (if t489 = true then ((laws_heldIntS.f kj16 bt477.2 1).bind fun t490 => (if t490 < 0 then (none) else (if t490 = bt477.1 then (some true) else (none)))) else (none)))))) else (none))))) = some r := by rw [if_neg (show ¬ (false = true) by decide)] at H; exact H
       clear H
       have H := H1
       clear H1
       replace H := Option.bind_eq_some_iff.mp H
       obtain ⟨⟨t477, t478⟩, A370, H⟩ := H
       replace H : ((laws_heldIntS.f kj16 t478 1).bind fun t479 => (if t479 < 0 then (none) else (if t479 = t477 then ((laws_toPhyHeader.f a0_0 a0_1 a0_2).bind fun bt480 => ((laws_toByteS.f kj16 l1).bind fun t483 => ((impl_TransmitFrame.f kj16 bt480.1 bt480.2.1 bt480.2.2 t483).bind fun t486 => ((laws_eqIntS.f kj16 t486 t457).bind fun t489 => (if t489 = true then ((laws_heldIntS.f kj16 t478 1).bind fun t490 => (if t490 < 0 then (none) else (if t490 = t477 then (some true) else (none)))) else (none)))))) else (none)))) = some r := H
       have A37 := Aside0.mk A370
       clear A370
       replace H := Option.bind_eq_some_iff.mp H
       obtain ⟨t479, A380, H⟩ := H
       replace H : (if t479 < 0 then (none) else (if t479 = t477 then ((laws_toPhyHeader.f a0_0 a0_1 a0_2).bind fun bt480 => ((laws_toByteS.f kj16 l1).bind fun t483 => ((impl_TransmitFrame.f kj16 bt480.1 bt480.2.1 bt480.2.2 t483).bind fun t486 => ((laws_eqIntS.f kj16 t486 t457).bind fun t489 => (if t489 = true then ((laws_heldIntS.f kj16 t478 1).bind fun t490 => (if t490 < 0 then (none) else (if t490 = t477 then (some true) else (none)))) else (none)))))) else (none))) = some r := H
       have A38 := Aside0.mk A380
       clear A380
       by_cases c39 : t479 < 0
       ·rw [if_pos c39] at H
        exact absurd H (by simp)
       ·rw [if_neg c39] at H
        have c39b0 : decide (t479 < 0) = false := decide_eq_false c39
        clear c39
        by_cases c40 : t479 = t477
        ·rw [if_pos c40] at H
         have c40b0 : (t479 == t477) = true := beq_iff_eq.mpr c40
         have c40b1 : (t479 != t477) = false := bne_eq_false_iff_eq.mpr c40
         clear c40
         replace H := Option.bind_eq_some_iff.mp H
         obtain ⟨⟨t480, t481, t482⟩, A410, H⟩ := H
         replace H : ((laws_toByteS.f kj16 l1).bind fun t483 => ((impl_TransmitFrame.f kj16 t480 t481 t482 t483).bind fun t486 => ((laws_eqIntS.f kj16 t486 t457).bind fun t489 => (if t489 = true then ((laws_heldIntS.f kj16 t478 1).bind fun t490 => (if t490 < 0 then (none) else (if t490 = t477 then (some true) else (none)))) else (none))))) = some r := H
         have A41 := Aside0.mk A410
         clear A410
         replace H := Option.bind_eq_some_iff.mp H
         obtain ⟨t483, A420, H⟩ := H
         replace H : ((impl_TransmitFrame.f kj16 t480 t481 t482 t483).bind fun t486 => ((laws_eqIntS.f kj16 t486 t457).bind fun t489 => (if t489 = true then ((laws_heldIntS.f kj16 t478 1).bind fun t490 => (if t490 < 0 then (none) else (if t490 = t477 then (some true) else (none)))) else (none)))) = some r := H
         have A42 := Aside0.mk A420
         clear A420
         replace H := Option.bind_eq_some_iff.mp H
         obtain ⟨t486, A430, H⟩ := H
         replace H : ((laws_eqIntS.f kj16 t486 t457).bind fun t489 => (if t489 = true then ((laws_heldIntS.f kj16 t478 1).bind fun t490 => (if t490 < 0 then (none) else (if t490 = t477 then (some true) else (none)))) else (none))) = some r := H
         have A43 := Aside0.mk A430
         clear A430
         replace H := Option.bind_eq_some_iff.mp H
         obtain ⟨t489, A440, H⟩ := H
         replace H : (if t489 = true then ((laws_heldIntS.f kj16 t478 1).bind fun t490 => (if t490 < 0 then (none) else (if t490 = t477 then (some true) else (none)))) else (none)) = some r := H
         have A44 := Aside0.mk A440
         clear A440
         by_cases c45 : t489 = true
         ·subst c45
          have H1 : ((laws_heldIntS.f kj16 t478 1).bind fun t490 => (if t490 < 0 then (none) else (if t490 = t477 then (some true) else (none)))) = some r := by rw [if_pos rfl] at H; exact H
          clear H
          have H := H1
          clear H1
          replace H := Option.bind_eq_some_iff.mp H
          obtain ⟨t490, A460, H⟩ := H
          replace H : (if t490 < 0 then (none) else (if t490 = t477 then (some true) else (none))) = some r := H
          have A46 := Aside0.mk A460
          clear A460
          by_cases c47 : t490 < 0
          ·rw [if_pos c47] at H
           exact absurd H (by simp)
          ·rw [if_neg c47] at H
           have c47b0 : decide (t490 < 0) = false := decide_eq_false c47
           clear c47
           by_cases c48 : t490 = t477
           ·rw [if_pos c48] at H
            have c48b0 : (t490 == t477) = true := beq_iff_eq.mpr c48
            have c48b1 : (t490 != t477) = false := bne_eq_false_iff_eq.mpr c48
            clear c48
            obtain rfl := Option.some.inj H
            go_wp2_with (first | ((with_reducible refine gate_callee (f := 16) rfl ?_); refine goesL_ (some 48) rfl rfl Try.func16 (by kernel_rfl) rfl #[.slice Ao29 t466.length co29, .int .i64 1] rfl (by (try simp only [List.map_toArray, List.map_cons, List.map_nil]); first | done | rfl | (simp only [List.length_drop, List.length_take]; rfl)) ?_; (with_reducible refine (laws_markIntS.calls kj16 (fun k_ => some k_ = (.slice Ao29 t466.length co29 : Value).ownBlock) (.slice Ao29 t466.length co29) t466 1 t477 t478 w _ ?side1 ?side2 A37.out).mono ?_); (case side1 => repeat (first | (with_reducible first | exact HB.out | apply below_alloc | apply pw_below_drewN | apply below_drew1 | refine below_set ?_ GE450.out) | exact HB.out)); (case side2 => exact Kd.R_tight rfl HO_7.out); rintro e w49 ⟨rfl, hy0, hb, hkp⟩; refine ⟨_, rfl, ?_⟩; have n0_ := Aside0.mk (Kd.R_mono (ok' := fun k_ => some k_ ≠ (.slice Ao29 t466.length co29 : Value).ownBlock) (Kd.R_keptB (HO_5.out) hkp (fun k_ hk_ hs_ => (hk_) hs_)) (fun k_ hk_ => hk_.1)); have n1_ := Aside0.mk (Kd.R_reok rfl hy0 (fun k_ e_ => HO_7.out.1 k_ e_)); have n2_ := Aside0.mk (blk_kept (by (with_reducible repeat (first | refine blk_drewN ?_ _ | refine blk_drew ?_ | refine blk_alloc ?_ _)); exact BK450.out) hkp (fun hs_ => (fun e_ => (Kd.R_ne HO_7.out BK450.out (by decide)) e_) hs_)); have n3_ := Aside0.mk (hb); clear HO_5; clear HO_7; clear BK450; clear HB; have HO_5 := n0_; have HO_7 := n1_; have BK450 := n2_; have HB := n3_; clear n0_ n1_ n2_ n3_; (try clear hb); (try clear hkp); (try clear hy0)) | ((with_reducible refine gate_callee (f := 17) rfl ?_); refine goesL_ (some 51) rfl rfl Try.func17 (by kernel_rfl) rfl #[.slice Ao29 t478.length co29, .int .i64 1] rfl (by (try simp only [List.map_toArray, List.map_cons, List.map_nil]); first | done | (rw [show t478.length = t466.length from (Kd.R_reads' HO_7.out).1.symm] <;> rfl) | rfl | (simp only [List.length_drop, List.length_take]; rfl)) ?_; (with_reducible refine (laws_heldIntS.calls kj16 _ _ t478 1 t479 _ ?side1 ?side2 A38.out).mono ?_); (case side1 => repeat (first | exact (Kd.R_reads' HO_7.out).2.2 | (with_reducible refine Kd.C_alloc ?_ _) | (with_reducible refine Kd.C_drewN ?_ _) | (with_reducible refine Kd.C_drew ?_))); (case side2 => rw [show t478.length = t466.length from (Kd.R_reads' HO_7.out).1.symm]; exact (Kd.R_reads' HO_7.out).2.1); rintro e w' ⟨rfl, ⟨nd, rfl⟩⟩; refine ⟨_, rfl, ?_⟩; have hcz50_0 : w49.cell? ⟨gb450, 0, none⟩ = some (.int .i64 a0_0) := (blk_cell BK450.out 0).trans rfl; have hcz50_1 : w49.cell? ⟨gb450, 1, none⟩ = some (.int .i64 a0_1) := (blk_cell BK450.out 1).trans rfl; have hcz50_2 : w49.cell? ⟨gb450, 2, none⟩ = some (.int .i64 a0_2) := (blk_cell BK450.out 2).trans rfl; have hfz50_0 := blk_frozen BK450.out 0; have hfz50_1 := blk_frozen BK450.out 1; have hfz50_2 := blk_frozen BK450.out 2) | ((with_reducible refine gate_callee (f := 48) rfl ?_); refine goesL_ (some 58) rfl rfl Try.func48 (by kernel_rfl) rfl #[.agg #[.int .i64 a0_0, .int .i64 a0_1, .int .i64 a0_2]] rfl (by (try simp only [List.map_toArray, List.map_cons, List.map_nil]); first | done | rfl | (simp only [List.length_drop, List.length_take]; rfl)) ?_; (with_reducible refine (laws_toPhyHeader.calls a0_0 a0_1 a0_2 t480 t481 t482 _ A41.out).mono ?_); rintro e w51 ⟨rfl, hb⟩; refine ⟨_, rfl, ?_⟩; have n0_ := Aside0.mk (Kd.R_below (by (with_reducible repeat (first | apply Kd.R_alloc | apply Kd.R_drewN | apply Kd.R_drew)); exact HO_5.out) hb); have n1_ := Aside0.mk (Kd.R_below (by (with_reducible repeat (first | apply Kd.R_alloc | apply Kd.R_drewN | apply Kd.R_drew)); exact HO_7.out) hb); have n2_ := Aside0.mk (blk_below (g := gb450) (o := .cells #[.int .i64 a0_0, .int .i64 a0_1, .int .i64 a0_2] 52 (0, 0)) (by (with_reducible repeat (first | refine blk_drewN ?_ _ | refine blk_drew ?_ | refine blk_alloc ?_ _)); exact BK450.out) hb); have n3_ := Aside0.mk (below_step (by repeat (first | (with_reducible first | exact HB.out | apply below_alloc | apply pw_below_drewN | apply below_drew1 | refine below_set ?_ GE450.out) | exact HB.out)) hb); clear HO_5; clear HO_7; clear BK450; clear HB; have HO_5 := n0_; have HO_7 := n1_; have BK450 := n2_; have HB := n3_; clear n0_ n1_ n2_ n3_; (try clear hb); (try clear hb2); (try clear hk); (try clear hi)) | ((with_reducible refine gate_callee (f := 37) rfl ?_); refine goesL_ (some 60) rfl rfl Try.func37 (by kernel_rfl) rfl #[.slice A1 l1.length c1] rfl (by (try simp only [List.map_toArray, List.map_cons, List.map_nil]); first | done | rfl | (simp only [List.length_drop, List.length_take]; rfl)) ?_; (with_reducible refine (laws_toByteS.calls kj16 _ _ l1 t483 _ ?side1 ?side2 A42.out).mono ?_); (case side1 => repeat (first | exact (Kd.C_below HR1.out HB.out) | (with_reducible refine Kd.C_alloc ?_ _) | (with_reducible refine Kd.C_drewN ?_ _) | (with_reducible refine Kd.C_drew ?_))); (case side2 => exact HC1.out); rintro e w52 ⟨v484, rfl, ho0, hb⟩; refine ⟨_, rfl, ?_⟩; have n0_ := Aside0.mk (Kd.R_below (by (with_reducible repeat (first | apply Kd.R_alloc | apply Kd.R_drewN | apply Kd.R_drew)); exact HO_5.out) hb); have n1_ := Aside0.mk (Kd.R_below (by (with_reducible repeat (first | apply Kd.R_alloc | apply Kd.R_drewN | apply Kd.R_drew)); exact HO_7.out) hb); have n2_ := Aside0.mk (Kd.R_lower ho0 (below_size (by repeat (first | (with_reducible first | exact HB.out | apply below_alloc | apply pw_below_drewN | apply below_drew1 | refine below_set ?_ GE450.out) | exact HB.out)))); have n3_ := Aside0.mk (blk_below (g := gb450) (o := .cells #[.int .i64 a0_0, .int .i64 a0_1, .int .i64 a0_2] 52 (0, 0)) (by (with_reducible repeat (first | refine blk_drewN ?_ _ | refine blk_drew ?_ | refine blk_alloc ?_ _)); exact BK450.out) hb); have n4_ := Aside0.mk (below_step (by repeat (first | (with_reducible first | exact HB.out | apply below_alloc | apply pw_below_drewN | apply below_drew1 | refine below_set ?_ GE450.out) | exact HB.out)) hb); clear HO_5; clear HO_7; clear BK450; clear HB; have HO_5 := n0_; have HO_7 := n1_; have HO485 := n2_; have BK450 := n3_; have HB := n4_; clear n0_ n1_ n2_ n3_ n4_; (try clear hb); (try clear hb2); (try clear hk); (try clear hi); (try clear ho0); obtain ⟨Ao53, co53, eo53⟩ := Kd.R_slice HO485.out; subst eo53) | ((with_reducible refine gate_callee (f := 49) rfl ?_); refine goesL_ (some 61) rfl rfl Try.func49 (by kernel_rfl) rfl #[.agg #[.int .i64 t480, .int .i64 t481, .int .i64 t482], .slice Ao53 t483.length co53] rfl (by (try simp only [List.map_toArray, List.map_cons, List.map_nil]); first | done | rfl | (simp only [List.length_drop, List.length_take]; rfl)) ?_; (with_reducible refine (impl_TransmitFrame.calls kj16 t480 t481 t482 _ _ t483 t486 _ ?side1 ?side2 A43.out).mono ?_); (case side1 => repeat (first | exact (Kd.R_reads' HO485.out).2.2 | (with_reducible refine Kd.C_alloc ?_ _) | (with_reducible refine Kd.C_drewN ?_ _) | (with_reducible refine Kd.C_drew ?_))); (case side2 => exact (Kd.R_reads' HO485.out).2.1); rintro e w54 ⟨v487, rfl, ho0, hb⟩; refine ⟨_, rfl, ?_⟩; have n0_ := Aside0.mk (Kd.R_elder' (by (with_reducible repeat (first | apply Kd.R_alloc | apply Kd.R_drewN | apply Kd.R_drew)); exact HO_5.out) (Kd.R_base ho0) hb); have n1_ := Aside0.mk (Kd.R_elder' (by (with_reducible repeat (first | apply Kd.R_alloc | apply Kd.R_drewN | apply Kd.R_drew)); exact HO_7.out) (Kd.R_base ho0) hb); have n2_ := Aside0.mk (Kd.R_below (by (with_reducible repeat (first | apply Kd.R_alloc | apply Kd.R_drewN | apply Kd.R_drew)); exact HO485.out) hb); have n3_ := Aside0.mk (Kd.R_lower (Kd.R_new' (Kd.R_new' ho0 (Kd.R_lt (by (with_reducible repeat (first | apply Kd.R_alloc | apply Kd.R_drewN | apply Kd.R_drew)); exact HO_5.out))) (Kd.R_lt (by (with_reducible repeat (first | apply Kd.R_alloc | apply Kd.R_drewN | apply Kd.R_drew)); exact HO_7.out))) (below_size (by repeat (first | (with_reducible first | exact HB.out | apply below_alloc | apply pw_below_drewN | apply below_drew1 | refine below_set ?_ GE450.out) | exact HB.out)))); have n4_ := Aside0.mk (blk_below (g := gb450) (o := .cells #[.int .i64 a0_0, .int .i64 a0_1, .int .i64 a0_2] 52 (0, 0)) (by (with_reducible repeat (first | refine blk_drewN ?_ _ | refine blk_drew ?_ | refine blk_alloc ?_ _)); exact BK450.out) hb); have n5_ := Aside0.mk (below_step (by repeat (first | (with_reducible first | exact HB.out | apply below_alloc | apply pw_below_drewN | apply below_drew1 | refine below_set ?_ GE450.out) | exact HB.out)) hb); clear HO_5; clear HO_7; clear HO485; clear BK450; clear HB; have HO_5 := n0_; have HO_7 := n1_; have HO485 := n2_; have HO488 := n3_; have BK450 := n4_; have HB := n5_; clear n0_ n1_ n2_ n3_ n4_ n5_; (try clear hb); (try clear hb2); (try clear hk); (try clear hi); (try clear ho0); obtain ⟨Ao55, co55, eo55⟩ := Kd.R_slice HO488.out; subst eo55) | ((with_reducible refine gate_callee (f := 15) rfl ?_); refine goesL_ (some 64) rfl rfl Try.func15 (by kernel_rfl) rfl #[.slice Ao55 t486.length co55, .slice Ao30 t457.length co30] rfl (by (try simp only [List.map_toArray, List.map_cons, List.map_nil]); first | done | rfl | (simp only [List.length_drop, List.length_take]; rfl)) ?_; (with_reducible refine (laws_eqIntS.calls kj16 _ _ t486 _ _ t457 true _ ?side1 ?side2 ?side3 ?side4 A44.out).mono ?_); (case side1 => repeat (first | exact (Kd.R_reads' HO488.out).2.2 | (with_reducible refine Kd.C_alloc ?_ _) | (with_reducible refine Kd.C_drewN ?_ _) | (with_reducible refine Kd.C_drew ?_))); (case side2 => exact (Kd.R_reads' HO488.out).2.1); (case side3 => repeat (first | exact (Kd.R_reads' HO_5.out).2.2 | (with_reducible refine Kd.C_alloc ?_ _) | (with_reducible refine Kd.C_drewN ?_ _) | (with_reducible refine Kd.C_drew ?_))); (case side4 => exact (Kd.R_reads' HO_5.out).2.1); rintro e w' ⟨rfl, ⟨nd, rfl⟩⟩; refine ⟨_, rfl, ?_⟩) | ((with_reducible refine gate_callee (f := 17) rfl ?_); refine goesL_ (some 68) rfl rfl Try.func17 (by kernel_rfl) rfl #[.slice Ao29 t478.length co29, .int .i64 1] rfl (by (try simp only [List.map_toArray, List.map_cons, List.map_nil]); first | done | (rw [show t478.length = t466.length from (Kd.R_reads' HO_7.out).1.symm] <;> rfl) | rfl | (simp only [List.length_drop, List.length_take]; rfl)) ?_; (with_reducible refine (laws_heldIntS.calls kj16 _ _ t478 1 t490 _ ?side1 ?side2 A46.out).mono ?_); (case side1 => repeat (first | exact (Kd.R_reads' HO_7.out).2.2 | (with_reducible refine Kd.C_alloc ?_ _) | (with_reducible refine Kd.C_drewN ?_ _) | (with_reducible refine Kd.C_drew ?_))); (case side2 => rw [show t478.length = t466.length from (Kd.R_reads' HO_7.out).1.symm]; exact (Kd.R_reads' HO_7.out).2.1); rintro e w' ⟨rfl, ⟨nd, rfl⟩⟩; refine ⟨_, rfl, ?_⟩))
            go_ret
            exact ⟨by first | rfl | exact congrArg (fun z_ : Int => Ending.returned (Value.int .i64 z_)) (i64_w _) | (simp [errW_none, errW_some] <;> rfl) | (simp [*, errW_none, errW_some] <;> rfl), by repeat (first | (with_reducible first | exact HB.out | apply below_alloc | apply pw_below_drewN | apply below_drew1 | refine below_set ?_ GE450.out) | exact HB.out)⟩
           ·rw [if_neg c48] at H
            exact absurd H (by simp)
         ·replace c45 := Bool.eq_false_iff.mpr c45
          subst c45
          have H1 : (none) = some r := by rw [if_neg (show ¬ (false = true) by decide)] at H; exact H
          clear H
          have H := H1
          clear H1
          exact absurd H (by simp)
        ·rw [if_neg c40] at H
         exact absurd H (by simp)
   ·replace c15 := Bool.eq_false_iff.mpr c15
    subst c15
    have H1 : (none) = some r := by rw [if_neg (show ¬ (false = true) by decide)] at H; exact H
    clear H
    have H := H1
    clear H1
    exact absurd H (by simp)
  ·replace c12 := Bool.eq_false_iff.mpr c12
   subst c12
   have H1 : (none) = some r := by rw [if_neg (show ¬ (false = true) by decide)] at H; exact H
   clear H
   have H := H1
   clear H1
   exact absurd H (by simp)

end Go.Proofs.Ythdjoogholigbaa.PFnExactTransmitFrame
