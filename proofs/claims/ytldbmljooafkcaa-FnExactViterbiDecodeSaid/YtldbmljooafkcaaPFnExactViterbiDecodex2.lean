/- Contracts of Go functions: what each returns is what the Lean function of its name computes. Conditions: its arguments read as that function's arguments. Written by this session's program print2.py (the kit's print, with changes of this session's). -/
import Derived.Test.YtldbmljooafkcaaPFnExactViterbiDecodex0
import Derived.Test.YtldbmljooafkcaaPFnExactViterbiDecodex1
namespace Go.Proofs.Ytldbmljooafkcaa.PFnExactViterbiDecode
open Go.RowKit Go.Proofs.YtldbmljooafkcaaW.PrintWords Go.Proofs.YtldbmljooafkcaaW.PrintLast Go.Proofs.YtldbmljooafkcaaW.PrintMore
attribute [local go_sem] max2_int min2_int max_two min_two max_three min_three max_four min_four   -- for this text's walks alone
set_option linter.unusedVariables false
set_option linter.unusedSimpArgs false

/-! ### spec_BranchDistance: function 152 -/
def spec_BranchDistance.j0 : Nat → Int → Int → Int → Bool → Option (Int)
 | 0, _, _, _, _ => none
 | k + 1, x3, x10, x11, x24 => if x24 = true then (if x3 = 2 then (some (wrap64 (x11 + 1))) else (if x3 = x10 then (some (wrap64 (x11 + 1))) else (some (wrap64 ((wrap64 (x11 + 1)) + 1))))) else (if x3 = 2 then (some x11) else (if x3 = x10 then (some x11) else (some (wrap64 (x11 + 1)))))
def spec_BranchDistance.f (k : Nat) (a0 : Int) (a1 : Int) (a2 : Int) (a3 : Int) : Option (Int) := (spec_OutputPair.f a0 a1).bind fun bt117 => (if a2 = 2 then (spec_BranchDistance.j0 k a3 bt117.2 0 false) else (spec_BranchDistance.j0 k a3 bt117.2 0 (a2 != bt117.1)))
theorem spec_BranchDistance.mono_l : ∀ k, (∀ y0 y1 y2 y3, LeO (spec_BranchDistance.j0 k y0 y1 y2 y3) (spec_BranchDistance.j0 (k + 1) y0 y1 y2 y3))
 | 0 => fun _ _ _ _ r h => by simp [spec_BranchDistance.j0] at h
 | k + 1 => by
  have ih0 := spec_BranchDistance.mono_l k
  ·intro y0 y1 y2 y3
   unfold spec_BranchDistance.j0
   repeat' first
   | (with_reducible exact ih0 _ _ _ _)
   | (with_reducible exact LeO.refl _)
   | (with_reducible exact LeO.none _)
   | (with_reducible refine LeO.ite ?_ ?_)
   | (with_reducible refine LeO.bind ?_ (fun _ => ?_))
   | exact ih0 _ _ _ _
   | exact LeO.none _
   | refine LeO.ite ?_ ?_
   | refine LeO.bind ?_ (fun _ => ?_)
theorem spec_BranchDistance.mono : ∀ a0 a1 a2 a3 k, LeO (spec_BranchDistance.f k a0 a1 a2 a3) (spec_BranchDistance.f (k + 1) a0 a1 a2 a3) := by
 intro a0 a1 a2 a3 k
 have ih0 := spec_BranchDistance.mono_l k
 unfold spec_BranchDistance.f
 repeat' first
   | (with_reducible exact ih0 _ _ _ _)
   | (with_reducible exact LeO.refl _)
   | (with_reducible exact LeO.none _)
   | (with_reducible refine LeO.ite ?_ ?_)
   | (with_reducible refine LeO.bind ?_ (fun _ => ?_))
   | exact ih0 _ _ _ _
   | exact LeO.none _
   | refine LeO.ite ?_ ?_
   | refine LeO.bind ?_ (fun _ => ?_)
set_option maxHeartbeats 8000000 in
set_option maxRecDepth 100000 in
theorem spec_BranchDistance.calls (k : Nat) (a0 : Int) (a1 : Int) (a2 : Int) (a3 : Int) (r : Int) (w : World) (h : spec_BranchDistance.f k a0 a1 a2 a3 = some r) :
  Calls Try.prog 152 #[.int .i64 a0, .int .i64 a1, .int .i64 a2, .int .i64 a3] w fun e w' => e = .returned (.int .i64 r) ∧ Drawn0 w w' := by
 have H : ((spec_OutputPair.f a0 a1).bind fun bt117 => (if a2 = 2 then (spec_BranchDistance.j0 k a3 bt117.2 0 false) else (spec_BranchDistance.j0 k a3 bt117.2 0 (a2 != bt117.1)))) = some r := h
 clear h
 replace H := Option.bind_eq_some_iff.mp H
 obtain ⟨⟨t117, t118⟩, A50, H⟩ := H
 replace H : (if a2 = 2 then (spec_BranchDistance.j0 k a3 t118 0 false) else (spec_BranchDistance.j0 k a3 t118 0 (a2 != t117))) = some r := H
 have A5 := Aside0.mk A50
 clear A50
 have HC6 := Aside0.mk H
 clear H
 go_enter Try.func152, Try.ntmps152
 go_upto_region 3 with (first | ((with_reducible refine gate_callee (f := 113) rfl ?_); refine goesL_ (some 15) rfl rfl Try.func113 (by kernel_rfl) rfl #[.int .i64 a0, .int .i64 a1] rfl (by (try simp only [List.map_toArray, List.map_cons, List.map_nil]); first | done | rfl | (simp only [List.length_drop, List.length_take]; rfl)) ?_; (with_reducible refine (spec_OutputPair.calls a0 a1 t117 t118 _ A5.out).mono ?_); rintro e w' ⟨rfl, ⟨nd, rfl⟩⟩; refine ⟨_, rfl, ?_⟩))
 (try simp only [Act.put, List.setIfInBounds_toArray, List.set_cons_zero, List.set_cons_succ])
 go_cut [24] (fun v24 wc => ∃ (kq : Nat) (x24_5 : Bool), v24 = .bool x24_5 ∧ Aside0 (spec_BranchDistance.j0 kq a3 t118 0 x24_5 = some r) ∧ Aside0 (kq ≤ k) ∧ Drawn0 w wc)
 case first =>
  have H := HC6.out
  clear HC6
  by_cases c7 : a2 = 2
  ·rw [if_pos c7] at H
   have c7b0 : (a2 == 2) = true := beq_iff_eq.mpr c7
   have c7b1 : (a2 != 2) = false := bne_eq_false_iff_eq.mpr c7
   clear c7
   (first | rw [c7b0] | (simp only [i64_w, i32_w]; rw [c7b0]) | skip)
   have H' := Aside0.mk H
   clear H
   go_wp2
   go_meet
   case rel => exact ⟨_, (false), (by first | rfl | (simp; done) | (simp [*]; done)), H', ⟨by first | omega | exact Nat.le_refl _⟩, by repeat (first | exact Drawn0.refl _ | apply Drawn0.step)⟩
  ·rw [if_neg c7] at H
   have c7b0 : (a2 == 2) = false := beq_eq_false_iff_ne.mpr c7
   have c7b1 : (a2 != 2) = true := bne_iff_ne.mpr c7
   (first | rw [c7b0] | (simp only [i64_w, i32_w]; rw [c7b0]) | skip)
   have H' := Aside0.mk H
   clear H
   go_wp2
   go_meet
   case rel => exact ⟨_, ((a2 != t117)), (by first | rfl | (simp; done) | (simp [*]; done)), H', ⟨by first | omega | exact Nat.le_refl _⟩, by repeat (first | exact Drawn0.refl _ | apply Drawn0.step)⟩
 case rest =>
  clear HC6
  try clear c1
  try clear p2
  try clear c7
  try clear c7b0
  try clear c7b1
  obtain ⟨kq, x24_5, rfl, HA, HJ5, ⟨mc5, rfl⟩⟩ := hcut
  cases kq with
  | zero => exact absurd HA.out (by simp [spec_BranchDistance.j0])
  | succ kj5 =>
   have H := HA.out
   clear HA
   simp only [spec_BranchDistance.j0] at H
   by_cases c8 : x24_5 = true
   ·subst c8
    have H1 : (if a3 = 2 then (some (wrap64 (0 + 1))) else (if a3 = t118 then (some (wrap64 (0 + 1))) else (some (wrap64 ((wrap64 (0 + 1)) + 1))))) = some r := by rw [if_pos rfl] at H; exact H
    clear H
    have H := H1
    clear H1
    by_cases c9 : a3 = 2
    ·rw [if_pos c9] at H
     have c9b0 : (a3 == 2) = true := beq_iff_eq.mpr c9
     have c9b1 : (a3 != 2) = false := bne_eq_false_iff_eq.mpr c9
     clear c9
     obtain rfl := Option.some.inj H
     go_wp2
     go_ret
     exact ⟨by first | rfl | exact congrArg (fun z_ : Int => Ending.returned (Value.int .i64 z_)) (i64_w _) | (simp; done) | (simp [*]; done) | (simp [wrap64]; done), by repeat (first | exact Drawn0.refl _ | apply Drawn0.step)⟩
    ·rw [if_neg c9] at H
     have c9b0 : (a3 == 2) = false := beq_eq_false_iff_ne.mpr c9
     have c9b1 : (a3 != 2) = true := bne_iff_ne.mpr c9
     by_cases c10 : a3 = t118
     ·rw [if_pos c10] at H
      have c10b0 : (a3 == t118) = true := beq_iff_eq.mpr c10
      have c10b1 : (a3 != t118) = false := bne_eq_false_iff_eq.mpr c10
      clear c10
      obtain rfl := Option.some.inj H
      go_wp2
      go_ret
      exact ⟨by first | rfl | exact congrArg (fun z_ : Int => Ending.returned (Value.int .i64 z_)) (i64_w _) | (simp; done) | (simp [*]; done) | (simp [wrap64]; done), by repeat (first | exact Drawn0.refl _ | apply Drawn0.step)⟩
     ·rw [if_neg c10] at H
      have c10b0 : (a3 == t118) = false := beq_eq_false_iff_ne.mpr c10
      have c10b1 : (a3 != t118) = true := bne_iff_ne.mpr c10
      obtain rfl := Option.some.inj H
      go_wp2
      go_ret
      exact ⟨by first | rfl | exact congrArg (fun z_ : Int => Ending.returned (Value.int .i64 z_)) (i64_w _) | (simp; done) | (simp [*]; done) | (simp [wrap64]; done), by repeat (first | exact Drawn0.refl _ | apply Drawn0.step)⟩
   ·replace c8 := Bool.eq_false_iff.mpr c8
    subst c8
    have H1 : (if a3 = 2 then (some 0) else (if a3 = t118 then (some 0) else (some (wrap64 (0 + 1))))) = some r := by rw [if_neg (show ¬ (false = true) by decide)] at H; exact H
    clear H
    have H := H1
    clear H1
    by_cases c11 : a3 = 2
    ·rw [if_pos c11] at H
     have c11b0 : (a3 == 2) = true := beq_iff_eq.mpr c11
     have c11b1 : (a3 != 2) = false := bne_eq_false_iff_eq.mpr c11
     clear c11
     obtain rfl := Option.some.inj H
     go_wp2
     go_ret
     exact ⟨by first | rfl | exact congrArg (fun z_ : Int => Ending.returned (Value.int .i64 z_)) (i64_w _) | (simp; done) | (simp [*]; done) | (simp [wrap64]; done), by repeat (first | exact Drawn0.refl _ | apply Drawn0.step)⟩
    ·rw [if_neg c11] at H
     have c11b0 : (a3 == 2) = false := beq_eq_false_iff_ne.mpr c11
     have c11b1 : (a3 != 2) = true := bne_iff_ne.mpr c11
     by_cases c12 : a3 = t118
     ·rw [if_pos c12] at H
      have c12b0 : (a3 == t118) = true := beq_iff_eq.mpr c12
      have c12b1 : (a3 != t118) = false := bne_eq_false_iff_eq.mpr c12
      clear c12
      obtain rfl := Option.some.inj H
      go_wp2
      go_ret
      exact ⟨by first | rfl | exact congrArg (fun z_ : Int => Ending.returned (Value.int .i64 z_)) (i64_w _) | (simp; done) | (simp [*]; done) | (simp [wrap64]; done), by repeat (first | exact Drawn0.refl _ | apply Drawn0.step)⟩
     ·rw [if_neg c12] at H
      have c12b0 : (a3 == t118) = false := beq_eq_false_iff_ne.mpr c12
      have c12b1 : (a3 != t118) = true := bne_iff_ne.mpr c12
      obtain rfl := Option.some.inj H
      go_wp2
      go_ret
      exact ⟨by first | rfl | exact congrArg (fun z_ : Int => Ending.returned (Value.int .i64 z_)) (i64_w _) | (simp; done) | (simp [*]; done) | (simp [wrap64]; done), by repeat (first | exact Drawn0.refl _ | apply Drawn0.step)⟩

/-! ### spec_l7Costs: function 106 -/
mutual
def spec_l7Costs.l0 : Nat → List Int → Int → List (List Int) → Int → Option ((List (List Int)))
 | 0, _, _, _, _ => none
 | k + 1, x0, x1, x5, x6 => if x6 < (wrap64 (x1 + 2)) then (spec_l7Costs.l1 k x0 x1 x5 x6 (([(-1), (-1), (-1), (-1)] : List Int)) 0) else (some x5)
def spec_l7Costs.l1 : Nat → List Int → Int → List (List Int) → Int → List Int → Int → Option ((List (List Int)))
 | 0, _, _, _, _, _, _ => none
 | k + 1, x0, x1, x5, x6, x7, x8 => if x8 < 4 then (spec_l7Costs.l2 k x0 x1 x5 x6 x7 x8 0) else (if x5.length < 5864062014805 then (spec_l7Costs.l0 k x0 x1 (x5 ++ [x7]) (wrap64 (x6 + 1))) else (none))
def spec_l7Costs.l2 : Nat → List Int → Int → List (List Int) → Int → List Int → Int → Int → Option ((List (List Int)))
 | 0, _, _, _, _, _, _, _ => none
 | k + 1, x0, x1, x5, x6, x7, x8, x9 => if x9 < 2 then (if 0 ≤ x6 then (if x6 < (x5.length : Int) then (if 0 ≤ x8 then (if x8 < ((rd_L1 x5 x6).length : Int) then (if (rd (rd_L1 x5 x6) x8) < 0 then (spec_l7Costs.j3 k x0 x1 x5 x6 x7 x8 x9 true) else (if x9 = 1 then (spec_l7Costs.j3 k x0 x1 x5 x6 x7 x8 x9 (decide (x6 ≥ x1))) else (spec_l7Costs.j3 k x0 x1 x5 x6 x7 x8 x9 false))) else (none)) else (none)) else (none)) else (none)) else (spec_l7Costs.l1 k x0 x1 x5 x6 x7 (wrap64 (x8 + 1)))
def spec_l7Costs.j3 : Nat → List Int → Int → List (List Int) → Int → List Int → Int → Int → Bool → Option ((List (List Int)))
 | 0, _, _, _, _, _, _, _, _ => none
 | k + 1, x0, x1, x5, x6, x7, x8, x9, x45 => if x45 = true then (spec_l7Costs.l2 k x0 x1 x5 x6 x7 x8 (wrap64 (x9 + 1))) else (if 0 ≤ x6 then (if x6 < (x5.length : Int) then (if 0 ≤ x8 then (if x8 < ((rd_L1 x5 x6).length : Int) then (if 0 ≤ (wrap64 (2 * x6)) then (if (wrap64 (2 * x6)) < (x0.length : Int) then (if 0 ≤ (wrap64 ((wrap64 (2 * x6)) + 1)) then (if (wrap64 ((wrap64 (2 * x6)) + 1)) < (x0.length : Int) then ((spec_BranchDistance.f k x8 x9 (rd x0 (wrap64 (2 * x6))) (rd x0 (wrap64 ((wrap64 (2 * x6)) + 1)))).bind fun t137 => ((spec_NextState.f x8 x9).bind fun t138 => (if 0 ≤ t138 then (if t138 < (x7.length : Int) then (if (rd x7 t138) < 0 then (spec_l7Costs.l2 k x0 x1 x5 x6 (x7.set (t138 : Int).toNat (wrap64 ((rd (rd_L1 x5 x6) x8) + t137))) x8 (wrap64 (x9 + 1))) else (if (wrap64 ((rd (rd_L1 x5 x6) x8) + t137)) < (rd x7 t138) then (spec_l7Costs.l2 k x0 x1 x5 x6 (x7.set (t138 : Int).toNat (wrap64 ((rd (rd_L1 x5 x6) x8) + t137))) x8 (wrap64 (x9 + 1))) else (spec_l7Costs.l2 k x0 x1 x5 x6 x7 x8 (wrap64 (x9 + 1))))) else (none)) else (none)))) else (none)) else (none)) else (none)) else (none)) else (none)) else (none)) else (none)) else (none))
end
def spec_l7Costs.f (k : Nat) (l0 : List Int) (a1 : Int) : Option ((List (List Int))) := spec_l7Costs.l0 k l0 a1 (([(([0, (-1), (-1), (-1)] : List Int))] : List (List Int))) 0
theorem spec_l7Costs.mono_l : ∀ k, (∀ y0 y1 y2 y3, LeO (spec_l7Costs.l0 k y0 y1 y2 y3) (spec_l7Costs.l0 (k + 1) y0 y1 y2 y3)) ∧ (∀ y0 y1 y2 y3 y4 y5, LeO (spec_l7Costs.l1 k y0 y1 y2 y3 y4 y5) (spec_l7Costs.l1 (k + 1) y0 y1 y2 y3 y4 y5)) ∧ (∀ y0 y1 y2 y3 y4 y5 y6, LeO (spec_l7Costs.l2 k y0 y1 y2 y3 y4 y5 y6) (spec_l7Costs.l2 (k + 1) y0 y1 y2 y3 y4 y5 y6)) ∧ (∀ y0 y1 y2 y3 y4 y5 y6 y7, LeO (spec_l7Costs.j3 k y0 y1 y2 y3 y4 y5 y6 y7) (spec_l7Costs.j3 (k + 1) y0 y1 y2 y3 y4 y5 y6 y7))
 | 0 => ⟨fun _ _ _ _ r h => by simp [spec_l7Costs.l0] at h, fun _ _ _ _ _ _ r h => by simp [spec_l7Costs.l1] at h, fun _ _ _ _ _ _ _ r h => by simp [spec_l7Costs.l2] at h, fun _ _ _ _ _ _ _ _ r h => by simp [spec_l7Costs.j3] at h⟩
 | k + 1 => by
  obtain ⟨ih0, ih1, ih2, ih3⟩ := spec_l7Costs.mono_l k
  refine ⟨?_, ?_, ?_, ?_⟩
  ·intro y0 y1 y2 y3
   unfold spec_l7Costs.l0
   repeat' first
   | (with_reducible exact ih0 _ _ _ _)
   | (with_reducible exact ih1 _ _ _ _ _ _)
   | (with_reducible exact ih2 _ _ _ _ _ _ _)
   | (with_reducible exact ih3 _ _ _ _ _ _ _ _)
   | (with_reducible exact spec_BranchDistance.mono _ _ _ _ _)
   | (with_reducible exact LeO.refl _)
   | (with_reducible exact LeO.none _)
   | (with_reducible refine LeO.ite ?_ ?_)
   | (with_reducible refine LeO.bind ?_ (fun _ => ?_))
   | exact ih0 _ _ _ _
   | exact ih1 _ _ _ _ _ _
   | exact ih2 _ _ _ _ _ _ _
   | exact ih3 _ _ _ _ _ _ _ _
   | exact spec_BranchDistance.mono _ _ _ _ _
   | exact LeO.none _
   | refine LeO.ite ?_ ?_
   | refine LeO.bind ?_ (fun _ => ?_)
  ·intro y0 y1 y2 y3 y4 y5
   unfold spec_l7Costs.l1
   repeat' first
   | (with_reducible exact ih0 _ _ _ _)
   | (with_reducible exact ih1 _ _ _ _ _ _)
   | (with_reducible exact ih2 _ _ _ _ _ _ _)
   | (with_reducible exact ih3 _ _ _ _ _ _ _ _)
   | (with_reducible exact spec_BranchDistance.mono _ _ _ _ _)
   | (with_reducible exact LeO.refl _)
   | (with_reducible exact LeO.none _)
   | (with_reducible refine LeO.ite ?_ ?_)
   | (with_reducible refine LeO.bind ?_ (fun _ => ?_))
   | exact ih0 _ _ _ _
   | exact ih1 _ _ _ _ _ _
   | exact ih2 _ _ _ _ _ _ _
   | exact ih3 _ _ _ _ _ _ _ _
   | exact spec_BranchDistance.mono _ _ _ _ _
   | exact LeO.none _
   | refine LeO.ite ?_ ?_
   | refine LeO.bind ?_ (fun _ => ?_)
  ·intro y0 y1 y2 y3 y4 y5 y6
   unfold spec_l7Costs.l2
   repeat' first
   | (with_reducible exact ih0 _ _ _ _)
   | (with_reducible exact ih1 _ _ _ _ _ _)
   | (with_reducible exact ih2 _ _ _ _ _ _ _)
   | (with_reducible exact ih3 _ _ _ _ _ _ _ _)
   | (with_reducible exact spec_BranchDistance.mono _ _ _ _ _)
   | (with_reducible exact LeO.refl _)
   | (with_reducible exact LeO.none _)
   | (with_reducible refine LeO.ite ?_ ?_)
   | (with_reducible refine LeO.bind ?_ (fun _ => ?_))
   | exact ih0 _ _ _ _
   | exact ih1 _ _ _ _ _ _
   | exact ih2 _ _ _ _ _ _ _
   | exact ih3 _ _ _ _ _ _ _ _
   | exact spec_BranchDistance.mono _ _ _ _ _
   | exact LeO.none _
   | refine LeO.ite ?_ ?_
   | refine LeO.bind ?_ (fun _ => ?_)
  ·intro y0 y1 y2 y3 y4 y5 y6 y7
   unfold spec_l7Costs.j3
   repeat' first
   | (with_reducible exact ih0 _ _ _ _)
   | (with_reducible exact ih1 _ _ _ _ _ _)
   | (with_reducible exact ih2 _ _ _ _ _ _ _)
   | (with_reducible exact ih3 _ _ _ _ _ _ _ _)
   | (with_reducible exact spec_BranchDistance.mono _ _ _ _ _)
   | (with_reducible exact LeO.refl _)
   | (with_reducible exact LeO.none _)
   | (with_reducible refine LeO.ite ?_ ?_)
   | (with_reducible refine LeO.bind ?_ (fun _ => ?_))
   | exact ih0 _ _ _ _
   | exact ih1 _ _ _ _ _ _
   | exact ih2 _ _ _ _ _ _ _
   | exact ih3 _ _ _ _ _ _ _ _
   | exact spec_BranchDistance.mono _ _ _ _ _
   | exact LeO.none _
   | refine LeO.ite ?_ ?_
   | refine LeO.bind ?_ (fun _ => ?_)
theorem spec_l7Costs.mono : ∀ a0 a1 k, LeO (spec_l7Costs.f k a0 a1) (spec_l7Costs.f (k + 1) a0 a1) := by
 intro a0 a1 k
 obtain ⟨ih0, ih1, ih2, ih3⟩ := spec_l7Costs.mono_l k
 unfold spec_l7Costs.f
 repeat' first
   | (with_reducible exact ih0 _ _ _ _)
   | (with_reducible exact ih1 _ _ _ _ _ _)
   | (with_reducible exact ih2 _ _ _ _ _ _ _)
   | (with_reducible exact ih3 _ _ _ _ _ _ _ _)
   | (with_reducible exact spec_BranchDistance.mono _ _ _ _ _)
   | (with_reducible exact LeO.refl _)
   | (with_reducible exact LeO.none _)
   | (with_reducible refine LeO.ite ?_ ?_)
   | (with_reducible refine LeO.bind ?_ (fun _ => ?_))
   | exact ih0 _ _ _ _
   | exact ih1 _ _ _ _ _ _
   | exact ih2 _ _ _ _ _ _ _
   | exact ih3 _ _ _ _ _ _ _ _
   | exact spec_BranchDistance.mono _ _ _ _ _
   | exact LeO.none _
   | refine LeO.ite ?_ ?_
   | refine LeO.bind ?_ (fun _ => ?_)
set_option maxHeartbeats 8000000 in
set_option maxRecDepth 100000 in
theorem spec_l7Costs.calls (k : Nat) (A0 : Option Addr) (c0 : Nat) (l0 : List Int) (a1 : Int) (r : List (List Int)) (w : World) (hr0 : Kd.C (Kd.int .i64) w A0 l0.length l0) (hc0 : l0.length ≤ c0) (h : spec_l7Costs.f k l0 a1 = some r) :
  Calls Try.prog 106 #[.slice A0 l0.length c0, .int .i64 a1] w fun e w' => ∃ v0_ : Value, e = .returned (v0_) ∧ Kd.N (Kd.slice 3 (Kd.int .i64)) 22 w' w.heap.size (fun k_ => (w.heap.size ≤ k_)) v0_ r ∧ Below w.heap.size w w' := by
 have HR0 := Aside0.mk hr0
 have HC0 := Aside0.mk hc0
 clear hr0 hc0
 have HB := Aside0.mk (Below.refl w.heap.size w)
 have H : (spec_l7Costs.l0 k l0 a1 (([(([0, (-1), (-1), (-1)] : List Int))] : List (List Int))) 0) = some r := h
 clear h
 obtain ⟨y119, hy119⟩ : ∃ y_ : List Int, y_ = (([0, (-1), (-1), (-1)] : List Int)) := ⟨_, rfl⟩
 replace H : (spec_l7Costs.l0 k l0 a1 (([y119] : List (List Int))) 0) = some r := by first | (rw [hy119]; with_reducible exact H) | (have H2_ := (Option.bind_some _ _).symm.trans H; rw [hy119]; with_reducible exact H2_) | (have H2_ := (Option.bind_some _ _).symm.trans H; with_reducible exact H2_) | with_reducible exact H | (rw [hy119]; exact H) | exact H
 have Ny119 := Aside0.mk hy119
 clear hy119
 obtain ⟨y122, hy122⟩ : ∃ y_ : List (List Int), y_ = (([y119] : List (List Int))) := ⟨_, rfl⟩
 replace H : (spec_l7Costs.l0 k l0 a1 y122 0) = some r := by first | (rw [hy122]; with_reducible exact H) | (have H2_ := (Option.bind_some _ _).symm.trans H; rw [hy122]; with_reducible exact H2_) | (have H2_ := (Option.bind_some _ _).symm.trans H; with_reducible exact H2_) | with_reducible exact H | (rw [hy122]; exact H) | exact H
 have Ny122 := Aside0.mk hy122
 clear hy122
 have H' := Aside0.mk H
 clear H
 go_enter Try.func106, Try.ntmps106
 go_wp2_with (first | ((with_reducible refine gate_dst (N := 12) rfl ?_); refine Kd.R_lit (Kd.int .i64) _ 3 ?hg (N := 12) ?hd (xs := ([0, (-1), (-1), (-1)] : List Int)) (inner := [.int .i64 0, .int .i64 (-1), .int .i64 (-1), .int .i64 (-1)]) (ok := fun _ => True) (okp := fun _ => True) ?hr ?hp (fun _ hk => hk) trivial (Below.refl _ _) (Nat.le_refl _) (by simp) ?_; (case hd => rfl); (case hg => rfl); (case hr => first | (go_simp; done) | (go_simp; rfl)); (case hp => exact (Reps.one (show Kd.M (Kd.int .i64) _ _ _ 0 [.int .i64 0] from rfl) (Reps.one (show Kd.M (Kd.int .i64) _ _ _ (-1) [.int .i64 (-1)] from rfl) (Reps.one (show Kd.M (Kd.int .i64) _ _ _ (-1) [.int .i64 (-1)] from rfl) (Reps.one (show Kd.M (Kd.int .i64) _ _ _ (-1) [.int .i64 (-1)] from rfl) (Reps.none _ _)))))); intro v120 w3 ho4 hb hg_ hnew_; clear hg_ hnew_; (first | rw [← Ny119.out] at ho4 | (simp only [Int.reduceToNat] at ho4; rw [← Ny119.out] at ho4)); have n0_ := Aside0.mk (Kd.R_lower (Kd.R_newM (M := fun k_ => (w.heap.size ≤ k_)) ho4 (below_size (by repeat (first | (with_reducible first | exact HB.out | apply below_alloc | apply pw_below_drewN | apply below_drew1) | exact HB.out))) (fun k_ h_ => h_)) (below_size (by repeat (first | (with_reducible first | exact HB.out | apply below_alloc | apply pw_below_drewN | apply below_drew1) | exact HB.out)))); have n1_ := Aside0.mk (below_step (by repeat (first | (with_reducible first | exact HB.out | apply below_alloc | apply pw_below_drewN | apply below_drew1) | exact HB.out)) hb); clear HB; have HO121 := n0_; have HB := n1_; clear n0_ n1_; clear hb ho4; obtain ⟨Ao5, co5, eo5⟩ := Kd.R_slice HO121.out; subst eo5) | ((with_reducible refine gate_dst (N := 13) rfl ?_); refine Kd.N_lit (Kd.slice 3 (Kd.int .i64)) _ 22 ?hg (N' := 13) ?hd (xs := ([y119] : List (List Int))) (inner := [.slice Ao5 y119.length co5]) (ok := (fun k_ => (w.heap.size ≤ k_))) (okp := (fun k_ => (w.heap.size ≤ k_))) ?hr ?hp (fun _ hk => hk) ((show ∀ k_, w3.heap.size ≤ k_ → (fun k_ => (w.heap.size ≤ k_)) k_ from fun k_ hk => (Nat.le_trans (below_size (by repeat (first | (with_reducible first | exact HB.out | apply below_alloc | apply pw_below_drewN | apply below_drew1) | exact HB.out))) hk)) _ (Nat.le_refl _)) (Below.refl _ _) (Nat.le_refl _) (by simp) ?_; (case hd => rfl); (case hg => rfl); (case hr => first | (go_simp; done) | (go_simp; rfl)); (case hp => exact (Reps.one (show Kd.FK (Kd.slice 3 (Kd.int .i64)) _ _ y119 [.slice Ao5 y119.length co5] from (Kd.FK_slice_mk (Kd.R_reads' (Kd.R_mono (ok' := (fun k_ => (w.heap.size ≤ k_))) (HO121.out) (fun k_ hk => hk.1))).2.1 (Kd.R_F (Kd.R_mono (ok' := (fun k_ => (w.heap.size ≤ k_))) (HO121.out) (fun k_ hk => hk.1))))) (Reps.none _ _))); intro v123 w6 ho7 hb hg_ hnew_; clear hg_ hnew_; (first | rw [← Ny122.out] at ho7 | (simp only [Int.reduceToNat] at ho7; rw [← Ny122.out] at ho7)); have n0_ := Aside0.mk (Kd.N_lower ho7 (below_size (by repeat (first | (with_reducible first | exact HB.out | apply below_alloc | apply pw_below_drewN | apply below_drew1) | exact HB.out)))); have n1_ := Aside0.mk (below_step (by repeat (first | (with_reducible first | exact HB.out | apply below_alloc | apply pw_below_drewN | apply below_drew1) | exact HB.out)) hb); clear HB; clear HO121; have HO124 := n0_; have HB := n1_; clear n0_ n1_; clear hb ho7))
 repeat (go_quiet (first | ((with_reducible refine gate_dst (N := 12) rfl ?_); refine Kd.R_lit (Kd.int .i64) _ 3 ?hg (N := 12) ?hd (xs := ([0, (-1), (-1), (-1)] : List Int)) (inner := [.int .i64 0, .int .i64 (-1), .int .i64 (-1), .int .i64 (-1)]) (ok := fun _ => True) (okp := fun _ => True) ?hr ?hp (fun _ hk => hk) trivial (Below.refl _ _) (Nat.le_refl _) (by simp) ?_; (case hd => rfl); (case hg => rfl); (case hr => first | (go_simp; done) | (go_simp; rfl)); (case hp => exact (Reps.one (show Kd.M (Kd.int .i64) _ _ _ 0 [.int .i64 0] from rfl) (Reps.one (show Kd.M (Kd.int .i64) _ _ _ (-1) [.int .i64 (-1)] from rfl) (Reps.one (show Kd.M (Kd.int .i64) _ _ _ (-1) [.int .i64 (-1)] from rfl) (Reps.one (show Kd.M (Kd.int .i64) _ _ _ (-1) [.int .i64 (-1)] from rfl) (Reps.none _ _)))))); intro v120 w3 ho4 hb hg_ hnew_; clear hg_ hnew_; (first | rw [← Ny119.out] at ho4 | (simp only [Int.reduceToNat] at ho4; rw [← Ny119.out] at ho4)); have n0_ := Aside0.mk (Kd.R_lower (Kd.R_newM (M := fun k_ => (w.heap.size ≤ k_)) ho4 (below_size (by repeat (first | (with_reducible first | exact HB.out | apply below_alloc | apply pw_below_drewN | apply below_drew1) | exact HB.out))) (fun k_ h_ => h_)) (below_size (by repeat (first | (with_reducible first | exact HB.out | apply below_alloc | apply pw_below_drewN | apply below_drew1) | exact HB.out)))); have n1_ := Aside0.mk (below_step (by repeat (first | (with_reducible first | exact HB.out | apply below_alloc | apply pw_below_drewN | apply below_drew1) | exact HB.out)) hb); clear HB; have HO121 := n0_; have HB := n1_; clear n0_ n1_; clear hb ho4; obtain ⟨Ao5, co5, eo5⟩ := Kd.R_slice HO121.out; subst eo5) | ((with_reducible refine gate_dst (N := 13) rfl ?_); refine Kd.N_lit (Kd.slice 3 (Kd.int .i64)) _ 22 ?hg (N' := 13) ?hd (xs := ([y119] : List (List Int))) (inner := [.slice Ao5 y119.length co5]) (ok := (fun k_ => (w.heap.size ≤ k_))) (okp := (fun k_ => (w.heap.size ≤ k_))) ?hr ?hp (fun _ hk => hk) ((show ∀ k_, w3.heap.size ≤ k_ → (fun k_ => (w.heap.size ≤ k_)) k_ from fun k_ hk => (Nat.le_trans (below_size (by repeat (first | (with_reducible first | exact HB.out | apply below_alloc | apply pw_below_drewN | apply below_drew1) | exact HB.out))) hk)) _ (Nat.le_refl _)) (Below.refl _ _) (Nat.le_refl _) (by simp) ?_; (case hd => rfl); (case hg => rfl); (case hr => first | (go_simp; done) | (go_simp; rfl)); (case hp => exact (Reps.one (show Kd.FK (Kd.slice 3 (Kd.int .i64)) _ _ y119 [.slice Ao5 y119.length co5] from (Kd.FK_slice_mk (Kd.R_reads' (Kd.R_mono (ok' := (fun k_ => (w.heap.size ≤ k_))) (HO121.out) (fun k_ hk => hk.1))).2.1 (Kd.R_F (Kd.R_mono (ok' := (fun k_ => (w.heap.size ≤ k_))) (HO121.out) (fun k_ hk => hk.1))))) (Reps.none _ _))); intro v123 w6 ho7 hb hg_ hnew_; clear hg_ hnew_; (first | rw [← Ny122.out] at ho7 | (simp only [Int.reduceToNat] at ho7; rw [← Ny122.out] at ho7)); have n0_ := Aside0.mk (Kd.N_lower ho7 (below_size (by repeat (first | (with_reducible first | exact HB.out | apply below_alloc | apply pw_below_drewN | apply below_drew1) | exact HB.out)))); have n1_ := Aside0.mk (below_step (by repeat (first | (with_reducible first | exact HB.out | apply below_alloc | apply pw_below_drewN | apply below_drew1) | exact HB.out)) hb); clear HB; clear HO121; have HO124 := n0_; have HB := n1_; clear n0_ n1_; clear hb ho7)); try go_wp2_with (first | ((with_reducible refine gate_dst (N := 12) rfl ?_); refine Kd.R_lit (Kd.int .i64) _ 3 ?hg (N := 12) ?hd (xs := ([0, (-1), (-1), (-1)] : List Int)) (inner := [.int .i64 0, .int .i64 (-1), .int .i64 (-1), .int .i64 (-1)]) (ok := fun _ => True) (okp := fun _ => True) ?hr ?hp (fun _ hk => hk) trivial (Below.refl _ _) (Nat.le_refl _) (by simp) ?_; (case hd => rfl); (case hg => rfl); (case hr => first | (go_simp; done) | (go_simp; rfl)); (case hp => exact (Reps.one (show Kd.M (Kd.int .i64) _ _ _ 0 [.int .i64 0] from rfl) (Reps.one (show Kd.M (Kd.int .i64) _ _ _ (-1) [.int .i64 (-1)] from rfl) (Reps.one (show Kd.M (Kd.int .i64) _ _ _ (-1) [.int .i64 (-1)] from rfl) (Reps.one (show Kd.M (Kd.int .i64) _ _ _ (-1) [.int .i64 (-1)] from rfl) (Reps.none _ _)))))); intro v120 w3 ho4 hb hg_ hnew_; clear hg_ hnew_; (first | rw [← Ny119.out] at ho4 | (simp only [Int.reduceToNat] at ho4; rw [← Ny119.out] at ho4)); have n0_ := Aside0.mk (Kd.R_lower (Kd.R_newM (M := fun k_ => (w.heap.size ≤ k_)) ho4 (below_size (by repeat (first | (with_reducible first | exact HB.out | apply below_alloc | apply pw_below_drewN | apply below_drew1) | exact HB.out))) (fun k_ h_ => h_)) (below_size (by repeat (first | (with_reducible first | exact HB.out | apply below_alloc | apply pw_below_drewN | apply below_drew1) | exact HB.out)))); have n1_ := Aside0.mk (below_step (by repeat (first | (with_reducible first | exact HB.out | apply below_alloc | apply pw_below_drewN | apply below_drew1) | exact HB.out)) hb); clear HB; have HO121 := n0_; have HB := n1_; clear n0_ n1_; clear hb ho4; obtain ⟨Ao5, co5, eo5⟩ := Kd.R_slice HO121.out; subst eo5) | ((with_reducible refine gate_dst (N := 13) rfl ?_); refine Kd.N_lit (Kd.slice 3 (Kd.int .i64)) _ 22 ?hg (N' := 13) ?hd (xs := ([y119] : List (List Int))) (inner := [.slice Ao5 y119.length co5]) (ok := (fun k_ => (w.heap.size ≤ k_))) (okp := (fun k_ => (w.heap.size ≤ k_))) ?hr ?hp (fun _ hk => hk) ((show ∀ k_, w3.heap.size ≤ k_ → (fun k_ => (w.heap.size ≤ k_)) k_ from fun k_ hk => (Nat.le_trans (below_size (by repeat (first | (with_reducible first | exact HB.out | apply below_alloc | apply pw_below_drewN | apply below_drew1) | exact HB.out))) hk)) _ (Nat.le_refl _)) (Below.refl _ _) (Nat.le_refl _) (by simp) ?_; (case hd => rfl); (case hg => rfl); (case hr => first | (go_simp; done) | (go_simp; rfl)); (case hp => exact (Reps.one (show Kd.FK (Kd.slice 3 (Kd.int .i64)) _ _ y119 [.slice Ao5 y119.length co5] from (Kd.FK_slice_mk (Kd.R_reads' (Kd.R_mono (ok' := (fun k_ => (w.heap.size ≤ k_))) (HO121.out) (fun k_ hk => hk.1))).2.1 (Kd.R_F (Kd.R_mono (ok' := (fun k_ => (w.heap.size ≤ k_))) (HO121.out) (fun k_ hk => hk.1))))) (Reps.none _ _))); intro v123 w6 ho7 hb hg_ hnew_; clear hg_ hnew_; (first | rw [← Ny122.out] at ho7 | (simp only [Int.reduceToNat] at ho7; rw [← Ny122.out] at ho7)); have n0_ := Aside0.mk (Kd.N_lower ho7 (below_size (by repeat (first | (with_reducible first | exact HB.out | apply below_alloc | apply pw_below_drewN | apply below_drew1) | exact HB.out)))); have n1_ := Aside0.mk (below_step (by repeat (first | (with_reducible first | exact HB.out | apply below_alloc | apply pw_below_drewN | apply below_drew1) | exact HB.out)) hb); clear HB; clear HO121; have HO124 := n0_; have HB := n1_; clear n0_ n1_; clear hb ho7)))
 go_loopg [5, 6] k (fun kq v5 v6 w' => ∃ (x5_1 : List (List Int)) (x6_1 : Int), v6 = .int .i64 x6_1 ∧ Aside0 (spec_l7Costs.l0 kq l0 a1 x5_1 x6_1 = some r) ∧ Aside0 (kq ≤ k) ∧ Aside0 (Kd.N (Kd.slice 3 (Kd.int .i64)) 22 w' w.heap.size (fun k_ => (w.heap.size ≤ k_)) v5 x5_1) ∧ Aside0 (Below w.heap.size w w'))
 case atStart => exact ⟨(y122), (0), (by first | rfl | (simp; done) | (simp [*]; done)), H', ⟨Nat.le_refl _⟩, ⟨by (with_reducible repeat (first | apply Kd.N_alloc | apply Kd.N_drewN | apply Kd.N_drew)); exact HO124.out⟩, ⟨by repeat (first | (with_reducible first | exact HB.out | apply below_alloc | apply pw_below_drewN | apply below_drew1) | exact HB.out)⟩⟩
 case round =>
  clear H'
  try clear c1
  try clear p2
  obtain ⟨x5_1, x6_1, rfl, HA, HK1, HO_5, HB⟩ := hrel
  cases gk with
  | zero => exact absurd HA.out (by simp [spec_l7Costs.l0])
  | succ k1 =>
   have H := HA.out
   clear HA
   simp only [spec_l7Costs.l0] at H
   by_cases c8 : x6_1 < (wrap64 (a1 + 2))
   ·rw [if_pos c8] at H
    have c8b0 : decide (x6_1 < (wrap64 (a1 + 2))) = true := decide_eq_true c8
    clear c8
    obtain ⟨y125, hy125⟩ : ∃ y_ : List Int, y_ = (([(-1), (-1), (-1), (-1)] : List Int)) := ⟨_, rfl⟩
    replace H : (spec_l7Costs.l1 k1 l0 a1 x5_1 x6_1 y125 0) = some r := by first | (rw [hy125]; with_reducible exact H) | (have H2_ := (Option.bind_some _ _).symm.trans H; rw [hy125]; with_reducible exact H2_) | (have H2_ := (Option.bind_some _ _).symm.trans H; with_reducible exact H2_) | with_reducible exact H | (rw [hy125]; exact H) | exact H
    have Ny125 := Aside0.mk hy125
    clear hy125
    have H' := Aside0.mk H
    clear H
    go_wp2_with (first | ((with_reducible refine gate_dst (N := 20) rfl ?_); refine Kd.R_lit (Kd.int .i64) _ 3 ?hg (N := 20) ?hd (xs := ([(-1), (-1), (-1), (-1)] : List Int)) (inner := [.int .i64 (-1), .int .i64 (-1), .int .i64 (-1), .int .i64 (-1)]) (ok := fun _ => True) (okp := fun _ => True) ?hr ?hp (fun _ hk => hk) trivial (Below.refl _ _) (Nat.le_refl _) (by simp) ?_; (case hd => rfl); (case hg => rfl); (case hr => first | (go_simp; done) | (go_simp; rfl)); (case hp => exact (Reps.one (show Kd.M (Kd.int .i64) _ _ _ (-1) [.int .i64 (-1)] from rfl) (Reps.one (show Kd.M (Kd.int .i64) _ _ _ (-1) [.int .i64 (-1)] from rfl) (Reps.one (show Kd.M (Kd.int .i64) _ _ _ (-1) [.int .i64 (-1)] from rfl) (Reps.one (show Kd.M (Kd.int .i64) _ _ _ (-1) [.int .i64 (-1)] from rfl) (Reps.none _ _)))))); intro v126 w9 ho10 hb hg_ hnew_; clear hg_ hnew_; (first | rw [← Ny125.out] at ho10 | (simp only [Int.reduceToNat] at ho10; rw [← Ny125.out] at ho10)); have n0_ := Aside0.mk (Kd.N_elder' (by (with_reducible repeat (first | apply Kd.N_alloc | apply Kd.N_drewN | apply Kd.N_drew)); exact HO_5.out) (Kd.R_base ho10) hb); have n1_ := Aside0.mk (Kd.R_lower (Kd.R_newM (M := fun k_ => (w.heap.size ≤ k_)) ho10 (below_size (by repeat (first | (with_reducible first | exact HB.out | apply below_alloc | apply pw_below_drewN | apply below_drew1) | exact HB.out))) (fun k_ h_ => h_)) (below_size (by repeat (first | (with_reducible first | exact HB.out | apply below_alloc | apply pw_below_drewN | apply below_drew1) | exact HB.out)))); have n2_ := Aside0.mk (below_step (by repeat (first | (with_reducible first | exact HB.out | apply below_alloc | apply pw_below_drewN | apply below_drew1) | exact HB.out)) hb); clear HO_5; clear HB; have HO_5 := n0_; have HO127 := n1_; have HB := n2_; clear n0_ n1_ n2_; clear hb ho10))
    repeat (go_quiet (first | ((with_reducible refine gate_dst (N := 20) rfl ?_); refine Kd.R_lit (Kd.int .i64) _ 3 ?hg (N := 20) ?hd (xs := ([(-1), (-1), (-1), (-1)] : List Int)) (inner := [.int .i64 (-1), .int .i64 (-1), .int .i64 (-1), .int .i64 (-1)]) (ok := fun _ => True) (okp := fun _ => True) ?hr ?hp (fun _ hk => hk) trivial (Below.refl _ _) (Nat.le_refl _) (by simp) ?_; (case hd => rfl); (case hg => rfl); (case hr => first | (go_simp; done) | (go_simp; rfl)); (case hp => exact (Reps.one (show Kd.M (Kd.int .i64) _ _ _ (-1) [.int .i64 (-1)] from rfl) (Reps.one (show Kd.M (Kd.int .i64) _ _ _ (-1) [.int .i64 (-1)] from rfl) (Reps.one (show Kd.M (Kd.int .i64) _ _ _ (-1) [.int .i64 (-1)] from rfl) (Reps.one (show Kd.M (Kd.int .i64) _ _ _ (-1) [.int .i64 (-1)] from rfl) (Reps.none _ _)))))); intro v126 w9 ho10 hb hg_ hnew_; clear hg_ hnew_; (first | rw [← Ny125.out] at ho10 | (simp only [Int.reduceToNat] at ho10; rw [← Ny125.out] at ho10)); have n0_ := Aside0.mk (Kd.N_elder' (by (with_reducible repeat (first | apply Kd.N_alloc | apply Kd.N_drewN | apply Kd.N_drew)); exact HO_5.out) (Kd.R_base ho10) hb); have n1_ := Aside0.mk (Kd.R_lower (Kd.R_newM (M := fun k_ => (w.heap.size ≤ k_)) ho10 (below_size (by repeat (first | (with_reducible first | exact HB.out | apply below_alloc | apply pw_below_drewN | apply below_drew1) | exact HB.out))) (fun k_ h_ => h_)) (below_size (by repeat (first | (with_reducible first | exact HB.out | apply below_alloc | apply pw_below_drewN | apply below_drew1) | exact HB.out)))); have n2_ := Aside0.mk (below_step (by repeat (first | (with_reducible first | exact HB.out | apply below_alloc | apply pw_below_drewN | apply below_drew1) | exact HB.out)) hb); clear HO_5; clear HB; have HO_5 := n0_; have HO127 := n1_; have HB := n2_; clear n0_ n1_ n2_; clear hb ho10)); try go_wp2_with (first | ((with_reducible refine gate_dst (N := 20) rfl ?_); refine Kd.R_lit (Kd.int .i64) _ 3 ?hg (N := 20) ?hd (xs := ([(-1), (-1), (-1), (-1)] : List Int)) (inner := [.int .i64 (-1), .int .i64 (-1), .int .i64 (-1), .int .i64 (-1)]) (ok := fun _ => True) (okp := fun _ => True) ?hr ?hp (fun _ hk => hk) trivial (Below.refl _ _) (Nat.le_refl _) (by simp) ?_; (case hd => rfl); (case hg => rfl); (case hr => first | (go_simp; done) | (go_simp; rfl)); (case hp => exact (Reps.one (show Kd.M (Kd.int .i64) _ _ _ (-1) [.int .i64 (-1)] from rfl) (Reps.one (show Kd.M (Kd.int .i64) _ _ _ (-1) [.int .i64 (-1)] from rfl) (Reps.one (show Kd.M (Kd.int .i64) _ _ _ (-1) [.int .i64 (-1)] from rfl) (Reps.one (show Kd.M (Kd.int .i64) _ _ _ (-1) [.int .i64 (-1)] from rfl) (Reps.none _ _)))))); intro v126 w9 ho10 hb hg_ hnew_; clear hg_ hnew_; (first | rw [← Ny125.out] at ho10 | (simp only [Int.reduceToNat] at ho10; rw [← Ny125.out] at ho10)); have n0_ := Aside0.mk (Kd.N_elder' (by (with_reducible repeat (first | apply Kd.N_alloc | apply Kd.N_drewN | apply Kd.N_drew)); exact HO_5.out) (Kd.R_base ho10) hb); have n1_ := Aside0.mk (Kd.R_lower (Kd.R_newM (M := fun k_ => (w.heap.size ≤ k_)) ho10 (below_size (by repeat (first | (with_reducible first | exact HB.out | apply below_alloc | apply pw_below_drewN | apply below_drew1) | exact HB.out))) (fun k_ h_ => h_)) (below_size (by repeat (first | (with_reducible first | exact HB.out | apply below_alloc | apply pw_below_drewN | apply below_drew1) | exact HB.out)))); have n2_ := Aside0.mk (below_step (by repeat (first | (with_reducible first | exact HB.out | apply below_alloc | apply pw_below_drewN | apply below_drew1) | exact HB.out)) hb); clear HO_5; clear HB; have HO_5 := n0_; have HO127 := n1_; have HB := n2_; clear n0_ n1_ n2_; clear hb ho10)))
    go_loopg [8] k1 (fun kq v8 w' => ∃ (x7_2 : List Int) (x8_2 : Int), v8 = .int .i64 x8_2 ∧ Aside0 (spec_l7Costs.l1 kq l0 a1 x5_1 x6_1 x7_2 x8_2 = some r) ∧ Aside0 (kq ≤ k1) ∧ Aside0 (Kd.N (Kd.slice 3 (Kd.int .i64)) 22 w' w.heap.size (fun k_ => (w.heap.size ≤ k_) ∧ some k_ ≠ (v126 : Value).ownBlock) u5 x5_1) ∧ Aside0 (Kd.R (Kd.int .i64) 3 w' w.heap.size (fun k_ => (w.heap.size ≤ k_)) v126 x7_2) ∧ Aside0 (Below w.heap.size w w'))
    case atStart => exact ⟨(y125), (0), (by first | rfl | (simp; done) | (simp [*]; done)), H', ⟨Nat.le_refl _⟩, ⟨by (with_reducible repeat (first | apply Kd.N_alloc | apply Kd.N_drewN | apply Kd.N_drew)); exact HO_5.out⟩, ⟨by (with_reducible repeat (first | apply Kd.R_alloc | apply Kd.R_drewN | apply Kd.R_drew)); exact Kd.R_mono HO127.out (fun _ hk => hk.1)⟩, ⟨by repeat (first | (with_reducible first | exact HB.out | apply below_alloc | apply pw_below_drewN | apply below_drew1) | exact HB.out)⟩⟩
    case round =>
     clear H'
     try clear c1
     try clear p2
     try clear p6
     try clear c8
     try clear c8b0
     try clear c10
     try clear p2
     obtain ⟨x7_2, x8_2, rfl, HA, HK2, HO_5, HO_7, HB⟩ := hrel
     cases gk with
     | zero => exact absurd HA.out (by simp [spec_l7Costs.l1])
     | succ k2 =>
      have H := HA.out
      clear HA
      simp only [spec_l7Costs.l1] at H
      by_cases c11 : x8_2 < 4
      ·rw [if_pos c11] at H
       have c11b0 : decide (x8_2 < 4) = true := decide_eq_true c11
       clear c11
       have H' := Aside0.mk H
       clear H
       go_wp2
       repeat (go_quiet (fail); try go_wp2)
       go_loopg [9] k2 (fun kq v9 w' => ∃ (x7_3 : List Int) (x9_3 : Int), v9 = .int .i64 x9_3 ∧ Aside0 (spec_l7Costs.l2 kq l0 a1 x5_1 x6_1 x7_3 x8_2 x9_3 = some r) ∧ Aside0 (kq ≤ k2) ∧ Aside0 (Kd.N (Kd.slice 3 (Kd.int .i64)) 22 w' w.heap.size (fun k_ => (w.heap.size ≤ k_) ∧ some k_ ≠ (v126 : Value).ownBlock) u5 x5_1) ∧ Aside0 (Kd.R (Kd.int .i64) 3 w' w.heap.size (fun k_ => (w.heap.size ≤ k_)) v126 x7_3) ∧ Aside0 (Below w.heap.size w w'))
       case atStart => exact ⟨(x7_2), (0), (by first | rfl | (simp; done) | (simp [*]; done)), H', ⟨Nat.le_refl _⟩, ⟨by (with_reducible repeat (first | apply Kd.N_alloc | apply Kd.N_drewN | apply Kd.N_drew)); exact HO_5.out⟩, ⟨by (with_reducible repeat (first | apply Kd.R_alloc | apply Kd.R_drewN | apply Kd.R_drew)); exact HO_7.out⟩, ⟨by repeat (first | (with_reducible first | exact HB.out | apply below_alloc | apply pw_below_drewN | apply below_drew1) | exact HB.out)⟩⟩
       case round =>
        clear H'
        try clear c1
        try clear p2
        try clear p6
        try clear c8
        try clear c8b0
        try clear c10
        try clear c11
        try clear c11b0
        try clear p2
        try clear p6
        obtain ⟨x7_3, x9_3, rfl, HA, HK3, HO_5, HO_7, HB⟩ := hrel
        cases gk with
        | zero => exact absurd HA.out (by simp [spec_l7Costs.l2])
        | succ k3 =>
         have H := HA.out
         clear HA
         simp only [spec_l7Costs.l2] at H
         by_cases c12 : x9_3 < 2
         ·rw [if_pos c12] at H
          have c12b0 : decide (x9_3 < 2) = true := decide_eq_true c12
          clear c12
          have HC13 := Aside0.mk H
          clear H
          go_upto_region 12 with (fail)
          repeat (go_quiet (fail); go_upto_region 12 with (fail))
          go_cut [45] (fun v45 wc => ∃ (kq : Nat) (x45_12 : Bool), v45 = .bool x45_12 ∧ Aside0 (spec_l7Costs.j3 kq l0 a1 x5_1 x6_1 x7_3 x8_2 x9_3 x45_12 = some r) ∧ Aside0 (kq ≤ k3) ∧ Aside0 (Kd.N (Kd.slice 3 (Kd.int .i64)) 22 wc w.heap.size (fun k_ => (w.heap.size ≤ k_) ∧ some k_ ≠ (v126 : Value).ownBlock) u5 x5_1) ∧ Aside0 (Kd.R (Kd.int .i64) 3 wc w.heap.size (fun k_ => (w.heap.size ≤ k_)) v126 x7_3) ∧ Aside0 (Below w.heap.size w wc))
          case first =>
           have H := HC13.out
           clear HC13
           by_cases c14 : 0 ≤ x6_1
           ·rw [if_pos c14] at H
            have c14b0 : decide (0 ≤ x6_1) = true := decide_eq_true c14
            clear c14
            (first | rw [c14b0] | (simp only [i64_w, i32_w]; rw [c14b0]) | skip)
            by_cases c15 : x6_1 < (x5_1.length : Int)
            ·rw [if_pos c15] at H
             have c15b0 : decide (x6_1 < (x5_1.length : Int)) = true := decide_eq_true c15
             clear c15
             by_cases c16 : 0 ≤ x8_2
             ·rw [if_pos c16] at H
              have c16b0 : decide (0 ≤ x8_2) = true := decide_eq_true c16
              clear c16
              by_cases c17 : x8_2 < ((rd_L1 x5_1 x6_1).length : Int)
              ·rw [if_pos c17] at H
               have c17b0 : decide (x8_2 < ((rd_L1 x5_1 x6_1).length : Int)) = true := decide_eq_true c17
               clear c17
               by_cases c18 : (rd (rd_L1 x5_1 x6_1) x8_2) < 0
               ·rw [if_pos c18] at H
                have c18b0 : decide ((rd (rd_L1 x5_1 x6_1) x8_2) < 0) = true := decide_eq_true c18
                clear c18
                have H' := Aside0.mk H
                clear H
                obtain ⟨Ao19, co19, eo19⟩ := Kd.N_slice HO_5.out
                subst eo19
                have p131 : 0 ≤ (x6_1 : Int) := of_decide_eq_true (by first | (with_reducible assumption) | assumption)
                have q131 : x6_1 < (x5_1.length : Int) := of_decide_eq_true (by first | (with_reducible assumption) | assumption)
                obtain ⟨ad131, A131_0, c131_0, e131, hx131_0, hl131_0, hi131_0⟩ := at_L1 (Kd.N_reads' HO_5.out).2.2 x6_1 p131 q131
                cases e131
                obtain ⟨ce131, hce131, hMe131, hcc131⟩ := Kd.N_get HO_5.out [] x6_1 p131 (by first | exact q131 | exact of_decide_eq_true (by first | (with_reducible assumption) | assumption) | (have e_ := (Kd.N_reads' HO_5.out).1; omega))
                obtain ⟨ua131_0, uc131_0, rfl, ul131_0, ge131_0⟩ := Kd.FK_slice_open hMe131
                have hv131_0 := hcc131 0 _ rfl
                rw [Nat.add_zero, show ((Kd.slice 3 (Kd.int .i64))).sz = 1 from rfl, Nat.mul_one] at hv131_0
                replace hv131_0 := Option.some.inj (hv131_0.symm.trans hx131_0)
                injection hv131_0 with hva_ hvn_ hvc_
                rw [hva_] at ge131_0
                rw [hvc_] at ul131_0
                have HL131_0 := Aside0.mk (show Kd.V (Kd.int .i64) 3 _ w.heap.size _ _ (rd_L1 x5_1 x6_1) from Kd.V_mk ul131_0 ge131_0)
                clear hva_ hvn_ hvc_ ge131_0 ul131_0
                clear hcc131 hce131
                have HR131_0 := Aside0.mk hi131_0
                have HC131_0 := Aside0.mk hl131_0
                clear hi131_0 hl131_0
                replace p131 := eq_true p131
                replace q131 := eq_true q131
                have p132 : 0 ≤ (x8_2 : Int) := of_decide_eq_true (by first | (with_reducible assumption) | assumption)
                have q132 : x8_2 < ((rd_L1 x5_1 x6_1).length : Int) := of_decide_eq_true (by first | (with_reducible assumption) | assumption)
                obtain ⟨ad132, e132, hx132_0⟩ := Kd.at_int (by repeat (first | (with_reducible exact HR131_0.out) | (with_reducible refine Kd.C_alloc ?_ _) | (with_reducible refine Kd.C_drewN ?_ _) | (with_reducible refine Kd.C_drew ?_) | exact HR131_0.out)) x8_2 p132 q132
                cases e132
                replace p132 := eq_true p132
                replace q132 := eq_true q132
                go_wp2
                repeat (go_quiet (fail); try go_wp2)
                go_meet
                case rel => exact ⟨_, (true), (by first | rfl | (simp; done) | (simp [*]; done)), H', ⟨by have := HK1.out; have := HK2.out; have := HK3.out; first | omega | exact Nat.le_refl _⟩, ⟨by (with_reducible repeat (first | apply Kd.N_alloc | apply Kd.N_drewN | apply Kd.N_drew)); exact HO_5.out⟩, ⟨by (with_reducible repeat (first | apply Kd.R_alloc | apply Kd.R_drewN | apply Kd.R_drew)); exact HO_7.out⟩, ⟨by repeat (first | (with_reducible first | exact HB.out | apply below_alloc | apply pw_below_drewN | apply below_drew1) | exact HB.out)⟩⟩
               ·rw [if_neg c18] at H
                have c18b0 : decide ((rd (rd_L1 x5_1 x6_1) x8_2) < 0) = false := decide_eq_false c18
                clear c18
                by_cases c20 : x9_3 = 1
                ·rw [if_pos c20] at H
                 have c20b0 : (x9_3 == 1) = true := beq_iff_eq.mpr c20
                 have c20b1 : (x9_3 != 1) = false := bne_eq_false_iff_eq.mpr c20
                 clear c20
                 have H' := Aside0.mk H
                 clear H
                 obtain ⟨Ao21, co21, eo21⟩ := Kd.N_slice HO_5.out
                 subst eo21
                 have p131 : 0 ≤ (x6_1 : Int) := of_decide_eq_true (by first | (with_reducible assumption) | assumption)
                 have q131 : x6_1 < (x5_1.length : Int) := of_decide_eq_true (by first | (with_reducible assumption) | assumption)
                 obtain ⟨ad131, A131_0, c131_0, e131, hx131_0, hl131_0, hi131_0⟩ := at_L1 (Kd.N_reads' HO_5.out).2.2 x6_1 p131 q131
                 cases e131
                 obtain ⟨ce131, hce131, hMe131, hcc131⟩ := Kd.N_get HO_5.out [] x6_1 p131 (by first | exact q131 | exact of_decide_eq_true (by first | (with_reducible assumption) | assumption) | (have e_ := (Kd.N_reads' HO_5.out).1; omega))
                 obtain ⟨ua131_0, uc131_0, rfl, ul131_0, ge131_0⟩ := Kd.FK_slice_open hMe131
                 have hv131_0 := hcc131 0 _ rfl
                 rw [Nat.add_zero, show ((Kd.slice 3 (Kd.int .i64))).sz = 1 from rfl, Nat.mul_one] at hv131_0
                 replace hv131_0 := Option.some.inj (hv131_0.symm.trans hx131_0)
                 injection hv131_0 with hva_ hvn_ hvc_
                 rw [hva_] at ge131_0
                 rw [hvc_] at ul131_0
                 have HL131_0 := Aside0.mk (show Kd.V (Kd.int .i64) 3 _ w.heap.size _ _ (rd_L1 x5_1 x6_1) from Kd.V_mk ul131_0 ge131_0)
                 clear hva_ hvn_ hvc_ ge131_0 ul131_0
                 clear hcc131 hce131
                 have HR131_0 := Aside0.mk hi131_0
                 have HC131_0 := Aside0.mk hl131_0
                 clear hi131_0 hl131_0
                 replace p131 := eq_true p131
                 replace q131 := eq_true q131
                 have p132 : 0 ≤ (x8_2 : Int) := of_decide_eq_true (by first | (with_reducible assumption) | assumption)
                 have q132 : x8_2 < ((rd_L1 x5_1 x6_1).length : Int) := of_decide_eq_true (by first | (with_reducible assumption) | assumption)
                 obtain ⟨ad132, e132, hx132_0⟩ := Kd.at_int (by repeat (first | (with_reducible exact HR131_0.out) | (with_reducible refine Kd.C_alloc ?_ _) | (with_reducible refine Kd.C_drewN ?_ _) | (with_reducible refine Kd.C_drew ?_) | exact HR131_0.out)) x8_2 p132 q132
                 cases e132
                 replace p132 := eq_true p132
                 replace q132 := eq_true q132
                 go_wp2
                 repeat (go_quiet (fail); try go_wp2)
                 go_meet
                 case rel => exact ⟨_, (decide (x6_1 ≥ a1)), (by first | rfl | (simp; done) | (simp [*]; done)), H', ⟨by have := HK1.out; have := HK2.out; have := HK3.out; first | omega | exact Nat.le_refl _⟩, ⟨by (with_reducible repeat (first | apply Kd.N_alloc | apply Kd.N_drewN | apply Kd.N_drew)); exact HO_5.out⟩, ⟨by (with_reducible repeat (first | apply Kd.R_alloc | apply Kd.R_drewN | apply Kd.R_drew)); exact HO_7.out⟩, ⟨by repeat (first | (with_reducible first | exact HB.out | apply below_alloc | apply pw_below_drewN | apply below_drew1) | exact HB.out)⟩⟩
                ·rw [if_neg c20] at H
                 have c20b0 : (x9_3 == 1) = false := beq_eq_false_iff_ne.mpr c20
                 have c20b1 : (x9_3 != 1) = true := bne_iff_ne.mpr c20
                 have H' := Aside0.mk H
                 clear H
                 obtain ⟨Ao22, co22, eo22⟩ := Kd.N_slice HO_5.out
                 subst eo22
                 have p131 : 0 ≤ (x6_1 : Int) := of_decide_eq_true (by first | (with_reducible assumption) | assumption)
                 have q131 : x6_1 < (x5_1.length : Int) := of_decide_eq_true (by first | (with_reducible assumption) | assumption)
                 obtain ⟨ad131, A131_0, c131_0, e131, hx131_0, hl131_0, hi131_0⟩ := at_L1 (Kd.N_reads' HO_5.out).2.2 x6_1 p131 q131
                 cases e131
                 obtain ⟨ce131, hce131, hMe131, hcc131⟩ := Kd.N_get HO_5.out [] x6_1 p131 (by first | exact q131 | exact of_decide_eq_true (by first | (with_reducible assumption) | assumption) | (have e_ := (Kd.N_reads' HO_5.out).1; omega))
                 obtain ⟨ua131_0, uc131_0, rfl, ul131_0, ge131_0⟩ := Kd.FK_slice_open hMe131
                 have hv131_0 := hcc131 0 _ rfl
                 rw [Nat.add_zero, show ((Kd.slice 3 (Kd.int .i64))).sz = 1 from rfl, Nat.mul_one] at hv131_0
                 replace hv131_0 := Option.some.inj (hv131_0.symm.trans hx131_0)
                 injection hv131_0 with hva_ hvn_ hvc_
                 rw [hva_] at ge131_0
                 rw [hvc_] at ul131_0
                 have HL131_0 := Aside0.mk (show Kd.V (Kd.int .i64) 3 _ w.heap.size _ _ (rd_L1 x5_1 x6_1) from Kd.V_mk ul131_0 ge131_0)
                 clear hva_ hvn_ hvc_ ge131_0 ul131_0
                 clear hcc131 hce131
                 have HR131_0 := Aside0.mk hi131_0
                 have HC131_0 := Aside0.mk hl131_0
                 clear hi131_0 hl131_0
                 replace p131 := eq_true p131
                 replace q131 := eq_true q131
                 have p132 : 0 ≤ (x8_2 : Int) := of_decide_eq_true (by first | (with_reducible assumption) | assumption)
                 have q132 : x8_2 < ((rd_L1 x5_1 x6_1).length : Int) := of_decide_eq_true (by first | (with_reducible assumption) | assumption)
                 obtain ⟨ad132, e132, hx132_0⟩ := Kd.at_int (by repeat (first | (with_reducible exact HR131_0.out) | (with_reducible refine Kd.C_alloc ?_ _) | (with_reducible refine Kd.C_drewN ?_ _) | (with_reducible refine Kd.C_drew ?_) | exact HR131_0.out)) x8_2 p132 q132
                 cases e132
                 replace p132 := eq_true p132
                 replace q132 := eq_true q132
                 go_wp2
                 repeat (go_quiet (fail); try go_wp2)
                 go_meet
                 case rel => exact ⟨_, (false), (by first | rfl | (simp; done) | (simp [*]; done)), H', ⟨by have := HK1.out; have := HK2.out; have := HK3.out; first | omega | exact Nat.le_refl _⟩, ⟨by (with_reducible repeat (first | apply Kd.N_alloc | apply Kd.N_drewN | apply Kd.N_drew)); exact HO_5.out⟩, ⟨by (with_reducible repeat (first | apply Kd.R_alloc | apply Kd.R_drewN | apply Kd.R_drew)); exact HO_7.out⟩, ⟨by repeat (first | (with_reducible first | exact HB.out | apply below_alloc | apply pw_below_drewN | apply below_drew1) | exact HB.out)⟩⟩
              ·rw [if_neg c17] at H
               exact absurd H (by simp)
             ·rw [if_neg c16] at H
              exact absurd H (by simp)
            ·rw [if_neg c15] at H
             exact absurd H (by simp)
           ·rw [if_neg c14] at H
            exact absurd H (by simp)
          case rest =>
           clear HC13
           try clear c1
           try clear p1
           try clear q1
           try clear hx1
           try clear c2
           try clear p2
           try clear p6
           try clear c8
           try clear c8b0
           try clear c10
           try clear c11
           try clear c11b0
           try clear c12
           try clear c12b0
           try clear c13
           try clear p13
           try clear q13
           try clear hx13
           try clear c14
           try clear c14b0
           try clear c15
           try clear c15b0
           try clear c16
           try clear c16b0
           try clear c17
           try clear c17b0
           try clear c18
           try clear c18b0
           try clear c20
           try clear c20b0
           try clear c20b1
           try clear hx131_0
           try clear hx132_0
           try clear p131
           try clear p132
           try clear p2
           try clear p6
           try clear q131
           try clear q132
           obtain ⟨kq, x45_12, rfl, HA, HJ12, HO_5, HO_7, HB⟩ := hcut
           cases kq with
           | zero => exact absurd HA.out (by simp [spec_l7Costs.j3])
           | succ kj12 =>
            have H := HA.out
            clear HA
            simp only [spec_l7Costs.j3] at H
            by_cases c23 : x45_12 = true
            ·subst c23
             have H1 : (spec_l7Costs.l2 kj12 l0 a1 x5_1 x6_1 x7_3 x8_2 (wrap64 (x9_3 + 1))) = some r := by rw [if_pos rfl] at H; exact H
             clear H
             have H := H1
             clear H1
             have H' := Aside0.mk H
             clear H
             go_wp2
             repeat (go_quiet (fail); try go_wp2)
             go_roundg kj12
             case measure => have := HK1.out; have := HK2.out; have := HK3.out; have := HJ12.out; omega
             case rel => exact ⟨(x7_3), (wrap64 (x9_3 + 1)), (by first | rfl | (simp; done) | (simp [*]; done)), H', ⟨by have := HK1.out; have := HK2.out; have := HK3.out; have := HJ12.out; omega⟩, ⟨by (with_reducible repeat (first | apply Kd.N_alloc | apply Kd.N_drewN | apply Kd.N_drew)); exact HO_5.out⟩, ⟨by (with_reducible repeat (first | apply Kd.R_alloc | apply Kd.R_drewN | apply Kd.R_drew)); exact HO_7.out⟩, ⟨by repeat (first | (with_reducible first | exact HB.out | apply below_alloc | apply pw_below_drewN | apply below_drew1) | exact HB.out)⟩⟩
            ·replace c23 := Bool.eq_false_iff.mpr c23
             subst c23
             have H1 : (if 0 ≤ x6_1 then (if x6_1 < (x5_1.length : Int) then (if 0 ≤ x8_2 then (if x8_2 < ((rd_L1 x5_1 x6_1).length : Int) then (if 0 ≤ (wrap64 (2 * x6_1)) then (if (wrap64 (2 * x6_1)) < (l0.length : Int) then (if 0 ≤ (wrap64 ((wrap64 (2 * x6_1)) + 1)) then (if (wrap64 ((wrap64 (2 * x6_1)) + 1)) < (l0.length : Int) then ((spec_BranchDistance.f kj12 x8_2 x9_3 (rd l0 (wrap64 (2 * x6_1))) (rd l0 (wrap64 ((wrap64 (2 * x6_1)) + 1)))).bind fun t137 => ((spec_NextState.f x8_2 x9_3).bind fun t138 => (if 0 ≤ t138 then (if t138 < (x7_3.length : Int) then (if (rd x7_3 t138) < 0 then (spec_l7Costs.l2 kj12 l0 a1 x5_1 x6_1 (x7_3.set (t138 : Int).toNat (wrap64 ((rd (rd_L1 x5_1 x6_1) x8_2) + t137))) x8_2 (wrap64 (x9_3 + 1))) else (if (wrap64 ((rd (rd_L1 x5_1 x6_1) x8_2) + t137)) < (rd x7_3 t138) then (spec_l7Costs.l2 kj12 l0 a1 x5_1 x6_1 (x7_3.set (t138 : Int).toNat (wrap64 ((rd (rd_L1 x5_1 x6_1) x8_2) + t137))) x8_2 (wrap64 (x9_3 + 1))) else (spec_l7Costs.l2 kj12 l0 a1 x5_1 x6_1 x7_3 x8_2 (wrap64 (x9_3 + 1))))) else (none)) else (none)))) else (none)) else (none)) else (none)) else (none)) else (none)) else (none)) else (none)) else (none)) = some r := by rw [if_neg (show ¬ (false = true) by decide)] at H; exact H
             clear H
             have H := H1
             clear H1
             by_cases c24 : 0 ≤ x6_1
             ·rw [if_pos c24] at H
              have c24b0 : decide (0 ≤ x6_1) = true := decide_eq_true c24
              clear c24
              by_cases c25 : x6_1 < (x5_1.length : Int)
              ·rw [if_pos c25] at H
               have c25b0 : decide (x6_1 < (x5_1.length : Int)) = true := decide_eq_true c25
               clear c25
               by_cases c26 : 0 ≤ x8_2
               ·rw [if_pos c26] at H
                have c26b0 : decide (0 ≤ x8_2) = true := decide_eq_true c26
                clear c26
                by_cases c27 : x8_2 < ((rd_L1 x5_1 x6_1).length : Int)
                ·rw [if_pos c27] at H
                 have c27b0 : decide (x8_2 < ((rd_L1 x5_1 x6_1).length : Int)) = true := decide_eq_true c27
                 clear c27
                 obtain ⟨ji28, hji28⟩ : ∃ j_ : Int, (wrap64 (2 * x6_1)) = j_ := ⟨_, rfl⟩
                 replace H : (if 0 ≤ (ji28) then (if (ji28) < (l0.length : Int) then (if 0 ≤ (wrap64 ((ji28) + 1)) then (if (wrap64 ((ji28) + 1)) < (l0.length : Int) then ((spec_BranchDistance.f kj12 x8_2 x9_3 (rd l0 (ji28)) (rd l0 (wrap64 ((ji28) + 1)))).bind fun t137 => ((spec_NextState.f x8_2 x9_3).bind fun t138 => (if 0 ≤ t138 then (if t138 < (x7_3.length : Int) then (if (rd x7_3 t138) < 0 then (spec_l7Costs.l2 kj12 l0 a1 x5_1 x6_1 (x7_3.set (t138 : Int).toNat (wrap64 ((rd (rd_L1 x5_1 x6_1) x8_2) + t137))) x8_2 (wrap64 (x9_3 + 1))) else (if (wrap64 ((rd (rd_L1 x5_1 x6_1) x8_2) + t137)) < (rd x7_3 t138) then (spec_l7Costs.l2 kj12 l0 a1 x5_1 x6_1 (x7_3.set (t138 : Int).toNat (wrap64 ((rd (rd_L1 x5_1 x6_1) x8_2) + t137))) x8_2 (wrap64 (x9_3 + 1))) else (spec_l7Costs.l2 kj12 l0 a1 x5_1 x6_1 x7_3 x8_2 (wrap64 (x9_3 + 1))))) else (none)) else (none)))) else (none)) else (none)) else (none)) else (none)) = some r := by first | (rw [hji28] at H; exact H) | (simp only [hji28] at H ⊢; exact H)
                 have hji28w : (IntKind.i64.wrap (2 * x6_1)) = ji28 := (i64_w _).trans hji28
                 by_cases c29 : 0 ≤ (ji28)
                 ·rw [if_pos c29] at H
                  have c29b0 : decide (0 ≤ (ji28)) = true := decide_eq_true c29
                  clear c29
                  by_cases c30 : (ji28) < (l0.length : Int)
                  ·rw [if_pos c30] at H
                   have c30b0 : decide ((ji28) < (l0.length : Int)) = true := decide_eq_true c30
                   clear c30
                   obtain ⟨ji31, hji31⟩ : ∃ j_ : Int, (wrap64 ((ji28) + 1)) = j_ := ⟨_, rfl⟩
                   replace H : (if 0 ≤ (ji31) then (if (ji31) < (l0.length : Int) then ((spec_BranchDistance.f kj12 x8_2 x9_3 (rd l0 (ji28)) (rd l0 (ji31))).bind fun t137 => ((spec_NextState.f x8_2 x9_3).bind fun t138 => (if 0 ≤ t138 then (if t138 < (x7_3.length : Int) then (if (rd x7_3 t138) < 0 then (spec_l7Costs.l2 kj12 l0 a1 x5_1 x6_1 (x7_3.set (t138 : Int).toNat (wrap64 ((rd (rd_L1 x5_1 x6_1) x8_2) + t137))) x8_2 (wrap64 (x9_3 + 1))) else (if (wrap64 ((rd (rd_L1 x5_1 x6_1) x8_2) + t137)) < (rd x7_3 t138) then (spec_l7Costs.l2 kj12 l0 a1 x5_1 x6_1 (x7_3.set (t138 : Int).toNat (wrap64 ((rd (rd_L1 x5_1 x6_1) x8_2) + t137))) x8_2 (wrap64 (x9_3 + 1))) else (spec_l7Costs.l2 kj12 l0 a1 x5_1 x6_1 x7_3 x8_2 (wrap64 (x9_3 + 1))))) else (none)) else (none)))) else (none)) else (none)) = some r := by first | (rw [hji31] at H; exact H) | (simp only [hji31] at H ⊢; exact H)
                   have hji31w : (IntKind.i64.wrap ((ji28) + 1)) = ji31 := (i64_w _).trans hji31
                   by_cases c32 : 0 ≤ (ji31)
                   ·rw [if_pos c32] at H
                    have c32b0 : decide (0 ≤ (ji31)) = true := decide_eq_true c32
                    clear c32
                    by_cases c33 : (ji31) < (l0.length : Int)
                    ·rw [if_pos c33] at H
                     have c33b0 : decide ((ji31) < (l0.length : Int)) = true := decide_eq_true c33
                     clear c33
                     replace H := Option.bind_eq_some_iff.mp H
                     obtain ⟨t137, A340, H⟩ := H
                     replace H : ((spec_NextState.f x8_2 x9_3).bind fun t138 => (if 0 ≤ t138 then (if t138 < (x7_3.length : Int) then (if (rd x7_3 t138) < 0 then (spec_l7Costs.l2 kj12 l0 a1 x5_1 x6_1 (x7_3.set (t138 : Int).toNat (wrap64 ((rd (rd_L1 x5_1 x6_1) x8_2) + t137))) x8_2 (wrap64 (x9_3 + 1))) else (if (wrap64 ((rd (rd_L1 x5_1 x6_1) x8_2) + t137)) < (rd x7_3 t138) then (spec_l7Costs.l2 kj12 l0 a1 x5_1 x6_1 (x7_3.set (t138 : Int).toNat (wrap64 ((rd (rd_L1 x5_1 x6_1) x8_2) + t137))) x8_2 (wrap64 (x9_3 + 1))) else (spec_l7Costs.l2 kj12 l0 a1 x5_1 x6_1 x7_3 x8_2 (wrap64 (x9_3 + 1))))) else (none)) else (none))) = some r := H
                     have A34 := Aside0.mk A340
                     clear A340
                     replace H := Option.bind_eq_some_iff.mp H
                     obtain ⟨t138, A350, H⟩ := H
                     replace H : (if 0 ≤ t138 then (if t138 < (x7_3.length : Int) then (if (rd x7_3 t138) < 0 then (spec_l7Costs.l2 kj12 l0 a1 x5_1 x6_1 (x7_3.set (t138 : Int).toNat (wrap64 ((rd (rd_L1 x5_1 x6_1) x8_2) + t137))) x8_2 (wrap64 (x9_3 + 1))) else (if (wrap64 ((rd (rd_L1 x5_1 x6_1) x8_2) + t137)) < (rd x7_3 t138) then (spec_l7Costs.l2 kj12 l0 a1 x5_1 x6_1 (x7_3.set (t138 : Int).toNat (wrap64 ((rd (rd_L1 x5_1 x6_1) x8_2) + t137))) x8_2 (wrap64 (x9_3 + 1))) else (spec_l7Costs.l2 kj12 l0 a1 x5_1 x6_1 x7_3 x8_2 (wrap64 (x9_3 + 1))))) else (none)) else (none)) = some r := H
                     have A35 := Aside0.mk A350
                     clear A350
                     by_cases c36 : 0 ≤ t138
                     ·rw [if_pos c36] at H
                      have c36b0 : decide (0 ≤ t138) = true := decide_eq_true c36
                      clear c36
                      by_cases c37 : t138 < (x7_3.length : Int)
                      ·rw [if_pos c37] at H
                       have c37b0 : decide (t138 < (x7_3.length : Int)) = true := decide_eq_true c37
                       clear c37
                       by_cases c38 : (rd x7_3 t138) < 0
                       ·rw [if_pos c38] at H
                        have c38b0 : decide ((rd x7_3 t138) < 0) = true := decide_eq_true c38
                        clear c38
                        obtain ⟨y140, hy140⟩ : ∃ y_ : List Int, y_ = (x7_3.set (t138 : Int).toNat (wrap64 ((rd (rd_L1 x5_1 x6_1) x8_2) + t137))) := ⟨_, rfl⟩
                        replace H : (spec_l7Costs.l2 kj12 l0 a1 x5_1 x6_1 y140 x8_2 (wrap64 (x9_3 + 1))) = some r := by first | (rw [hy140]; with_reducible exact H) | (have H2_ := (Option.bind_some _ _).symm.trans H; rw [hy140]; with_reducible exact H2_) | (have H2_ := (Option.bind_some _ _).symm.trans H; with_reducible exact H2_) | with_reducible exact H | (rw [hy140]; exact H) | exact H
                        have Ny140 := Aside0.mk hy140
                        clear hy140
                        have H' := Aside0.mk H
                        clear H
                        obtain ⟨Ao40, co40, eo40⟩ := Kd.N_slice HO_5.out
                        subst eo40
                        have p133 : 0 ≤ (x6_1 : Int) := of_decide_eq_true (by first | (with_reducible assumption) | assumption)
                        have q133 : x6_1 < (x5_1.length : Int) := of_decide_eq_true (by first | (with_reducible assumption) | assumption)
                        obtain ⟨ad133, A133_0, c133_0, e133, hx133_0, hl133_0, hi133_0⟩ := at_L1 (Kd.N_reads' HO_5.out).2.2 x6_1 p133 q133
                        cases e133
                        obtain ⟨ce133, hce133, hMe133, hcc133⟩ := Kd.N_get HO_5.out [] x6_1 p133 (by first | exact q133 | exact of_decide_eq_true (by first | (with_reducible assumption) | assumption) | (have e_ := (Kd.N_reads' HO_5.out).1; omega))
                        obtain ⟨ua133_0, uc133_0, rfl, ul133_0, ge133_0⟩ := Kd.FK_slice_open hMe133
                        have hv133_0 := hcc133 0 _ rfl
                        rw [Nat.add_zero, show ((Kd.slice 3 (Kd.int .i64))).sz = 1 from rfl, Nat.mul_one] at hv133_0
                        replace hv133_0 := Option.some.inj (hv133_0.symm.trans hx133_0)
                        injection hv133_0 with hva_ hvn_ hvc_
                        rw [hva_] at ge133_0
                        rw [hvc_] at ul133_0
                        have HL133_0 := Aside0.mk (show Kd.V (Kd.int .i64) 3 _ w.heap.size _ _ (rd_L1 x5_1 x6_1) from Kd.V_mk ul133_0 ge133_0)
                        clear hva_ hvn_ hvc_ ge133_0 ul133_0
                        clear hcc133 hce133
                        have HR133_0 := Aside0.mk hi133_0
                        have HC133_0 := Aside0.mk hl133_0
                        clear hi133_0 hl133_0
                        replace p133 := eq_true p133
                        replace q133 := eq_true q133
                        have p134 : 0 ≤ (x8_2 : Int) := of_decide_eq_true (by first | (with_reducible assumption) | assumption)
                        have q134 : x8_2 < ((rd_L1 x5_1 x6_1).length : Int) := of_decide_eq_true (by first | (with_reducible assumption) | assumption)
                        obtain ⟨ad134, e134, hx134_0⟩ := Kd.at_int (by repeat (first | (with_reducible exact HR133_0.out) | (with_reducible refine Kd.C_alloc ?_ _) | (with_reducible refine Kd.C_drewN ?_ _) | (with_reducible refine Kd.C_drew ?_) | exact HR133_0.out)) x8_2 p134 q134
                        cases e134
                        replace p134 := eq_true p134
                        replace q134 := eq_true q134
                        have p135 : 0 ≤ ((ji28) : Int) := of_decide_eq_true (by first | (with_reducible assumption) | assumption)
                        have q135 : (ji28) < (l0.length : Int) := of_decide_eq_true (by first | (with_reducible assumption) | assumption)
                        obtain ⟨ad135, e135, hx135_0⟩ := Kd.at_int HR0.out (ji28) p135 q135
                        cases e135
                        replace hx135_0 := (HB.out.cell (World.block_lt_of_cell? w _ hx135_0)).trans hx135_0
                        replace p135 := eq_true p135
                        replace q135 := eq_true q135
                        have p136 : 0 ≤ ((ji31) : Int) := of_decide_eq_true (by first | (with_reducible assumption) | assumption)
                        have q136 : (ji31) < (l0.length : Int) := of_decide_eq_true (by first | (with_reducible assumption) | assumption)
                        obtain ⟨ad136, e136, hx136_0⟩ := Kd.at_int HR0.out (ji31) p136 q136
                        obtain rfl : ad135 = ad136 := (by injection e136)
                        replace hx136_0 := (HB.out.cell (World.block_lt_of_cell? w _ hx136_0)).trans hx136_0
                        replace p136 := eq_true p136
                        replace q136 := eq_true q136
                        go_wp2_with (first | (go_at_call 152; (with_reducible refine (spec_BranchDistance.calls kj12 x8_2 x9_3 (rd l0 (ji28)) (rd l0 (ji31)) t137 _ A34.out).mono ?_); rintro e w' ⟨rfl, ⟨nd, rfl⟩⟩; (try first | exact ⟨rfl, _, World.drewN_drewN _ _ _⟩ | exact ⟨rfl, _, Eq.trans (World.drewN_drewN _ _ _) (congrArg (World.drewN _) (Nat.add_assoc _ _ _))⟩)) | (go_at_call 114; (with_reducible refine (spec_NextState.calls x8_2 x9_3 t138 _ A35.out).mono ?_); rintro e w' ⟨rfl, ⟨nd, rfl⟩⟩; (try first | exact ⟨rfl, _, World.drewN_drewN _ _ _⟩ | exact ⟨rfl, _, Eq.trans (World.drewN_drewN _ _ _) (congrArg (World.drewN _) (Nat.add_assoc _ _ _))⟩); obtain ⟨Ao41, co41, eo41⟩ := Kd.R_slice HO_7.out; subst eo41; have p139 : 0 ≤ (t138 : Int) := of_decide_eq_true (by first | (with_reducible assumption) | assumption); have q139 : t138 < (x7_3.length : Int) := of_decide_eq_true (by first | (with_reducible assumption) | assumption); obtain ⟨ad139, e139, hx139_0⟩ := Kd.at_int (Kd.R_reads' HO_7.out).2.2 t138 p139 q139; cases e139; replace p139 := eq_true p139; replace q139 := eq_true q139; have p39 : 0 ≤ (t138 : Int) := of_decide_eq_true (by first | (with_reducible assumption) | assumption); have q39 : (t138 : Int) < ((x7_3.length : Int) : Int) := of_decide_eq_true (by first | (with_reducible assumption) | assumption); obtain ⟨go39, co39, eo39, gb39, gl39, cl39, HG39⟩ := Kd.R_form HO_7.out (by omega); (first | cases eo39 | (injection eo39 with ea_ en_ ec_; (first | subst ea_ | (injection ea_ with ea_; subst ea_)); subst ec_; clear en_)); have GB39 := Aside0.mk gb39; have GG39 := Aside0.mk HG39; clear gb39 gl39 HG39; (first | simp only [add_plain] at hx139_0 | skip); obtain ⟨hx39_0, hf39_0⟩ := Kd.R_celln 0 HO_7.out (t138 : Int) p39 q39; replace p39 := eq_true p39; replace q39 := eq_true q39; obtain ⟨hy42_, hz42_⟩ := Kd.R_celln 0 HO_7.out (t138 : Int) (of_decide_eq_true (by first | (with_reducible assumption) | assumption)) (of_decide_eq_true (by first | (with_reducible assumption) | assumption)); have HP42 := Kd.R_putg HO_7.out (t138 : Int) (wrap64 ((rd (rd_L1 x5_1 x6_1) x8_2) + t137))) | ((with_reducible refine gate_store (t := 3) (p := 87) rfl ?_); (try (rw [drewN_self wc]; generalize hq_ : World.drewN wc _ = wc; have n0_ := Aside0.mk (Kd.N_at hq_ HO_5.out); have n1_ := Aside0.mk (Kd.R_at hq_ HO_7.out); have n2_ := Aside0.mk (Kd.V_at hq_ HL133_0.out); have n3_ := Aside0.mk (below_at hq_ HB.out); clear hq_ HO_5 HO_7 HL133_0 HB; have HO_5 := n0_; have HO_7 := n1_; have HL133_0 := n2_; have HB := n3_; clear n0_ n1_ n2_ n3_; (try (obtain ⟨hy42_, hz42_⟩ := Kd.R_celln 0 HO_7.out (t138 : Int) (of_decide_eq_true (by first | (with_reducible assumption) | assumption)) (of_decide_eq_true (by first | (with_reducible assumption) | assumption)))); (try (have HP42 := Kd.R_putg HO_7.out (t138 : Int) (wrap64 ((rd (rd_L1 x5_1 x6_1) x8_2) + t137)))))); refine store_event (t := 3) (p := 87) (v := ?vo_w43) (w1 := (wc.setCell ⟨go39, (t138 : Int).toNat, none⟩ (.int .i64 (wrap64 ((rd (rd_L1 x5_1 x6_1) x8_2) + t137))))) ?hg ?ho ?hn ?hr ?_; (case ho => rfl); (case hg => rfl); (case hn => rfl); (case hr => first | (go_simp; done) | (go_simp; rfl)); intro w43 hw; have hg : wc.grownBy w43 (some go39) := (by rw [hw]; exact HP42.2); have hp_ : Kd.R (Kd.int .i64) 3 w43 w.heap.size (fun k_ => (w.heap.size ≤ k_)) (.slice (some ⟨go39, 0, none⟩) x7_3.length co41) y140 := (by rw [hw, Ny140.out]; exact HP42.1); clear HP42; have n0_ := Aside0.mk (Kd.N_afterv (v := (.slice (some ⟨go39, 0, none⟩) x7_3.length co41)) (v1 := (.slice (some ⟨go39, 0, none⟩) x7_3.length co41)) (ok := (fun k_ => (w.heap.size ≤ k_))) (by (with_reducible repeat (first | apply Kd.N_alloc | apply Kd.N_drewN | apply Kd.N_drew)); exact HO_5.out) hg (.inl rfl)); have n1_ := Aside0.mk (hp_); have n2_ := Aside0.mk (Kd.V_afterv (v := (.slice (some ⟨go39, 0, none⟩) x7_3.length co41)) (v1 := (.slice (some ⟨go39, 0, none⟩) x7_3.length co41)) (ok := (fun k_ => (w.heap.size ≤ k_) ∧ some k_ ≠ (.slice (some ad133) x5_1.length co40 : Value).ownBlock)) (by (with_reducible repeat (first | apply Kd.V_alloc | apply Kd.V_drewN | apply Kd.V_drew)); exact Kd.V_mono HL133_0.out (fun _ hk => ⟨⟨hk.1.1, hk.2⟩, hk.1.2⟩)) hg (.inl rfl)); have n3_ := Aside0.mk ((by rw [hw]; exact below_set (HB.out) GB39.out : Below w.heap.size w w43)); clear HO_5; clear HO_7; clear HL133_0; clear HB; have HO_5 := n0_; have HO_7 := n1_; have HL133_0 := n2_; have HB := n3_; clear n0_ n1_ n2_ n3_; clear hg hw hp_))
                        repeat (go_quiet (first | (go_at_call 152; (with_reducible refine (spec_BranchDistance.calls kj12 x8_2 x9_3 (rd l0 (ji28)) (rd l0 (ji31)) t137 _ A34.out).mono ?_); rintro e w' ⟨rfl, ⟨nd, rfl⟩⟩; (try first | exact ⟨rfl, _, World.drewN_drewN _ _ _⟩ | exact ⟨rfl, _, Eq.trans (World.drewN_drewN _ _ _) (congrArg (World.drewN _) (Nat.add_assoc _ _ _))⟩)) | (go_at_call 114; (with_reducible refine (spec_NextState.calls x8_2 x9_3 t138 _ A35.out).mono ?_); rintro e w' ⟨rfl, ⟨nd, rfl⟩⟩; (try first | exact ⟨rfl, _, World.drewN_drewN _ _ _⟩ | exact ⟨rfl, _, Eq.trans (World.drewN_drewN _ _ _) (congrArg (World.drewN _) (Nat.add_assoc _ _ _))⟩); obtain ⟨Ao41, co41, eo41⟩ := Kd.R_slice HO_7.out; subst eo41; have p139 : 0 ≤ (t138 : Int) := of_decide_eq_true (by first | (with_reducible assumption) | assumption); have q139 : t138 < (x7_3.length : Int) := of_decide_eq_true (by first | (with_reducible assumption) | assumption); obtain ⟨ad139, e139, hx139_0⟩ := Kd.at_int (Kd.R_reads' HO_7.out).2.2 t138 p139 q139; cases e139; replace p139 := eq_true p139; replace q139 := eq_true q139; have p39 : 0 ≤ (t138 : Int) := of_decide_eq_true (by first | (with_reducible assumption) | assumption); have q39 : (t138 : Int) < ((x7_3.length : Int) : Int) := of_decide_eq_true (by first | (with_reducible assumption) | assumption); obtain ⟨go39, co39, eo39, gb39, gl39, cl39, HG39⟩ := Kd.R_form HO_7.out (by omega); (first | cases eo39 | (injection eo39 with ea_ en_ ec_; (first | subst ea_ | (injection ea_ with ea_; subst ea_)); subst ec_; clear en_)); have GB39 := Aside0.mk gb39; have GG39 := Aside0.mk HG39; clear gb39 gl39 HG39; (first | simp only [add_plain] at hx139_0 | skip); obtain ⟨hx39_0, hf39_0⟩ := Kd.R_celln 0 HO_7.out (t138 : Int) p39 q39; replace p39 := eq_true p39; replace q39 := eq_true q39; obtain ⟨hy42_, hz42_⟩ := Kd.R_celln 0 HO_7.out (t138 : Int) (of_decide_eq_true (by first | (with_reducible assumption) | assumption)) (of_decide_eq_true (by first | (with_reducible assumption) | assumption)); have HP42 := Kd.R_putg HO_7.out (t138 : Int) (wrap64 ((rd (rd_L1 x5_1 x6_1) x8_2) + t137))) | ((with_reducible refine gate_store (t := 3) (p := 87) rfl ?_); (try (rw [drewN_self wc]; generalize hq_ : World.drewN wc _ = wc; have n0_ := Aside0.mk (Kd.N_at hq_ HO_5.out); have n1_ := Aside0.mk (Kd.R_at hq_ HO_7.out); have n2_ := Aside0.mk (Kd.V_at hq_ HL133_0.out); have n3_ := Aside0.mk (below_at hq_ HB.out); clear hq_ HO_5 HO_7 HL133_0 HB; have HO_5 := n0_; have HO_7 := n1_; have HL133_0 := n2_; have HB := n3_; clear n0_ n1_ n2_ n3_; (try (obtain ⟨hy42_, hz42_⟩ := Kd.R_celln 0 HO_7.out (t138 : Int) (of_decide_eq_true (by first | (with_reducible assumption) | assumption)) (of_decide_eq_true (by first | (with_reducible assumption) | assumption)))); (try (have HP42 := Kd.R_putg HO_7.out (t138 : Int) (wrap64 ((rd (rd_L1 x5_1 x6_1) x8_2) + t137)))))); refine store_event (t := 3) (p := 87) (v := ?vo_w43) (w1 := (wc.setCell ⟨go39, (t138 : Int).toNat, none⟩ (.int .i64 (wrap64 ((rd (rd_L1 x5_1 x6_1) x8_2) + t137))))) ?hg ?ho ?hn ?hr ?_; (case ho => rfl); (case hg => rfl); (case hn => rfl); (case hr => first | (go_simp; done) | (go_simp; rfl)); intro w43 hw; have hg : wc.grownBy w43 (some go39) := (by rw [hw]; exact HP42.2); have hp_ : Kd.R (Kd.int .i64) 3 w43 w.heap.size (fun k_ => (w.heap.size ≤ k_)) (.slice (some ⟨go39, 0, none⟩) x7_3.length co41) y140 := (by rw [hw, Ny140.out]; exact HP42.1); clear HP42; have n0_ := Aside0.mk (Kd.N_afterv (v := (.slice (some ⟨go39, 0, none⟩) x7_3.length co41)) (v1 := (.slice (some ⟨go39, 0, none⟩) x7_3.length co41)) (ok := (fun k_ => (w.heap.size ≤ k_))) (by (with_reducible repeat (first | apply Kd.N_alloc | apply Kd.N_drewN | apply Kd.N_drew)); exact HO_5.out) hg (.inl rfl)); have n1_ := Aside0.mk (hp_); have n2_ := Aside0.mk (Kd.V_afterv (v := (.slice (some ⟨go39, 0, none⟩) x7_3.length co41)) (v1 := (.slice (some ⟨go39, 0, none⟩) x7_3.length co41)) (ok := (fun k_ => (w.heap.size ≤ k_) ∧ some k_ ≠ (.slice (some ad133) x5_1.length co40 : Value).ownBlock)) (by (with_reducible repeat (first | apply Kd.V_alloc | apply Kd.V_drewN | apply Kd.V_drew)); exact Kd.V_mono HL133_0.out (fun _ hk => ⟨⟨hk.1.1, hk.2⟩, hk.1.2⟩)) hg (.inl rfl)); have n3_ := Aside0.mk ((by rw [hw]; exact below_set (HB.out) GB39.out : Below w.heap.size w w43)); clear HO_5; clear HO_7; clear HL133_0; clear HB; have HO_5 := n0_; have HO_7 := n1_; have HL133_0 := n2_; have HB := n3_; clear n0_ n1_ n2_ n3_; clear hg hw hp_)); try go_wp2_with (first | (go_at_call 152; (with_reducible refine (spec_BranchDistance.calls kj12 x8_2 x9_3 (rd l0 (ji28)) (rd l0 (ji31)) t137 _ A34.out).mono ?_); rintro e w' ⟨rfl, ⟨nd, rfl⟩⟩; (try first | exact ⟨rfl, _, World.drewN_drewN _ _ _⟩ | exact ⟨rfl, _, Eq.trans (World.drewN_drewN _ _ _) (congrArg (World.drewN _) (Nat.add_assoc _ _ _))⟩)) | (go_at_call 114; (with_reducible refine (spec_NextState.calls x8_2 x9_3 t138 _ A35.out).mono ?_); rintro e w' ⟨rfl, ⟨nd, rfl⟩⟩; (try first | exact ⟨rfl, _, World.drewN_drewN _ _ _⟩ | exact ⟨rfl, _, Eq.trans (World.drewN_drewN _ _ _) (congrArg (World.drewN _) (Nat.add_assoc _ _ _))⟩); obtain ⟨Ao41, co41, eo41⟩ := Kd.R_slice HO_7.out; subst eo41; have p139 : 0 ≤ (t138 : Int) := of_decide_eq_true (by first | (with_reducible assumption) | assumption); have q139 : t138 < (x7_3.length : Int) := of_decide_eq_true (by first | (with_reducible assumption) | assumption); obtain ⟨ad139, e139, hx139_0⟩ := Kd.at_int (Kd.R_reads' HO_7.out).2.2 t138 p139 q139; cases e139; replace p139 := eq_true p139; replace q139 := eq_true q139; have p39 : 0 ≤ (t138 : Int) := of_decide_eq_true (by first | (with_reducible assumption) | assumption); have q39 : (t138 : Int) < ((x7_3.length : Int) : Int) := of_decide_eq_true (by first | (with_reducible assumption) | assumption); obtain ⟨go39, co39, eo39, gb39, gl39, cl39, HG39⟩ := Kd.R_form HO_7.out (by omega); (first | cases eo39 | (injection eo39 with ea_ en_ ec_; (first | subst ea_ | (injection ea_ with ea_; subst ea_)); subst ec_; clear en_)); have GB39 := Aside0.mk gb39; have GG39 := Aside0.mk HG39; clear gb39 gl39 HG39; (first | simp only [add_plain] at hx139_0 | skip); obtain ⟨hx39_0, hf39_0⟩ := Kd.R_celln 0 HO_7.out (t138 : Int) p39 q39; replace p39 := eq_true p39; replace q39 := eq_true q39; obtain ⟨hy42_, hz42_⟩ := Kd.R_celln 0 HO_7.out (t138 : Int) (of_decide_eq_true (by first | (with_reducible assumption) | assumption)) (of_decide_eq_true (by first | (with_reducible assumption) | assumption)); have HP42 := Kd.R_putg HO_7.out (t138 : Int) (wrap64 ((rd (rd_L1 x5_1 x6_1) x8_2) + t137))) | ((with_reducible refine gate_store (t := 3) (p := 87) rfl ?_); (try (rw [drewN_self wc]; generalize hq_ : World.drewN wc _ = wc; have n0_ := Aside0.mk (Kd.N_at hq_ HO_5.out); have n1_ := Aside0.mk (Kd.R_at hq_ HO_7.out); have n2_ := Aside0.mk (Kd.V_at hq_ HL133_0.out); have n3_ := Aside0.mk (below_at hq_ HB.out); clear hq_ HO_5 HO_7 HL133_0 HB; have HO_5 := n0_; have HO_7 := n1_; have HL133_0 := n2_; have HB := n3_; clear n0_ n1_ n2_ n3_; (try (obtain ⟨hy42_, hz42_⟩ := Kd.R_celln 0 HO_7.out (t138 : Int) (of_decide_eq_true (by first | (with_reducible assumption) | assumption)) (of_decide_eq_true (by first | (with_reducible assumption) | assumption)))); (try (have HP42 := Kd.R_putg HO_7.out (t138 : Int) (wrap64 ((rd (rd_L1 x5_1 x6_1) x8_2) + t137)))))); refine store_event (t := 3) (p := 87) (v := ?vo_w43) (w1 := (wc.setCell ⟨go39, (t138 : Int).toNat, none⟩ (.int .i64 (wrap64 ((rd (rd_L1 x5_1 x6_1) x8_2) + t137))))) ?hg ?ho ?hn ?hr ?_; (case ho => rfl); (case hg => rfl); (case hn => rfl); (case hr => first | (go_simp; done) | (go_simp; rfl)); intro w43 hw; have hg : wc.grownBy w43 (some go39) := (by rw [hw]; exact HP42.2); have hp_ : Kd.R (Kd.int .i64) 3 w43 w.heap.size (fun k_ => (w.heap.size ≤ k_)) (.slice (some ⟨go39, 0, none⟩) x7_3.length co41) y140 := (by rw [hw, Ny140.out]; exact HP42.1); clear HP42; have n0_ := Aside0.mk (Kd.N_afterv (v := (.slice (some ⟨go39, 0, none⟩) x7_3.length co41)) (v1 := (.slice (some ⟨go39, 0, none⟩) x7_3.length co41)) (ok := (fun k_ => (w.heap.size ≤ k_))) (by (with_reducible repeat (first | apply Kd.N_alloc | apply Kd.N_drewN | apply Kd.N_drew)); exact HO_5.out) hg (.inl rfl)); have n1_ := Aside0.mk (hp_); have n2_ := Aside0.mk (Kd.V_afterv (v := (.slice (some ⟨go39, 0, none⟩) x7_3.length co41)) (v1 := (.slice (some ⟨go39, 0, none⟩) x7_3.length co41)) (ok := (fun k_ => (w.heap.size ≤ k_) ∧ some k_ ≠ (.slice (some ad133) x5_1.length co40 : Value).ownBlock)) (by (with_reducible repeat (first | apply Kd.V_alloc | apply Kd.V_drewN | apply Kd.V_drew)); exact Kd.V_mono HL133_0.out (fun _ hk => ⟨⟨hk.1.1, hk.2⟩, hk.1.2⟩)) hg (.inl rfl)); have n3_ := Aside0.mk ((by rw [hw]; exact below_set (HB.out) GB39.out : Below w.heap.size w w43)); clear HO_5; clear HO_7; clear HL133_0; clear HB; have HO_5 := n0_; have HO_7 := n1_; have HL133_0 := n2_; have HB := n3_; clear n0_ n1_ n2_ n3_; clear hg hw hp_)))
                        go_roundg kj12
                        case measure => have := HK1.out; have := HK2.out; have := HK3.out; have := HJ12.out; omega
                        case rel => exact ⟨(y140), (wrap64 (x9_3 + 1)), (by first | rfl | (simp; done) | (simp [*]; done)), H', ⟨by have := HK1.out; have := HK2.out; have := HK3.out; have := HJ12.out; omega⟩, ⟨by first | ((with_reducible repeat (first | apply Kd.N_alloc | apply Kd.N_drewN | apply Kd.N_drew)); exact HO_5.out) | exact Kd.N_drewN (Kd.N_afterv HO_5.out HP42.2 (.inl rfl)) _⟩, ⟨by first | ((with_reducible repeat (first | apply Kd.R_alloc | apply Kd.R_drewN | apply Kd.R_drew)); exact HO_7.out) | (rw [Ny140.out]; exact Kd.R_drewN HP42.1 _)⟩, ⟨by first | ((repeat (first | (with_reducible first | exact HB.out | apply below_alloc | apply pw_below_drewN | apply below_drew1) | exact HB.out)); done) | exact below_set (pw_below_drewN HB.out _) GB39.out⟩⟩
                       ·rw [if_neg c38] at H
                        have c38b0 : decide ((rd x7_3 t138) < 0) = false := decide_eq_false c38
                        clear c38
                        by_cases c44 : (wrap64 ((rd (rd_L1 x5_1 x6_1) x8_2) + t137)) < (rd x7_3 t138)
                        ·rw [if_pos c44] at H
                         have c44b0 : decide ((wrap64 ((rd (rd_L1 x5_1 x6_1) x8_2) + t137)) < (rd x7_3 t138)) = true := decide_eq_true c44
                         clear c44
                         obtain ⟨y142, hy142⟩ : ∃ y_ : List Int, y_ = (x7_3.set (t138 : Int).toNat (wrap64 ((rd (rd_L1 x5_1 x6_1) x8_2) + t137))) := ⟨_, rfl⟩
                         replace H : (spec_l7Costs.l2 kj12 l0 a1 x5_1 x6_1 y142 x8_2 (wrap64 (x9_3 + 1))) = some r := by first | (rw [hy142]; with_reducible exact H) | (have H2_ := (Option.bind_some _ _).symm.trans H; rw [hy142]; with_reducible exact H2_) | (have H2_ := (Option.bind_some _ _).symm.trans H; with_reducible exact H2_) | with_reducible exact H | (rw [hy142]; exact H) | exact H
                         have Ny142 := Aside0.mk hy142
                         clear hy142
                         have H' := Aside0.mk H
                         clear H
                         obtain ⟨Ao46, co46, eo46⟩ := Kd.N_slice HO_5.out
                         subst eo46
                         have p133 : 0 ≤ (x6_1 : Int) := of_decide_eq_true (by first | (with_reducible assumption) | assumption)
                         have q133 : x6_1 < (x5_1.length : Int) := of_decide_eq_true (by first | (with_reducible assumption) | assumption)
                         obtain ⟨ad133, A133_0, c133_0, e133, hx133_0, hl133_0, hi133_0⟩ := at_L1 (Kd.N_reads' HO_5.out).2.2 x6_1 p133 q133
                         cases e133
                         obtain ⟨ce133, hce133, hMe133, hcc133⟩ := Kd.N_get HO_5.out [] x6_1 p133 (by first | exact q133 | exact of_decide_eq_true (by first | (with_reducible assumption) | assumption) | (have e_ := (Kd.N_reads' HO_5.out).1; omega))
                         obtain ⟨ua133_0, uc133_0, rfl, ul133_0, ge133_0⟩ := Kd.FK_slice_open hMe133
                         have hv133_0 := hcc133 0 _ rfl
                         rw [Nat.add_zero, show ((Kd.slice 3 (Kd.int .i64))).sz = 1 from rfl, Nat.mul_one] at hv133_0
                         replace hv133_0 := Option.some.inj (hv133_0.symm.trans hx133_0)
                         injection hv133_0 with hva_ hvn_ hvc_
                         rw [hva_] at ge133_0
                         rw [hvc_] at ul133_0
                         have HL133_0 := Aside0.mk (show Kd.V (Kd.int .i64) 3 _ w.heap.size _ _ (rd_L1 x5_1 x6_1) from Kd.V_mk ul133_0 ge133_0)
                         clear hva_ hvn_ hvc_ ge133_0 ul133_0
                         clear hcc133 hce133
                         have HR133_0 := Aside0.mk hi133_0
                         have HC133_0 := Aside0.mk hl133_0
                         clear hi133_0 hl133_0
                         replace p133 := eq_true p133
                         replace q133 := eq_true q133
                         have p134 : 0 ≤ (x8_2 : Int) := of_decide_eq_true (by first | (with_reducible assumption) | assumption)
                         have q134 : x8_2 < ((rd_L1 x5_1 x6_1).length : Int) := of_decide_eq_true (by first | (with_reducible assumption) | assumption)
                         obtain ⟨ad134, e134, hx134_0⟩ := Kd.at_int (by repeat (first | (with_reducible exact HR133_0.out) | (with_reducible refine Kd.C_alloc ?_ _) | (with_reducible refine Kd.C_drewN ?_ _) | (with_reducible refine Kd.C_drew ?_) | exact HR133_0.out)) x8_2 p134 q134
                         cases e134
                         replace p134 := eq_true p134
                         replace q134 := eq_true q134
                         have p135 : 0 ≤ ((ji28) : Int) := of_decide_eq_true (by first | (with_reducible assumption) | assumption)
                         have q135 : (ji28) < (l0.length : Int) := of_decide_eq_true (by first | (with_reducible assumption) | assumption)
                         obtain ⟨ad135, e135, hx135_0⟩ := Kd.at_int HR0.out (ji28) p135 q135
                         cases e135
                         replace hx135_0 := (HB.out.cell (World.block_lt_of_cell? w _ hx135_0)).trans hx135_0
                         replace p135 := eq_true p135
                         replace q135 := eq_true q135
                         have p136 : 0 ≤ ((ji31) : Int) := of_decide_eq_true (by first | (with_reducible assumption) | assumption)
                         have q136 : (ji31) < (l0.length : Int) := of_decide_eq_true (by first | (with_reducible assumption) | assumption)
                         obtain ⟨ad136, e136, hx136_0⟩ := Kd.at_int HR0.out (ji31) p136 q136
                         obtain rfl : ad135 = ad136 := (by injection e136)
                         replace hx136_0 := (HB.out.cell (World.block_lt_of_cell? w _ hx136_0)).trans hx136_0
                         replace p136 := eq_true p136
                         replace q136 := eq_true q136
                         go_wp2_with (first | (go_at_call 152; (with_reducible refine (spec_BranchDistance.calls kj12 x8_2 x9_3 (rd l0 (ji28)) (rd l0 (ji31)) t137 _ A34.out).mono ?_); rintro e w' ⟨rfl, ⟨nd, rfl⟩⟩; (try first | exact ⟨rfl, _, World.drewN_drewN _ _ _⟩ | exact ⟨rfl, _, Eq.trans (World.drewN_drewN _ _ _) (congrArg (World.drewN _) (Nat.add_assoc _ _ _))⟩)) | (go_at_call 114; (with_reducible refine (spec_NextState.calls x8_2 x9_3 t138 _ A35.out).mono ?_); rintro e w' ⟨rfl, ⟨nd, rfl⟩⟩; (try first | exact ⟨rfl, _, World.drewN_drewN _ _ _⟩ | exact ⟨rfl, _, Eq.trans (World.drewN_drewN _ _ _) (congrArg (World.drewN _) (Nat.add_assoc _ _ _))⟩); obtain ⟨Ao47, co47, eo47⟩ := Kd.R_slice HO_7.out; subst eo47; have p139 : 0 ≤ (t138 : Int) := of_decide_eq_true (by first | (with_reducible assumption) | assumption); have q139 : t138 < (x7_3.length : Int) := of_decide_eq_true (by first | (with_reducible assumption) | assumption); obtain ⟨ad139, e139, hx139_0⟩ := Kd.at_int (Kd.R_reads' HO_7.out).2.2 t138 p139 q139; cases e139; replace p139 := eq_true p139; replace q139 := eq_true q139; have p141 : 0 ≤ (t138 : Int) := of_decide_eq_true (by first | (with_reducible assumption) | assumption); have q141 : t138 < (x7_3.length : Int) := of_decide_eq_true (by first | (with_reducible assumption) | assumption); obtain ⟨ad141, e141, hx141_0⟩ := Kd.at_int (Kd.R_reads' HO_7.out).2.2 t138 p141 q141; obtain rfl : ad139 = ad141 := (by injection e141); replace p141 := eq_true p141; replace q141 := eq_true q141; have p45 : 0 ≤ (t138 : Int) := of_decide_eq_true (by first | (with_reducible assumption) | assumption); have q45 : (t138 : Int) < ((x7_3.length : Int) : Int) := of_decide_eq_true (by first | (with_reducible assumption) | assumption); obtain ⟨go45, co45, eo45, gb45, gl45, cl45, HG45⟩ := Kd.R_form HO_7.out (by omega); (first | cases eo45 | (injection eo45 with ea_ en_ ec_; (first | subst ea_ | (injection ea_ with ea_; subst ea_)); subst ec_; clear en_)); have GB45 := Aside0.mk gb45; have GG45 := Aside0.mk HG45; clear gb45 gl45 HG45; (first | simp only [add_plain] at hx139_0 | skip); (first | simp only [add_plain] at hx141_0 | skip); obtain ⟨hx45_0, hf45_0⟩ := Kd.R_celln 0 HO_7.out (t138 : Int) p45 q45; replace p45 := eq_true p45; replace q45 := eq_true q45; obtain ⟨hy48_, hz48_⟩ := Kd.R_celln 0 HO_7.out (t138 : Int) (of_decide_eq_true (by first | (with_reducible assumption) | assumption)) (of_decide_eq_true (by first | (with_reducible assumption) | assumption)); have HP48 := Kd.R_putg HO_7.out (t138 : Int) (wrap64 ((rd (rd_L1 x5_1 x6_1) x8_2) + t137))) | ((with_reducible refine gate_store (t := 3) (p := 87) rfl ?_); (try (rw [drewN_self wc]; generalize hq_ : World.drewN wc _ = wc; have n0_ := Aside0.mk (Kd.N_at hq_ HO_5.out); have n1_ := Aside0.mk (Kd.R_at hq_ HO_7.out); have n2_ := Aside0.mk (Kd.V_at hq_ HL133_0.out); have n3_ := Aside0.mk (below_at hq_ HB.out); clear hq_ HO_5 HO_7 HL133_0 HB; have HO_5 := n0_; have HO_7 := n1_; have HL133_0 := n2_; have HB := n3_; clear n0_ n1_ n2_ n3_; (try (obtain ⟨hy48_, hz48_⟩ := Kd.R_celln 0 HO_7.out (t138 : Int) (of_decide_eq_true (by first | (with_reducible assumption) | assumption)) (of_decide_eq_true (by first | (with_reducible assumption) | assumption)))); (try (have HP48 := Kd.R_putg HO_7.out (t138 : Int) (wrap64 ((rd (rd_L1 x5_1 x6_1) x8_2) + t137)))))); refine store_event (t := 3) (p := 87) (v := ?vo_w49) (w1 := (wc.setCell ⟨go45, (t138 : Int).toNat, none⟩ (.int .i64 (wrap64 ((rd (rd_L1 x5_1 x6_1) x8_2) + t137))))) ?hg ?ho ?hn ?hr ?_; (case ho => rfl); (case hg => rfl); (case hn => rfl); (case hr => first | (go_simp; done) | (go_simp; rfl)); intro w49 hw; have hg : wc.grownBy w49 (some go45) := (by rw [hw]; exact HP48.2); have hp_ : Kd.R (Kd.int .i64) 3 w49 w.heap.size (fun k_ => (w.heap.size ≤ k_)) (.slice (some ⟨go45, 0, none⟩) x7_3.length co47) y142 := (by rw [hw, Ny142.out]; exact HP48.1); clear HP48; have n0_ := Aside0.mk (Kd.N_afterv (v := (.slice (some ⟨go45, 0, none⟩) x7_3.length co47)) (v1 := (.slice (some ⟨go45, 0, none⟩) x7_3.length co47)) (ok := (fun k_ => (w.heap.size ≤ k_))) (by (with_reducible repeat (first | apply Kd.N_alloc | apply Kd.N_drewN | apply Kd.N_drew)); exact HO_5.out) hg (.inl rfl)); have n1_ := Aside0.mk (hp_); have n2_ := Aside0.mk (Kd.V_afterv (v := (.slice (some ⟨go45, 0, none⟩) x7_3.length co47)) (v1 := (.slice (some ⟨go45, 0, none⟩) x7_3.length co47)) (ok := (fun k_ => (w.heap.size ≤ k_) ∧ some k_ ≠ (.slice (some ad133) x5_1.length co46 : Value).ownBlock)) (by (with_reducible repeat (first | apply Kd.V_alloc | apply Kd.V_drewN | apply Kd.V_drew)); exact Kd.V_mono HL133_0.out (fun _ hk => ⟨⟨hk.1.1, hk.2⟩, hk.1.2⟩)) hg (.inl rfl)); have n3_ := Aside0.mk ((by rw [hw]; exact below_set (HB.out) GB45.out : Below w.heap.size w w49)); clear HO_5; clear HO_7; clear HL133_0; clear HB; have HO_5 := n0_; have HO_7 := n1_; have HL133_0 := n2_; have HB := n3_; clear n0_ n1_ n2_ n3_; clear hg hw hp_))
                         repeat (go_quiet (first | (go_at_call 152; (with_reducible refine (spec_BranchDistance.calls kj12 x8_2 x9_3 (rd l0 (ji28)) (rd l0 (ji31)) t137 _ A34.out).mono ?_); rintro e w' ⟨rfl, ⟨nd, rfl⟩⟩; (try first | exact ⟨rfl, _, World.drewN_drewN _ _ _⟩ | exact ⟨rfl, _, Eq.trans (World.drewN_drewN _ _ _) (congrArg (World.drewN _) (Nat.add_assoc _ _ _))⟩)) | (go_at_call 114; (with_reducible refine (spec_NextState.calls x8_2 x9_3 t138 _ A35.out).mono ?_); rintro e w' ⟨rfl, ⟨nd, rfl⟩⟩; (try first | exact ⟨rfl, _, World.drewN_drewN _ _ _⟩ | exact ⟨rfl, _, Eq.trans (World.drewN_drewN _ _ _) (congrArg (World.drewN _) (Nat.add_assoc _ _ _))⟩); obtain ⟨Ao47, co47, eo47⟩ := Kd.R_slice HO_7.out; subst eo47; have p139 : 0 ≤ (t138 : Int) := of_decide_eq_true (by first | (with_reducible assumption) | assumption); have q139 : t138 < (x7_3.length : Int) := of_decide_eq_true (by first | (with_reducible assumption) | assumption); obtain ⟨ad139, e139, hx139_0⟩ := Kd.at_int (Kd.R_reads' HO_7.out).2.2 t138 p139 q139; cases e139; replace p139 := eq_true p139; replace q139 := eq_true q139; have p141 : 0 ≤ (t138 : Int) := of_decide_eq_true (by first | (with_reducible assumption) | assumption); have q141 : t138 < (x7_3.length : Int) := of_decide_eq_true (by first | (with_reducible assumption) | assumption); obtain ⟨ad141, e141, hx141_0⟩ := Kd.at_int (Kd.R_reads' HO_7.out).2.2 t138 p141 q141; obtain rfl : ad139 = ad141 := (by injection e141); replace p141 := eq_true p141; replace q141 := eq_true q141; have p45 : 0 ≤ (t138 : Int) := of_decide_eq_true (by first | (with_reducible assumption) | assumption); have q45 : (t138 : Int) < ((x7_3.length : Int) : Int) := of_decide_eq_true (by first | (with_reducible assumption) | assumption); obtain ⟨go45, co45, eo45, gb45, gl45, cl45, HG45⟩ := Kd.R_form HO_7.out (by omega); (first | cases eo45 | (injection eo45 with ea_ en_ ec_; (first | subst ea_ | (injection ea_ with ea_; subst ea_)); subst ec_; clear en_)); have GB45 := Aside0.mk gb45; have GG45 := Aside0.mk HG45; clear gb45 gl45 HG45; (first | simp only [add_plain] at hx139_0 | skip); (first | simp only [add_plain] at hx141_0 | skip); obtain ⟨hx45_0, hf45_0⟩ := Kd.R_celln 0 HO_7.out (t138 : Int) p45 q45; replace p45 := eq_true p45; replace q45 := eq_true q45; obtain ⟨hy48_, hz48_⟩ := Kd.R_celln 0 HO_7.out (t138 : Int) (of_decide_eq_true (by first | (with_reducible assumption) | assumption)) (of_decide_eq_true (by first | (with_reducible assumption) | assumption)); have HP48 := Kd.R_putg HO_7.out (t138 : Int) (wrap64 ((rd (rd_L1 x5_1 x6_1) x8_2) + t137))) | ((with_reducible refine gate_store (t := 3) (p := 87) rfl ?_); (try (rw [drewN_self wc]; generalize hq_ : World.drewN wc _ = wc; have n0_ := Aside0.mk (Kd.N_at hq_ HO_5.out); have n1_ := Aside0.mk (Kd.R_at hq_ HO_7.out); have n2_ := Aside0.mk (Kd.V_at hq_ HL133_0.out); have n3_ := Aside0.mk (below_at hq_ HB.out); clear hq_ HO_5 HO_7 HL133_0 HB; have HO_5 := n0_; have HO_7 := n1_; have HL133_0 := n2_; have HB := n3_; clear n0_ n1_ n2_ n3_; (try (obtain ⟨hy48_, hz48_⟩ := Kd.R_celln 0 HO_7.out (t138 : Int) (of_decide_eq_true (by first | (with_reducible assumption) | assumption)) (of_decide_eq_true (by first | (with_reducible assumption) | assumption)))); (try (have HP48 := Kd.R_putg HO_7.out (t138 : Int) (wrap64 ((rd (rd_L1 x5_1 x6_1) x8_2) + t137)))))); refine store_event (t := 3) (p := 87) (v := ?vo_w49) (w1 := (wc.setCell ⟨go45, (t138 : Int).toNat, none⟩ (.int .i64 (wrap64 ((rd (rd_L1 x5_1 x6_1) x8_2) + t137))))) ?hg ?ho ?hn ?hr ?_; (case ho => rfl); (case hg => rfl); (case hn => rfl); (case hr => first | (go_simp; done) | (go_simp; rfl)); intro w49 hw; have hg : wc.grownBy w49 (some go45) := (by rw [hw]; exact HP48.2); have hp_ : Kd.R (Kd.int .i64) 3 w49 w.heap.size (fun k_ => (w.heap.size ≤ k_)) (.slice (some ⟨go45, 0, none⟩) x7_3.length co47) y142 := (by rw [hw, Ny142.out]; exact HP48.1); clear HP48; have n0_ := Aside0.mk (Kd.N_afterv (v := (.slice (some ⟨go45, 0, none⟩) x7_3.length co47)) (v1 := (.slice (some ⟨go45, 0, none⟩) x7_3.length co47)) (ok := (fun k_ => (w.heap.size ≤ k_))) (by (with_reducible repeat (first | apply Kd.N_alloc | apply Kd.N_drewN | apply Kd.N_drew)); exact HO_5.out) hg (.inl rfl)); have n1_ := Aside0.mk (hp_); have n2_ := Aside0.mk (Kd.V_afterv (v := (.slice (some ⟨go45, 0, none⟩) x7_3.length co47)) (v1 := (.slice (some ⟨go45, 0, none⟩) x7_3.length co47)) (ok := (fun k_ => (w.heap.size ≤ k_) ∧ some k_ ≠ (.slice (some ad133) x5_1.length co46 : Value).ownBlock)) (by (with_reducible repeat (first | apply Kd.V_alloc | apply Kd.V_drewN | apply Kd.V_drew)); exact Kd.V_mono HL133_0.out (fun _ hk => ⟨⟨hk.1.1, hk.2⟩, hk.1.2⟩)) hg (.inl rfl)); have n3_ := Aside0.mk ((by rw [hw]; exact below_set (HB.out) GB45.out : Below w.heap.size w w49)); clear HO_5; clear HO_7; clear HL133_0; clear HB; have HO_5 := n0_; have HO_7 := n1_; have HL133_0 := n2_; have HB := n3_; clear n0_ n1_ n2_ n3_; clear hg hw hp_)); try go_wp2_with (first | (go_at_call 152; (with_reducible refine (spec_BranchDistance.calls kj12 x8_2 x9_3 (rd l0 (ji28)) (rd l0 (ji31)) t137 _ A34.out).mono ?_); rintro e w' ⟨rfl, ⟨nd, rfl⟩⟩; (try first | exact ⟨rfl, _, World.drewN_drewN _ _ _⟩ | exact ⟨rfl, _, Eq.trans (World.drewN_drewN _ _ _) (congrArg (World.drewN _) (Nat.add_assoc _ _ _))⟩)) | (go_at_call 114; (with_reducible refine (spec_NextState.calls x8_2 x9_3 t138 _ A35.out).mono ?_); rintro e w' ⟨rfl, ⟨nd, rfl⟩⟩; (try first | exact ⟨rfl, _, World.drewN_drewN _ _ _⟩ | exact ⟨rfl, _, Eq.trans (World.drewN_drewN _ _ _) (congrArg (World.drewN _) (Nat.add_assoc _ _ _))⟩); obtain ⟨Ao47, co47, eo47⟩ := Kd.R_slice HO_7.out; subst eo47; have p139 : 0 ≤ (t138 : Int) := of_decide_eq_true (by first | (with_reducible assumption) | assumption); have q139 : t138 < (x7_3.length : Int) := of_decide_eq_true (by first | (with_reducible assumption) | assumption); obtain ⟨ad139, e139, hx139_0⟩ := Kd.at_int (Kd.R_reads' HO_7.out).2.2 t138 p139 q139; cases e139; replace p139 := eq_true p139; replace q139 := eq_true q139; have p141 : 0 ≤ (t138 : Int) := of_decide_eq_true (by first | (with_reducible assumption) | assumption); have q141 : t138 < (x7_3.length : Int) := of_decide_eq_true (by first | (with_reducible assumption) | assumption); obtain ⟨ad141, e141, hx141_0⟩ := Kd.at_int (Kd.R_reads' HO_7.out).2.2 t138 p141 q141; obtain rfl : ad139 = ad141 := (by injection e141); replace p141 := eq_true p141; replace q141 := eq_true q141; have p45 : 0 ≤ (t138 : Int) := of_decide_eq_true (by first | (with_reducible assumption) | assumption); have q45 : (t138 : Int) < ((x7_3.length : Int) : Int) := of_decide_eq_true (by first | (with_reducible assumption) | assumption); obtain ⟨go45, co45, eo45, gb45, gl45, cl45, HG45⟩ := Kd.R_form HO_7.out (by omega); (first | cases eo45 | (injection eo45 with ea_ en_ ec_; (first | subst ea_ | (injection ea_ with ea_; subst ea_)); subst ec_; clear en_)); have GB45 := Aside0.mk gb45; have GG45 := Aside0.mk HG45; clear gb45 gl45 HG45; (first | simp only [add_plain] at hx139_0 | skip); (first | simp only [add_plain] at hx141_0 | skip); obtain ⟨hx45_0, hf45_0⟩ := Kd.R_celln 0 HO_7.out (t138 : Int) p45 q45; replace p45 := eq_true p45; replace q45 := eq_true q45; obtain ⟨hy48_, hz48_⟩ := Kd.R_celln 0 HO_7.out (t138 : Int) (of_decide_eq_true (by first | (with_reducible assumption) | assumption)) (of_decide_eq_true (by first | (with_reducible assumption) | assumption)); have HP48 := Kd.R_putg HO_7.out (t138 : Int) (wrap64 ((rd (rd_L1 x5_1 x6_1) x8_2) + t137))) | ((with_reducible refine gate_store (t := 3) (p := 87) rfl ?_); (try (rw [drewN_self wc]; generalize hq_ : World.drewN wc _ = wc; have n0_ := Aside0.mk (Kd.N_at hq_ HO_5.out); have n1_ := Aside0.mk (Kd.R_at hq_ HO_7.out); have n2_ := Aside0.mk (Kd.V_at hq_ HL133_0.out); have n3_ := Aside0.mk (below_at hq_ HB.out); clear hq_ HO_5 HO_7 HL133_0 HB; have HO_5 := n0_; have HO_7 := n1_; have HL133_0 := n2_; have HB := n3_; clear n0_ n1_ n2_ n3_; (try (obtain ⟨hy48_, hz48_⟩ := Kd.R_celln 0 HO_7.out (t138 : Int) (of_decide_eq_true (by first | (with_reducible assumption) | assumption)) (of_decide_eq_true (by first | (with_reducible assumption) | assumption)))); (try (have HP48 := Kd.R_putg HO_7.out (t138 : Int) (wrap64 ((rd (rd_L1 x5_1 x6_1) x8_2) + t137)))))); refine store_event (t := 3) (p := 87) (v := ?vo_w49) (w1 := (wc.setCell ⟨go45, (t138 : Int).toNat, none⟩ (.int .i64 (wrap64 ((rd (rd_L1 x5_1 x6_1) x8_2) + t137))))) ?hg ?ho ?hn ?hr ?_; (case ho => rfl); (case hg => rfl); (case hn => rfl); (case hr => first | (go_simp; done) | (go_simp; rfl)); intro w49 hw; have hg : wc.grownBy w49 (some go45) := (by rw [hw]; exact HP48.2); have hp_ : Kd.R (Kd.int .i64) 3 w49 w.heap.size (fun k_ => (w.heap.size ≤ k_)) (.slice (some ⟨go45, 0, none⟩) x7_3.length co47) y142 := (by rw [hw, Ny142.out]; exact HP48.1); clear HP48; have n0_ := Aside0.mk (Kd.N_afterv (v := (.slice (some ⟨go45, 0, none⟩) x7_3.length co47)) (v1 := (.slice (some ⟨go45, 0, none⟩) x7_3.length co47)) (ok := (fun k_ => (w.heap.size ≤ k_))) (by (with_reducible repeat (first | apply Kd.N_alloc | apply Kd.N_drewN | apply Kd.N_drew)); exact HO_5.out) hg (.inl rfl)); have n1_ := Aside0.mk (hp_); have n2_ := Aside0.mk (Kd.V_afterv (v := (.slice (some ⟨go45, 0, none⟩) x7_3.length co47)) (v1 := (.slice (some ⟨go45, 0, none⟩) x7_3.length co47)) (ok := (fun k_ => (w.heap.size ≤ k_) ∧ some k_ ≠ (.slice (some ad133) x5_1.length co46 : Value).ownBlock)) (by (with_reducible repeat (first | apply Kd.V_alloc | apply Kd.V_drewN | apply Kd.V_drew)); exact Kd.V_mono HL133_0.out (fun _ hk => ⟨⟨hk.1.1, hk.2⟩, hk.1.2⟩)) hg (.inl rfl)); have n3_ := Aside0.mk ((by rw [hw]; exact below_set (HB.out) GB45.out : Below w.heap.size w w49)); clear HO_5; clear HO_7; clear HL133_0; clear HB; have HO_5 := n0_; have HO_7 := n1_; have HL133_0 := n2_; have HB := n3_; clear n0_ n1_ n2_ n3_; clear hg hw hp_)))
                         go_roundg kj12
                         case measure => have := HK1.out; have := HK2.out; have := HK3.out; have := HJ12.out; omega
                         case rel => exact ⟨(y142), (wrap64 (x9_3 + 1)), (by first | rfl | (simp; done) | (simp [*]; done)), H', ⟨by have := HK1.out; have := HK2.out; have := HK3.out; have := HJ12.out; omega⟩, ⟨by first | ((with_reducible repeat (first | apply Kd.N_alloc | apply Kd.N_drewN | apply Kd.N_drew)); exact HO_5.out) | exact Kd.N_drewN (Kd.N_afterv HO_5.out HP48.2 (.inl rfl)) _⟩, ⟨by first | ((with_reducible repeat (first | apply Kd.R_alloc | apply Kd.R_drewN | apply Kd.R_drew)); exact HO_7.out) | (rw [Ny142.out]; exact Kd.R_drewN HP48.1 _)⟩, ⟨by first | ((repeat (first | (with_reducible first | exact HB.out | apply below_alloc | apply pw_below_drewN | apply below_drew1) | exact HB.out)); done) | exact below_set (pw_below_drewN HB.out _) GB45.out⟩⟩
                        ·rw [if_neg c44] at H
                         have c44b0 : decide ((wrap64 ((rd (rd_L1 x5_1 x6_1) x8_2) + t137)) < (rd x7_3 t138)) = false := decide_eq_false c44
                         clear c44
                         have H' := Aside0.mk H
                         clear H
                         obtain ⟨Ao50, co50, eo50⟩ := Kd.N_slice HO_5.out
                         subst eo50
                         have p133 : 0 ≤ (x6_1 : Int) := of_decide_eq_true (by first | (with_reducible assumption) | assumption)
                         have q133 : x6_1 < (x5_1.length : Int) := of_decide_eq_true (by first | (with_reducible assumption) | assumption)
                         obtain ⟨ad133, A133_0, c133_0, e133, hx133_0, hl133_0, hi133_0⟩ := at_L1 (Kd.N_reads' HO_5.out).2.2 x6_1 p133 q133
                         cases e133
                         obtain ⟨ce133, hce133, hMe133, hcc133⟩ := Kd.N_get HO_5.out [] x6_1 p133 (by first | exact q133 | exact of_decide_eq_true (by first | (with_reducible assumption) | assumption) | (have e_ := (Kd.N_reads' HO_5.out).1; omega))
                         obtain ⟨ua133_0, uc133_0, rfl, ul133_0, ge133_0⟩ := Kd.FK_slice_open hMe133
                         have hv133_0 := hcc133 0 _ rfl
                         rw [Nat.add_zero, show ((Kd.slice 3 (Kd.int .i64))).sz = 1 from rfl, Nat.mul_one] at hv133_0
                         replace hv133_0 := Option.some.inj (hv133_0.symm.trans hx133_0)
                         injection hv133_0 with hva_ hvn_ hvc_
                         rw [hva_] at ge133_0
                         rw [hvc_] at ul133_0
                         have HL133_0 := Aside0.mk (show Kd.V (Kd.int .i64) 3 _ w.heap.size _ _ (rd_L1 x5_1 x6_1) from Kd.V_mk ul133_0 ge133_0)
                         clear hva_ hvn_ hvc_ ge133_0 ul133_0
                         clear hcc133 hce133
                         have HR133_0 := Aside0.mk hi133_0
                         have HC133_0 := Aside0.mk hl133_0
                         clear hi133_0 hl133_0
                         replace p133 := eq_true p133
                         replace q133 := eq_true q133
                         have p134 : 0 ≤ (x8_2 : Int) := of_decide_eq_true (by first | (with_reducible assumption) | assumption)
                         have q134 : x8_2 < ((rd_L1 x5_1 x6_1).length : Int) := of_decide_eq_true (by first | (with_reducible assumption) | assumption)
                         obtain ⟨ad134, e134, hx134_0⟩ := Kd.at_int (by repeat (first | (with_reducible exact HR133_0.out) | (with_reducible refine Kd.C_alloc ?_ _) | (with_reducible refine Kd.C_drewN ?_ _) | (with_reducible refine Kd.C_drew ?_) | exact HR133_0.out)) x8_2 p134 q134
                         cases e134
                         replace p134 := eq_true p134
                         replace q134 := eq_true q134
                         have p135 : 0 ≤ ((ji28) : Int) := of_decide_eq_true (by first | (with_reducible assumption) | assumption)
                         have q135 : (ji28) < (l0.length : Int) := of_decide_eq_true (by first | (with_reducible assumption) | assumption)
                         obtain ⟨ad135, e135, hx135_0⟩ := Kd.at_int HR0.out (ji28) p135 q135
                         cases e135
                         replace hx135_0 := (HB.out.cell (World.block_lt_of_cell? w _ hx135_0)).trans hx135_0
                         replace p135 := eq_true p135
                         replace q135 := eq_true q135
                         have p136 : 0 ≤ ((ji31) : Int) := of_decide_eq_true (by first | (with_reducible assumption) | assumption)
                         have q136 : (ji31) < (l0.length : Int) := of_decide_eq_true (by first | (with_reducible assumption) | assumption)
                         obtain ⟨ad136, e136, hx136_0⟩ := Kd.at_int HR0.out (ji31) p136 q136
                         obtain rfl : ad135 = ad136 := (by injection e136)
                         replace hx136_0 := (HB.out.cell (World.block_lt_of_cell? w _ hx136_0)).trans hx136_0
                         replace p136 := eq_true p136
                         replace q136 := eq_true q136
                         go_wp2_with (first | (go_at_call 152; (with_reducible refine (spec_BranchDistance.calls kj12 x8_2 x9_3 (rd l0 (ji28)) (rd l0 (ji31)) t137 _ A34.out).mono ?_); rintro e w' ⟨rfl, ⟨nd, rfl⟩⟩; (try first | exact ⟨rfl, _, World.drewN_drewN _ _ _⟩ | exact ⟨rfl, _, Eq.trans (World.drewN_drewN _ _ _) (congrArg (World.drewN _) (Nat.add_assoc _ _ _))⟩)) | (go_at_call 114; (with_reducible refine (spec_NextState.calls x8_2 x9_3 t138 _ A35.out).mono ?_); rintro e w' ⟨rfl, ⟨nd, rfl⟩⟩; (try first | exact ⟨rfl, _, World.drewN_drewN _ _ _⟩ | exact ⟨rfl, _, Eq.trans (World.drewN_drewN _ _ _) (congrArg (World.drewN _) (Nat.add_assoc _ _ _))⟩); obtain ⟨Ao51, co51, eo51⟩ := Kd.R_slice HO_7.out; subst eo51; have p139 : 0 ≤ (t138 : Int) := of_decide_eq_true (by first | (with_reducible assumption) | assumption); have q139 : t138 < (x7_3.length : Int) := of_decide_eq_true (by first | (with_reducible assumption) | assumption); obtain ⟨ad139, e139, hx139_0⟩ := Kd.at_int (Kd.R_reads' HO_7.out).2.2 t138 p139 q139; cases e139; replace p139 := eq_true p139; replace q139 := eq_true q139; have p141 : 0 ≤ (t138 : Int) := of_decide_eq_true (by first | (with_reducible assumption) | assumption); have q141 : t138 < (x7_3.length : Int) := of_decide_eq_true (by first | (with_reducible assumption) | assumption); obtain ⟨ad141, e141, hx141_0⟩ := Kd.at_int (Kd.R_reads' HO_7.out).2.2 t138 p141 q141; obtain rfl : ad139 = ad141 := (by injection e141); replace p141 := eq_true p141; replace q141 := eq_true q141))
                         repeat (go_quiet (first | (go_at_call 152; (with_reducible refine (spec_BranchDistance.calls kj12 x8_2 x9_3 (rd l0 (ji28)) (rd l0 (ji31)) t137 _ A34.out).mono ?_); rintro e w' ⟨rfl, ⟨nd, rfl⟩⟩; (try first | exact ⟨rfl, _, World.drewN_drewN _ _ _⟩ | exact ⟨rfl, _, Eq.trans (World.drewN_drewN _ _ _) (congrArg (World.drewN _) (Nat.add_assoc _ _ _))⟩)) | (go_at_call 114; (with_reducible refine (spec_NextState.calls x8_2 x9_3 t138 _ A35.out).mono ?_); rintro e w' ⟨rfl, ⟨nd, rfl⟩⟩; (try first | exact ⟨rfl, _, World.drewN_drewN _ _ _⟩ | exact ⟨rfl, _, Eq.trans (World.drewN_drewN _ _ _) (congrArg (World.drewN _) (Nat.add_assoc _ _ _))⟩); obtain ⟨Ao51, co51, eo51⟩ := Kd.R_slice HO_7.out; subst eo51; have p139 : 0 ≤ (t138 : Int) := of_decide_eq_true (by first | (with_reducible assumption) | assumption); have q139 : t138 < (x7_3.length : Int) := of_decide_eq_true (by first | (with_reducible assumption) | assumption); obtain ⟨ad139, e139, hx139_0⟩ := Kd.at_int (Kd.R_reads' HO_7.out).2.2 t138 p139 q139; cases e139; replace p139 := eq_true p139; replace q139 := eq_true q139; have p141 : 0 ≤ (t138 : Int) := of_decide_eq_true (by first | (with_reducible assumption) | assumption); have q141 : t138 < (x7_3.length : Int) := of_decide_eq_true (by first | (with_reducible assumption) | assumption); obtain ⟨ad141, e141, hx141_0⟩ := Kd.at_int (Kd.R_reads' HO_7.out).2.2 t138 p141 q141; obtain rfl : ad139 = ad141 := (by injection e141); replace p141 := eq_true p141; replace q141 := eq_true q141)); try go_wp2_with (first | (go_at_call 152; (with_reducible refine (spec_BranchDistance.calls kj12 x8_2 x9_3 (rd l0 (ji28)) (rd l0 (ji31)) t137 _ A34.out).mono ?_); rintro e w' ⟨rfl, ⟨nd, rfl⟩⟩; (try first | exact ⟨rfl, _, World.drewN_drewN _ _ _⟩ | exact ⟨rfl, _, Eq.trans (World.drewN_drewN _ _ _) (congrArg (World.drewN _) (Nat.add_assoc _ _ _))⟩)) | (go_at_call 114; (with_reducible refine (spec_NextState.calls x8_2 x9_3 t138 _ A35.out).mono ?_); rintro e w' ⟨rfl, ⟨nd, rfl⟩⟩; (try first | exact ⟨rfl, _, World.drewN_drewN _ _ _⟩ | exact ⟨rfl, _, Eq.trans (World.drewN_drewN _ _ _) (congrArg (World.drewN _) (Nat.add_assoc _ _ _))⟩); obtain ⟨Ao51, co51, eo51⟩ := Kd.R_slice HO_7.out; subst eo51; have p139 : 0 ≤ (t138 : Int) := of_decide_eq_true (by first | (with_reducible assumption) | assumption); have q139 : t138 < (x7_3.length : Int) := of_decide_eq_true (by first | (with_reducible assumption) | assumption); obtain ⟨ad139, e139, hx139_0⟩ := Kd.at_int (Kd.R_reads' HO_7.out).2.2 t138 p139 q139; cases e139; replace p139 := eq_true p139; replace q139 := eq_true q139; have p141 : 0 ≤ (t138 : Int) := of_decide_eq_true (by first | (with_reducible assumption) | assumption); have q141 : t138 < (x7_3.length : Int) := of_decide_eq_true (by first | (with_reducible assumption) | assumption); obtain ⟨ad141, e141, hx141_0⟩ := Kd.at_int (Kd.R_reads' HO_7.out).2.2 t138 p141 q141; obtain rfl : ad139 = ad141 := (by injection e141); replace p141 := eq_true p141; replace q141 := eq_true q141)))
                         go_roundg kj12
                         case measure => have := HK1.out; have := HK2.out; have := HK3.out; have := HJ12.out; omega
                         case rel => exact ⟨(x7_3), (wrap64 (x9_3 + 1)), (by first | rfl | (simp; done) | (simp [*]; done)), H', ⟨by have := HK1.out; have := HK2.out; have := HK3.out; have := HJ12.out; omega⟩, ⟨by (with_reducible repeat (first | apply Kd.N_alloc | apply Kd.N_drewN | apply Kd.N_drew)); exact HO_5.out⟩, ⟨by (with_reducible repeat (first | apply Kd.R_alloc | apply Kd.R_drewN | apply Kd.R_drew)); exact HO_7.out⟩, ⟨by repeat (first | (with_reducible first | exact HB.out | apply below_alloc | apply pw_below_drewN | apply below_drew1) | exact HB.out)⟩⟩
                      ·rw [if_neg c37] at H
                       exact absurd H (by simp)
                     ·rw [if_neg c36] at H
                      exact absurd H (by simp)
                    ·rw [if_neg c33] at H
                     exact absurd H (by simp)
                   ·rw [if_neg c32] at H
                    exact absurd H (by simp)
                  ·rw [if_neg c30] at H
                   exact absurd H (by simp)
                 ·rw [if_neg c29] at H
                  exact absurd H (by simp)
                ·rw [if_neg c27] at H
                 exact absurd H (by simp)
               ·rw [if_neg c26] at H
                exact absurd H (by simp)
              ·rw [if_neg c25] at H
               exact absurd H (by simp)
             ·rw [if_neg c24] at H
              exact absurd H (by simp)
         ·rw [if_neg c12] at H
          have c12b0 : decide (x9_3 < 2) = false := decide_eq_false c12
          clear c12
          have H' := Aside0.mk H
          clear H
          go_wp2
          repeat (go_quiet (fail); try go_wp2)
          go_roundg k3
          case measure => have := HK1.out; have := HK2.out; have := HK3.out; omega
          case rel => exact ⟨(x7_3), (wrap64 (x8_2 + 1)), (by first | rfl | (simp; done) | (simp [*]; done)), H', ⟨by have := HK1.out; have := HK2.out; have := HK3.out; omega⟩, ⟨by (with_reducible repeat (first | apply Kd.N_alloc | apply Kd.N_drewN | apply Kd.N_drew)); exact HO_5.out⟩, ⟨by (with_reducible repeat (first | apply Kd.R_alloc | apply Kd.R_drewN | apply Kd.R_drew)); exact HO_7.out⟩, ⟨by repeat (first | (with_reducible first | exact HB.out | apply below_alloc | apply pw_below_drewN | apply below_drew1) | exact HB.out)⟩⟩
      ·rw [if_neg c11] at H
       have c11b0 : decide (x8_2 < 4) = false := decide_eq_false c11
       clear c11
       by_cases c52 : x5_1.length < 5864062014805
       ·rw [if_pos c52] at H
        have LMc52 := Aside0.mk c52
        clear c52
        obtain ⟨y128, hy128⟩ : ∃ y_ : List (List Int), y_ = (x5_1 ++ [x7_2]) := ⟨_, rfl⟩
        replace H : (spec_l7Costs.l0 k2 l0 a1 y128 (wrap64 (x6_1 + 1))) = some r := by first | (rw [hy128]; with_reducible exact H) | (have H2_ := (Option.bind_some _ _).symm.trans H; rw [hy128]; with_reducible exact H2_) | (have H2_ := (Option.bind_some _ _).symm.trans H; with_reducible exact H2_) | with_reducible exact H | (rw [hy128]; exact H) | exact H
        have Ny128 := Aside0.mk hy128
        clear hy128
        have H' := Aside0.mk H
        clear H
        obtain ⟨Ao54, co54, eo54⟩ := Kd.R_slice HO_7.out
        subst eo54
        go_wp2_with (first | ((with_reducible refine gate_builtin (b := .append) (xs := #[.tmp 88, .tmp 90]) rfl ?_); at_builtin; refine Kd.N_append (Kd.slice 3 (Kd.int .i64)) (w0 := w) w.heap.size rfl (.tmp 88) (.tmp 90) 90 22 (.slice none 0 0) 24 rfl Try.underlying90 info22 rfl (by decide) (by omega) u5 x5_1 x7_2 [.slice Ao54 x7_2.length co54] (fun k_ => (w.heap.size ≤ k_)) (fun k_ => ((fun k_ => (w.heap.size ≤ k_))) k_ ∧ some k_ ≠ (u5 : Value).ownBlock) rfl rfl ?aP (fun _ hk => hk) ?aF ?aO ?aB ?aS ?aL ?_; (case aP => exact (Kd.FK_slice_mk (Kd.R_reads' (Kd.R_mono (ok' := (fun k_ => ((fun k_ => (w.heap.size ≤ k_))) k_ ∧ some k_ ≠ (u5 : Value).ownBlock)) (Kd.R_apart' (HO_7.out) (Kd.N_typed HO_5.out) (by decide)) (fun k_ hk => ⟨hk.1, hk.2⟩))).2.1 (Kd.R_F (Kd.R_mono (ok' := (fun k_ => ((fun k_ => (w.heap.size ≤ k_))) k_ ∧ some k_ ≠ (u5 : Value).ownBlock)) (Kd.R_apart' (HO_7.out) (Kd.N_typed HO_5.out) (by decide)) (fun k_ hk => ⟨hk.1, hk.2⟩))))); (case aB => exact (by repeat (first | (with_reducible first | exact HB.out | apply below_alloc | apply pw_below_drewN | apply below_drew1) | exact HB.out))); (case aF => exact (fun k_ hk => (Nat.le_trans (below_size (by repeat (first | (with_reducible first | exact HB.out | apply below_alloc | apply pw_below_drewN | apply below_drew1) | exact HB.out))) hk))); (case aO => exact (by (with_reducible repeat (first | apply Kd.N_alloc | apply Kd.N_drewN | apply Kd.N_drew)); exact Kd.N_mono HO_5.out (fun _ hk => hk.1))); (case aS => exact (below_size (by repeat (first | (with_reducible first | exact HB.out | apply below_alloc | apply pw_below_drewN | apply below_drew1) | exact HB.out)))); (case aL => have := LMc52.out; omega); intro v129 w53 ho hb hg hat; rw [← Ny128.out] at ho; have n0_ := Aside0.mk (hb); have n1_ := Aside0.mk (ho); clear HB; clear HO_5; clear HO_7; have HB := n0_; have HO130 := n1_; clear n0_ n1_; clear ho hb hg hat))
        repeat (go_quiet (first | ((with_reducible refine gate_builtin (b := .append) (xs := #[.tmp 88, .tmp 90]) rfl ?_); at_builtin; refine Kd.N_append (Kd.slice 3 (Kd.int .i64)) (w0 := w) w.heap.size rfl (.tmp 88) (.tmp 90) 90 22 (.slice none 0 0) 24 rfl Try.underlying90 info22 rfl (by decide) (by omega) u5 x5_1 x7_2 [.slice Ao54 x7_2.length co54] (fun k_ => (w.heap.size ≤ k_)) (fun k_ => ((fun k_ => (w.heap.size ≤ k_))) k_ ∧ some k_ ≠ (u5 : Value).ownBlock) rfl rfl ?aP (fun _ hk => hk) ?aF ?aO ?aB ?aS ?aL ?_; (case aP => exact (Kd.FK_slice_mk (Kd.R_reads' (Kd.R_mono (ok' := (fun k_ => ((fun k_ => (w.heap.size ≤ k_))) k_ ∧ some k_ ≠ (u5 : Value).ownBlock)) (Kd.R_apart' (HO_7.out) (Kd.N_typed HO_5.out) (by decide)) (fun k_ hk => ⟨hk.1, hk.2⟩))).2.1 (Kd.R_F (Kd.R_mono (ok' := (fun k_ => ((fun k_ => (w.heap.size ≤ k_))) k_ ∧ some k_ ≠ (u5 : Value).ownBlock)) (Kd.R_apart' (HO_7.out) (Kd.N_typed HO_5.out) (by decide)) (fun k_ hk => ⟨hk.1, hk.2⟩))))); (case aB => exact (by repeat (first | (with_reducible first | exact HB.out | apply below_alloc | apply pw_below_drewN | apply below_drew1) | exact HB.out))); (case aF => exact (fun k_ hk => (Nat.le_trans (below_size (by repeat (first | (with_reducible first | exact HB.out | apply below_alloc | apply pw_below_drewN | apply below_drew1) | exact HB.out))) hk))); (case aO => exact (by (with_reducible repeat (first | apply Kd.N_alloc | apply Kd.N_drewN | apply Kd.N_drew)); exact Kd.N_mono HO_5.out (fun _ hk => hk.1))); (case aS => exact (below_size (by repeat (first | (with_reducible first | exact HB.out | apply below_alloc | apply pw_below_drewN | apply below_drew1) | exact HB.out)))); (case aL => have := LMc52.out; omega); intro v129 w53 ho hb hg hat; rw [← Ny128.out] at ho; have n0_ := Aside0.mk (hb); have n1_ := Aside0.mk (ho); clear HB; clear HO_5; clear HO_7; have HB := n0_; have HO130 := n1_; clear n0_ n1_; clear ho hb hg hat)); try go_wp2_with (first | ((with_reducible refine gate_builtin (b := .append) (xs := #[.tmp 88, .tmp 90]) rfl ?_); at_builtin; refine Kd.N_append (Kd.slice 3 (Kd.int .i64)) (w0 := w) w.heap.size rfl (.tmp 88) (.tmp 90) 90 22 (.slice none 0 0) 24 rfl Try.underlying90 info22 rfl (by decide) (by omega) u5 x5_1 x7_2 [.slice Ao54 x7_2.length co54] (fun k_ => (w.heap.size ≤ k_)) (fun k_ => ((fun k_ => (w.heap.size ≤ k_))) k_ ∧ some k_ ≠ (u5 : Value).ownBlock) rfl rfl ?aP (fun _ hk => hk) ?aF ?aO ?aB ?aS ?aL ?_; (case aP => exact (Kd.FK_slice_mk (Kd.R_reads' (Kd.R_mono (ok' := (fun k_ => ((fun k_ => (w.heap.size ≤ k_))) k_ ∧ some k_ ≠ (u5 : Value).ownBlock)) (Kd.R_apart' (HO_7.out) (Kd.N_typed HO_5.out) (by decide)) (fun k_ hk => ⟨hk.1, hk.2⟩))).2.1 (Kd.R_F (Kd.R_mono (ok' := (fun k_ => ((fun k_ => (w.heap.size ≤ k_))) k_ ∧ some k_ ≠ (u5 : Value).ownBlock)) (Kd.R_apart' (HO_7.out) (Kd.N_typed HO_5.out) (by decide)) (fun k_ hk => ⟨hk.1, hk.2⟩))))); (case aB => exact (by repeat (first | (with_reducible first | exact HB.out | apply below_alloc | apply pw_below_drewN | apply below_drew1) | exact HB.out))); (case aF => exact (fun k_ hk => (Nat.le_trans (below_size (by repeat (first | (with_reducible first | exact HB.out | apply below_alloc | apply pw_below_drewN | apply below_drew1) | exact HB.out))) hk))); (case aO => exact (by (with_reducible repeat (first | apply Kd.N_alloc | apply Kd.N_drewN | apply Kd.N_drew)); exact Kd.N_mono HO_5.out (fun _ hk => hk.1))); (case aS => exact (below_size (by repeat (first | (with_reducible first | exact HB.out | apply below_alloc | apply pw_below_drewN | apply below_drew1) | exact HB.out)))); (case aL => have := LMc52.out; omega); intro v129 w53 ho hb hg hat; rw [← Ny128.out] at ho; have n0_ := Aside0.mk (hb); have n1_ := Aside0.mk (ho); clear HB; clear HO_5; clear HO_7; have HB := n0_; have HO130 := n1_; clear n0_ n1_; clear ho hb hg hat)))
        go_roundg k2
        case measure => have := HK1.out; have := HK2.out; omega
        case rel => exact ⟨(y128), (wrap64 (x6_1 + 1)), (by first | rfl | (simp; done) | (simp [*]; done)), H', ⟨by have := HK1.out; have := HK2.out; omega⟩, ⟨by (with_reducible repeat (first | apply Kd.N_alloc | apply Kd.N_drewN | apply Kd.N_drew)); exact HO130.out⟩, ⟨by repeat (first | (with_reducible first | exact HB.out | apply below_alloc | apply pw_below_drewN | apply below_drew1) | exact HB.out)⟩⟩
       ·rw [if_neg c52] at H
        exact absurd H (by simp)
   ·rw [if_neg c8] at H
    have c8b0 : decide (x6_1 < (wrap64 (a1 + 2))) = false := decide_eq_false c8
    clear c8
    obtain rfl := Option.some.inj H
    go_wp2
    repeat (go_quiet (fail); try go_wp2)
    go_ret
    exact ⟨_, by first | rfl | (simp [errW_none, errW_some] <;> rfl) | (simp [*, errW_none, errW_some] <;> rfl), by (with_reducible repeat (first | apply Kd.N_alloc | apply Kd.N_drewN | apply Kd.N_drew)); exact HO_5.out, by repeat (first | (with_reducible first | exact HB.out | apply below_alloc | apply pw_below_drewN | apply below_drew1) | exact HB.out)⟩

end Go.Proofs.Ytldbmljooafkcaa.PFnExactViterbiDecode
