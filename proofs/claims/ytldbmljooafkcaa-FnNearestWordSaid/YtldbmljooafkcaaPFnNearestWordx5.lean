/- Contracts of Go functions: what each returns is what the Lean function of its name computes. Conditions: its arguments read as that function's arguments. Written by this session's program print2.py (the kit's print, with changes of this session's). -/
import Derived.Test.YtldbmljooafkcaaPFnNearestWordx0
import Derived.Test.YtldbmljooafkcaaPFnNearestWordx1
import Derived.Test.YtldbmljooafkcaaPFnNearestWordx2
import Derived.Test.YtldbmljooafkcaaPFnNearestWordx3
import Derived.Test.YtldbmljooafkcaaPFnNearestWordx4
namespace Go.Proofs.Ytldbmljooafkcaa.PFnNearestWord
open Go.RowKit Go.Proofs.YtldbmljooafkcaaW.PrintWords Go.Proofs.YtldbmljooafkcaaW.PrintLast Go.Proofs.YtldbmljooafkcaaW.PrintMore
attribute [local go_sem] max2_int min2_int max_two min_two max_three min_three max_four min_four   -- for this text's walks alone
set_option linter.unusedVariables false
set_option linter.unusedSimpArgs false

/-! ### laws_FnNearestWord: function 10 -/
mutual
def laws_FnNearestWord.j0 : Nat → List Int → List Int → List Int → Int → Int → Bool → Option (Bool)
 | 0, _, _, _, _, _, _ => none
 | k + 1, x0, x3, x4, x5, x6, x29 => if x29 = true then (if x5 = (-1) then (some ((x4.length : Int) == 0)) else (none)) else (if (x4.length : Int) = x6 then ((impl_PathDistance.f k x4 x3).bind fun t265 => (if t265 = x5 then (laws_FnNearestWord.j1 k x0 x3 x4 x5 x6 (decide (x5 < 0))) else (none))) else (none))
def laws_FnNearestWord.j1 : Nat → List Int → List Int → List Int → Int → Int → Bool → Option (Bool)
 | 0, _, _, _, _, _, _ => none
 | k + 1, x0, x3, x4, x5, x6, x51 => if x51 = true then (none) else (laws_FnNearestWord.l0 k x0 x3 x4 x5 x6 0)
def laws_FnNearestWord.l0 : Nat → List Int → List Int → List Int → Int → Int → Int → Option (Bool)
 | 0, _, _, _, _, _, _ => none
 | k + 1, x0, x3, x4, x5, x6, x7 => if x7 < 8 then (if 0 ≤ x6 then (if (x6 : Int).toNat ≤ 35184372088832 then (laws_FnNearestWord.l1 k x0 x3 x4 x5 x6 x7 (List.replicate (x6 : Int).toNat 0) 0) else (none)) else (none)) else (some true)
def laws_FnNearestWord.l1 : Nat → List Int → List Int → List Int → Int → Int → Int → List Int → Int → Option (Bool)
 | 0, _, _, _, _, _, _, _, _ => none
 | k + 1, x0, x3, x4, x5, x6, x7, x8, x9 => if x9 < x6 then ((laws_at.f x0 (wrap64 ((wrap64 (x7 * x6)) + x9))).bind fun t269 => (if 0 ≤ x9 then (if x9 < (x8.length : Int) then ((some (x8.set (x9 : Int).toNat (Int.tmod t269 2) : List Int)).bind fun y270 => (if x7 < 4 then (if x9 < (x4.length : Int) then (laws_FnNearestWord.l1 k x0 x3 x4 x5 x6 x7 (y270.set (x9 : Int).toNat (rd x4 x9)) (wrap64 (x9 + 1))) else (none)) else (laws_FnNearestWord.l1 k x0 x3 x4 x5 x6 x7 y270 (wrap64 (x9 + 1))))) else (none)) else (none))) else (if x7 < 4 then (laws_FnNearestWord.j4 k x0 x3 x4 x5 x6 x7 x8 (decide (x6 > 0))) else (laws_FnNearestWord.j4 k x0 x3 x4 x5 x6 x7 x8 false))
def laws_FnNearestWord.j4 : Nat → List Int → List Int → List Int → Int → Int → Int → List Int → Bool → Option (Bool)
 | 0, _, _, _, _, _, _, _, _ => none
 | k + 1, x0, x3, x4, x5, x6, x7, x8, x88 => if x88 = true then ((laws_at.f x0 x7).bind fun t273 => (if x6 = 0 then (none) else (if 0 ≤ (Int.tmod t273 x6) then (if (Int.tmod t273 x6) < (x8.length : Int) then ((impl_PathDistance.f k (x8.set ((Int.tmod t273 x6) : Int).toNat (wrap64 (1 - (rd x8 (Int.tmod t273 x6))))) x3).bind fun t276 => (if t276 < x5 then (none) else (laws_FnNearestWord.l0 k x0 x3 x4 x5 x6 (wrap64 (x7 + 1))))) else (none)) else (none)))) else ((impl_PathDistance.f k x8 x3).bind fun t277 => (if t277 < x5 then (none) else (laws_FnNearestWord.l0 k x0 x3 x4 x5 x6 (wrap64 (x7 + 1)))))
end
def laws_FnNearestWord.f (k : Nat) (l0 : List Int) : Option (Bool) := (laws_big.f l0).bind fun t255 => (if t255 = true then (some true) else ((spec_DrawViterbiDecode.f k l0).bind fun t256 => ((impl_ViterbiDecode.f k t256).bind fun bt259 => ((spec_InputLength.f (t256.length : Int)).bind fun t263 => (if t263 < 0 then (laws_FnNearestWord.j0 k l0 t256 bt259.1 bt259.2 t263 true) else ((spec_IsSymbolString.f k t256).bind fun t264 => (laws_FnNearestWord.j0 k l0 t256 bt259.1 bt259.2 t263 (!t264))))))))
theorem laws_FnNearestWord.mono_l : ∀ k, (∀ y0 y1 y2 y3 y4 y5, LeO (laws_FnNearestWord.j0 k y0 y1 y2 y3 y4 y5) (laws_FnNearestWord.j0 (k + 1) y0 y1 y2 y3 y4 y5)) ∧ (∀ y0 y1 y2 y3 y4 y5, LeO (laws_FnNearestWord.j1 k y0 y1 y2 y3 y4 y5) (laws_FnNearestWord.j1 (k + 1) y0 y1 y2 y3 y4 y5)) ∧ (∀ y0 y1 y2 y3 y4 y5, LeO (laws_FnNearestWord.l0 k y0 y1 y2 y3 y4 y5) (laws_FnNearestWord.l0 (k + 1) y0 y1 y2 y3 y4 y5)) ∧ (∀ y0 y1 y2 y3 y4 y5 y6 y7, LeO (laws_FnNearestWord.l1 k y0 y1 y2 y3 y4 y5 y6 y7) (laws_FnNearestWord.l1 (k + 1) y0 y1 y2 y3 y4 y5 y6 y7)) ∧ (∀ y0 y1 y2 y3 y4 y5 y6 y7, LeO (laws_FnNearestWord.j4 k y0 y1 y2 y3 y4 y5 y6 y7) (laws_FnNearestWord.j4 (k + 1) y0 y1 y2 y3 y4 y5 y6 y7))
 | 0 => ⟨fun _ _ _ _ _ _ r h => by simp [laws_FnNearestWord.j0] at h, fun _ _ _ _ _ _ r h => by simp [laws_FnNearestWord.j1] at h, fun _ _ _ _ _ _ r h => by simp [laws_FnNearestWord.l0] at h, fun _ _ _ _ _ _ _ _ r h => by simp [laws_FnNearestWord.l1] at h, fun _ _ _ _ _ _ _ _ r h => by simp [laws_FnNearestWord.j4] at h⟩
 | k + 1 => by
  obtain ⟨ih0, ih1, ih2, ih3, ih4⟩ := laws_FnNearestWord.mono_l k
  refine ⟨?_, ?_, ?_, ?_, ?_⟩
  ·intro y0 y1 y2 y3 y4 y5
   unfold laws_FnNearestWord.j0
   repeat' first
   | (with_reducible exact ih0 _ _ _ _ _ _)
   | (with_reducible exact ih1 _ _ _ _ _ _)
   | (with_reducible exact ih2 _ _ _ _ _ _)
   | (with_reducible exact ih3 _ _ _ _ _ _ _ _)
   | (with_reducible exact ih4 _ _ _ _ _ _ _ _)
   | (with_reducible exact impl_PathDistance.mono _ _ _)
   | (with_reducible exact impl_ViterbiDecode.mono _ _)
   | (with_reducible exact spec_DrawViterbiDecode.mono _ _)
   | (with_reducible exact spec_IsSymbolString.mono _ _)
   | (with_reducible exact LeO.refl _)
   | (with_reducible exact LeO.none _)
   | (with_reducible refine LeO.ite ?_ ?_)
   | (with_reducible refine LeO.bind ?_ (fun _ => ?_))
   | exact ih0 _ _ _ _ _ _
   | exact ih1 _ _ _ _ _ _
   | exact ih2 _ _ _ _ _ _
   | exact ih3 _ _ _ _ _ _ _ _
   | exact ih4 _ _ _ _ _ _ _ _
   | exact impl_PathDistance.mono _ _ _
   | exact impl_ViterbiDecode.mono _ _
   | exact spec_DrawViterbiDecode.mono _ _
   | exact spec_IsSymbolString.mono _ _
   | exact LeO.none _
   | refine LeO.ite ?_ ?_
   | refine LeO.bind ?_ (fun _ => ?_)
  ·intro y0 y1 y2 y3 y4 y5
   unfold laws_FnNearestWord.j1
   repeat' first
   | (with_reducible exact ih0 _ _ _ _ _ _)
   | (with_reducible exact ih1 _ _ _ _ _ _)
   | (with_reducible exact ih2 _ _ _ _ _ _)
   | (with_reducible exact ih3 _ _ _ _ _ _ _ _)
   | (with_reducible exact ih4 _ _ _ _ _ _ _ _)
   | (with_reducible exact impl_PathDistance.mono _ _ _)
   | (with_reducible exact impl_ViterbiDecode.mono _ _)
   | (with_reducible exact spec_DrawViterbiDecode.mono _ _)
   | (with_reducible exact spec_IsSymbolString.mono _ _)
   | (with_reducible exact LeO.refl _)
   | (with_reducible exact LeO.none _)
   | (with_reducible refine LeO.ite ?_ ?_)
   | (with_reducible refine LeO.bind ?_ (fun _ => ?_))
   | exact ih0 _ _ _ _ _ _
   | exact ih1 _ _ _ _ _ _
   | exact ih2 _ _ _ _ _ _
   | exact ih3 _ _ _ _ _ _ _ _
   | exact ih4 _ _ _ _ _ _ _ _
   | exact impl_PathDistance.mono _ _ _
   | exact impl_ViterbiDecode.mono _ _
   | exact spec_DrawViterbiDecode.mono _ _
   | exact spec_IsSymbolString.mono _ _
   | exact LeO.none _
   | refine LeO.ite ?_ ?_
   | refine LeO.bind ?_ (fun _ => ?_)
  ·intro y0 y1 y2 y3 y4 y5
   unfold laws_FnNearestWord.l0
   repeat' first
   | (with_reducible exact ih0 _ _ _ _ _ _)
   | (with_reducible exact ih1 _ _ _ _ _ _)
   | (with_reducible exact ih2 _ _ _ _ _ _)
   | (with_reducible exact ih3 _ _ _ _ _ _ _ _)
   | (with_reducible exact ih4 _ _ _ _ _ _ _ _)
   | (with_reducible exact impl_PathDistance.mono _ _ _)
   | (with_reducible exact impl_ViterbiDecode.mono _ _)
   | (with_reducible exact spec_DrawViterbiDecode.mono _ _)
   | (with_reducible exact spec_IsSymbolString.mono _ _)
   | (with_reducible exact LeO.refl _)
   | (with_reducible exact LeO.none _)
   | (with_reducible refine LeO.ite ?_ ?_)
   | (with_reducible refine LeO.bind ?_ (fun _ => ?_))
   | exact ih0 _ _ _ _ _ _
   | exact ih1 _ _ _ _ _ _
   | exact ih2 _ _ _ _ _ _
   | exact ih3 _ _ _ _ _ _ _ _
   | exact ih4 _ _ _ _ _ _ _ _
   | exact impl_PathDistance.mono _ _ _
   | exact impl_ViterbiDecode.mono _ _
   | exact spec_DrawViterbiDecode.mono _ _
   | exact spec_IsSymbolString.mono _ _
   | exact LeO.none _
   | refine LeO.ite ?_ ?_
   | refine LeO.bind ?_ (fun _ => ?_)
  ·intro y0 y1 y2 y3 y4 y5 y6 y7
   unfold laws_FnNearestWord.l1
   repeat' first
   | (with_reducible exact ih0 _ _ _ _ _ _)
   | (with_reducible exact ih1 _ _ _ _ _ _)
   | (with_reducible exact ih2 _ _ _ _ _ _)
   | (with_reducible exact ih3 _ _ _ _ _ _ _ _)
   | (with_reducible exact ih4 _ _ _ _ _ _ _ _)
   | (with_reducible exact impl_PathDistance.mono _ _ _)
   | (with_reducible exact impl_ViterbiDecode.mono _ _)
   | (with_reducible exact spec_DrawViterbiDecode.mono _ _)
   | (with_reducible exact spec_IsSymbolString.mono _ _)
   | (with_reducible exact LeO.refl _)
   | (with_reducible exact LeO.none _)
   | (with_reducible refine LeO.ite ?_ ?_)
   | (with_reducible refine LeO.bind ?_ (fun _ => ?_))
   | exact ih0 _ _ _ _ _ _
   | exact ih1 _ _ _ _ _ _
   | exact ih2 _ _ _ _ _ _
   | exact ih3 _ _ _ _ _ _ _ _
   | exact ih4 _ _ _ _ _ _ _ _
   | exact impl_PathDistance.mono _ _ _
   | exact impl_ViterbiDecode.mono _ _
   | exact spec_DrawViterbiDecode.mono _ _
   | exact spec_IsSymbolString.mono _ _
   | exact LeO.none _
   | refine LeO.ite ?_ ?_
   | refine LeO.bind ?_ (fun _ => ?_)
  ·intro y0 y1 y2 y3 y4 y5 y6 y7
   unfold laws_FnNearestWord.j4
   repeat' first
   | (with_reducible exact ih0 _ _ _ _ _ _)
   | (with_reducible exact ih1 _ _ _ _ _ _)
   | (with_reducible exact ih2 _ _ _ _ _ _)
   | (with_reducible exact ih3 _ _ _ _ _ _ _ _)
   | (with_reducible exact ih4 _ _ _ _ _ _ _ _)
   | (with_reducible exact impl_PathDistance.mono _ _ _)
   | (with_reducible exact impl_ViterbiDecode.mono _ _)
   | (with_reducible exact spec_DrawViterbiDecode.mono _ _)
   | (with_reducible exact spec_IsSymbolString.mono _ _)
   | (with_reducible exact LeO.refl _)
   | (with_reducible exact LeO.none _)
   | (with_reducible refine LeO.ite ?_ ?_)
   | (with_reducible refine LeO.bind ?_ (fun _ => ?_))
   | exact ih0 _ _ _ _ _ _
   | exact ih1 _ _ _ _ _ _
   | exact ih2 _ _ _ _ _ _
   | exact ih3 _ _ _ _ _ _ _ _
   | exact ih4 _ _ _ _ _ _ _ _
   | exact impl_PathDistance.mono _ _ _
   | exact impl_ViterbiDecode.mono _ _
   | exact spec_DrawViterbiDecode.mono _ _
   | exact spec_IsSymbolString.mono _ _
   | exact LeO.none _
   | refine LeO.ite ?_ ?_
   | refine LeO.bind ?_ (fun _ => ?_)
theorem laws_FnNearestWord.mono : ∀ a0 k, LeO (laws_FnNearestWord.f k a0) (laws_FnNearestWord.f (k + 1) a0) := by
 intro a0 k
 obtain ⟨ih0, ih1, ih2, ih3, ih4⟩ := laws_FnNearestWord.mono_l k
 unfold laws_FnNearestWord.f
 repeat' first
   | (with_reducible exact ih0 _ _ _ _ _ _)
   | (with_reducible exact ih1 _ _ _ _ _ _)
   | (with_reducible exact ih2 _ _ _ _ _ _)
   | (with_reducible exact ih3 _ _ _ _ _ _ _ _)
   | (with_reducible exact ih4 _ _ _ _ _ _ _ _)
   | (with_reducible exact impl_PathDistance.mono _ _ _)
   | (with_reducible exact impl_ViterbiDecode.mono _ _)
   | (with_reducible exact spec_DrawViterbiDecode.mono _ _)
   | (with_reducible exact spec_IsSymbolString.mono _ _)
   | (with_reducible exact LeO.refl _)
   | (with_reducible exact LeO.none _)
   | (with_reducible refine LeO.ite ?_ ?_)
   | (with_reducible refine LeO.bind ?_ (fun _ => ?_))
   | exact ih0 _ _ _ _ _ _
   | exact ih1 _ _ _ _ _ _
   | exact ih2 _ _ _ _ _ _
   | exact ih3 _ _ _ _ _ _ _ _
   | exact ih4 _ _ _ _ _ _ _ _
   | exact impl_PathDistance.mono _ _ _
   | exact impl_ViterbiDecode.mono _ _
   | exact spec_DrawViterbiDecode.mono _ _
   | exact spec_IsSymbolString.mono _ _
   | exact LeO.none _
   | refine LeO.ite ?_ ?_
   | refine LeO.bind ?_ (fun _ => ?_)
set_option maxHeartbeats 8000000 in
set_option maxRecDepth 100000 in
theorem laws_FnNearestWord.calls (k : Nat) (A0 : Option Addr) (c0 : Nat) (l0 : List Int) (r : Bool) (w : World) (hr0 : Kd.C (Kd.int .u8) w A0 l0.length l0) (hc0 : l0.length ≤ c0) (h : laws_FnNearestWord.f k l0 = some r) :
  Calls Try.prog 10 #[.slice A0 l0.length c0] w fun e w' => e = .returned (.bool r) ∧ Below w.heap.size w w' := by
 have HR0 := Aside0.mk hr0
 have HC0 := Aside0.mk hc0
 clear hr0 hc0
 have HB := Aside0.mk (Below.refl w.heap.size w)
 have H : ((laws_big.f l0).bind fun t255 => (if t255 = true then (some true) else ((spec_DrawViterbiDecode.f k l0).bind fun t256 => ((impl_ViterbiDecode.f k t256).bind fun bt259 => ((spec_InputLength.f (t256.length : Int)).bind fun t263 => (if t263 < 0 then (laws_FnNearestWord.j0 k l0 t256 bt259.1 bt259.2 t263 true) else ((spec_IsSymbolString.f k t256).bind fun t264 => (laws_FnNearestWord.j0 k l0 t256 bt259.1 bt259.2 t263 (!t264))))))))) = some r := h
 clear h
 replace H := Option.bind_eq_some_iff.mp H
 obtain ⟨t255, A20, H⟩ := H
 replace H : (if t255 = true then (some true) else ((spec_DrawViterbiDecode.f k l0).bind fun t256 => ((impl_ViterbiDecode.f k t256).bind fun bt259 => ((spec_InputLength.f (t256.length : Int)).bind fun t263 => (if t263 < 0 then (laws_FnNearestWord.j0 k l0 t256 bt259.1 bt259.2 t263 true) else ((spec_IsSymbolString.f k t256).bind fun t264 => (laws_FnNearestWord.j0 k l0 t256 bt259.1 bt259.2 t263 (!t264)))))))) = some r := H
 have A2 := Aside0.mk A20
 clear A20
 by_cases c3 : t255 = true
 ·subst c3
  have H1 : (some true) = some r := by rw [if_pos rfl] at H; exact H
  clear H
  have H := H1
  clear H1
  obtain rfl := Option.some.inj H
  go_enter Try.func10, Try.ntmps10
  go_wp2_with (first | ((with_reducible refine gate_callee (f := 27) rfl ?_); refine goesL_ (some 12) rfl rfl Try.func27 (by kernel_rfl) rfl #[.slice A0 l0.length c0] rfl (by (try simp only [List.map_toArray, List.map_cons, List.map_nil]); first | done | rfl | (simp only [List.length_drop, List.length_take]; rfl)) ?_; (with_reducible refine (laws_big.calls _ _ l0 true _ ?side1 ?side2 A2.out).mono ?_); (case side1 => repeat (first | exact HR0.out | (with_reducible refine Kd.C_alloc ?_ _) | (with_reducible refine Kd.C_drewN ?_ _) | (with_reducible refine Kd.C_drew ?_))); (case side2 => exact HC0.out); rintro e w' ⟨rfl, ⟨nd, rfl⟩⟩; refine ⟨_, rfl, ?_⟩))
  go_ret
  exact ⟨by first | rfl | exact congrArg (fun z_ : Int => Ending.returned (Value.int .i64 z_)) (i64_w _) | (simp [errW_none, errW_some] <;> rfl) | (simp [*, errW_none, errW_some] <;> rfl), by repeat (first | (with_reducible first | exact HB.out | apply below_alloc | apply pw_below_drewN | apply below_drew1) | exact HB.out)⟩
 ·replace c3 := Bool.eq_false_iff.mpr c3
  subst c3
  have H1 : ((spec_DrawViterbiDecode.f k l0).bind fun t256 => ((impl_ViterbiDecode.f k t256).bind fun bt259 => ((spec_InputLength.f (t256.length : Int)).bind fun t263 => (if t263 < 0 then (laws_FnNearestWord.j0 k l0 t256 bt259.1 bt259.2 t263 true) else ((spec_IsSymbolString.f k t256).bind fun t264 => (laws_FnNearestWord.j0 k l0 t256 bt259.1 bt259.2 t263 (!t264))))))) = some r := by rw [if_neg (show ¬ (false = true) by decide)] at H; exact H
  clear H
  have H := H1
  clear H1
  replace H := Option.bind_eq_some_iff.mp H
  obtain ⟨t256, A40, H⟩ := H
  replace H : ((impl_ViterbiDecode.f k t256).bind fun bt259 => ((spec_InputLength.f (t256.length : Int)).bind fun t263 => (if t263 < 0 then (laws_FnNearestWord.j0 k l0 t256 bt259.1 bt259.2 t263 true) else ((spec_IsSymbolString.f k t256).bind fun t264 => (laws_FnNearestWord.j0 k l0 t256 bt259.1 bt259.2 t263 (!t264)))))) = some r := H
  have A4 := Aside0.mk A40
  clear A40
  replace H := Option.bind_eq_some_iff.mp H
  obtain ⟨⟨t259, t260⟩, A50, H⟩ := H
  replace H : ((spec_InputLength.f (t256.length : Int)).bind fun t263 => (if t263 < 0 then (laws_FnNearestWord.j0 k l0 t256 t259 t260 t263 true) else ((spec_IsSymbolString.f k t256).bind fun t264 => (laws_FnNearestWord.j0 k l0 t256 t259 t260 t263 (!t264))))) = some r := H
  have A5 := Aside0.mk A50
  clear A50
  replace H := Option.bind_eq_some_iff.mp H
  obtain ⟨t263, A60, H⟩ := H
  replace H : (if t263 < 0 then (laws_FnNearestWord.j0 k l0 t256 t259 t260 t263 true) else ((spec_IsSymbolString.f k t256).bind fun t264 => (laws_FnNearestWord.j0 k l0 t256 t259 t260 t263 (!t264)))) = some r := H
  have A6 := Aside0.mk A60
  clear A60
  have HC7 := Aside0.mk H
  clear H
  go_enter Try.func10, Try.ntmps10
  go_upto_region 6 with (first | ((with_reducible refine gate_callee (f := 27) rfl ?_); refine goesL_ (some 12) rfl rfl Try.func27 (by kernel_rfl) rfl #[.slice A0 l0.length c0] rfl (by (try simp only [List.map_toArray, List.map_cons, List.map_nil]); first | done | rfl | (simp only [List.length_drop, List.length_take]; rfl)) ?_; (with_reducible refine (laws_big.calls _ _ l0 false _ ?side1 ?side2 A2.out).mono ?_); (case side1 => repeat (first | exact HR0.out | (with_reducible refine Kd.C_alloc ?_ _) | (with_reducible refine Kd.C_drewN ?_ _) | (with_reducible refine Kd.C_drew ?_))); (case side2 => exact HC0.out); rintro e w' ⟨rfl, ⟨nd, rfl⟩⟩; refine ⟨_, rfl, ?_⟩) | ((with_reducible refine gate_callee (f := 55) rfl ?_); refine goesL_ (some 14) rfl rfl Try.func55 (by kernel_rfl) rfl #[.slice A0 l0.length c0] rfl (by (try simp only [List.map_toArray, List.map_cons, List.map_nil]); first | done | rfl | (simp only [List.length_drop, List.length_take]; rfl)) ?_; (with_reducible refine (spec_DrawViterbiDecode.calls k _ _ l0 t256 _ ?side1 ?side2 A4.out).mono ?_); (case side1 => repeat (first | exact HR0.out | (with_reducible refine Kd.C_alloc ?_ _) | (with_reducible refine Kd.C_drewN ?_ _) | (with_reducible refine Kd.C_drew ?_))); (case side2 => exact HC0.out); rintro e w8 ⟨v257, rfl, ho0, hb⟩; refine ⟨_, rfl, ?_⟩; have n0_ := Aside0.mk (Kd.R_lower ho0 (below_size (by repeat (first | (with_reducible first | exact HB.out | apply below_alloc | apply pw_below_drewN | apply below_drew1) | exact HB.out)))); have n1_ := Aside0.mk (below_step (by repeat (first | (with_reducible first | exact HB.out | apply below_alloc | apply pw_below_drewN | apply below_drew1) | exact HB.out)) hb); clear HB; have HO258 := n0_; have HB := n1_; clear n0_ n1_; (try clear hb); (try clear hb2); (try clear hk); (try clear hi); (try clear ho0); obtain ⟨Ao9, co9, eo9⟩ := Kd.R_slice HO258.out; subst eo9) | ((with_reducible refine gate_callee (f := 50) rfl ?_); refine goesL_ (some 17) rfl rfl Try.func50 (by kernel_rfl) rfl #[.slice Ao9 t256.length co9] rfl (by (try simp only [List.map_toArray, List.map_cons, List.map_nil]); first | done | rfl | (simp only [List.length_drop, List.length_take]; rfl)) ?_; (with_reducible refine (impl_ViterbiDecode.calls k _ _ t256 t259 t260 _ ?side1 ?side2 A5.out).mono ?_); (case side1 => repeat (first | exact (Kd.R_reads' HO258.out).2.2 | (with_reducible refine Kd.C_alloc ?_ _) | (with_reducible refine Kd.C_drewN ?_ _) | (with_reducible refine Kd.C_drew ?_))); (case side2 => exact (Kd.R_reads' HO258.out).2.1); rintro e w10 ⟨v261, rfl, ho0, hb⟩; refine ⟨_, rfl, ?_⟩; have n0_ := Aside0.mk (Kd.R_elder' (by (with_reducible repeat (first | apply Kd.R_alloc | apply Kd.R_drewN | apply Kd.R_drew)); exact HO258.out) (Kd.R_base ho0) hb); have n1_ := Aside0.mk (Kd.R_lower (Kd.R_new' ho0 (Kd.R_lt (by (with_reducible repeat (first | apply Kd.R_alloc | apply Kd.R_drewN | apply Kd.R_drew)); exact HO258.out))) (below_size (by repeat (first | (with_reducible first | exact HB.out | apply below_alloc | apply pw_below_drewN | apply below_drew1) | exact HB.out)))); have n2_ := Aside0.mk (below_step (by repeat (first | (with_reducible first | exact HB.out | apply below_alloc | apply pw_below_drewN | apply below_drew1) | exact HB.out)) hb); clear HO258; clear HB; have HO258 := n0_; have HO262 := n1_; have HB := n2_; clear n0_ n1_ n2_; (try clear hb); (try clear hb2); (try clear hk); (try clear hi); (try clear ho0)) | ((with_reducible refine gate_callee (f := 56) rfl ?_); refine goesL_ (some 22) rfl rfl Try.func56 (by kernel_rfl) rfl #[.int .i64 (t256.length : Int)] rfl (by (try simp only [List.map_toArray, List.map_cons, List.map_nil]); first | done | rfl | (simp only [List.length_drop, List.length_take]; rfl)) ?_; (with_reducible refine (spec_InputLength.calls (t256.length : Int) t263 _ A6.out).mono ?_); rintro e w' ⟨rfl, ⟨nd, rfl⟩⟩; refine ⟨_, rfl, ?_⟩))
  (try simp only [Act.put, List.setIfInBounds_toArray, List.set_cons_zero, List.set_cons_succ])
  go_cut [29] (fun v29 wc => ∃ (kq : Nat) (x29_6 : Bool), v29 = .bool x29_6 ∧ Aside0 (laws_FnNearestWord.j0 kq l0 t256 t259 t260 t263 x29_6 = some r) ∧ Aside0 (kq ≤ k) ∧ Aside0 (Kd.R (Kd.int .i64) 3 wc w.heap.size (fun k_ => some k_ ≠ (v261 : Value).ownBlock) (.slice Ao9 t256.length co9) t256) ∧ Aside0 (Kd.R (Kd.int .i64) 3 wc w.heap.size (fun k_ => some k_ ≠ ((.slice Ao9 t256.length co9) : Value).ownBlock) v261 t259) ∧ Aside0 (Below w.heap.size w wc))
  case first =>
   have H := HC7.out
   clear HC7
   by_cases c11 : t263 < 0
   ·rw [if_pos c11] at H
    have c11b0 : decide (t263 < 0) = true := decide_eq_true c11
    clear c11
    (first | rw [c11b0] | (simp only [i64_w, i32_w]; rw [c11b0]) | skip)
    have H' := Aside0.mk H
    clear H
    go_wp2
    go_meet
    case rel => exact ⟨_, (true), (by first | rfl | (simp; done) | (simp [*]; done)), H', ⟨by first | omega | exact Nat.le_refl _⟩, ⟨by (with_reducible repeat (first | apply Kd.R_alloc | apply Kd.R_drewN | apply Kd.R_drew)); exact Kd.R_mono HO258.out (fun _ hk => hk.2)⟩, ⟨by (with_reducible repeat (first | apply Kd.R_alloc | apply Kd.R_drewN | apply Kd.R_drew)); exact Kd.R_mono HO262.out (fun _ hk => hk.2)⟩, ⟨by repeat (first | (with_reducible first | exact HB.out | apply below_alloc | apply pw_below_drewN | apply below_drew1) | exact HB.out)⟩⟩
   ·rw [if_neg c11] at H
    have c11b0 : decide (t263 < 0) = false := decide_eq_false c11
    clear c11
    (first | rw [c11b0] | (simp only [i64_w, i32_w]; rw [c11b0]) | skip)
    replace H := Option.bind_eq_some_iff.mp H
    obtain ⟨t264, A120, H⟩ := H
    replace H : (laws_FnNearestWord.j0 k l0 t256 t259 t260 t263 (!t264)) = some r := H
    have A12 := Aside0.mk A120
    clear A120
    have H' := Aside0.mk H
    clear H
    go_wp2_with (first | (go_at_call 57; (with_reducible refine (spec_IsSymbolString.calls k _ _ t256 t264 _ ?side1 ?side2 A12.out).mono ?_); (case side1 => repeat (first | exact (Kd.R_reads' HO258.out).2.2 | (with_reducible refine Kd.C_alloc ?_ _) | (with_reducible refine Kd.C_drewN ?_ _) | (with_reducible refine Kd.C_drew ?_))); (case side2 => exact (Kd.R_reads' HO258.out).2.1); rintro e w' ⟨rfl, ⟨nd, rfl⟩⟩))
    go_meet
    case rel => exact ⟨_, (!t264), (by first | rfl | (simp; done) | (simp [*]; done)), H', ⟨by first | omega | exact Nat.le_refl _⟩, ⟨by (with_reducible repeat (first | apply Kd.R_alloc | apply Kd.R_drewN | apply Kd.R_drew)); exact Kd.R_mono HO258.out (fun _ hk => hk.2)⟩, ⟨by (with_reducible repeat (first | apply Kd.R_alloc | apply Kd.R_drewN | apply Kd.R_drew)); exact Kd.R_mono HO262.out (fun _ hk => hk.2)⟩, ⟨by repeat (first | (with_reducible first | exact HB.out | apply below_alloc | apply pw_below_drewN | apply below_drew1) | exact HB.out)⟩⟩
  case rest =>
   clear HC7
   try clear c1
   try clear c2
   try clear p2
   try clear c3
   try clear c5
   try clear c10
   try clear c11
   try clear c11b0
   obtain ⟨kq, x29_6, rfl, HA, HJ6, HO_3, HO_4, HB⟩ := hcut
   cases kq with
   | zero => exact absurd HA.out (by simp [laws_FnNearestWord.j0])
   | succ kj6 =>
    have H := HA.out
    clear HA
    simp only [laws_FnNearestWord.j0] at H
    by_cases c13 : x29_6 = true
    ·subst c13
     have H1 : (if t260 = (-1) then (some ((t259.length : Int) == 0)) else (none)) = some r := by rw [if_pos rfl] at H; exact H
     clear H
     have H := H1
     clear H1
     by_cases c14 : t260 = (-1)
     ·rw [if_pos c14] at H
      have c14b0 : (t260 == (-1)) = true := beq_iff_eq.mpr c14
      have c14b1 : (t260 != (-1)) = false := bne_eq_false_iff_eq.mpr c14
      clear c14
      obtain rfl := Option.some.inj H
      obtain ⟨Ao15, co15, eo15⟩ := Kd.R_slice HO_4.out
      subst eo15
      go_wp2
      go_ret
      exact ⟨by first | rfl | exact congrArg (fun z_ : Int => Ending.returned (Value.int .i64 z_)) (i64_w _) | (simp [errW_none, errW_some] <;> rfl) | (simp [*, errW_none, errW_some] <;> rfl), by repeat (first | (with_reducible first | exact HB.out | apply below_alloc | apply pw_below_drewN | apply below_drew1) | exact HB.out)⟩
     ·rw [if_neg c14] at H
      exact absurd H (by simp)
    ·replace c13 := Bool.eq_false_iff.mpr c13
     subst c13
     have H1 : (if (t259.length : Int) = t263 then ((impl_PathDistance.f kj6 t259 t256).bind fun t265 => (if t265 = t260 then (laws_FnNearestWord.j1 kj6 l0 t256 t259 t260 t263 (decide (t260 < 0))) else (none))) else (none)) = some r := by rw [if_neg (show ¬ (false = true) by decide)] at H; exact H
     clear H
     have H := H1
     clear H1
     have HC16 := Aside0.mk H
     clear H
     go_upto_region 8 with (fail)
     go_cut [51] (fun v51 wc => ∃ (kq : Nat) (x51_15 : Bool), v51 = .bool x51_15 ∧ Aside0 (laws_FnNearestWord.j1 kq l0 t256 t259 t260 t263 x51_15 = some r) ∧ Aside0 (kq ≤ kj6) ∧ Aside0 (Kd.R (Kd.int .i64) 3 wc w.heap.size (fun k_ => some k_ ≠ (v261 : Value).ownBlock) (.slice Ao9 t256.length co9) t256) ∧ Aside0 (Kd.R (Kd.int .i64) 3 wc w.heap.size (fun k_ => some k_ ≠ ((.slice Ao9 t256.length co9) : Value).ownBlock) v261 t259) ∧ Aside0 (Below w.heap.size w wc))
     case first =>
      have H := HC16.out
      clear HC16
      by_cases c17 : (t259.length : Int) = t263
      ·rw [if_pos c17] at H
       have c17b0 : ((t259.length : Int) == t263) = true := beq_iff_eq.mpr c17
       have c17b1 : ((t259.length : Int) != t263) = false := bne_eq_false_iff_eq.mpr c17
       clear c17
       (first | rw [c17b0] | (simp only [i64_w, i32_w]; rw [c17b0]) | skip)
       replace H := Option.bind_eq_some_iff.mp H
       obtain ⟨t265, A180, H⟩ := H
       replace H : (if t265 = t260 then (laws_FnNearestWord.j1 kj6 l0 t256 t259 t260 t263 (decide (t260 < 0))) else (none)) = some r := H
       have A18 := Aside0.mk A180
       clear A180
       by_cases c19 : t265 = t260
       ·rw [if_pos c19] at H
        have c19b0 : (t265 == t260) = true := beq_iff_eq.mpr c19
        have c19b1 : (t265 != t260) = false := bne_eq_false_iff_eq.mpr c19
        clear c19
        have H' := Aside0.mk H
        clear H
        obtain ⟨Ao20, co20, eo20⟩ := Kd.R_slice HO_4.out
        subst eo20
        go_wp2_with (first | (go_at_call 58; (with_reducible refine (impl_PathDistance.calls kj6 _ _ t259 _ _ t256 t265 _ ?side1 ?side2 ?side3 ?side4 A18.out).mono ?_); (case side1 => repeat (first | exact (Kd.R_reads' HO_4.out).2.2 | (with_reducible refine Kd.C_alloc ?_ _) | (with_reducible refine Kd.C_drewN ?_ _) | (with_reducible refine Kd.C_drew ?_))); (case side2 => exact (Kd.R_reads' HO_4.out).2.1); (case side3 => repeat (first | exact (Kd.R_reads' HO_3.out).2.2 | (with_reducible refine Kd.C_alloc ?_ _) | (with_reducible refine Kd.C_drewN ?_ _) | (with_reducible refine Kd.C_drew ?_))); (case side4 => exact (Kd.R_reads' HO_3.out).2.1); rintro e w21 ⟨rfl, hb⟩; have n0_ := Aside0.mk (Kd.R_below (by (with_reducible repeat (first | apply Kd.R_alloc | apply Kd.R_drewN | apply Kd.R_drew)); exact HO_3.out) hb); have n1_ := Aside0.mk (Kd.R_below (by (with_reducible repeat (first | apply Kd.R_alloc | apply Kd.R_drewN | apply Kd.R_drew)); exact HO_4.out) hb); have n2_ := Aside0.mk (below_step (by repeat (first | (with_reducible first | exact HB.out | apply below_alloc | apply pw_below_drewN | apply below_drew1) | exact HB.out)) hb); clear HO_3; clear HO_4; clear HB; have HO_3 := n0_; have HO_4 := n1_; have HB := n2_; clear n0_ n1_ n2_; (try clear hb); (try clear hb2); (try clear hk); (try clear hi)))
        go_meet
        case rel => exact ⟨_, (decide (t260 < 0)), (by first | rfl | (simp; done) | (simp [*]; done)), H', ⟨by have := HJ6.out; first | omega | exact Nat.le_refl _⟩, ⟨by (with_reducible repeat (first | apply Kd.R_alloc | apply Kd.R_drewN | apply Kd.R_drew)); exact HO_3.out⟩, ⟨by (with_reducible repeat (first | apply Kd.R_alloc | apply Kd.R_drewN | apply Kd.R_drew)); exact HO_4.out⟩, ⟨by repeat (first | (with_reducible first | exact HB.out | apply below_alloc | apply pw_below_drewN | apply below_drew1) | exact HB.out)⟩⟩
       ·rw [if_neg c19] at H
        exact absurd H (by simp)
      ·rw [if_neg c17] at H
       exact absurd H (by simp)
     case rest =>
      clear HC16
      try clear c1
      try clear c2
      try clear p2
      try clear c3
      try clear c5
      try clear c10
      try clear c11
      try clear c11b0
      try clear c13
      try clear c14
      try clear c14b0
      try clear c14b1
      try clear c17
      try clear c17b0
      try clear c17b1
      try clear c19
      try clear c19b0
      try clear c19b1
      try clear p2
      obtain ⟨kq, x51_15, rfl, HA, HJ15, HO_3, HO_4, HB⟩ := hcut
      cases kq with
      | zero => exact absurd HA.out (by simp [laws_FnNearestWord.j1])
      | succ kj15 =>
       have H := HA.out
       clear HA
       simp only [laws_FnNearestWord.j1] at H
       by_cases c22 : x51_15 = true
       ·subst c22
        have H1 : (none) = some r := by rw [if_pos rfl] at H; exact H
        clear H
        have H := H1
        clear H1
        exact absurd H (by simp)
       ·replace c22 := Bool.eq_false_iff.mpr c22
        subst c22
        have H1 : (laws_FnNearestWord.l0 kj15 l0 t256 t259 t260 t263 0) = some r := by rw [if_neg (show ¬ (false = true) by decide)] at H; exact H
        clear H
        have H := H1
        clear H1
        have H' := Aside0.mk H
        clear H
        go_wp2
        go_loopg [7] kj15 (fun kq v7 w' => ∃ (x3_3 : List Int) (x4_3 : List Int) (x7_3 : Int), v7 = .int .i64 x7_3 ∧ Aside0 (laws_FnNearestWord.l0 kq l0 x3_3 x4_3 t260 t263 x7_3 = some r) ∧ Aside0 (kq ≤ kj15) ∧ Aside0 (Kd.R (Kd.int .i64) 3 w' w.heap.size (fun k_ => some k_ ≠ (v261 : Value).ownBlock) (.slice Ao9 t256.length co9) x3_3) ∧ Aside0 (Kd.R (Kd.int .i64) 3 w' w.heap.size (fun k_ => some k_ ≠ ((.slice Ao9 t256.length co9) : Value).ownBlock) v261 x4_3) ∧ Aside0 (Below w.heap.size w w'))
        case atStart => exact ⟨(t256), (t259), (0), (by first | rfl | (simp; done) | (simp [*]; done)), H', ⟨Nat.le_refl _⟩, ⟨by (with_reducible repeat (first | apply Kd.R_alloc | apply Kd.R_drewN | apply Kd.R_drew)); exact HO_3.out⟩, ⟨by (with_reducible repeat (first | apply Kd.R_alloc | apply Kd.R_drewN | apply Kd.R_drew)); exact HO_4.out⟩, ⟨by repeat (first | (with_reducible first | exact HB.out | apply below_alloc | apply pw_below_drewN | apply below_drew1) | exact HB.out)⟩⟩
        case round =>
         clear H'
         try clear c1
         try clear c2
         try clear p2
         try clear c3
         try clear c5
         try clear c10
         try clear c11
         try clear c11b0
         try clear c13
         try clear c14
         try clear c14b0
         try clear c14b1
         try clear c17
         try clear c17b0
         try clear c17b1
         try clear c19
         try clear c19b0
         try clear c19b1
         try clear c22
         try clear p2
         obtain ⟨x3_3, x4_3, x7_3, rfl, HA, HK3, HO_3, HO_4, HB⟩ := hrel
         have hl3_3 := (Kd.R_reads' HO_3.out).1
         rw [hl3_3] at HO_3
         (try simp only [hl3_3])
         (try simp only [hl3_3] at HO_4)
         cases gk with
         | zero => exact absurd HA.out (by simp [laws_FnNearestWord.l0])
         | succ k3 =>
          have H := HA.out
          clear HA
          simp only [laws_FnNearestWord.l0] at H
          by_cases c23 : x7_3 < 8
          ·rw [if_pos c23] at H
           have c23b0 : decide (x7_3 < 8) = true := decide_eq_true c23
           clear c23
           by_cases c24 : 0 ≤ t263
           ·rw [if_pos c24] at H
            have c24b0 := eq_true c24
            have c24b1 : decide (0 ≤ t263) = true := decide_eq_true c24
            clear c24
            by_cases c25 : (t263 : Int).toNat ≤ 35184372088832
            ·rw [if_pos c25] at H
             have c25b0 := eq_true c25
             have c25b1 : decide ((t263 : Int).toNat ≤ 35184372088832) = true := decide_eq_true c25
             clear c25
             obtain ⟨y266, hy266⟩ : ∃ y_ : List Int, y_ = (List.replicate (t263 : Int).toNat 0) := ⟨_, rfl⟩
             replace H : (laws_FnNearestWord.l1 k3 l0 x3_3 x4_3 t260 t263 x7_3 y266 0) = some r := by first | (rw [hy266]; with_reducible exact H) | (have H2_ := (Option.bind_some _ _).symm.trans H; rw [hy266]; with_reducible exact H2_) | (have H2_ := (Option.bind_some _ _).symm.trans H; with_reducible exact H2_) | with_reducible exact H | (rw [hy266]; exact H) | exact H
             have Ny266 := Aside0.mk hy266
             clear hy266
             have H' := Aside0.mk H
             clear H
             go_wp2_with (first | ((with_reducible refine gate_dst (N := 57) rfl ?_); (try (refine gate_guard (by rfl) ?_; dsimp only)); refine Kd.R_make (Kd.int .i64) _ 3 rfl (N := 57) rfl 22 _ _ rfl t263 rfl rfl Try.underlying22 (.int .i64 0) 8 info3 rfl (by decide) (by omega) 0 (ok := fun _ => True) (okp := fun _ => True) rfl (fun _ hk => hk) trivial (of_decide_eq_true (by first | (with_reducible assumption) | assumption)) (Nat.le_trans (Nat.mul_le_mul_right _ (of_decide_eq_true (by first | (with_reducible assumption) | assumption) : t263.toNat ≤ 35184372088832)) (by omega)) (Below.refl _ _) (Nat.le_refl _) ?_; intro v267 w26 ho27 hb hg_ hnew_; clear hg_ hnew_; (first | rw [← Ny266.out] at ho27 | (simp only [Int.reduceToNat] at ho27; rw [← Ny266.out] at ho27)); have n0_ := Aside0.mk (Kd.R_elder' (by (with_reducible repeat (first | apply Kd.R_alloc | apply Kd.R_drewN | apply Kd.R_drew)); exact HO_3.out) (Kd.R_base ho27) hb); have n1_ := Aside0.mk (Kd.R_elder' (by (with_reducible repeat (first | apply Kd.R_alloc | apply Kd.R_drewN | apply Kd.R_drew)); exact HO_4.out) (Kd.R_base ho27) hb); have n2_ := Aside0.mk (Kd.R_lower (Kd.R_new' (Kd.R_new' ho27 (Kd.R_lt (by (with_reducible repeat (first | apply Kd.R_alloc | apply Kd.R_drewN | apply Kd.R_drew)); exact HO_3.out))) (Kd.R_lt (by (with_reducible repeat (first | apply Kd.R_alloc | apply Kd.R_drewN | apply Kd.R_drew)); exact HO_4.out))) (below_size (by repeat (first | (with_reducible first | exact HB.out | apply below_alloc | apply pw_below_drewN | apply below_drew1) | exact HB.out)))); have n3_ := Aside0.mk (below_step (by repeat (first | (with_reducible first | exact HB.out | apply below_alloc | apply pw_below_drewN | apply below_drew1) | exact HB.out)) hb); clear HO_3; clear HO_4; clear HB; have HO_3 := n0_; have HO_4 := n1_; have HO268 := n2_; have HB := n3_; clear n0_ n1_ n2_ n3_; clear hb ho27))
             go_loopg [9] k3 (fun kq v9 w' => ∃ (x8_4 : List Int) (x9_4 : Int), v9 = .int .i64 x9_4 ∧ Aside0 (laws_FnNearestWord.l1 kq l0 x3_3 x4_3 t260 t263 x7_3 x8_4 x9_4 = some r) ∧ Aside0 (kq ≤ k3) ∧ Aside0 (Kd.R (Kd.int .i64) 3 w' w.heap.size (fun k_ => some k_ ≠ (v261 : Value).ownBlock ∧ some k_ ≠ (v267 : Value).ownBlock) (.slice Ao9 x3_3.length co9) x3_3) ∧ Aside0 (Kd.R (Kd.int .i64) 3 w' w.heap.size (fun k_ => some k_ ≠ ((.slice Ao9 x3_3.length co9) : Value).ownBlock ∧ some k_ ≠ (v267 : Value).ownBlock) v261 x4_3) ∧ Aside0 (Kd.R (Kd.int .i64) 3 w' w.heap.size (fun k_ => some k_ ≠ ((.slice Ao9 x3_3.length co9) : Value).ownBlock ∧ some k_ ≠ (v261 : Value).ownBlock) v267 x8_4) ∧ Aside0 (Below w.heap.size w w'))
             case atStart => exact ⟨(y266), (0), (by first | rfl | (simp; done) | (simp [*]; done)), H', ⟨Nat.le_refl _⟩, ⟨by (try simp only [hl3_3]); (with_reducible repeat (first | apply Kd.R_alloc | apply Kd.R_drewN | apply Kd.R_drew)); exact HO_3.out⟩, ⟨by (try simp only [hl3_3]); (with_reducible repeat (first | apply Kd.R_alloc | apply Kd.R_drewN | apply Kd.R_drew)); exact HO_4.out⟩, ⟨by (try simp only [hl3_3]); (with_reducible repeat (first | apply Kd.R_alloc | apply Kd.R_drewN | apply Kd.R_drew)); exact Kd.R_mono HO268.out (fun _ hk => ⟨hk.1.2, hk.2⟩)⟩, ⟨by repeat (first | (with_reducible first | exact HB.out | apply below_alloc | apply pw_below_drewN | apply below_drew1) | exact HB.out)⟩⟩
             case round =>
              clear H'
              try clear c1
              try clear c2
              try clear p2
              try clear c3
              try clear c5
              try clear c10
              try clear c11
              try clear c11b0
              try clear c13
              try clear c14
              try clear c14b0
              try clear c14b1
              try clear c17
              try clear c17b0
              try clear c17b1
              try clear c19
              try clear c19b0
              try clear c19b1
              try clear c22
              try clear c23
              try clear c23b0
              try clear c24
              try clear c24b0
              try clear c24b1
              try clear c25
              try clear c25b0
              try clear c25b1
              try clear c27
              try clear p2
              obtain ⟨x8_4, x9_4, rfl, HA, HK4, HO_3, HO_4, HO_8, HB⟩ := hrel
              cases gk with
              | zero => exact absurd HA.out (by simp [laws_FnNearestWord.l1])
              | succ k4 =>
               have H := HA.out
               clear HA
               simp only [laws_FnNearestWord.l1] at H
               by_cases c28 : x9_4 < t263
               ·rw [if_pos c28] at H
                have c28b0 : decide (x9_4 < t263) = true := decide_eq_true c28
                clear c28
                replace H := Option.bind_eq_some_iff.mp H
                obtain ⟨t269, A290, H⟩ := H
                replace H : (if 0 ≤ x9_4 then (if x9_4 < (x8_4.length : Int) then ((some (x8_4.set (x9_4 : Int).toNat (Int.tmod t269 2) : List Int)).bind fun y270 => (if x7_3 < 4 then (if x9_4 < (x4_3.length : Int) then (laws_FnNearestWord.l1 k4 l0 x3_3 x4_3 t260 t263 x7_3 (y270.set (x9_4 : Int).toNat (rd x4_3 x9_4)) (wrap64 (x9_4 + 1))) else (none)) else (laws_FnNearestWord.l1 k4 l0 x3_3 x4_3 t260 t263 x7_3 y270 (wrap64 (x9_4 + 1))))) else (none)) else (none)) = some r := H
                have A29 := Aside0.mk A290
                clear A290
                by_cases c30 : 0 ≤ x9_4
                ·rw [if_pos c30] at H
                 have c30b0 : decide (0 ≤ x9_4) = true := decide_eq_true c30
                 clear c30
                 by_cases c31 : x9_4 < (x8_4.length : Int)
                 ·rw [if_pos c31] at H
                  have c31b0 : decide (x9_4 < (x8_4.length : Int)) = true := decide_eq_true c31
                  clear c31
                  obtain ⟨y270, hy270⟩ : ∃ y_ : List Int, y_ = (x8_4.set (x9_4 : Int).toNat (Int.tmod t269 2)) := ⟨_, rfl⟩
                  replace H : (if x7_3 < 4 then (if x9_4 < (x4_3.length : Int) then (laws_FnNearestWord.l1 k4 l0 x3_3 x4_3 t260 t263 x7_3 (y270.set (x9_4 : Int).toNat (rd x4_3 x9_4)) (wrap64 (x9_4 + 1))) else (none)) else (laws_FnNearestWord.l1 k4 l0 x3_3 x4_3 t260 t263 x7_3 y270 (wrap64 (x9_4 + 1)))) = some r := by first | (rw [hy270]; with_reducible exact H) | (have H2_ := (Option.bind_some _ _).symm.trans H; rw [hy270]; with_reducible exact H2_) | (have H2_ := (Option.bind_some _ _).symm.trans H; with_reducible exact H2_) | with_reducible exact H | (rw [hy270]; exact H) | exact H
                  have Ny270 := Aside0.mk hy270
                  clear hy270
                  by_cases c33 : x7_3 < 4
                  ·rw [if_pos c33] at H
                   have c33b0 : decide (x7_3 < 4) = true := decide_eq_true c33
                   clear c33
                   by_cases c34 : x9_4 < (x4_3.length : Int)
                   ·rw [if_pos c34] at H
                    have c34b0 : decide (x9_4 < (x4_3.length : Int)) = true := decide_eq_true c34
                    clear c34
                    obtain ⟨y272, hy272⟩ : ∃ y_ : List Int, y_ = (y270.set (x9_4 : Int).toNat (rd x4_3 x9_4)) := ⟨_, rfl⟩
                    replace H : (laws_FnNearestWord.l1 k4 l0 x3_3 x4_3 t260 t263 x7_3 y272 (wrap64 (x9_4 + 1))) = some r := by first | (rw [hy272]; with_reducible exact H) | (have H2_ := (Option.bind_some _ _).symm.trans H; rw [hy272]; with_reducible exact H2_) | (have H2_ := (Option.bind_some _ _).symm.trans H; with_reducible exact H2_) | with_reducible exact H | (rw [hy272]; exact H) | exact H
                    have Ny272 := Aside0.mk hy272
                    clear hy272
                    have H' := Aside0.mk H
                    clear H
                    go_wp2_with (first | ((with_reducible refine gate_callee (f := 34) rfl ?_); refine goesL_ (some 71) rfl rfl Try.func34 (by kernel_rfl) rfl #[.slice A0 l0.length c0, .int .i64 (wrap64 ((wrap64 (x7_3 * t263)) + x9_4))] rfl (by (try simp only [List.map_toArray, List.map_cons, List.map_nil]); first | done | rfl | (simp only [List.length_drop, List.length_take]; rfl)) ?_; (with_reducible refine (laws_at.calls _ _ l0 (wrap64 ((wrap64 (x7_3 * t263)) + x9_4)) t269 _ ?side1 ?side2 A29.out).mono ?_); (case side1 => repeat (first | exact (Kd.C_below HR0.out HB.out) | (with_reducible refine Kd.C_alloc ?_ _) | (with_reducible refine Kd.C_drewN ?_ _) | (with_reducible refine Kd.C_drew ?_))); (case side2 => exact HC0.out); rintro e w' ⟨rfl, ⟨nd, rfl⟩⟩; refine ⟨_, rfl, ?_⟩; (try (rw [drewN_self wr]; generalize hq_ : World.drewN wr _ = wr; have n0_ : Aside0 (Kd.R (Kd.int .i64) 3 wr w.heap.size (fun k_ => some k_ ≠ (v261 : Value).ownBlock ∧ some k_ ≠ (v267 : Value).ownBlock) (.slice Ao9 x3_3.length co9) x3_3) := ⟨by rw [← hq_]; exact (by (with_reducible repeat (first | apply Kd.R_alloc | apply Kd.R_drewN | apply Kd.R_drew)); exact HO_3.out)⟩; have n1_ : Aside0 (Kd.R (Kd.int .i64) 3 wr w.heap.size (fun k_ => some k_ ≠ (.slice Ao9 x3_3.length co9 : Value).ownBlock ∧ some k_ ≠ (v267 : Value).ownBlock) v261 x4_3) := ⟨by rw [← hq_]; exact (by (with_reducible repeat (first | apply Kd.R_alloc | apply Kd.R_drewN | apply Kd.R_drew)); exact HO_4.out)⟩; have n2_ : Aside0 (Kd.R (Kd.int .i64) 3 wr w.heap.size (fun k_ => some k_ ≠ (.slice Ao9 x3_3.length co9 : Value).ownBlock ∧ some k_ ≠ (v261 : Value).ownBlock) v267 x8_4) := ⟨by rw [← hq_]; exact (by (with_reducible repeat (first | apply Kd.R_alloc | apply Kd.R_drewN | apply Kd.R_drew)); exact HO_8.out)⟩; have n3_ : Aside0 (Below w.heap.size w wr) := ⟨by rw [← hq_]; exact (by repeat (first | (with_reducible first | exact HB.out | apply below_alloc | apply pw_below_drewN | apply below_drew1) | exact HB.out))⟩; clear HO_3 HO_4 HO_8 HB hq_; have HO_3 := n0_; have HO_4 := n1_; have HO_8 := n2_; have HB := n3_; clear n0_ n1_ n2_ n3_)); have p32 : 0 ≤ (x9_4 : Int) := of_decide_eq_true (by first | (with_reducible assumption) | assumption); have q32 : (x9_4 : Int) < ((x8_4.length : Int) : Int) := of_decide_eq_true (by first | (with_reducible assumption) | assumption); obtain ⟨go32, co32, eo32, gb32, gl32, cl32, HG32⟩ := Kd.R_form HO_8.out (by omega); (first | cases eo32 | (injection eo32 with ea_ en_ ec_; (first | subst ea_ | (injection ea_ with ea_; subst ea_)); subst ec_; clear en_)); have GB32 := Aside0.mk gb32; have GG32 := Aside0.mk HG32; clear gb32 gl32 HG32; obtain ⟨hx32_0, hf32_0⟩ := Kd.R_celln 0 HO_8.out (x9_4 : Int) p32 q32; replace p32 := eq_true p32; replace q32 := eq_true q32; obtain ⟨hy36_, hz36_⟩ := Kd.R_celln 0 HO_8.out (x9_4 : Int) (of_decide_eq_true (by first | (with_reducible assumption) | assumption)) (of_decide_eq_true (by first | (with_reducible assumption) | assumption)); have HP36 := Kd.R_putg HO_8.out (x9_4 : Int) (Int.tmod t269 2)) | ((with_reducible refine gate_store (t := 3) (p := 73) rfl ?_); refine store_event (t := 3) (p := 73) (v := ?vo_w37) (w1 := (wr.setCell ⟨go32, (x9_4 : Int).toNat, none⟩ (.int .i64 (Int.tmod t269 2)))) ?hg ?ho ?hn ?hr ?_; (case ho => rfl); (case hg => rfl); (case hn => rfl); (case hr => first | (go_simp; done) | (go_simp; rfl)); intro w37 hw; have hg : wr.grownBy w37 (some go32) := (by rw [hw]; exact HP36.2); have hp_ : Kd.R (Kd.int .i64) 3 w37 w.heap.size (fun k_ => some k_ ≠ (.slice Ao9 x3_3.length co9 : Value).ownBlock ∧ some k_ ≠ (v261 : Value).ownBlock) (.slice (some ⟨go32, 0, none⟩) x8_4.length co32) y270 := (by rw [hw, Ny270.out]; exact HP36.1); clear HP36; have n0_ := Aside0.mk (Kd.R_after (v := (.slice (some ⟨go32, 0, none⟩) x8_4.length co32)) (v1 := (.slice (some ⟨go32, 0, none⟩) x8_4.length co32)) (ok := (fun k_ => some k_ ≠ (v261 : Value).ownBlock)) (by (with_reducible repeat (first | apply Kd.R_alloc | apply Kd.R_drewN | apply Kd.R_drew)); exact HO_3.out) hg (.inl rfl)); have n1_ := Aside0.mk (Kd.R_after (v := (.slice (some ⟨go32, 0, none⟩) x8_4.length co32)) (v1 := (.slice (some ⟨go32, 0, none⟩) x8_4.length co32)) (ok := (fun k_ => some k_ ≠ (.slice Ao9 x3_3.length co9 : Value).ownBlock)) (by (with_reducible repeat (first | apply Kd.R_alloc | apply Kd.R_drewN | apply Kd.R_drew)); exact HO_4.out) hg (.inl rfl)); have n2_ := Aside0.mk (hp_); have n3_ := Aside0.mk ((by rw [hw]; exact below_set (HB.out) GB32.out : Below w.heap.size w w37)); clear HO_3; clear HO_4; clear HO_8; clear HB; have HO_3 := n0_; have HO_4 := n1_; have HO_8 := n2_; have HB := n3_; clear n0_ n1_ n2_ n3_; clear hg hw hp_; obtain ⟨Ao38, co38, eo38⟩ := Kd.R_slice HO_4.out; subst eo38; have p271 : 0 ≤ (x9_4 : Int) := of_decide_eq_true (by first | (with_reducible assumption) | assumption); have q271 : x9_4 < (x4_3.length : Int) := of_decide_eq_true (by first | (with_reducible assumption) | assumption); obtain ⟨ad271, e271, hx271_0⟩ := Kd.at_int (Kd.R_reads' HO_4.out).2.2 x9_4 p271 q271; cases e271; replace p271 := eq_true p271; replace q271 := eq_true q271; have p35 : 0 ≤ (x9_4 : Int) := of_decide_eq_true (by first | (with_reducible assumption) | assumption); have q35 : (x9_4 : Int) < ((x8_4.length : Int) : Int) := of_decide_eq_true (by first | (with_reducible assumption) | assumption); obtain ⟨hx35_0, hf35_0⟩ := Kd.R_celln 0 HO_8.out (x9_4 : Int) p35 q35; replace p35 := eq_true p35; replace q35 := eq_true q35; obtain ⟨hy39_, hz39_⟩ := Kd.R_celln 0 HO_8.out (x9_4 : Int) (of_decide_eq_true (by first | (with_reducible assumption) | assumption)) (of_decide_eq_true (by first | (with_reducible assumption) | assumption)); have HP39 := Kd.R_putg HO_8.out (x9_4 : Int) (rd x4_3 x9_4)) | ((with_reducible refine gate_store (t := 3) (p := 82) rfl ?_); refine store_event (t := 3) (p := 82) (v := ?vo_w40) (w1 := (w37.setCell ⟨go32, (x9_4 : Int).toNat, none⟩ (.int .i64 (rd x4_3 x9_4)))) ?hg ?ho ?hn ?hr ?_; (case ho => rfl); (case hg => rfl); (case hn => rfl); (case hr => first | (go_simp; done) | (go_simp; rfl)); intro w40 hw; have hg : w37.grownBy w40 (some go32) := (by rw [hw]; exact HP39.2); have hp_ : Kd.R (Kd.int .i64) 3 w40 w.heap.size (fun k_ => some k_ ≠ (.slice Ao9 x3_3.length co9 : Value).ownBlock ∧ some k_ ≠ (.slice (some ad271) x4_3.length co38 : Value).ownBlock) (.slice (some ⟨go32, 0, none⟩) x8_4.length co32) y272 := (by rw [hw, Ny272.out]; exact HP39.1); clear HP39; have n0_ := Aside0.mk (Kd.R_after (v := (.slice (some ⟨go32, 0, none⟩) x8_4.length co32)) (v1 := (.slice (some ⟨go32, 0, none⟩) x8_4.length co32)) (ok := (fun k_ => some k_ ≠ (.slice (some ad271) x4_3.length co38 : Value).ownBlock)) (by (with_reducible repeat (first | apply Kd.R_alloc | apply Kd.R_drewN | apply Kd.R_drew)); exact HO_3.out) hg (.inl rfl)); have n1_ := Aside0.mk (Kd.R_after (v := (.slice (some ⟨go32, 0, none⟩) x8_4.length co32)) (v1 := (.slice (some ⟨go32, 0, none⟩) x8_4.length co32)) (ok := (fun k_ => some k_ ≠ (.slice Ao9 x3_3.length co9 : Value).ownBlock)) (by (with_reducible repeat (first | apply Kd.R_alloc | apply Kd.R_drewN | apply Kd.R_drew)); exact HO_4.out) hg (.inl rfl)); have n2_ := Aside0.mk (hp_); have n3_ := Aside0.mk ((by rw [hw]; exact below_set (HB.out) GB32.out : Below w.heap.size w w40)); clear HO_3; clear HO_4; clear HO_8; clear HB; have HO_3 := n0_; have HO_4 := n1_; have HO_8 := n2_; have HB := n3_; clear n0_ n1_ n2_ n3_; clear hg hw hp_))
                    go_roundg k4
                    case measure => have := HJ6.out; have := HJ15.out; have := HK3.out; have := HK4.out; omega
                    case rel => exact ⟨(y272), (wrap64 (x9_4 + 1)), (by first | rfl | (simp; done) | (simp [*]; done)), H', ⟨by have := HJ6.out; have := HJ15.out; have := HK3.out; have := HK4.out; omega⟩, ⟨by (try simp only [hl3_3]); (with_reducible repeat (first | apply Kd.R_alloc | apply Kd.R_drewN | apply Kd.R_drew)); exact HO_3.out⟩, ⟨by (try simp only [hl3_3]); (with_reducible repeat (first | apply Kd.R_alloc | apply Kd.R_drewN | apply Kd.R_drew)); exact HO_4.out⟩, ⟨by (try simp only [hl3_3]); (with_reducible repeat (first | apply Kd.R_alloc | apply Kd.R_drewN | apply Kd.R_drew)); exact HO_8.out⟩, ⟨by repeat (first | (with_reducible first | exact HB.out | apply below_alloc | apply pw_below_drewN | apply below_drew1) | exact HB.out)⟩⟩
                   ·rw [if_neg c34] at H
                    exact absurd H (by simp)
                  ·rw [if_neg c33] at H
                   have c33b0 : decide (x7_3 < 4) = false := decide_eq_false c33
                   clear c33
                   have H' := Aside0.mk H
                   clear H
                   go_wp2_with (first | ((with_reducible refine gate_callee (f := 34) rfl ?_); refine goesL_ (some 71) rfl rfl Try.func34 (by kernel_rfl) rfl #[.slice A0 l0.length c0, .int .i64 (wrap64 ((wrap64 (x7_3 * t263)) + x9_4))] rfl (by (try simp only [List.map_toArray, List.map_cons, List.map_nil]); first | done | rfl | (simp only [List.length_drop, List.length_take]; rfl)) ?_; (with_reducible refine (laws_at.calls _ _ l0 (wrap64 ((wrap64 (x7_3 * t263)) + x9_4)) t269 _ ?side1 ?side2 A29.out).mono ?_); (case side1 => repeat (first | exact (Kd.C_below HR0.out HB.out) | (with_reducible refine Kd.C_alloc ?_ _) | (with_reducible refine Kd.C_drewN ?_ _) | (with_reducible refine Kd.C_drew ?_))); (case side2 => exact HC0.out); rintro e w' ⟨rfl, ⟨nd, rfl⟩⟩; refine ⟨_, rfl, ?_⟩; (try (rw [drewN_self wr]; generalize hq_ : World.drewN wr _ = wr; have n0_ : Aside0 (Kd.R (Kd.int .i64) 3 wr w.heap.size (fun k_ => some k_ ≠ (v261 : Value).ownBlock ∧ some k_ ≠ (v267 : Value).ownBlock) (.slice Ao9 x3_3.length co9) x3_3) := ⟨by rw [← hq_]; exact (by (with_reducible repeat (first | apply Kd.R_alloc | apply Kd.R_drewN | apply Kd.R_drew)); exact HO_3.out)⟩; have n1_ : Aside0 (Kd.R (Kd.int .i64) 3 wr w.heap.size (fun k_ => some k_ ≠ (.slice Ao9 x3_3.length co9 : Value).ownBlock ∧ some k_ ≠ (v267 : Value).ownBlock) v261 x4_3) := ⟨by rw [← hq_]; exact (by (with_reducible repeat (first | apply Kd.R_alloc | apply Kd.R_drewN | apply Kd.R_drew)); exact HO_4.out)⟩; have n2_ : Aside0 (Kd.R (Kd.int .i64) 3 wr w.heap.size (fun k_ => some k_ ≠ (.slice Ao9 x3_3.length co9 : Value).ownBlock ∧ some k_ ≠ (v261 : Value).ownBlock) v267 x8_4) := ⟨by rw [← hq_]; exact (by (with_reducible repeat (first | apply Kd.R_alloc | apply Kd.R_drewN | apply Kd.R_drew)); exact HO_8.out)⟩; have n3_ : Aside0 (Below w.heap.size w wr) := ⟨by rw [← hq_]; exact (by repeat (first | (with_reducible first | exact HB.out | apply below_alloc | apply pw_below_drewN | apply below_drew1) | exact HB.out))⟩; clear HO_3 HO_4 HO_8 HB hq_; have HO_3 := n0_; have HO_4 := n1_; have HO_8 := n2_; have HB := n3_; clear n0_ n1_ n2_ n3_)); have p32 : 0 ≤ (x9_4 : Int) := of_decide_eq_true (by first | (with_reducible assumption) | assumption); have q32 : (x9_4 : Int) < ((x8_4.length : Int) : Int) := of_decide_eq_true (by first | (with_reducible assumption) | assumption); obtain ⟨go32, co32, eo32, gb32, gl32, cl32, HG32⟩ := Kd.R_form HO_8.out (by omega); (first | cases eo32 | (injection eo32 with ea_ en_ ec_; (first | subst ea_ | (injection ea_ with ea_; subst ea_)); subst ec_; clear en_)); have GB32 := Aside0.mk gb32; have GG32 := Aside0.mk HG32; clear gb32 gl32 HG32; obtain ⟨hx32_0, hf32_0⟩ := Kd.R_celln 0 HO_8.out (x9_4 : Int) p32 q32; replace p32 := eq_true p32; replace q32 := eq_true q32; obtain ⟨hy41_, hz41_⟩ := Kd.R_celln 0 HO_8.out (x9_4 : Int) (of_decide_eq_true (by first | (with_reducible assumption) | assumption)) (of_decide_eq_true (by first | (with_reducible assumption) | assumption)); have HP41 := Kd.R_putg HO_8.out (x9_4 : Int) (Int.tmod t269 2)) | ((with_reducible refine gate_store (t := 3) (p := 73) rfl ?_); refine store_event (t := 3) (p := 73) (v := ?vo_w42) (w1 := (wr.setCell ⟨go32, (x9_4 : Int).toNat, none⟩ (.int .i64 (Int.tmod t269 2)))) ?hg ?ho ?hn ?hr ?_; (case ho => rfl); (case hg => rfl); (case hn => rfl); (case hr => first | (go_simp; done) | (go_simp; rfl)); intro w42 hw; have hg : wr.grownBy w42 (some go32) := (by rw [hw]; exact HP41.2); have hp_ : Kd.R (Kd.int .i64) 3 w42 w.heap.size (fun k_ => some k_ ≠ (.slice Ao9 x3_3.length co9 : Value).ownBlock ∧ some k_ ≠ (v261 : Value).ownBlock) (.slice (some ⟨go32, 0, none⟩) x8_4.length co32) y270 := (by rw [hw, Ny270.out]; exact HP41.1); clear HP41; have n0_ := Aside0.mk (Kd.R_after (v := (.slice (some ⟨go32, 0, none⟩) x8_4.length co32)) (v1 := (.slice (some ⟨go32, 0, none⟩) x8_4.length co32)) (ok := (fun k_ => some k_ ≠ (v261 : Value).ownBlock)) (by (with_reducible repeat (first | apply Kd.R_alloc | apply Kd.R_drewN | apply Kd.R_drew)); exact HO_3.out) hg (.inl rfl)); have n1_ := Aside0.mk (Kd.R_after (v := (.slice (some ⟨go32, 0, none⟩) x8_4.length co32)) (v1 := (.slice (some ⟨go32, 0, none⟩) x8_4.length co32)) (ok := (fun k_ => some k_ ≠ (.slice Ao9 x3_3.length co9 : Value).ownBlock)) (by (with_reducible repeat (first | apply Kd.R_alloc | apply Kd.R_drewN | apply Kd.R_drew)); exact HO_4.out) hg (.inl rfl)); have n2_ := Aside0.mk (hp_); have n3_ := Aside0.mk ((by rw [hw]; exact below_set (HB.out) GB32.out : Below w.heap.size w w42)); clear HO_3; clear HO_4; clear HO_8; clear HB; have HO_3 := n0_; have HO_4 := n1_; have HO_8 := n2_; have HB := n3_; clear n0_ n1_ n2_ n3_; clear hg hw hp_))
                   go_roundg k4
                   case measure => have := HJ6.out; have := HJ15.out; have := HK3.out; have := HK4.out; omega
                   case rel => exact ⟨(y270), (wrap64 (x9_4 + 1)), (by first | rfl | (simp; done) | (simp [*]; done)), H', ⟨by have := HJ6.out; have := HJ15.out; have := HK3.out; have := HK4.out; omega⟩, ⟨by (try simp only [hl3_3]); (with_reducible repeat (first | apply Kd.R_alloc | apply Kd.R_drewN | apply Kd.R_drew)); exact HO_3.out⟩, ⟨by (try simp only [hl3_3]); (with_reducible repeat (first | apply Kd.R_alloc | apply Kd.R_drewN | apply Kd.R_drew)); exact HO_4.out⟩, ⟨by (try simp only [hl3_3]); (with_reducible repeat (first | apply Kd.R_alloc | apply Kd.R_drewN | apply Kd.R_drew)); exact HO_8.out⟩, ⟨by repeat (first | (with_reducible first | exact HB.out | apply below_alloc | apply pw_below_drewN | apply below_drew1) | exact HB.out)⟩⟩
                 ·rw [if_neg c31] at H
                  exact absurd H (by simp)
                ·rw [if_neg c30] at H
                 exact absurd H (by simp)
               ·rw [if_neg c28] at H
                have c28b0 : decide (x9_4 < t263) = false := decide_eq_false c28
                clear c28
                have HC43 := Aside0.mk H
                clear H
                go_upto_region 20 with (fail)
                go_cut [88] (fun v88 wc => ∃ (kq : Nat) (x88_42 : Bool), v88 = .bool x88_42 ∧ Aside0 (laws_FnNearestWord.j4 kq l0 x3_3 x4_3 t260 t263 x7_3 x8_4 x88_42 = some r) ∧ Aside0 (kq ≤ k4) ∧ Aside0 (Kd.R (Kd.int .i64) 3 wc w.heap.size (fun k_ => some k_ ≠ (v261 : Value).ownBlock ∧ some k_ ≠ (v267 : Value).ownBlock) (.slice Ao9 x3_3.length co9) x3_3) ∧ Aside0 (Kd.R (Kd.int .i64) 3 wc w.heap.size (fun k_ => some k_ ≠ ((.slice Ao9 x3_3.length co9) : Value).ownBlock ∧ some k_ ≠ (v267 : Value).ownBlock) v261 x4_3) ∧ Aside0 (Kd.R (Kd.int .i64) 3 wc w.heap.size (fun k_ => some k_ ≠ ((.slice Ao9 x3_3.length co9) : Value).ownBlock ∧ some k_ ≠ (v261 : Value).ownBlock) v267 x8_4) ∧ Aside0 (Below w.heap.size w wc))
                case first =>
                 have H := HC43.out
                 clear HC43
                 by_cases c44 : x7_3 < 4
                 ·rw [if_pos c44] at H
                  have c44b0 : decide (x7_3 < 4) = true := decide_eq_true c44
                  clear c44
                  (first | rw [c44b0] | (simp only [i64_w, i32_w]; rw [c44b0]) | skip)
                  have H' := Aside0.mk H
                  clear H
                  go_wp2
                  go_meet
                  case rel => exact ⟨_, (decide (t263 > 0)), (by first | rfl | (simp; done) | (simp [*]; done)), H', ⟨by have := HJ6.out; have := HJ15.out; have := HK3.out; have := HK4.out; first | omega | exact Nat.le_refl _⟩, ⟨by (try simp only [hl3_3]); (with_reducible repeat (first | apply Kd.R_alloc | apply Kd.R_drewN | apply Kd.R_drew)); exact HO_3.out⟩, ⟨by (try simp only [hl3_3]); (with_reducible repeat (first | apply Kd.R_alloc | apply Kd.R_drewN | apply Kd.R_drew)); exact HO_4.out⟩, ⟨by (try simp only [hl3_3]); (with_reducible repeat (first | apply Kd.R_alloc | apply Kd.R_drewN | apply Kd.R_drew)); exact HO_8.out⟩, ⟨by repeat (first | (with_reducible first | exact HB.out | apply below_alloc | apply pw_below_drewN | apply below_drew1) | exact HB.out)⟩⟩
                 ·rw [if_neg c44] at H
                  have c44b0 : decide (x7_3 < 4) = false := decide_eq_false c44
                  clear c44
                  (first | rw [c44b0] | (simp only [i64_w, i32_w]; rw [c44b0]) | skip)
                  have H' := Aside0.mk H
                  clear H
                  go_wp2
                  go_meet
                  case rel => exact ⟨_, (false), (by first | rfl | (simp; done) | (simp [*]; done)), H', ⟨by have := HJ6.out; have := HJ15.out; have := HK3.out; have := HK4.out; first | omega | exact Nat.le_refl _⟩, ⟨by (try simp only [hl3_3]); (with_reducible repeat (first | apply Kd.R_alloc | apply Kd.R_drewN | apply Kd.R_drew)); exact HO_3.out⟩, ⟨by (try simp only [hl3_3]); (with_reducible repeat (first | apply Kd.R_alloc | apply Kd.R_drewN | apply Kd.R_drew)); exact HO_4.out⟩, ⟨by (try simp only [hl3_3]); (with_reducible repeat (first | apply Kd.R_alloc | apply Kd.R_drewN | apply Kd.R_drew)); exact HO_8.out⟩, ⟨by repeat (first | (with_reducible first | exact HB.out | apply below_alloc | apply pw_below_drewN | apply below_drew1) | exact HB.out)⟩⟩
                case rest =>
                 clear HC43
                 try clear c1
                 try clear c2
                 try clear p2
                 try clear q2
                 try clear hx2
                 try clear c3
                 try clear p3
                 try clear q3
                 try clear hx3
                 try clear hf3
                 try clear c4
                 try clear c5
                 try clear p6
                 try clear c10
                 try clear c11
                 try clear c11b0
                 try clear c13
                 try clear c14
                 try clear c14b0
                 try clear c14b1
                 try clear c17
                 try clear c17b0
                 try clear c17b1
                 try clear c19
                 try clear c19b0
                 try clear c19b1
                 try clear c22
                 try clear c23
                 try clear c23b0
                 try clear c24
                 try clear c24b0
                 try clear c24b1
                 try clear c25
                 try clear c25b0
                 try clear c25b1
                 try clear c27
                 try clear p27
                 try clear q27
                 try clear hx27
                 try clear c28
                 try clear c28b0
                 try clear c30
                 try clear c30b0
                 try clear c31
                 try clear c31b0
                 try clear p32
                 try clear q32
                 try clear hx32
                 try clear hf32
                 try clear c33
                 try clear c33b0
                 try clear c34
                 try clear c34b0
                 try clear p35
                 try clear q35
                 try clear hx35
                 try clear hf35
                 try clear c44
                 try clear c44b0
                 try clear hx271_0
                 try clear hx32_0
                 try clear hx35_0
                 try clear p2
                 try clear p271
                 try clear p32
                 try clear p35
                 try clear q271
                 try clear q32
                 try clear q35
                 obtain ⟨kq, x88_42, rfl, HA, HJ42, HO_3, HO_4, HO_8, HB⟩ := hcut
                 cases kq with
                 | zero => exact absurd HA.out (by simp [laws_FnNearestWord.j4])
                 | succ kj42 =>
                  have H := HA.out
                  clear HA
                  simp only [laws_FnNearestWord.j4] at H
                  by_cases c45 : x88_42 = true
                  ·subst c45
                   have H1 : ((laws_at.f l0 x7_3).bind fun t273 => (if t263 = 0 then (none) else (if 0 ≤ (Int.tmod t273 t263) then (if (Int.tmod t273 t263) < (x8_4.length : Int) then ((impl_PathDistance.f kj42 (x8_4.set ((Int.tmod t273 t263) : Int).toNat (wrap64 (1 - (rd x8_4 (Int.tmod t273 t263))))) x3_3).bind fun t276 => (if t276 < t260 then (none) else (laws_FnNearestWord.l0 kj42 l0 x3_3 x4_3 t260 t263 (wrap64 (x7_3 + 1))))) else (none)) else (none)))) = some r := by rw [if_pos rfl] at H; exact H
                   clear H
                   have H := H1
                   clear H1
                   replace H := Option.bind_eq_some_iff.mp H
                   obtain ⟨t273, A460, H⟩ := H
                   replace H : (if t263 = 0 then (none) else (if 0 ≤ (Int.tmod t273 t263) then (if (Int.tmod t273 t263) < (x8_4.length : Int) then ((impl_PathDistance.f kj42 (x8_4.set ((Int.tmod t273 t263) : Int).toNat (wrap64 (1 - (rd x8_4 (Int.tmod t273 t263))))) x3_3).bind fun t276 => (if t276 < t260 then (none) else (laws_FnNearestWord.l0 kj42 l0 x3_3 x4_3 t260 t263 (wrap64 (x7_3 + 1))))) else (none)) else (none))) = some r := H
                   have A46 := Aside0.mk A460
                   clear A460
                   by_cases c47 : t263 = 0
                   ·rw [if_pos c47] at H
                    exact absurd H (by simp)
                   ·rw [if_neg c47] at H
                    have c47b0 : (t263 == 0) = false := beq_eq_false_iff_ne.mpr c47
                    have c47b1 : (t263 != 0) = true := bne_iff_ne.mpr c47
                    obtain ⟨ji48, hji48⟩ : ∃ j_ : Int, (Int.tmod t273 t263) = j_ := ⟨_, rfl⟩
                    replace H : (if 0 ≤ (ji48) then (if (ji48) < (x8_4.length : Int) then ((impl_PathDistance.f kj42 (x8_4.set ((ji48) : Int).toNat (wrap64 (1 - (rd x8_4 (ji48))))) x3_3).bind fun t276 => (if t276 < t260 then (none) else (laws_FnNearestWord.l0 kj42 l0 x3_3 x4_3 t260 t263 (wrap64 (x7_3 + 1))))) else (none)) else (none)) = some r := by first | (rw [hji48] at H; exact H) | (simp only [hji48] at H ⊢; exact H)
                    (try rw [hji48] at A46)
                    by_cases c49 : 0 ≤ (ji48)
                    ·rw [if_pos c49] at H
                     have c49b0 : decide (0 ≤ (ji48)) = true := decide_eq_true c49
                     clear c49
                     by_cases c50 : (ji48) < (x8_4.length : Int)
                     ·rw [if_pos c50] at H
                      have c50b0 : decide ((ji48) < (x8_4.length : Int)) = true := decide_eq_true c50
                      clear c50
                      obtain ⟨y275, hy275⟩ : ∃ y_ : List Int, y_ = (x8_4.set ((ji48) : Int).toNat (wrap64 (1 - (rd x8_4 (ji48))))) := ⟨_, rfl⟩
                      replace H : ((impl_PathDistance.f kj42 y275 x3_3).bind fun t276 => (if t276 < t260 then (none) else (laws_FnNearestWord.l0 kj42 l0 x3_3 x4_3 t260 t263 (wrap64 (x7_3 + 1))))) = some r := by first | (rw [hy275]; with_reducible exact H) | (have H2_ := (Option.bind_some _ _).symm.trans H; rw [hy275]; with_reducible exact H2_) | (have H2_ := (Option.bind_some _ _).symm.trans H; with_reducible exact H2_) | with_reducible exact H | (rw [hy275]; exact H) | exact H
                      have Ny275 := Aside0.mk hy275
                      clear hy275
                      replace H := Option.bind_eq_some_iff.mp H
                      obtain ⟨t276, A520, H⟩ := H
                      replace H : (if t276 < t260 then (none) else (laws_FnNearestWord.l0 kj42 l0 x3_3 x4_3 t260 t263 (wrap64 (x7_3 + 1)))) = some r := H
                      have A52 := Aside0.mk A520
                      clear A520
                      by_cases c53 : t276 < t260
                      ·rw [if_pos c53] at H
                       exact absurd H (by simp)
                      ·rw [if_neg c53] at H
                       have c53b0 : decide (t276 < t260) = false := decide_eq_false c53
                       clear c53
                       have H' := Aside0.mk H
                       clear H
                       go_wp2_with (first | ((with_reducible refine gate_callee (f := 34) rfl ?_); refine goesL_ (some 91) rfl rfl Try.func34 (by kernel_rfl) rfl #[.slice A0 l0.length c0, .int .i64 x7_3] rfl (by (try simp only [List.map_toArray, List.map_cons, List.map_nil]); first | done | rfl | (simp only [List.length_drop, List.length_take]; rfl)) ?_; (with_reducible refine (laws_at.calls _ _ l0 x7_3 t273 _ ?side1 ?side2 A46.out).mono ?_); (case side1 => repeat (first | exact (Kd.C_below HR0.out HB.out) | (with_reducible refine Kd.C_alloc ?_ _) | (with_reducible refine Kd.C_drewN ?_ _) | (with_reducible refine Kd.C_drew ?_))); (case side2 => exact HC0.out); rintro e w' ⟨rfl, ⟨nd, rfl⟩⟩; refine ⟨_, rfl, ?_⟩; (try (rw [drewN_self wc]; generalize hq_ : World.drewN wc _ = wc; have n0_ : Aside0 (Kd.R (Kd.int .i64) 3 wc w.heap.size (fun k_ => some k_ ≠ (v261 : Value).ownBlock ∧ some k_ ≠ (v267 : Value).ownBlock) (.slice Ao9 x3_3.length co9) x3_3) := ⟨by rw [← hq_]; exact (by (with_reducible repeat (first | apply Kd.R_alloc | apply Kd.R_drewN | apply Kd.R_drew)); exact HO_3.out)⟩; have n1_ : Aside0 (Kd.R (Kd.int .i64) 3 wc w.heap.size (fun k_ => some k_ ≠ (.slice Ao9 x3_3.length co9 : Value).ownBlock ∧ some k_ ≠ (v267 : Value).ownBlock) v261 x4_3) := ⟨by rw [← hq_]; exact (by (with_reducible repeat (first | apply Kd.R_alloc | apply Kd.R_drewN | apply Kd.R_drew)); exact HO_4.out)⟩; have n2_ : Aside0 (Kd.R (Kd.int .i64) 3 wc w.heap.size (fun k_ => some k_ ≠ (.slice Ao9 x3_3.length co9 : Value).ownBlock ∧ some k_ ≠ (v261 : Value).ownBlock) v267 x8_4) := ⟨by rw [← hq_]; exact (by (with_reducible repeat (first | apply Kd.R_alloc | apply Kd.R_drewN | apply Kd.R_drew)); exact HO_8.out)⟩; have n3_ : Aside0 (Below w.heap.size w wc) := ⟨by rw [← hq_]; exact (by repeat (first | (with_reducible first | exact HB.out | apply below_alloc | apply pw_below_drewN | apply below_drew1) | exact HB.out))⟩; clear HO_3 HO_4 HO_8 HB hq_; have HO_3 := n0_; have HO_4 := n1_; have HO_8 := n2_; have HB := n3_; clear n0_ n1_ n2_ n3_)); obtain ⟨Ao54, co54, eo54⟩ := Kd.R_slice HO_8.out; subst eo54; have p274 : 0 ≤ ((ji48) : Int) := of_decide_eq_true (by first | (with_reducible assumption) | assumption); have q274 : (ji48) < (x8_4.length : Int) := of_decide_eq_true (by first | (with_reducible assumption) | assumption); obtain ⟨ad274, e274, hx274_0⟩ := Kd.at_int (Kd.R_reads' HO_8.out).2.2 (ji48) p274 q274; cases e274; replace p274 := eq_true p274; replace q274 := eq_true q274; have p51 : 0 ≤ ((ji48) : Int) := of_decide_eq_true (by first | (with_reducible assumption) | assumption); have q51 : ((ji48) : Int) < ((x8_4.length : Int) : Int) := of_decide_eq_true (by first | (with_reducible assumption) | assumption); obtain ⟨go51, co51, eo51, gb51, gl51, cl51, HG51⟩ := Kd.R_form HO_8.out (by omega); (first | cases eo51 | (injection eo51 with ea_ en_ ec_; (first | subst ea_ | (injection ea_ with ea_; subst ea_)); subst ec_; clear en_)); have GB51 := Aside0.mk gb51; have GG51 := Aside0.mk HG51; clear gb51 gl51 HG51; (first | simp only [add_plain] at hx274_0 | skip); obtain ⟨hx51_0, hf51_0⟩ := Kd.R_celln 0 HO_8.out ((ji48) : Int) p51 q51; replace p51 := eq_true p51; replace q51 := eq_true q51; obtain ⟨hy55_, hz55_⟩ := Kd.R_celln 0 HO_8.out ((ji48) : Int) (of_decide_eq_true (by first | (with_reducible assumption) | assumption)) (of_decide_eq_true (by first | (with_reducible assumption) | assumption)); have HP55 := Kd.R_putg HO_8.out ((ji48) : Int) (wrap64 (1 - (rd x8_4 (ji48))))) | ((with_reducible refine gate_store (t := 3) (p := 101) rfl ?_); refine store_event (t := 3) (p := 101) (v := ?vo_w56) (w1 := (wc.setCell ⟨go51, ((ji48) : Int).toNat, none⟩ (.int .i64 (wrap64 (1 - (rd x8_4 (ji48))))))) ?hg ?ho ?hn ?hr ?_; (case ho => rfl); (case hg => rfl); (case hn => rfl); (case hr => first | (go_simp; done) | (go_simp; rfl)); intro w56 hw; have hg : wc.grownBy w56 (some go51) := (by rw [hw]; exact HP55.2); have hp_ : Kd.R (Kd.int .i64) 3 w56 w.heap.size (fun k_ => some k_ ≠ (.slice Ao9 x3_3.length co9 : Value).ownBlock ∧ some k_ ≠ (v261 : Value).ownBlock) (.slice (some ⟨go51, 0, none⟩) x8_4.length co54) y275 := (by rw [hw, Ny275.out]; exact HP55.1); clear HP55; have n0_ := Aside0.mk (Kd.R_after (v := (.slice (some ⟨go51, 0, none⟩) x8_4.length co54)) (v1 := (.slice (some ⟨go51, 0, none⟩) x8_4.length co54)) (ok := (fun k_ => some k_ ≠ (v261 : Value).ownBlock)) (by (with_reducible repeat (first | apply Kd.R_alloc | apply Kd.R_drewN | apply Kd.R_drew)); exact HO_3.out) hg (.inl rfl)); have n1_ := Aside0.mk (Kd.R_after (v := (.slice (some ⟨go51, 0, none⟩) x8_4.length co54)) (v1 := (.slice (some ⟨go51, 0, none⟩) x8_4.length co54)) (ok := (fun k_ => some k_ ≠ (.slice Ao9 x3_3.length co9 : Value).ownBlock)) (by (with_reducible repeat (first | apply Kd.R_alloc | apply Kd.R_drewN | apply Kd.R_drew)); exact HO_4.out) hg (.inl rfl)); have n2_ := Aside0.mk (hp_); have n3_ := Aside0.mk ((by rw [hw]; exact below_set (HB.out) GB51.out : Below w.heap.size w w56)); clear HO_3; clear HO_4; clear HO_8; clear HB; have HO_3 := n0_; have HO_4 := n1_; have HO_8 := n2_; have HB := n3_; clear n0_ n1_ n2_ n3_; clear hg hw hp_) | ((with_reducible refine gate_callee (f := 58) rfl ?_); refine goesL_ (some 104) rfl rfl Try.func58 (by kernel_rfl) rfl #[.slice (some ⟨go51, 0, none⟩) y275.length co54, .slice Ao9 x3_3.length co9] rfl (by (try simp only [List.map_toArray, List.map_cons, List.map_nil]); first | done | (rw [show y275.length = x8_4.length from (Kd.R_reads' HO_8.out).1.symm] <;> rfl) | rfl | (simp only [List.length_drop, List.length_take]; rfl)) ?_; (with_reducible refine (impl_PathDistance.calls kj42 _ _ y275 _ _ x3_3 t276 _ ?side1 ?side2 ?side3 ?side4 A52.out).mono ?_); (case side1 => repeat (first | exact (Kd.R_reads' HO_8.out).2.2 | (with_reducible refine Kd.C_alloc ?_ _) | (with_reducible refine Kd.C_drewN ?_ _) | (with_reducible refine Kd.C_drew ?_))); (case side2 => rw [show y275.length = x8_4.length from (Kd.R_reads' HO_8.out).1.symm]; exact (Kd.R_reads' HO_8.out).2.1); (case side3 => repeat (first | exact (Kd.R_reads' HO_3.out).2.2 | (with_reducible refine Kd.C_alloc ?_ _) | (with_reducible refine Kd.C_drewN ?_ _) | (with_reducible refine Kd.C_drew ?_))); (case side4 => exact (Kd.R_reads' HO_3.out).2.1); rintro e w57 ⟨rfl, hb⟩; refine ⟨_, rfl, ?_⟩; have n0_ := Aside0.mk (Kd.R_below (by (with_reducible repeat (first | apply Kd.R_alloc | apply Kd.R_drewN | apply Kd.R_drew)); exact HO_3.out) hb); have n1_ := Aside0.mk (Kd.R_below (by (with_reducible repeat (first | apply Kd.R_alloc | apply Kd.R_drewN | apply Kd.R_drew)); exact HO_4.out) hb); have n2_ := Aside0.mk (Kd.R_below (by (with_reducible repeat (first | apply Kd.R_alloc | apply Kd.R_drewN | apply Kd.R_drew)); exact HO_8.out) hb); have n3_ := Aside0.mk (below_step (by repeat (first | (with_reducible first | exact HB.out | apply below_alloc | apply pw_below_drewN | apply below_drew1) | exact HB.out)) hb); clear HO_3; clear HO_4; clear HO_8; clear HB; have HO_3 := n0_; have HO_4 := n1_; have HO_8 := n2_; have HB := n3_; clear n0_ n1_ n2_ n3_; (try clear hb); (try clear hb2); (try clear hk); (try clear hi)))
                       (try simp only [← hl3_3])
                       go_roundg kj42
                       case measure => have := HJ6.out; have := HJ15.out; have := HK3.out; have := HK4.out; have := HJ42.out; omega
                       case rel => exact ⟨(x3_3), (x4_3), (wrap64 (x7_3 + 1)), (by first | rfl | (simp; done) | (simp [*]; done)), H', ⟨by have := HJ6.out; have := HJ15.out; have := HK3.out; have := HK4.out; have := HJ42.out; omega⟩, ⟨by (try simp only [hl3_3]); (with_reducible repeat (first | apply Kd.R_alloc | apply Kd.R_drewN | apply Kd.R_drew)); exact Kd.R_mono HO_3.out (fun _ hk => hk.1)⟩, ⟨by (try simp only [hl3_3]); (with_reducible repeat (first | apply Kd.R_alloc | apply Kd.R_drewN | apply Kd.R_drew)); exact Kd.R_mono HO_4.out (fun _ hk => hk.1)⟩, ⟨by repeat (first | (with_reducible first | exact HB.out | apply below_alloc | apply pw_below_drewN | apply below_drew1) | exact HB.out)⟩⟩
                     ·rw [if_neg c50] at H
                      exact absurd H (by simp)
                    ·rw [if_neg c49] at H
                     exact absurd H (by simp)
                  ·replace c45 := Bool.eq_false_iff.mpr c45
                   subst c45
                   have H1 : ((impl_PathDistance.f kj42 x8_4 x3_3).bind fun t277 => (if t277 < t260 then (none) else (laws_FnNearestWord.l0 kj42 l0 x3_3 x4_3 t260 t263 (wrap64 (x7_3 + 1))))) = some r := by rw [if_neg (show ¬ (false = true) by decide)] at H; exact H
                   clear H
                   have H := H1
                   clear H1
                   replace H := Option.bind_eq_some_iff.mp H
                   obtain ⟨t277, A580, H⟩ := H
                   replace H : (if t277 < t260 then (none) else (laws_FnNearestWord.l0 kj42 l0 x3_3 x4_3 t260 t263 (wrap64 (x7_3 + 1)))) = some r := H
                   have A58 := Aside0.mk A580
                   clear A580
                   by_cases c59 : t277 < t260
                   ·rw [if_pos c59] at H
                    exact absurd H (by simp)
                   ·rw [if_neg c59] at H
                    have c59b0 : decide (t277 < t260) = false := decide_eq_false c59
                    clear c59
                    have H' := Aside0.mk H
                    clear H
                    obtain ⟨Ao60, co60, eo60⟩ := Kd.R_slice HO_8.out
                    subst eo60
                    go_wp2_with (first | ((with_reducible refine gate_callee (f := 58) rfl ?_); refine goesL_ (some 104) rfl rfl Try.func58 (by kernel_rfl) rfl #[.slice Ao60 x8_4.length co60, .slice Ao9 x3_3.length co9] rfl (by (try simp only [List.map_toArray, List.map_cons, List.map_nil]); first | done | rfl | (simp only [List.length_drop, List.length_take]; rfl)) ?_; (with_reducible refine (impl_PathDistance.calls kj42 _ _ x8_4 _ _ x3_3 t277 _ ?side1 ?side2 ?side3 ?side4 A58.out).mono ?_); (case side1 => repeat (first | exact (Kd.R_reads' HO_8.out).2.2 | (with_reducible refine Kd.C_alloc ?_ _) | (with_reducible refine Kd.C_drewN ?_ _) | (with_reducible refine Kd.C_drew ?_))); (case side2 => exact (Kd.R_reads' HO_8.out).2.1); (case side3 => repeat (first | exact (Kd.R_reads' HO_3.out).2.2 | (with_reducible refine Kd.C_alloc ?_ _) | (with_reducible refine Kd.C_drewN ?_ _) | (with_reducible refine Kd.C_drew ?_))); (case side4 => exact (Kd.R_reads' HO_3.out).2.1); rintro e w61 ⟨rfl, hb⟩; refine ⟨_, rfl, ?_⟩; have n0_ := Aside0.mk (Kd.R_below (by (with_reducible repeat (first | apply Kd.R_alloc | apply Kd.R_drewN | apply Kd.R_drew)); exact HO_3.out) hb); have n1_ := Aside0.mk (Kd.R_below (by (with_reducible repeat (first | apply Kd.R_alloc | apply Kd.R_drewN | apply Kd.R_drew)); exact HO_4.out) hb); have n2_ := Aside0.mk (Kd.R_below (by (with_reducible repeat (first | apply Kd.R_alloc | apply Kd.R_drewN | apply Kd.R_drew)); exact HO_8.out) hb); have n3_ := Aside0.mk (below_step (by repeat (first | (with_reducible first | exact HB.out | apply below_alloc | apply pw_below_drewN | apply below_drew1) | exact HB.out)) hb); clear HO_3; clear HO_4; clear HO_8; clear HB; have HO_3 := n0_; have HO_4 := n1_; have HO_8 := n2_; have HB := n3_; clear n0_ n1_ n2_ n3_; (try clear hb); (try clear hb2); (try clear hk); (try clear hi)))
                    (try simp only [← hl3_3])
                    go_roundg kj42
                    case measure => have := HJ6.out; have := HJ15.out; have := HK3.out; have := HK4.out; have := HJ42.out; omega
                    case rel => exact ⟨(x3_3), (x4_3), (wrap64 (x7_3 + 1)), (by first | rfl | (simp; done) | (simp [*]; done)), H', ⟨by have := HJ6.out; have := HJ15.out; have := HK3.out; have := HK4.out; have := HJ42.out; omega⟩, ⟨by (try simp only [hl3_3]); (with_reducible repeat (first | apply Kd.R_alloc | apply Kd.R_drewN | apply Kd.R_drew)); exact Kd.R_mono HO_3.out (fun _ hk => hk.1)⟩, ⟨by (try simp only [hl3_3]); (with_reducible repeat (first | apply Kd.R_alloc | apply Kd.R_drewN | apply Kd.R_drew)); exact Kd.R_mono HO_4.out (fun _ hk => hk.1)⟩, ⟨by repeat (first | (with_reducible first | exact HB.out | apply below_alloc | apply pw_below_drewN | apply below_drew1) | exact HB.out)⟩⟩
            ·rw [if_neg c25] at H
             exact absurd H (by simp)
           ·rw [if_neg c24] at H
            exact absurd H (by simp)
          ·rw [if_neg c23] at H
           have c23b0 : decide (x7_3 < 8) = false := decide_eq_false c23
           clear c23
           obtain rfl := Option.some.inj H
           go_wp2
           go_ret
           exact ⟨by first | rfl | exact congrArg (fun z_ : Int => Ending.returned (Value.int .i64 z_)) (i64_w _) | (simp [errW_none, errW_some] <;> rfl) | (simp [*, errW_none, errW_some] <;> rfl), by repeat (first | (with_reducible first | exact HB.out | apply below_alloc | apply pw_below_drewN | apply below_drew1) | exact HB.out)⟩

/-- THE ONE PURE STATEMENT of laws_FnNearestWord: yours. -/
def laws_FnNearestWord.Pure : Prop := ∀ (l0 : List Int), l0.length ≤ maxLen → l0.length * 1 ≤ 140737488351232 → (∀ x ∈ l0, (Lit.int .u8 x).wf = true) → ∃ k, laws_FnNearestWord.f k l0 = some true
theorem laws_FnNearestWord.walk (P : laws_FnNearestWord.Pure) (a0 : Option Addr) (len0 cap0 : Nat) (z0 : List Int) (w : World) (w0 : (a0 = none ∧ len0 = 0 ∧ cap0 = 0 ∧ z0 = []) ∨ ∃ x, a0 = some x ∧ len0 ≤ cap0 ∧ cap0 ≤ maxLen ∧ z0.length = cap0 ∧ (∀ i, i < z0.length → w.cell? (x.add i) = some (.int .u8 (z0.getD i 0))) ∧ ∀ n ∈ z0, (Lit.int .u8 n).wf = true) (y0 : len0 * 1 ≤ 140737488351232) :
  Calls Try.prog 10 #[.slice a0 len0 cap0] w fun e w' => e = .returned (.bool true) ∧ Below w.heap.size w w' := by
 obtain ⟨l0, rfl, hr0, hm0, hw0, hc0⟩ := ReadsInt.ofRowC w0
 obtain ⟨k, h⟩ := P l0 hm0 y0 hw0
 refine (laws_FnNearestWord.calls k _ _ l0 true w (Kd.C_of_reads (d := (0 : Int)) (h1 := fun _ => rfl) hr0) hc0 h).mono ?_
 rintro e w' ⟨rfl, hd⟩
 exact ⟨rfl, hd⟩

end Go.Proofs.Ytldbmljooafkcaa.PFnNearestWord
