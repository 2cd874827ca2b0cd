/- Contracts of Go functions. Conditions: the arguments read as the Lean function's. Written by print2.py, shrink.py (this session's). -/
import Derived.Test.YtldbmljooafkcaaPFnPhysicalFramesx0
import Derived.Test.YtldbmljooafkcaaPFnPhysicalFramesx1
import Derived.Test.YtldbmljooafkcaaPFnPhysicalFramesx2
import Derived.Test.YtldbmljooafkcaaPFnPhysicalFramesx8
import Derived.Test.YtldbmljooafkcaaPFnPhysicalFramesx10
import Derived.Test.YtldbmljooafkcaaPFnPhysicalFramesx12
namespace Go.Proofs.Ytldbmljooafkcaa.PFnPhysicalFrames
open Go.RowKit Go.Proofs.YtldbmljooafkcaaW.PrintWords Go.Proofs.YtldbmljooafkcaaW.PrintLast Go.Proofs.YtldbmljooafkcaaW.PrintMore
open Go.Proofs.YtldbmljooafkcaaW.PrintWords renaming below_alloc → zA, below_drew1 → zB, below_set → zC, below_size → zD, below_step → zE, blk_alloc → zF, blk_below → zG, blk_cell → zH, blk_drew → zI, blk_drewN → zJ, blk_frozen → zK, pw_below_drewN → zL, gate_callee → zM, gate_dst → zN
open Go.Proofs.YtldbmljooafkcaaW.PrintWords.Aside0 renaming mk → zO
open Go.Proofs.YtldbmljooafkcaaW.PrintWords.Kd renaming C_alloc → zR, C_drew → zS, C_drewN → zT, R_alloc → zU, R_drew → zV, R_drewN → zW, R_reads' → zX, R_below → zY, R_far → zZ, R_lower → yA
open Option renaming bind_eq_some_iff → yE
open List renaming setIfInBounds_toArray → yF, set_cons_zero → yG, set_cons_succ → yH, length_take → yI, length_drop → yJ, map_toArray → yK, map_cons → yL, map_nil → yM
set_option maxHeartbeats 8000000
set_option maxRecDepth 100000
attribute [local go_sem] max2_int min2_int max_two min_two max_three min_three max_four min_four
set_option linter.unusedVariables false
set_option linter.unusedSimpArgs false

attribute [local go_sem high] eqA24
def laws_FnPhysicalFrames.j0 : Nat → List Int → List Int → Bool → Int → Int → Int → Option (Bool)
 | 0, _, _, _, _, _, _ => none
 | k + 1, x4, x5, x31, x512000, x512001, x512002 => if x31 = true then (if (x5.length : Int) = 0 then ((impl_FrameSymbols.f x512000 x512001 x512002).bind fun t516 => ((spec_IsValidHeader.f x512000 x512001 x512002).bind fun t517 => (some ((t516 == 0) == (!t517))))) else (none)) else ((impl_ReceiveFrame.f k x5).bind fun bt518 => ((spec_Min.f (x5.length : Int) 54).bind fun t526 => (if 0 ≤ t526 then (if t526 ≤ (x5.length : Int) then ((impl_ReceiveFrame.f k (x5.take (t526 : Int).toNat)).bind fun bt531 => ((impl_FrameSymbols.f x512000 x512001 x512002).bind fun t539 => (if (x5.length : Int) = t539 then (if bt518.2.2.2.2 = 0 then (if (bt518.1 == x512000 && (bt518.2.1 == x512001 && (bt518.2.2.1 == x512002))) = true then ((laws_sameBytes.f k bt518.2.2.2.1 x4).bind fun t540 => (if t540 = true then (some (bt531.2.2.2.2 == 1)) else (none))) else (none)) else (none)) else (none)))) else (none)) else (none))))
def laws_FnPhysicalFrames.f (k : Nat) (l0 : List Int) : Option (Bool) := (laws_big.f l0).bind fun t504 => (if t504 = true then (some true) else ((spec_DrawTransmitFrame.f k l0).bind fun bt505 => ((impl_TransmitFrame.f k bt505.1 bt505.2.1 bt505.2.2.1 bt505.2.2.2).bind fun t512 => ((spec_IsValidHeader.f bt505.1 bt505.2.1 bt505.2.2.1).bind fun t515 => (if t515 = true then (laws_FnPhysicalFrames.j0 k bt505.2.2.2 t512 ((bt505.2.2.2.length : Int) != bt505.2.1) bt505.1 bt505.2.1 bt505.2.2.1) else (laws_FnPhysicalFrames.j0 k bt505.2.2.2 t512 true bt505.1 bt505.2.1 bt505.2.2.1))))))
def laws_FnPhysicalFrames.T6 : Bool × List (List Nat × List Nat) := (true, [([], []), ([0], [0]), ([1], [1]), ([2], [2]), ([3], [3]), ([4, 3, 3], [3, 4]), ([5, 3], [3, 5]), ([3], [3]), ([7, 5, 3], [3, 7]), ([8, 3], [3, 8]), ([6, 9, 3], [3, 6, 9]), ([3, 10], [3, 10]), ([11, 8, 0, 1, 2, 3, 4, 5, 6, 7, 8, 9, 10, 11], [11])])
def laws_FnPhysicalFrames.B6 : List Nat := [0, 1, 3, 7, 15, 31, 63, 15, 191, 447, 1023, 2047, 4095]
theorem laws_FnPhysicalFrames.tab6 : rtab .any (opsOf Try.f12 6) = laws_FnPhysicalFrames.T6 := by kernel_rfl
theorem laws_FnPhysicalFrames.bits6 : waitsOk laws_FnPhysicalFrames.T6.2 laws_FnPhysicalFrames.B6 = true := by kernel_rfl
theorem laws_FnPhysicalFrames.calls (k : Nat) (A0 : Option Addr) (c0 : Nat) (l0 : List Int) (r : Bool) (w : World) (hr0 : Kd.C (Kd.int .u8) w A0 l0.length l0) (hc0 : l0.length ≤ c0) (h : laws_FnPhysicalFrames.f k l0 = some r) :
  Calls Try.prog 12 #[.slice A0 l0.length c0] w fun e w' => e = .returned (.bool r) ∧ Below w.heap.size w w' := by
 have hu24 := Try.underlying24
 have HR0 := zO hr0
 have HC0 := zO hc0
 clear hr0 hc0
 have HB := zO (Below.refl w.heap.size w)
 have H : ((laws_big.f l0).bind fun t504 => (if t504 = true then (some true) else ((spec_DrawTransmitFrame.f k l0).bind fun bt505 => ((impl_TransmitFrame.f k bt505.1 bt505.2.1 bt505.2.2.1 bt505.2.2.2).bind fun t512 => ((spec_IsValidHeader.f bt505.1 bt505.2.1 bt505.2.2.1).bind fun t515 => (if t515 = true then (laws_FnPhysicalFrames.j0 k bt505.2.2.2 t512 ((bt505.2.2.2.length : Int) != bt505.2.1) bt505.1 bt505.2.1 bt505.2.2.1) else (laws_FnPhysicalFrames.j0 k bt505.2.2.2 t512 true bt505.1 bt505.2.1 bt505.2.2.1))))))) = some r := h
 clear h
 replace H := yE.mp H
 obtain ⟨t504, A20, H⟩ := H
 replace H : (if t504 = true then (some true) else ((spec_DrawTransmitFrame.f k l0).bind fun bt505 => ((impl_TransmitFrame.f k bt505.1 bt505.2.1 bt505.2.2.1 bt505.2.2.2).bind fun t512 => ((spec_IsValidHeader.f bt505.1 bt505.2.1 bt505.2.2.1).bind fun t515 => (if t515 = true then (laws_FnPhysicalFrames.j0 k bt505.2.2.2 t512 ((bt505.2.2.2.length : Int) != bt505.2.1) bt505.1 bt505.2.1 bt505.2.2.1) else (laws_FnPhysicalFrames.j0 k bt505.2.2.2 t512 true bt505.1 bt505.2.1 bt505.2.2.1)))))) = some r := H
 have A2 := zO A20
 clear A20
 by_cases c3 : t504 = true
 ·subst c3
  have H1 : (some true) = some r := by rw [if_pos rfl] at H; exact H
  clear H
  have H := H1
  clear H1
  obtain rfl := Option.some.inj H
  go_enter Try.func12, Try.ntmps12
  go_wp2_with (first | ((with_reducible refine zM (f := 27) rfl ?_); refine goesL_ (some 13) rfl rfl Try.func27 (by kernel_rfl) rfl #[.slice A0 l0.length c0] rfl (by (try simp only [yK, yL, yM]); first | done | rfl | (simp only [yJ, yI]; rfl)) ?_; (with_reducible refine (laws_big.calls _ _ l0 true _ ?side1 ?side2 A2.out).mono ?_); (case side1 => repeat (first | exact HR0.out | (with_reducible refine zR ?_ _) | (with_reducible refine zT ?_ _) | (with_reducible refine zS ?_))); (case side2 => exact HC0.out); rintro e w' ⟨rfl, ⟨nd, rfl⟩⟩; refine ⟨_, rfl, ?_⟩))
  go_ret
  exact ⟨by first | rfl | exact yP _ | (simp [errW_none, errW_some] <;> rfl) | (simp [*, errW_none, errW_some] <;> rfl), by repeat (first | exact HB.out | apply zA | apply zL | apply zB)⟩
 ·replace c3 := Bool.eq_false_iff.mpr c3
  subst c3
  have H1 : ((spec_DrawTransmitFrame.f k l0).bind fun bt505 => ((impl_TransmitFrame.f k bt505.1 bt505.2.1 bt505.2.2.1 bt505.2.2.2).bind fun t512 => ((spec_IsValidHeader.f bt505.1 bt505.2.1 bt505.2.2.1).bind fun t515 => (if t515 = true then (laws_FnPhysicalFrames.j0 k bt505.2.2.2 t512 ((bt505.2.2.2.length : Int) != bt505.2.1) bt505.1 bt505.2.1 bt505.2.2.1) else (laws_FnPhysicalFrames.j0 k bt505.2.2.2 t512 true bt505.1 bt505.2.1 bt505.2.2.1))))) = some r := by rw [if_neg (show ¬ (false = true) by decide)] at H; exact H
  clear H
  have H := H1
  clear H1
  replace H := yE.mp H
  obtain ⟨⟨t505, t506, t507, t508⟩, A40, H⟩ := H
  replace H : ((impl_TransmitFrame.f k t505 t506 t507 t508).bind fun t512 => ((spec_IsValidHeader.f t505 t506 t507).bind fun t515 => (if t515 = true then (laws_FnPhysicalFrames.j0 k t508 t512 ((t508.length : Int) != t506) t505 t506 t507) else (laws_FnPhysicalFrames.j0 k t508 t512 true t505 t506 t507)))) = some r := H
  have A4 := zO A40
  clear A40
  replace H := yE.mp H
  obtain ⟨t512, A50, H⟩ := H
  replace H : ((spec_IsValidHeader.f t505 t506 t507).bind fun t515 => (if t515 = true then (laws_FnPhysicalFrames.j0 k t508 t512 ((t508.length : Int) != t506) t505 t506 t507) else (laws_FnPhysicalFrames.j0 k t508 t512 true t505 t506 t507))) = some r := H
  have A5 := zO A50
  clear A50
  have HC6 := zO H
  clear H
  go_enter Try.func12, Try.ntmps12
  go_upto_region 5 with (first | ((with_reducible refine zM (f := 27) rfl ?_); refine goesL_ (some 13) rfl rfl Try.func27 (by kernel_rfl) rfl #[.slice A0 l0.length c0] rfl (by (try simp only [yK, yL, yM]); first | done | rfl | (simp only [yJ, yI]; rfl)) ?_; (with_reducible refine (laws_big.calls _ _ l0 false _ ?side1 ?side2 A2.out).mono ?_); (case side1 => repeat (first | exact HR0.out | (with_reducible refine zR ?_ _) | (with_reducible refine zT ?_ _) | (with_reducible refine zS ?_))); (case side2 => exact HC0.out); rintro e w' ⟨rfl, ⟨nd, rfl⟩⟩; refine ⟨_, rfl, ?_⟩) | ((with_reducible refine zM (f := 62) rfl ?_); refine goesL_ (some 16) rfl rfl Try.func62 (by kernel_rfl) rfl #[.slice A0 l0.length c0] rfl (by (try simp only [yK, yL, yM]); first | done | rfl | (simp only [yJ, yI]; rfl)) ?_; (with_reducible refine (spec_DrawTransmitFrame.calls k _ _ l0 t505 t506 t507 t508 _ ?side1 ?side2 A4.out).mono ?_); (case side1 => repeat (first | exact HR0.out | (with_reducible refine zR ?_ _) | (with_reducible refine zT ?_ _) | (with_reducible refine zS ?_))); (case side2 => exact HC0.out); rintro e w7 ⟨v509, rfl, ho0, hb⟩; refine ⟨_, rfl, ?_⟩; have n0_ := zO (yA ho0 (zD (by repeat (first | exact HB.out | apply zA | apply zL | apply zB)))); have n1_ := zO (zE (by repeat (first | exact HB.out | apply zA | apply zL | apply zB)) hb); clear HB; have HO510 := n0_; have HB := n1_; clear n0_ n1_; (try clear hb); (try clear hb2); (try clear hk); (try clear hi); (try clear ho0)) | ((with_reducible refine zN (N := 3) rfl ?_); (try (refine gate_guard (by rfl) ?_; dsimp only)); refine box_event ?hg (N := 3) ?hd (cs := #[.int .i64 0, .int .i64 0, .int .i64 0]) (t := 24) ?hr ?_; (case hd => rfl); (case hg => rfl); (case hr => first | (go_simp; done) | (go_simp; rfl)); intro gb511 hg w8 hbox hb; have n0_ := zO (zY (by (with_reducible repeat (first | apply zU | apply zW | apply zV)); exact HO510.out) hb); have n1_ := zO (zE (by repeat (first | exact HB.out | apply zA | apply zL | apply zB)) hb); have n2_ := zO (hbox); have n3_ := zO ((by rw [hg]; exact (zD (by repeat (first | exact HB.out | apply zA | apply zL | apply zB))) : w.heap.size ≤ gb511)); have n4_ := zO ((by rw [hg]; exact (zD (by repeat (first | exact HB.out | apply zA | apply zL | apply zB))) : w.heap.size ≤ gb511)); clear HO510; clear HB; have HO510 := n0_; have HB := n1_; have BK511 := n2_; have GW511 := n3_; have GE511 := n4_; clear n0_ n1_ n2_ n3_ n4_; clear hb hbox hg; have hcz9_0 : w8.cell? ⟨gb511, 0, none⟩ = some (.int .i64 0) := (zH BK511.out 0).trans rfl; have hcz9_1 : w8.cell? ⟨gb511, 1, none⟩ = some (.int .i64 0) := (zH BK511.out 1).trans rfl; have hcz9_2 : w8.cell? ⟨gb511, 2, none⟩ = some (.int .i64 0) := (zH BK511.out 2).trans rfl; have hfz9_0 := zK BK511.out 0; have hfz9_1 := zK BK511.out 1; have hfz9_2 := zK BK511.out 2; obtain ⟨Ao10, co10, eo10⟩ := Kd.R_slice HO510.out; subst eo10) | ((with_reducible refine zM (f := 63) rfl ?_); refine goesL_ (some 21) rfl rfl Try.func63 (by kernel_rfl) rfl #[.agg #[.int .i64 t505, .int .i64 t506, .int .i64 t507], .slice Ao10 t508.length co10] rfl (by (try simp only [yK, yL, yM]); first | done | rfl | (simp only [yJ, yI]; rfl)) ?_; (with_reducible refine (impl_TransmitFrame.calls k t505 t506 t507 _ _ t508 t512 _ ?side1 ?side2 A5.out).mono ?_); (case side1 => refine (zX (e := 5) (base := w.heap.size) (ok := fun k_ => True) (n := t508.length) (c := co10) ?_).2.2; exact (by (with_reducible repeat (first | apply zU | apply zW | apply zV)); exact (Kd.R_mono (zZ (p := ⟨gb511, 2, none⟩) (zZ (p := ⟨gb511, 1, none⟩) (zZ (p := ⟨gb511, 0, none⟩) (Kd.R_types HO510.out BK511.out (by decide)) (fun _ hk => hk.2) (.int .i64 t505)) (fun _ hk => hk.2) (.int .i64 t506)) (fun _ hk => hk.2) (.int .i64 t507)) (fun _ h_ => h_.1)))); (case side2 => exact (zX HO510.out).2.1); rintro e w11 ⟨v513, rfl, ho0, hb⟩; refine ⟨_, rfl, ?_⟩; have n0_ := zO (zY (by (with_reducible repeat (first | apply zU | apply zW | apply zV)); exact (Kd.R_mono (zZ (p := ⟨gb511, 2, none⟩) (zZ (p := ⟨gb511, 1, none⟩) (zZ (p := ⟨gb511, 0, none⟩) (Kd.R_types HO510.out BK511.out (by decide)) (fun _ hk => hk.2) (.int .i64 t505)) (fun _ hk => hk.2) (.int .i64 t506)) (fun _ hk => hk.2) (.int .i64 t507)) (fun _ h_ => h_.1))) hb); have n1_ := zO (yA ho0 (zD (by repeat (first | (with_reducible first | exact HB.out | apply zA | apply zL | apply zB | refine zC ?_ GE511.out) | exact HB.out)))); have n2_ := zO (zG (g := gb511) (o := .cells #[.int .i64 t505, .int .i64 t506, .int .i64 t507] 24 (0, 0)) (by (with_reducible repeat (first | refine zJ ?_ _ | refine zI ?_ | refine zF ?_ _)); refine blk_put (cs := #[.int .i64 t505, .int .i64 t506, .int .i64 0]) ?_ 2 _ rfl; (with_reducible repeat (first | refine zJ ?_ _ | refine zI ?_ | refine zF ?_ _)); refine blk_put (cs := #[.int .i64 t505, .int .i64 0, .int .i64 0]) ?_ 1 _ rfl; (with_reducible repeat (first | refine zJ ?_ _ | refine zI ?_ | refine zF ?_ _)); refine blk_put (cs := #[.int .i64 0, .int .i64 0, .int .i64 0]) ?_ 0 _ rfl; (with_reducible repeat (first | refine zJ ?_ _ | refine zI ?_ | refine zF ?_ _)); exact BK511.out) hb); have n3_ := zO (zE (by repeat (first | (with_reducible first | exact HB.out | apply zA | apply zL | apply zB | refine zC ?_ GE511.out) | exact HB.out)) hb); clear HO510; clear BK511; clear HB; have HO510 := n0_; have HO514 := n1_; have BK511 := n2_; have HB := n3_; clear n0_ n1_ n2_ n3_; (try clear hb); (try clear hb2); (try clear hk); (try clear hi); (try clear ho0)))
  (try simp only [Act.put, yF, yG, yH])
  go_cut [31] (fun v31 wc => ∃ (kq : Nat) (x31_5 : Bool), v31 = .bool x31_5 ∧ Aside0 (laws_FnPhysicalFrames.j0 kq t508 t512 x31_5 t505 t506 t507 = some r) ∧ Aside0 (kq ≤ k) ∧ Aside0 (Kd.R (Kd.int .u8) 5 wc w.heap.size (fun _ => True) (.slice Ao10 t508.length co10) t508) ∧ Aside0 (Kd.R (Kd.int .i64) 3 wc w.heap.size (fun _ => True) v513 t512) ∧ Aside0 (wc.heap[gb511]? = some (.cells #[.int .i64 t505, .int .i64 t506, .int .i64 t507] 24 (0, 0))) ∧ Aside0 (Below w.heap.size w wc))
  case first =>
   have H := HC6.out
   clear HC6
   replace H := yE.mp H
   obtain ⟨t515, A120, H⟩ := H
   replace H : (if t515 = true then (laws_FnPhysicalFrames.j0 k t508 t512 ((t508.length : Int) != t506) t505 t506 t507) else (laws_FnPhysicalFrames.j0 k t508 t512 true t505 t506 t507)) = some r := H
   have A12 := zO A120
   clear A120
   by_cases c13 : t515 = true
   ·subst c13
    have H1 : (laws_FnPhysicalFrames.j0 k t508 t512 ((t508.length : Int) != t506) t505 t506 t507) = some r := by rw [if_pos rfl] at H; exact H
    clear H
    have H := H1
    clear H1
    have H' := zO H
    clear H
    have hcz14_0 : w11.cell? ⟨gb511, 0, none⟩ = some (.int .i64 t505) := (zH BK511.out 0).trans rfl
    have hcz14_1 : w11.cell? ⟨gb511, 1, none⟩ = some (.int .i64 t506) := (zH BK511.out 1).trans rfl
    have hcz14_2 : w11.cell? ⟨gb511, 2, none⟩ = some (.int .i64 t507) := (zH BK511.out 2).trans rfl
    have hfz14_0 := zK BK511.out 0
    have hfz14_1 := zK BK511.out 1
    have hfz14_2 := zK BK511.out 2
    go_wp2_with (first | ((with_reducible refine zM (f := 64) rfl ?_); refine goesL_ (some 23) rfl rfl Try.func64 (by kernel_rfl) rfl #[.agg #[.int .i64 t505, .int .i64 t506, .int .i64 t507]] rfl (by (try simp only [yK, yL, yM]); first | done | rfl | (simp only [yJ, yI]; rfl)) ?_; (with_reducible refine (spec_IsValidHeader.calls t505 t506 t507 true _ A12.out).mono ?_); rintro e w15 ⟨rfl, hb⟩; refine ⟨_, rfl, ?_⟩; have n0_ := zO (zY (by (with_reducible repeat (first | apply zU | apply zW | apply zV)); exact HO510.out) hb); have n1_ := zO (zY (by (with_reducible repeat (first | apply zU | apply zW | apply zV)); exact HO514.out) hb); have n2_ := zO (zG (g := gb511) (o := .cells #[.int .i64 t505, .int .i64 t506, .int .i64 t507] 24 (0, 0)) (by (with_reducible repeat (first | refine zJ ?_ _ | refine zI ?_ | refine zF ?_ _)); exact BK511.out) hb); have n3_ := zO (zE (by repeat (first | (with_reducible first | exact HB.out | apply zA | apply zL | apply zB | refine zC ?_ GE511.out) | exact HB.out)) hb); clear HO510; clear HO514; clear BK511; clear HB; have HO510 := n0_; have HO514 := n1_; have BK511 := n2_; have HB := n3_; clear n0_ n1_ n2_ n3_; (try clear hb); (try clear hb2); (try clear hk); (try clear hi); have hcz16_0 : w15.cell? ⟨gb511, 0, none⟩ = some (.int .i64 t505) := (zH BK511.out 0).trans rfl; have hcz16_1 : w15.cell? ⟨gb511, 1, none⟩ = some (.int .i64 t506) := (zH BK511.out 1).trans rfl; have hcz16_2 : w15.cell? ⟨gb511, 2, none⟩ = some (.int .i64 t507) := (zH BK511.out 2).trans rfl; have hfz16_0 := zK BK511.out 0; have hfz16_1 := zK BK511.out 1; have hfz16_2 := zK BK511.out 2))
    go_meet
    case rel => exact ⟨_, (((t508.length : Int) != t506)), (by first | rfl | (simp; done) | (simp [*]; done)), H', ⟨by first | omega | exact Nat.le_refl _⟩, ⟨by (with_reducible repeat (first | apply zU | apply zW | apply zV)); exact HO510.out⟩, ⟨by (with_reducible repeat (first | apply zU | apply zW | apply zV)); exact HO514.out⟩, ⟨by (with_reducible repeat (first | refine zJ ?_ _ | refine zI ?_ | refine zF ?_ _)); exact BK511.out⟩, ⟨by repeat (first | (with_reducible first | exact HB.out | apply zA | apply zL | apply zB | refine zC ?_ GE511.out) | exact HB.out)⟩⟩
   ·replace c13 := Bool.eq_false_iff.mpr c13
    subst c13
    have H1 : (laws_FnPhysicalFrames.j0 k t508 t512 true t505 t506 t507) = some r := by rw [if_neg (show ¬ (false = true) by decide)] at H; exact H
    clear H
    have H := H1
    clear H1
    have H' := zO H
    clear H
    have hcz17_0 : w11.cell? ⟨gb511, 0, none⟩ = some (.int .i64 t505) := (zH BK511.out 0).trans rfl
    have hcz17_1 : w11.cell? ⟨gb511, 1, none⟩ = some (.int .i64 t506) := (zH BK511.out 1).trans rfl
    have hcz17_2 : w11.cell? ⟨gb511, 2, none⟩ = some (.int .i64 t507) := (zH BK511.out 2).trans rfl
    have hfz17_0 := zK BK511.out 0
    have hfz17_1 := zK BK511.out 1
    have hfz17_2 := zK BK511.out 2
    go_wp2_with (first | ((with_reducible refine zM (f := 64) rfl ?_); refine goesL_ (some 23) rfl rfl Try.func64 (by kernel_rfl) rfl #[.agg #[.int .i64 t505, .int .i64 t506, .int .i64 t507]] rfl (by (try simp only [yK, yL, yM]); first | done | rfl | (simp only [yJ, yI]; rfl)) ?_; (with_reducible refine (spec_IsValidHeader.calls t505 t506 t507 false _ A12.out).mono ?_); rintro e w18 ⟨rfl, hb⟩; refine ⟨_, rfl, ?_⟩; have n0_ := zO (zY (by (with_reducible repeat (first | apply zU | apply zW | apply zV)); exact HO510.out) hb); have n1_ := zO (zY (by (with_reducible repeat (first | apply zU | apply zW | apply zV)); exact HO514.out) hb); have n2_ := zO (zG (g := gb511) (o := .cells #[.int .i64 t505, .int .i64 t506, .int .i64 t507] 24 (0, 0)) (by (with_reducible repeat (first | refine zJ ?_ _ | refine zI ?_ | refine zF ?_ _)); exact BK511.out) hb); have n3_ := zO (zE (by repeat (first | (with_reducible first | exact HB.out | apply zA | apply zL | apply zB | refine zC ?_ GE511.out) | exact HB.out)) hb); clear HO510; clear HO514; clear BK511; clear HB; have HO510 := n0_; have HO514 := n1_; have BK511 := n2_; have HB := n3_; clear n0_ n1_ n2_ n3_; (try clear hb); (try clear hb2); (try clear hk); (try clear hi)))
    go_meet
    case rel => exact ⟨_, (true), (by first | rfl | (simp; done) | (simp [*]; done)), H', ⟨by first | omega | exact Nat.le_refl _⟩, ⟨by (with_reducible repeat (first | apply zU | apply zW | apply zV)); exact HO510.out⟩, ⟨by (with_reducible repeat (first | apply zU | apply zW | apply zV)); exact HO514.out⟩, ⟨by (with_reducible repeat (first | refine zJ ?_ _ | refine zI ?_ | refine zF ?_ _)); exact BK511.out⟩, ⟨by repeat (first | (with_reducible first | exact HB.out | apply zA | apply zL | apply zB | refine zC ?_ GE511.out) | exact HB.out)⟩⟩
  case rest =>
   clear HC6
   try clear c1
   try clear c2
   try clear p2
   try clear c3
   try clear c6
   try clear c12
   try clear c13
   try clear hcz14_0
   try clear hcz14_1
   try clear hcz14_2
   try clear hcz16_0
   try clear hcz16_1
   try clear hcz16_2
   try clear hcz17_0
   try clear hcz17_1
   try clear hcz17_2
   try clear hcz9_0
   try clear hcz9_1
   try clear hcz9_2
   try clear hfz14_0
   try clear hfz14_1
   try clear hfz14_2
   try clear hfz16_0
   try clear hfz16_1
   try clear hfz16_2
   try clear hfz17_0
   try clear hfz17_1
   try clear hfz17_2
   try clear hfz9_0
   try clear hfz9_1
   try clear hfz9_2
   obtain ⟨kq, x31_5, rfl, HA, HJ5, HO_4, HO_5, BK511, HB⟩ := hcut
   cases kq with
   | zero => exact absurd HA.out (by simp [laws_FnPhysicalFrames.j0])
   | succ kj5 =>
    have H := HA.out
    clear HA
    simp only [laws_FnPhysicalFrames.j0] at H
    by_cases c19 : x31_5 = true
    ·subst c19
     have H1 : (if (t512.length : Int) = 0 then ((impl_FrameSymbols.f t505 t506 t507).bind fun t516 => ((spec_IsValidHeader.f t505 t506 t507).bind fun t517 => (some ((t516 == 0) == (!t517))))) else (none)) = some r := by rw [if_pos rfl] at H; exact H
     clear H
     have H := H1
     clear H1
     by_cases c20 : (t512.length : Int) = 0
     ·rw [if_pos c20] at H
      have c20b0 : ((t512.length : Int) == 0) = true := beq_iff_eq.mpr c20
      have c20b1 : ((t512.length : Int) != 0) = false := bne_eq_false_iff_eq.mpr c20
      clear c20
      replace H := yE.mp H
      obtain ⟨t516, A210, H⟩ := H
      replace H : ((spec_IsValidHeader.f t505 t506 t507).bind fun t517 => (some ((t516 == 0) == (!t517)))) = some r := H
      have A21 := zO A210
      clear A210
      replace H := yE.mp H
      obtain ⟨t517, A220, H⟩ := H
      replace H : (some ((t516 == 0) == (!t517))) = some r := H
      have A22 := zO A220
      clear A220
      obtain rfl := Option.some.inj H
      try go_wp2
      have n0_ := zO (zV HO_4.out)
      have n1_ := zO (zV HO_5.out)
      have n2_ := zO (zI BK511.out)
      have n3_ := zO (zB HB.out)
      clear HO_4
      clear HO_5
      clear BK511
      clear HB
      have HO_4 := n0_
      have HO_5 := n1_
      have BK511 := n2_
      have HB := n3_
      clear n0_ n1_ n2_ n3_
      obtain ⟨Ao24, co24, eo24⟩ := Kd.R_slice HO_5.out
      (first | subst eo24 | (injection eo24 with f1_ f2_ f3_; have f4_ := f1_.symm; have f5_ := f3_.symm; clear f1_ f2_ f3_; subst f4_; subst f5_))
      refine start_ (n := 13) (S := fun w' => w'.cell? ⟨gb511, 0, none⟩ = some (.int .i64 t505) ∧ w'.cell? ⟨gb511, 1, none⟩ = some (.int .i64 t506) ∧ w'.cell? ⟨gb511, 2, none⟩ = some (.int .i64 t507)) (ds := []) #[false, false, false, false, false, false, false, false, false, false, false, false, false] (by kernel_rfl) rfl rfl ⟨(zH BK511.out 0).trans rfl, (zH BK511.out 1).trans rfl, (zH BK511.out 2).trans rfl⟩ (fun hHeld => ?_); refine with_tabW laws_FnPhysicalFrames.tab6 laws_FnPhysicalFrames.bits6 (fun HT_ HW_ => ?_)
      generalize wc.drew = w23 at HO_4 HO_5 BK511 HB hHeld ⊢
      refine pure_ (i := 0) (N := some 32) (v := ?_) (a' := ?_) #[true, false, false, false, false, false, false, false, false, false, false, false, false] rfl rfl (any_of HT_.out (by kernel_rfl)) (fun _ _ _ h => h) (Or.inl ⟨by rfl, ?_⟩) ?_ ?_; rotate_left
      ·intro w'; go_simp; with_reducible rfl
      rotate_left
      ·simp only [Act.put, yF, yG, yH, i64_w, i32_w]; rfl
      refine pure_ (i := 1) (N := some 33) (v := ?_) (a' := ?_) #[true, true, false, false, false, false, false, false, false, false, false, false, false] rfl rfl (any_of HT_.out (by kernel_rfl)) (fun _ _ _ h => h) (Or.inl ⟨by rfl, ?_⟩) ?_ ?_; rotate_left
      ·intro w'; go_simp; with_reducible rfl
      rotate_left
      ·simp only [Act.put, yF, yG, yH, i64_w, i32_w]; rfl
      refine pure_ (i := 2) (N := some 34) (v := ?_) (a' := ?_) #[true, true, true, false, false, false, false, false, false, false, false, false, false] rfl rfl (any_of HT_.out (by kernel_rfl)) (fun _ _ _ h => h) (Or.inl ⟨by rfl, ?_⟩) ?_ ?_; rotate_left
      ·intro w'; go_simp; with_reducible rfl
      rotate_left
      ·simp only [Act.put, yF, yG, yH, i64_w, i32_w]; rfl
      refine pure_ (i := 3) (N := some 35) (v := ?_) (a' := ?_) #[true, true, true, true, false, false, false, false, false, false, false, false, false] rfl rfl (any_of HT_.out (by kernel_rfl)) (fun _ _ _ h => h) (Or.inl ⟨by rfl, ?_⟩) ?_ ?_; rotate_left
      ·intro w'; go_simp; with_reducible rfl
      rotate_left
      ·simp only [Act.put, yF, yG, yH, i64_w, i32_w]; rfl
      refine take_ (i := 4) (N := some 36) (v := ?_) (a' := ?_) #[true, true, true, true, true, false, false, false, false, false, false, false, false] rfl rfl (take_ofW HT_.out HW_.out (by kernel_rfl)) (fun _ _ _ h => h) (Or.inl ⟨by rfl, ?_⟩) hHeld ?_ ?_; rotate_left
      ·rintro w' ⟨s0, s1, s2⟩; go_simp; with_reducible rfl
      rotate_left
      ·simp only [Act.put, yF, yG, yH, i64_w, i32_w]; rfl
      refine take_ (i := 7) (N := some 39) (v := ?_) (a' := ?_) #[true, true, true, true, true, false, false, true, false, false, false, false, false] rfl rfl (take_ofW HT_.out HW_.out (by kernel_rfl)) (fun _ _ _ h => h) (Or.inl ⟨by rfl, ?_⟩) hHeld ?_ ?_; rotate_left
      ·rintro w' ⟨s0, s1, s2⟩; go_simp; with_reducible rfl
      rotate_left
      ·simp only [Act.put, yF, yG, yH, i64_w, i32_w]; rfl
      refine one_ (i := 5) (N := some 37) #[true, true, true, true, true, true, false, true, false, false, false, false, false] rfl rfl (one_of HT_.out (by kernel_rfl)) (by decide) (fun K hK => ?_)
      refine goes_ Try.func65 (by kernel_rfl) rfl #[.agg #[.int .i64 t505, .int .i64 t506, .int .i64 t507]] (by rfl) rfl rfl (by (try simp only [yK, yL, yM]); first | done | rfl | (simp only [yJ, yI]; rfl)) ?_
      with_reducible refine (impl_FrameSymbols.calls t505 t506 t507 t516 _ A21.out).mono ?_
      rintro e w25 ⟨rfl, hb⟩
      refine ⟨_, rfl, ?_⟩
      have n0_ := zO (zY (by (with_reducible repeat (first | apply zU | apply zW | apply zV)); exact HO_4.out) hb)
      have n1_ := zO (zY (by (with_reducible repeat (first | apply zU | apply zW | apply zV)); exact HO_5.out) hb)
      have n2_ := zO (zG (g := gb511) (o := .cells #[.int .i64 t505, .int .i64 t506, .int .i64 t507] 24 (0, 0)) (by (with_reducible repeat (first | refine zJ ?_ _ | refine zI ?_ | refine zF ?_ _)); exact BK511.out) hb)
      have n3_ := zO (zE (by repeat (first | (with_reducible first | exact HB.out | apply zA | apply zL | apply zB | refine zC ?_ GE511.out) | exact HB.out)) hb)
      clear HO_4
      clear HO_5
      clear BK511
      clear HB
      have HO_4 := n0_
      have HO_5 := n1_
      have BK511 := n2_
      have HB := n3_
      clear n0_ n1_ n2_ n3_
      (try clear hb)
      (try clear hb2)
      (try clear hk)
      (try clear hi)
      refine hK.out _ _ ⟨(zH BK511.out 0).trans rfl, (zH BK511.out 1).trans rfl, (zH BK511.out 2).trans rfl⟩ (fun hHeld => ?_)
      clear hK K
      refine norm_ (a' := ?_) ?_ ?_; rotate_left
      ·show Act.put _ (some 37) _ = _; simp only [Act.put, yF, yG, yH, i64_w, i32_w]; rfl
      refine pure_ (i := 6) (N := some 38) (v := ?_) (a' := ?_) #[true, true, true, true, true, true, true, true, false, false, false, false, false] rfl rfl (any_of HT_.out (by kernel_rfl)) (fun _ _ _ h => h) (Or.inl ⟨by rfl, ?_⟩) ?_ ?_; rotate_left
      ·intro w'; go_simp; with_reducible rfl
      rotate_left
      ·simp only [Act.put, yF, yG, yH, i64_w, i32_w]; rfl
      refine one_ (i := 8) (N := some 40) #[true, true, true, true, true, true, true, true, true, false, false, false, false] rfl rfl (one_of HT_.out (by kernel_rfl)) (by decide) (fun K hK => ?_)
      refine goes_ Try.func64 (by kernel_rfl) rfl #[.agg #[.int .i64 t505, .int .i64 t506, .int .i64 t507]] (by rfl) rfl rfl (by (try simp only [yK, yL, yM]); first | done | rfl | (simp only [yJ, yI]; rfl)) ?_
      with_reducible refine (spec_IsValidHeader.calls t505 t506 t507 t517 _ A22.out).mono ?_
      rintro e w26 ⟨rfl, hb⟩
      refine ⟨_, rfl, ?_⟩
      have n0_ := zO (zY (by (with_reducible repeat (first | apply zU | apply zW | apply zV)); exact HO_4.out) hb)
      have n1_ := zO (zY (by (with_reducible repeat (first | apply zU | apply zW | apply zV)); exact HO_5.out) hb)
      have n2_ := zO (zG (g := gb511) (o := .cells #[.int .i64 t505, .int .i64 t506, .int .i64 t507] 24 (0, 0)) (by (with_reducible repeat (first | refine zJ ?_ _ | refine zI ?_ | refine zF ?_ _)); exact BK511.out) hb)
      have n3_ := zO (zE (by repeat (first | (with_reducible first | exact HB.out | apply zA | apply zL | apply zB | refine zC ?_ GE511.out) | exact HB.out)) hb)
      clear HO_4
      clear HO_5
      clear BK511
      clear HB
      have HO_4 := n0_
      have HO_5 := n1_
      have BK511 := n2_
      have HB := n3_
      clear n0_ n1_ n2_ n3_
      (try clear hb)
      (try clear hb2)
      (try clear hk)
      (try clear hi)
      refine hK.out _ _ ⟨(zH BK511.out 0).trans rfl, (zH BK511.out 1).trans rfl, (zH BK511.out 2).trans rfl⟩ (fun hHeld => ?_)
      clear hK K
      refine norm_ (a' := ?_) ?_ ?_; rotate_left
      ·show Act.put _ (some 40) _ = _; simp only [Act.put, yF, yG, yH, i64_w, i32_w]; rfl
      refine pure_ (i := 9) (N := some 41) (v := ?_) (a' := ?_) #[true, true, true, true, true, true, true, true, true, true, false, false, false] rfl rfl (any_of HT_.out (by kernel_rfl)) (fun _ _ _ h => h) (Or.inl ⟨by rfl, ?_⟩) ?_ ?_; rotate_left
      ·intro w'; go_simp; with_reducible rfl
      rotate_left
      ·simp only [Act.put, yF, yG, yH, i64_w, i32_w]; rfl
      refine pure_ (i := 10) (N := some 42) (v := ?_) (a' := ?_) #[true, true, true, true, true, true, true, true, true, true, true, false, false] rfl rfl (any_of HT_.out (by kernel_rfl)) (fun _ _ _ h => h) (Or.inl ⟨by rfl, ?_⟩) ?_ ?_; rotate_left
      ·intro w'; go_simp; with_reducible rfl
      rotate_left
      ·simp only [Act.put, yF, yG, yH, i64_w, i32_w]; rfl
      refine pure_ (i := 11) (N := some 43) (v := ?_) (a' := ?_) #[true, true, true, true, true, true, true, true, true, true, true, true, false] rfl rfl (any_of HT_.out (by kernel_rfl)) (fun _ _ _ h => h) (Or.inl ⟨by rfl, ?_⟩) ?_ ?_; rotate_left
      ·intro w'; go_simp; with_reducible rfl
      rotate_left
      ·simp only [Act.put, yF, yG, yH, i64_w, i32_w]; rfl
      refine pure_ (i := 12) (N := some 2) (v := ?_) (a' := ?_) #[true, true, true, true, true, true, true, true, true, true, true, true, true] rfl rfl (any_of HT_.out (by kernel_rfl)) (fun _ _ _ h => h) (Or.inl ⟨by rfl, ?_⟩) ?_ ?_; rotate_left
      ·intro w'; go_simp; with_reducible rfl
      rotate_left
      ·simp only [Act.put, yF, yG, yH, i64_w, i32_w]; rfl
      refine done_ (done_of HT_.out (by kernel_rfl)) ?_
      try go_wp2
      go_ret
      exact ⟨by first | rfl | exact yP _ | (simp [errW_none, errW_some] <;> rfl) | (simp [*, errW_none, errW_some] <;> rfl), by repeat (first | (with_reducible first | exact HB.out | apply zA | apply zL | apply zB | refine zC ?_ GE511.out) | exact HB.out)⟩
     ·rw [if_neg c20] at H
      have c20b0 : ((t512.length : Int) == 0) = false := beq_eq_false_iff_ne.mpr c20
      have c20b1 : ((t512.length : Int) != 0) = true := bne_iff_ne.mpr c20
      have c20b2 : ¬ (t512 = []) := fun h_ => c20 (by rw [h_]; rfl)
      exact absurd H (by simp)
    ·replace c19 := Bool.eq_false_iff.mpr c19
     subst c19
     have H1 : ((impl_ReceiveFrame.f kj5 t512).bind fun bt518 => ((spec_Min.f (t512.length : Int) 54).bind fun t526 => (if 0 ≤ t526 then (if t526 ≤ (t512.length : Int) then ((impl_ReceiveFrame.f kj5 (t512.take (t526 : Int).toNat)).bind fun bt531 => ((impl_FrameSymbols.f t505 t506 t507).bind fun t539 => (if (t512.length : Int) = t539 then (if bt518.2.2.2.2 = 0 then (if (bt518.1 == t505 && (bt518.2.1 == t506 && (bt518.2.2.1 == t507))) = true then ((laws_sameBytes.f kj5 bt518.2.2.2.1 t508).bind fun t540 => (if t540 = true then (some (bt531.2.2.2.2 == 1)) else (none))) else (none)) else (none)) else (none)))) else (none)) else (none)))) = some r := by rw [if_neg (show ¬ (false = true) by decide)] at H; exact H
     clear H
     have H := H1
     clear H1
     replace H := yE.mp H
     obtain ⟨⟨t518, t519, t520, t521, t524⟩, A270, H⟩ := H
     replace H : ((spec_Min.f (t512.length : Int) 54).bind fun t526 => (if 0 ≤ t526 then (if t526 ≤ (t512.length : Int) then ((impl_ReceiveFrame.f kj5 (t512.take (t526 : Int).toNat)).bind fun bt531 => ((impl_FrameSymbols.f t505 t506 t507).bind fun t539 => (if (t512.length : Int) = t539 then (if t524 = 0 then (if (t518 == t505 && (t519 == t506 && (t520 == t507))) = true then ((laws_sameBytes.f kj5 t521 t508).bind fun t540 => (if t540 = true then (some (bt531.2.2.2.2 == 1)) else (none))) else (none)) else (none)) else (none)))) else (none)) else (none))) = some r := H
     have A27 := zO A270
     clear A270
     replace H := yE.mp H
     obtain ⟨t526, A280, H⟩ := H
     replace H : (if 0 ≤ t526 then (if t526 ≤ (t512.length : Int) then ((impl_ReceiveFrame.f kj5 (t512.take (t526 : Int).toNat)).bind fun bt531 => ((impl_FrameSymbols.f t505 t506 t507).bind fun t539 => (if (t512.length : Int) = t539 then (if t524 = 0 then (if (t518 == t505 && (t519 == t506 && (t520 == t507))) = true then ((laws_sameBytes.f kj5 t521 t508).bind fun t540 => (if t540 = true then (some (bt531.2.2.2.2 == 1)) else (none))) else (none)) else (none)) else (none)))) else (none)) else (none)) = some r := H
     have A28 := zO A280
     clear A280
     by_cases c29 : 0 ≤ t526
     case neg => rw [if_neg c29] at H; exact absurd H (by simp)
     rw [if_pos c29] at H
     have c29b0 := eq_true c29
     have c29b1 : decide (0 ≤ t526) = true := decide_eq_true c29
     clear c29
     by_cases c30 : t526 ≤ (t512.length : Int)
     case neg => rw [if_neg c30] at H; exact absurd H (by simp)
     rw [if_pos c30] at H
     have c30b0 := eq_true c30
     have c30b1 : decide (t526 ≤ (t512.length : Int)) = true := decide_eq_true c30
     clear c30
     obtain ⟨y527, hy527⟩ : ∃ y_ : List Int, y_ = (t512.take (t526 : Int).toNat) := ⟨_, rfl⟩
     replace H : ((impl_ReceiveFrame.f kj5 y527).bind fun bt531 => ((impl_FrameSymbols.f t505 t506 t507).bind fun t539 => (if (t512.length : Int) = t539 then (if t524 = 0 then (if (t518 == t505 && (t519 == t506 && (t520 == t507))) = true then ((laws_sameBytes.f kj5 t521 t508).bind fun t540 => (if t540 = true then (some (bt531.2.2.2.2 == 1)) else (none))) else (none)) else (none)) else (none)))) = some r := by first | (rw [hy527]; exact H) | exact H
     have Ny527 := zO hy527
     clear hy527
     replace H := yE.mp H
     obtain ⟨⟨t531, t532, t533, t534, t537⟩, A310, H⟩ := H
     replace H : ((impl_FrameSymbols.f t505 t506 t507).bind fun t539 => (if (t512.length : Int) = t539 then (if t524 = 0 then (if (t518 == t505 && (t519 == t506 && (t520 == t507))) = true then ((laws_sameBytes.f kj5 t521 t508).bind fun t540 => (if t540 = true then (some (t537 == 1)) else (none))) else (none)) else (none)) else (none))) = some r := H
     have A31 := zO A310
     clear A310
     replace H := yE.mp H
     obtain ⟨t539, A320, H⟩ := H
     replace H : (if (t512.length : Int) = t539 then (if t524 = 0 then (if (t518 == t505 && (t519 == t506 && (t520 == t507))) = true then ((laws_sameBytes.f kj5 t521 t508).bind fun t540 => (if t540 = true then (some (t537 == 1)) else (none))) else (none)) else (none)) else (none)) = some r := H
     have A32 := zO A320
     clear A320
     by_cases c33 : (t512.length : Int) = t539
     case neg => rw [if_neg c33] at H; exact absurd H (by simp)
     rw [if_pos c33] at H
     have c33b0 : ((t512.length : Int) == t539) = true := beq_iff_eq.mpr c33
     have c33b1 : ((t512.length : Int) != t539) = false := bne_eq_false_iff_eq.mpr c33
     clear c33
     by_cases c34 : t524 = 0
     case neg => rw [if_neg c34] at H; exact absurd H (by simp)
     rw [if_pos c34] at H
     have c34b0 : (t524 == 0) = true := beq_iff_eq.mpr c34
     have c34b1 : (t524 != 0) = false := bne_eq_false_iff_eq.mpr c34
     clear c34
     by_cases c35 : (t518 == t505 && (t519 == t506 && (t520 == t507))) = true
     case neg => rw [if_neg c35] at H; exact absurd H (by simp)
     rw [if_pos c35] at H
     have c35b0 : (t518 == t505 && (t519 == t506 && (t520 == t507))) = true := c35
     (try (have c35b1 : decide (t518 = t505 && (t519 == t506 && (t520 == t507))) = true := by simpa using c35))
     (try (have c35b2 : (t518 == t505 && (t519 == t506 && (t520 == t507))) = true := by simpa using c35))
     clear c35
     replace H := yE.mp H
     obtain ⟨t540, A360, H⟩ := H
     replace H : (if t540 = true then (some (t537 == 1)) else (none)) = some r := H
     have A36 := zO A360
     clear A360
     by_cases c37 : t540 = true
     ·subst c37
      have H1 : (some (t537 == 1)) = some r := by rw [if_pos rfl] at H; exact H
      clear H
      have H := H1
      clear H1
      obtain rfl := Option.some.inj H
      obtain ⟨Ao38, co38, eo38⟩ := Kd.R_slice HO_5.out
      subst eo38
      go_wp2_with (first | ((with_reducible refine zM (f := 60) rfl ?_); refine goesL_ (some 46) rfl rfl Try.func60 (by kernel_rfl) rfl #[.slice Ao38 t512.length co38] rfl (by (try simp only [yK, yL, yM]); first | done | rfl | (simp only [yJ, yI]; rfl)) ?_; (with_reducible refine (impl_ReceiveFrame.calls kj5 _ _ t512 t518 t519 t520 t521 t524 _ ?side1 ?side2 A27.out).mono ?_); (case side1 => repeat (first | exact (zX HO_5.out).2.2 | (with_reducible refine zR ?_ _) | (with_reducible refine zT ?_ _) | (with_reducible refine zS ?_))); (case side2 => exact (zX HO_5.out).2.1); rintro e w39 ⟨v522, rfl, ho0, hb⟩; refine ⟨_, rfl, ?_⟩; have n0_ := zO (Kd.R_elder' (by (with_reducible repeat (first | apply zU | apply zW | apply zV)); exact HO_4.out) (Kd.R_base ho0) hb); have n1_ := zO (zY (by (with_reducible repeat (first | apply zU | apply zW | apply zV)); exact HO_5.out) hb); have n2_ := zO (yA (Kd.R_new' ho0 (Kd.R_lt (by (with_reducible repeat (first | apply zU | apply zW | apply zV)); exact HO_4.out))) (zD (by repeat (first | (with_reducible first | exact HB.out | apply zA | apply zL | apply zB | refine zC ?_ GE511.out) | exact HB.out)))); have n3_ := zO (zG (g := gb511) (o := .cells #[.int .i64 t505, .int .i64 t506, .int .i64 t507] 24 (0, 0)) (by (with_reducible repeat (first | refine zJ ?_ _ | refine zI ?_ | refine zF ?_ _)); exact BK511.out) hb); have n4_ := zO (zE (by repeat (first | (with_reducible first | exact HB.out | apply zA | apply zL | apply zB | refine zC ?_ GE511.out) | exact HB.out)) hb); clear HO_4; clear HO_5; clear BK511; clear HB; have HO_4 := n0_; have HO_5 := n1_; have HO523 := n2_; have BK511 := n3_; have HB := n4_; clear n0_ n1_ n2_ n3_ n4_; (try clear hb); (try clear hb2); (try clear hk); (try clear hi); (try clear ho0)) | ((with_reducible refine zN (N := 6) rfl ?_); (try (refine gate_guard (by rfl) ?_; dsimp only)); refine box_event ?hg (N := 6) ?hd (cs := #[.int .i64 0, .int .i64 0, .int .i64 0]) (t := 24) ?hr ?_; (case hd => rfl); (case hg => rfl); (case hr => first | (go_simp; done) | (go_simp; rfl)); intro gb525 hg w40 hbox hb; have n0_ := zO (zY (by (with_reducible repeat (first | apply zU | apply zW | apply zV)); exact HO_4.out) hb); have n1_ := zO (zY (by (with_reducible repeat (first | apply zU | apply zW | apply zV)); exact HO_5.out) hb); have n2_ := zO (zY (by (with_reducible repeat (first | apply zU | apply zW | apply zV)); exact HO523.out) hb); have n3_ := zO (zG (g := gb511) (o := .cells #[.int .i64 t505, .int .i64 t506, .int .i64 t507] 24 (0, 0)) (by (with_reducible repeat (first | refine zJ ?_ _ | refine zI ?_ | refine zF ?_ _)); exact BK511.out) hb); have n4_ := zO (zE (by repeat (first | (with_reducible first | exact HB.out | apply zA | apply zL | apply zB | refine zC ?_ GE511.out) | exact HB.out)) hb); have n5_ := zO (hbox); have n6_ := zO ((by rw [hg]; exact (zD (by repeat (first | (with_reducible first | exact HB.out | apply zA | apply zL | apply zB | refine zC ?_ GE511.out) | exact HB.out))) : w.heap.size ≤ gb525)); have n7_ := zO ((by rw [hg]; exact (zD (by repeat (first | (with_reducible first | exact HB.out | apply zA | apply zL | apply zB | refine zC ?_ GE511.out) | exact HB.out))) : w.heap.size ≤ gb525)); have n8_ := zO ((by rw [hg]; exact Nat.ne_of_lt (blk_lt (g := gb511) (o := .cells #[.int .i64 t505, .int .i64 t506, .int .i64 t507] 24 (0, 0)) (by (with_reducible repeat (first | refine zJ ?_ _ | refine zI ?_ | refine zF ?_ _)); exact BK511.out)) : gb511 ≠ gb525)); have n9_ := zO ((by rw [hg]; exact Nat.ne_of_gt (blk_lt (g := gb511) (o := .cells #[.int .i64 t505, .int .i64 t506, .int .i64 t507] 24 (0, 0)) (by (with_reducible repeat (first | refine zJ ?_ _ | refine zI ?_ | refine zF ?_ _)); exact BK511.out)) : gb525 ≠ gb511)); clear HO_4; clear HO_5; clear HO523; clear BK511; clear HB; have HO_4 := n0_; have HO_5 := n1_; have HO523 := n2_; have BK511 := n3_; have HB := n4_; have BK525 := n5_; have GW525 := n6_; have GE525 := n7_; have NB511_525 := n8_; have NB525_511 := n9_; clear n0_ n1_ n2_ n3_ n4_ n5_ n6_ n7_ n8_ n9_; clear hb hbox hg; have hnb41 := NB525_511.out; have hnc41 := NB511_525.out; have hcz42_0 : w40.cell? ⟨gb525, 0, none⟩ = some (.int .i64 0) := (zH BK525.out 0).trans rfl; have hcz42_1 : w40.cell? ⟨gb525, 1, none⟩ = some (.int .i64 0) := (zH BK525.out 1).trans rfl; have hcz42_2 : w40.cell? ⟨gb525, 2, none⟩ = some (.int .i64 0) := (zH BK525.out 2).trans rfl; have hfz42_0 := zK BK525.out 0; have hfz42_1 := zK BK525.out 1; have hfz42_2 := zK BK525.out 2) | ((with_reducible refine gate_store (t := 24) (p := 6) rfl ?_); refine store_event (t := 24) (p := 6) (v := ?vo_w43) (w1 := (((w40.setCell ⟨gb525, 0, none⟩ (.int .i64 t518)).setCell ⟨gb525, 1, none⟩ (.int .i64 t519)).setCell ⟨gb525, 2, none⟩ (.int .i64 t520))) ?hg ?ho ?hn ?hr ?_; (case ho => rfl); (case hg => rfl); (case hn => rfl); (case hr => first | (go_simp; done) | (go_simp; rfl)); intro w43 hw; have n0_ : Aside0 (Kd.R (Kd.int .u8) 5 w43 w.heap.size (fun k_ => some k_ ≠ (v522 : Value).ownBlock) (.slice Ao10 t508.length co10) t508) := ⟨(by rw [hw]; exact (by (with_reducible repeat (first | apply zU | apply zW | apply zV)); exact Kd.R_mono (zZ (p := ⟨gb525, 2, none⟩) (zZ (p := ⟨gb525, 1, none⟩) (zZ (p := ⟨gb525, 0, none⟩) (Kd.R_types HO_4.out BK525.out (by decide)) (fun _ hk => hk.2) (.int .i64 t518)) (fun _ hk => hk.2) (.int .i64 t519)) (fun _ hk => hk.2) (.int .i64 t520)) (fun _ hk => hk.1.2)))⟩; have n1_ : Aside0 (Kd.R (Kd.int .i64) 3 w43 w.heap.size (fun _ => True) (.slice Ao38 t512.length co38) t512) := ⟨(by rw [hw]; exact (by (with_reducible repeat (first | apply zU | apply zW | apply zV)); exact Kd.R_mono (zZ (p := ⟨gb525, 2, none⟩) (zZ (p := ⟨gb525, 1, none⟩) (zZ (p := ⟨gb525, 0, none⟩) (Kd.R_types HO_5.out BK525.out (by decide)) (fun _ hk => hk.2) (.int .i64 t518)) (fun _ hk => hk.2) (.int .i64 t519)) (fun _ hk => hk.2) (.int .i64 t520)) (fun _ hk => trivial)))⟩; have n2_ : Aside0 (Kd.R (Kd.int .u8) 5 w43 w.heap.size (fun k_ => some k_ ≠ (.slice Ao10 t508.length co10 : Value).ownBlock) v522 t521) := ⟨(by rw [hw]; exact (by (with_reducible repeat (first | apply zU | apply zW | apply zV)); exact Kd.R_mono (zZ (p := ⟨gb525, 2, none⟩) (zZ (p := ⟨gb525, 1, none⟩) (zZ (p := ⟨gb525, 0, none⟩) (Kd.R_types HO523.out BK525.out (by decide)) (fun _ hk => hk.2) (.int .i64 t518)) (fun _ hk => hk.2) (.int .i64 t519)) (fun _ hk => hk.2) (.int .i64 t520)) (fun _ hk => hk.1.2)))⟩; have n3_ : Aside0 (w43.heap[gb511]? = some (.cells #[.int .i64 t505, .int .i64 t506, .int .i64 t507] 24 (0, 0))) := ⟨(by rw [hw]; exact (by (with_reducible repeat (first | refine zJ ?_ _ | refine zI ?_ | refine zF ?_ _)); refine blk_far ?_ NB511_525.out _; (with_reducible repeat (first | refine zJ ?_ _ | refine zI ?_ | refine zF ?_ _)); refine blk_far ?_ NB511_525.out _; (with_reducible repeat (first | refine zJ ?_ _ | refine zI ?_ | refine zF ?_ _)); refine blk_far ?_ NB511_525.out _; (with_reducible repeat (first | refine zJ ?_ _ | refine zI ?_ | refine zF ?_ _)); exact BK511.out))⟩; have n4_ : Aside0 (w43.heap[gb525]? = some (.cells #[.int .i64 t518, .int .i64 t519, .int .i64 t520] 24 (0, 0))) := ⟨(by rw [hw]; exact (by (with_reducible repeat (first | refine zJ ?_ _ | refine zI ?_ | refine zF ?_ _)); refine blk_put (cs := #[.int .i64 t518, .int .i64 t519, .int .i64 0]) ?_ 2 _ rfl; (with_reducible repeat (first | refine zJ ?_ _ | refine zI ?_ | refine zF ?_ _)); refine blk_put (cs := #[.int .i64 t518, .int .i64 0, .int .i64 0]) ?_ 1 _ rfl; (with_reducible repeat (first | refine zJ ?_ _ | refine zI ?_ | refine zF ?_ _)); refine blk_put (cs := #[.int .i64 0, .int .i64 0, .int .i64 0]) ?_ 0 _ rfl; (with_reducible repeat (first | refine zJ ?_ _ | refine zI ?_ | refine zF ?_ _)); exact BK525.out))⟩; have n5_ : Aside0 (Below w.heap.size w w43) := ⟨(by rw [hw]; exact (by repeat (first | (with_reducible first | exact HB.out | apply zA | apply zL | apply zB | refine zC ?_ GE511.out | refine zC ?_ GE525.out) | exact HB.out)))⟩; clear hw; clear HO_4; clear HO_5; clear HO523; clear BK511; clear BK525; clear HB; have HO_4 := n0_; have HO_5 := n1_; have HO523 := n2_; have BK511 := n3_; have BK525 := n4_; have HB := n5_; clear n0_ n1_ n2_ n3_ n4_ n5_) | ((with_reducible refine zM (f := 66) rfl ?_); refine goesL_ (some 54) rfl rfl Try.func66 (by kernel_rfl) rfl #[.int .i64 (t512.length : Int), .int .i64 54] rfl (by (try simp only [yK, yL, yM]); first | done | rfl | (simp only [yJ, yI]; rfl)) ?_; (with_reducible refine (spec_Min.calls (t512.length : Int) 54 t526 _ A28.out).mono ?_); rintro e w' ⟨rfl, ⟨nd, rfl⟩⟩; refine ⟨_, rfl, ?_⟩; (try (rw [drewN_self w43]; generalize hq_ : World.drewN w43 _ = w43; have n0_ : Aside0 (Kd.R (Kd.int .u8) 5 w43 w.heap.size (fun k_ => some k_ ≠ (.slice Ao10 t508.length co10 : Value).ownBlock) v522 t521) := ⟨by rw [← hq_]; exact (by (with_reducible repeat (first | apply zU | apply zW | apply zV)); exact HO523.out)⟩; have n1_ : Aside0 (Kd.R (Kd.int .u8) 5 w43 w.heap.size (fun k_ => some k_ ≠ (v522 : Value).ownBlock) (.slice Ao10 t508.length co10) t508) := ⟨by rw [← hq_]; exact (by (with_reducible repeat (first | apply zU | apply zW | apply zV)); exact HO_4.out)⟩; have n2_ : Aside0 (Kd.R (Kd.int .i64) 3 w43 w.heap.size (fun _ => True) (.slice Ao38 t512.length co38) t512) := ⟨by rw [← hq_]; exact (by (with_reducible repeat (first | apply zU | apply zW | apply zV)); exact HO_5.out)⟩; have n3_ : Aside0 (w43.heap[gb511]? = some (.cells #[.int .i64 t505, .int .i64 t506, .int .i64 t507] 24 (0, 0))) := ⟨by rw [← hq_]; exact (by (with_reducible repeat (first | refine zJ ?_ _ | refine zI ?_ | refine zF ?_ _)); exact BK511.out)⟩; have n4_ : Aside0 (w43.heap[gb525]? = some (.cells #[.int .i64 t518, .int .i64 t519, .int .i64 t520] 24 (0, 0))) := ⟨by rw [← hq_]; exact (by (with_reducible repeat (first | refine zJ ?_ _ | refine zI ?_ | refine zF ?_ _)); exact BK525.out)⟩; have n5_ : Aside0 (Below w.heap.size w w43) := ⟨by rw [← hq_]; exact (by repeat (first | (with_reducible first | exact HB.out | apply zA | apply zL | apply zB | refine zC ?_ GE511.out | refine zC ?_ GE525.out) | exact HB.out))⟩; clear HO523 HO_4 HO_5 BK511 BK525 HB hq_; have HO523 := n0_; have HO_4 := n1_; have HO_5 := n2_; have BK511 := n3_; have BK525 := n4_; have HB := n5_; clear n0_ n1_ n2_ n3_ n4_ n5_)); have q44 : (t526 : Int) ≤ ((t512.length : Int) : Int) := yO (by assumption); obtain ⟨i044, hi044, _, hsz44, _⟩ := info_parts info3; have hroom44 : t512.length ≤ co38 := (zX HO_5.out).2.1; have hC44 : Kd.C (Kd.int .i64) _ Ao38 t512.length t512 := (zX HO_5.out).2.2; have hcut44 := cut_to (P := Try.prog) 22 3 .i64 Try.underlying22 hi044 Ao38 t512.length co38 t526 (yO (by assumption)) q44 hroom44; have hr44 := Kd.C_take (m := (t526 : Int).toNat) hC44 (by omega); have hy44 : y527.length = (t526 : Int).toNat := (by rw [Ny527.out, yI]; omega); rw [← Ny527.out] at hr44; rw [← hy44] at hcut44; have HR530 := zO hr44; have HC530 := zO (show y527.length ≤ co38 from by omega); clear hr44 hC44 hroom44 hi044 hsz44; have KY44 := zO hy44; clear hy44; have KL44 := zO (show (t526 : Int).toNat ≤ t512.length from by omega); replace q44 := eq_true q44) | ((with_reducible refine zM (f := 60) rfl ?_); refine goesL_ (some 56) rfl rfl Try.func60 (by kernel_rfl) rfl #[.slice Ao38 y527.length co38] rfl (by (try simp only [yK, yL, yM]); first | done | rfl | (simp only [yJ, yI]; rfl)) ?_; (with_reducible refine (impl_ReceiveFrame.calls kj5 _ _ y527 t531 t532 t533 t534 t537 _ ?side1 ?side2 A31.out).mono ?_); (case side1 => repeat (first | exact (by repeat (first | (with_reducible exact HR530.out) | (with_reducible refine zR ?_ _) | (with_reducible refine zT ?_ _) | (with_reducible refine zS ?_) | exact HR530.out)) | (with_reducible refine zR ?_ _) | (with_reducible refine zT ?_ _) | (with_reducible refine zS ?_))); (case side2 => exact HC530.out); rintro e w45 ⟨v535, rfl, ho0, hb⟩; refine ⟨_, rfl, ?_⟩; have n0_ := zO (Kd.R_elder' (by (with_reducible repeat (first | apply zU | apply zW | apply zV)); exact HO_4.out) (Kd.R_base ho0) hb); have n1_ := zO (zY (by (with_reducible repeat (first | apply zU | apply zW | apply zV)); exact HO_5.out) hb); have n2_ := zO (Kd.R_elder' (by (with_reducible repeat (first | apply zU | apply zW | apply zV)); exact HO523.out) (Kd.R_base ho0) hb); have n3_ := zO (yA (Kd.R_new' (Kd.R_new' ho0 (Kd.R_lt (by (with_reducible repeat (first | apply zU | apply zW | apply zV)); exact HO_4.out))) (Kd.R_lt (by (with_reducible repeat (first | apply zU | apply zW | apply zV)); exact HO523.out))) (zD (by repeat (first | (with_reducible first | exact HB.out | apply zA | apply zL | apply zB | refine zC ?_ GE511.out | refine zC ?_ GE525.out) | exact HB.out)))); have n4_ := zO (zG (g := gb511) (o := .cells #[.int .i64 t505, .int .i64 t506, .int .i64 t507] 24 (0, 0)) (by (with_reducible repeat (first | refine zJ ?_ _ | refine zI ?_ | refine zF ?_ _)); exact BK511.out) hb); have n5_ := zO (zG (g := gb525) (o := .cells #[.int .i64 t518, .int .i64 t519, .int .i64 t520] 24 (0, 0)) (by (with_reducible repeat (first | refine zJ ?_ _ | refine zI ?_ | refine zF ?_ _)); exact BK525.out) hb); have n6_ := zO (Kd.C_below (by repeat (first | (with_reducible exact HR530.out) | (with_reducible refine zR ?_ _) | (with_reducible refine zT ?_ _) | (with_reducible refine zS ?_) | exact HR530.out)) hb); have n7_ := zO (zE (by repeat (first | (with_reducible first | exact HB.out | apply zA | apply zL | apply zB | refine zC ?_ GE511.out | refine zC ?_ GE525.out) | exact HB.out)) hb); clear HO_4; clear HO_5; clear HO523; clear BK511; clear BK525; clear HR530; clear HB; have HO_4 := n0_; have HO_5 := n1_; have HO523 := n2_; have HO536 := n3_; have BK511 := n4_; have BK525 := n5_; have HR530 := n6_; have HB := n7_; clear n0_ n1_ n2_ n3_ n4_ n5_ n6_ n7_; (try clear hb); (try clear hb2); (try clear hk); (try clear hi); (try clear ho0)) | ((with_reducible refine zN (N := 9) rfl ?_); (try (refine gate_guard (by rfl) ?_; dsimp only)); refine box_event ?hg (N := 9) ?hd (cs := #[.int .i64 0, .int .i64 0, .int .i64 0]) (t := 24) ?hr ?_; (case hd => rfl); (case hg => rfl); (case hr => first | (go_simp; done) | (go_simp; rfl)); intro gb538 hg w46 hbox hb; have n0_ := zO (zY (by (with_reducible repeat (first | apply zU | apply zW | apply zV)); exact HO_4.out) hb); have n1_ := zO (zY (by (with_reducible repeat (first | apply zU | apply zW | apply zV)); exact HO_5.out) hb); have n2_ := zO (zY (by (with_reducible repeat (first | apply zU | apply zW | apply zV)); exact HO523.out) hb); have n3_ := zO (zY (by (with_reducible repeat (first | apply zU | apply zW | apply zV)); exact HO536.out) hb); have n4_ := zO (zG (g := gb511) (o := .cells #[.int .i64 t505, .int .i64 t506, .int .i64 t507] 24 (0, 0)) (by (with_reducible repeat (first | refine zJ ?_ _ | refine zI ?_ | refine zF ?_ _)); exact BK511.out) hb); have n5_ := zO (zG (g := gb525) (o := .cells #[.int .i64 t518, .int .i64 t519, .int .i64 t520] 24 (0, 0)) (by (with_reducible repeat (first | refine zJ ?_ _ | refine zI ?_ | refine zF ?_ _)); exact BK525.out) hb); have n6_ := zO (Kd.C_below (by repeat (first | (with_reducible exact HR530.out) | (with_reducible refine zR ?_ _) | (with_reducible refine zT ?_ _) | (with_reducible refine zS ?_) | exact HR530.out)) hb); have n7_ := zO (zE (by repeat (first | (with_reducible first | exact HB.out | apply zA | apply zL | apply zB | refine zC ?_ GE511.out | refine zC ?_ GE525.out) | exact HB.out)) hb); have n8_ := zO (hbox); have n9_ := zO ((by rw [hg]; exact (zD (by repeat (first | (with_reducible first | exact HB.out | apply zA | apply zL | apply zB | refine zC ?_ GE511.out | refine zC ?_ GE525.out) | exact HB.out))) : w.heap.size ≤ gb538)); have n10_ := zO ((by rw [hg]; exact (zD (by repeat (first | (with_reducible first | exact HB.out | apply zA | apply zL | apply zB | refine zC ?_ GE511.out | refine zC ?_ GE525.out) | exact HB.out))) : w.heap.size ≤ gb538)); have n11_ := zO ((by rw [hg]; exact Nat.ne_of_lt (blk_lt (g := gb511) (o := .cells #[.int .i64 t505, .int .i64 t506, .int .i64 t507] 24 (0, 0)) (by (with_reducible repeat (first | refine zJ ?_ _ | refine zI ?_ | refine zF ?_ _)); exact BK511.out)) : gb511 ≠ gb538)); have n12_ := zO ((by rw [hg]; exact Nat.ne_of_gt (blk_lt (g := gb511) (o := .cells #[.int .i64 t505, .int .i64 t506, .int .i64 t507] 24 (0, 0)) (by (with_reducible repeat (first | refine zJ ?_ _ | refine zI ?_ | refine zF ?_ _)); exact BK511.out)) : gb538 ≠ gb511)); have n13_ := zO ((by rw [hg]; exact Nat.ne_of_lt (blk_lt (g := gb525) (o := .cells #[.int .i64 t518, .int .i64 t519, .int .i64 t520] 24 (0, 0)) (by (with_reducible repeat (first | refine zJ ?_ _ | refine zI ?_ | refine zF ?_ _)); exact BK525.out)) : gb525 ≠ gb538)); have n14_ := zO ((by rw [hg]; exact Nat.ne_of_gt (blk_lt (g := gb525) (o := .cells #[.int .i64 t518, .int .i64 t519, .int .i64 t520] 24 (0, 0)) (by (with_reducible repeat (first | refine zJ ?_ _ | refine zI ?_ | refine zF ?_ _)); exact BK525.out)) : gb538 ≠ gb525)); clear HO_4; clear HO_5; clear HO523; clear HO536; clear BK511; clear BK525; clear HR530; clear HB; have HO_4 := n0_; have HO_5 := n1_; have HO523 := n2_; have HO536 := n3_; have BK511 := n4_; have BK525 := n5_; have HR530 := n6_; have HB := n7_; have BK538 := n8_; have GW538 := n9_; have GE538 := n10_; have NB511_538 := n11_; have NB538_511 := n12_; have NB525_538 := n13_; have NB538_525 := n14_; clear n0_ n1_ n2_ n3_ n4_ n5_ n6_ n7_ n8_ n9_ n10_ n11_ n12_ n13_ n14_; clear hb hbox hg; have hnb47 := NB538_511.out; have hnc47 := NB511_538.out; have hnb48 := NB538_525.out; have hnc48 := NB525_538.out; have hcz49_0 : w46.cell? ⟨gb538, 0, none⟩ = some (.int .i64 0) := (zH BK538.out 0).trans rfl; have hcz49_1 : w46.cell? ⟨gb538, 1, none⟩ = some (.int .i64 0) := (zH BK538.out 1).trans rfl; have hcz49_2 : w46.cell? ⟨gb538, 2, none⟩ = some (.int .i64 0) := (zH BK538.out 2).trans rfl; have hfz49_0 := zK BK538.out 0; have hfz49_1 := zK BK538.out 1; have hfz49_2 := zK BK538.out 2; have hcz50_0 : w46.cell? ⟨gb511, 0, none⟩ = some (.int .i64 t505) := (zH BK511.out 0).trans rfl; have hcz50_1 : w46.cell? ⟨gb511, 1, none⟩ = some (.int .i64 t506) := (zH BK511.out 1).trans rfl; have hcz50_2 : w46.cell? ⟨gb511, 2, none⟩ = some (.int .i64 t507) := (zH BK511.out 2).trans rfl; have hfz50_0 := zK BK511.out 0; have hfz50_1 := zK BK511.out 1; have hfz50_2 := zK BK511.out 2) | ((with_reducible refine zM (f := 65) rfl ?_); refine goesL_ (some 63) rfl rfl Try.func65 (by kernel_rfl) rfl #[.agg #[.int .i64 t505, .int .i64 t506, .int .i64 t507]] rfl (by (try simp only [yK, yL, yM]); first | done | rfl | (simp only [yJ, yI]; rfl)) ?_; (with_reducible refine (impl_FrameSymbols.calls t505 t506 t507 t539 _ A32.out).mono ?_); rintro e w51 ⟨rfl, hb⟩; refine ⟨_, rfl, ?_⟩; have n0_ := zO (zY (by (with_reducible repeat (first | apply zU | apply zW | apply zV)); exact (Kd.R_mono (zZ (p := ⟨gb538, 2, none⟩) (zZ (p := ⟨gb538, 1, none⟩) (zZ (p := ⟨gb538, 0, none⟩) (Kd.R_types HO_4.out BK538.out (by decide)) (fun _ hk => hk.2) (.int .i64 t531)) (fun _ hk => hk.2) (.int .i64 t532)) (fun _ hk => hk.2) (.int .i64 t533)) (fun _ h_ => h_.1))) hb); have n1_ := zO (zY (by (with_reducible repeat (first | apply zU | apply zW | apply zV)); exact (Kd.R_mono (zZ (p := ⟨gb538, 2, none⟩) (zZ (p := ⟨gb538, 1, none⟩) (zZ (p := ⟨gb538, 0, none⟩) (Kd.R_types HO_5.out BK538.out (by decide)) (fun _ hk => hk.2) (.int .i64 t531)) (fun _ hk => hk.2) (.int .i64 t532)) (fun _ hk => hk.2) (.int .i64 t533)) (fun _ h_ => h_.1))) hb); have n2_ := zO (zY (by (with_reducible repeat (first | apply zU | apply zW | apply zV)); exact (Kd.R_mono (zZ (p := ⟨gb538, 2, none⟩) (zZ (p := ⟨gb538, 1, none⟩) (zZ (p := ⟨gb538, 0, none⟩) (Kd.R_types HO523.out BK538.out (by decide)) (fun _ hk => hk.2) (.int .i64 t531)) (fun _ hk => hk.2) (.int .i64 t532)) (fun _ hk => hk.2) (.int .i64 t533)) (fun _ h_ => h_.1))) hb); have n3_ := zO (zY (by (with_reducible repeat (first | apply zU | apply zW | apply zV)); exact (Kd.R_mono (zZ (p := ⟨gb538, 2, none⟩) (zZ (p := ⟨gb538, 1, none⟩) (zZ (p := ⟨gb538, 0, none⟩) (Kd.R_types HO536.out BK538.out (by decide)) (fun _ hk => hk.2) (.int .i64 t531)) (fun _ hk => hk.2) (.int .i64 t532)) (fun _ hk => hk.2) (.int .i64 t533)) (fun _ h_ => h_.1))) hb); have n4_ := zO (zG (g := gb511) (o := .cells #[.int .i64 t505, .int .i64 t506, .int .i64 t507] 24 (0, 0)) (by (with_reducible repeat (first | refine zJ ?_ _ | refine zI ?_ | refine zF ?_ _)); refine blk_far ?_ NB511_538.out _; (with_reducible repeat (first | refine zJ ?_ _ | refine zI ?_ | refine zF ?_ _)); refine blk_far ?_ NB511_538.out _; (with_reducible repeat (first | refine zJ ?_ _ | refine zI ?_ | refine zF ?_ _)); refine blk_far ?_ NB511_538.out _; (with_reducible repeat (first | refine zJ ?_ _ | refine zI ?_ | refine zF ?_ _)); exact BK511.out) hb); have n5_ := zO (zG (g := gb525) (o := .cells #[.int .i64 t518, .int .i64 t519, .int .i64 t520] 24 (0, 0)) (by (with_reducible repeat (first | refine zJ ?_ _ | refine zI ?_ | refine zF ?_ _)); refine blk_far ?_ NB525_538.out _; (with_reducible repeat (first | refine zJ ?_ _ | refine zI ?_ | refine zF ?_ _)); refine blk_far ?_ NB525_538.out _; (with_reducible repeat (first | refine zJ ?_ _ | refine zI ?_ | refine zF ?_ _)); refine blk_far ?_ NB525_538.out _; (with_reducible repeat (first | refine zJ ?_ _ | refine zI ?_ | refine zF ?_ _)); exact BK525.out) hb); have n6_ := zO (Kd.C_below (show Kd.C (Kd.int .i64) _ Ao38 y527.length y527 from by rw [Ny527.out]; exact Kd.C_take (m := (t526 : Int).toNat) ((zX (by (with_reducible repeat (first | apply zU | apply zW | apply zV)); exact (Kd.R_mono (zZ (p := ⟨gb538, 2, none⟩) (zZ (p := ⟨gb538, 1, none⟩) (zZ (p := ⟨gb538, 0, none⟩) (Kd.R_types HO_5.out BK538.out (by decide)) (fun _ hk => hk.2) (.int .i64 t531)) (fun _ hk => hk.2) (.int .i64 t532)) (fun _ hk => hk.2) (.int .i64 t533)) (fun _ h_ => h_.1)))).2.2) KL44.out) hb); have n7_ := zO (zG (g := gb538) (o := .cells #[.int .i64 t531, .int .i64 t532, .int .i64 t533] 24 (0, 0)) (by (with_reducible repeat (first | refine zJ ?_ _ | refine zI ?_ | refine zF ?_ _)); refine blk_put (cs := #[.int .i64 t531, .int .i64 t532, .int .i64 0]) ?_ 2 _ rfl; (with_reducible repeat (first | refine zJ ?_ _ | refine zI ?_ | refine zF ?_ _)); refine blk_put (cs := #[.int .i64 t531, .int .i64 0, .int .i64 0]) ?_ 1 _ rfl; (with_reducible repeat (first | refine zJ ?_ _ | refine zI ?_ | refine zF ?_ _)); refine blk_put (cs := #[.int .i64 0, .int .i64 0, .int .i64 0]) ?_ 0 _ rfl; (with_reducible repeat (first | refine zJ ?_ _ | refine zI ?_ | refine zF ?_ _)); exact BK538.out) hb); have n8_ := zO (zE (by repeat (first | (with_reducible first | exact HB.out | apply zA | apply zL | apply zB | refine zC ?_ GE511.out | refine zC ?_ GE525.out | refine zC ?_ GE538.out) | exact HB.out)) hb); clear HO_4; clear HO_5; clear HO523; clear HO536; clear BK511; clear BK525; clear HR530; clear BK538; clear HB; have HO_4 := n0_; have HO_5 := n1_; have HO523 := n2_; have HO536 := n3_; have BK511 := n4_; have BK525 := n5_; have HR530 := n6_; have BK538 := n7_; have HB := n8_; clear n0_ n1_ n2_ n3_ n4_ n5_ n6_ n7_ n8_; (try clear hb); (try clear hb2); (try clear hk); (try clear hi); have hcz52_0 : w51.cell? ⟨gb525, 0, none⟩ = some (.int .i64 t518) := (zH BK525.out 0).trans rfl; have hcz52_1 : w51.cell? ⟨gb525, 1, none⟩ = some (.int .i64 t519) := (zH BK525.out 1).trans rfl; have hcz52_2 : w51.cell? ⟨gb525, 2, none⟩ = some (.int .i64 t520) := (zH BK525.out 2).trans rfl; have hfz52_0 := zK BK525.out 0; have hfz52_1 := zK BK525.out 1; have hfz52_2 := zK BK525.out 2; have hcz53_0 : w51.cell? ⟨gb511, 0, none⟩ = some (.int .i64 t505) := (zH BK511.out 0).trans rfl; have hcz53_1 : w51.cell? ⟨gb511, 1, none⟩ = some (.int .i64 t506) := (zH BK511.out 1).trans rfl; have hcz53_2 : w51.cell? ⟨gb511, 2, none⟩ = some (.int .i64 t507) := (zH BK511.out 2).trans rfl; have hfz53_0 := zK BK511.out 0; have hfz53_1 := zK BK511.out 1; have hfz53_2 := zK BK511.out 2; obtain ⟨Ao54, co54, eo54⟩ := Kd.R_slice HO523.out; subst eo54) | (go_at_call 33; (with_reducible refine (laws_sameBytes.calls kj5 _ _ t521 _ _ t508 true _ ?side1 ?side2 ?side3 ?side4 A36.out).mono ?_); (case side1 => repeat (first | exact (zX HO523.out).2.2 | (with_reducible refine zR ?_ _) | (with_reducible refine zT ?_ _) | (with_reducible refine zS ?_))); (case side2 => exact (zX HO523.out).2.1); (case side3 => repeat (first | exact (zX HO_4.out).2.2 | (with_reducible refine zR ?_ _) | (with_reducible refine zT ?_ _) | (with_reducible refine zS ?_))); (case side4 => exact (zX HO_4.out).2.1); rintro e w' ⟨rfl, ⟨nd, rfl⟩⟩))
      go_ret
      exact ⟨by first | rfl | exact yP _ | (simp [errW_none, errW_some] <;> rfl) | (simp [*, errW_none, errW_some] <;> rfl), by repeat (first | (with_reducible first | exact HB.out | apply zA | apply zL | apply zB | refine zC ?_ GE511.out | refine zC ?_ GE525.out | refine zC ?_ GE538.out) | exact HB.out)⟩
     ·replace c37 := Bool.eq_false_iff.mpr c37
      subst c37
      have H1 : (none) = some r := by rw [if_neg (show ¬ (false = true) by decide)] at H; exact H
      clear H
      have H := H1
      clear H1
      exact absurd H (by simp)

/-- THE ONE PURE STATEMENT of laws_FnPhysicalFrames: yours. -/
def laws_FnPhysicalFrames.Pure : Prop := ∀ (l0 : List Int), l0.length ≤ maxLen → l0.length * 1 ≤ 140737488351232 → (∀ x ∈ l0, (Lit.int .u8 x).wf = true) → ∃ k, laws_FnPhysicalFrames.f k l0 = some true
theorem laws_FnPhysicalFrames.walk (P : laws_FnPhysicalFrames.Pure) (a0 : Option Addr) (len0 cap0 : Nat) (z0 : List Int) (w : World) (w0 : (a0 = none ∧ len0 = 0 ∧ cap0 = 0 ∧ z0 = []) ∨ ∃ x, a0 = some x ∧ len0 ≤ cap0 ∧ cap0 ≤ maxLen ∧ z0.length = cap0 ∧ (∀ i, i < z0.length → w.cell? (x.add i) = some (.int .u8 (z0.getD i 0))) ∧ ∀ n ∈ z0, (Lit.int .u8 n).wf = true) (y0 : len0 * 1 ≤ 140737488351232) :
  Calls Try.prog 12 #[.slice a0 len0 cap0] w fun e w' => e = .returned (.bool true) ∧ Below w.heap.size w w' := by
 obtain ⟨l0, rfl, hr0, hm0, hw0, hc0⟩ := ReadsInt.ofRowC w0
 obtain ⟨k, h⟩ := P l0 hm0 y0 hw0
 refine (laws_FnPhysicalFrames.calls k _ _ l0 true w (Kd.C_of_reads (d := (0 : Int)) (h1 := fun _ => rfl) hr0) hc0 h).mono ?_
 rintro e w' ⟨rfl, hd⟩
 exact ⟨rfl, hd⟩

end Go.Proofs.Ytldbmljooafkcaa.PFnPhysicalFrames
