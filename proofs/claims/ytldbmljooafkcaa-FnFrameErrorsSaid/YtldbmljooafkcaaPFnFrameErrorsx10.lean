/- Contracts of Go functions. Conditions: the arguments read as the Lean function's. Written by print2.py, shrink.py (this session's). -/
import Derived.Test.YtldbmljooafkcaaPFnFrameErrorsx0
import Derived.Test.YtldbmljooafkcaaPFnFrameErrorsx2
import Derived.Test.YtldbmljooafkcaaPFnFrameErrorsx6
import Derived.Test.YtldbmljooafkcaaPFnFrameErrorsx9
namespace Go.Proofs.Ytldbmljooafkcaa.PFnFrameErrors
open Go.RowKit Go.Proofs.YtldbmljooafkcaaW.PrintWords Go.Proofs.YtldbmljooafkcaaW.PrintLast Go.Proofs.YtldbmljooafkcaaW.PrintMore
open Go.Proofs.YtldbmljooafkcaaW.PrintWords renaming below_alloc → zA, below_drew1 → zB, below_set → zC, below_size → zD, below_step → zE, blk_alloc → zF, blk_below → zG, blk_cell → zH, blk_drew → zI, blk_drewN → zJ, blk_frozen → zK, pw_below_drewN → zL, gate_callee → zM, gate_dst → zN
open Go.Proofs.YtldbmljooafkcaaW.PrintWords.Aside0 renaming mk → zO
open Go.Proofs.YtldbmljooafkcaaW.PrintWords.Kd renaming C_alloc → zR, C_drew → zS, C_drewN → zT, R_alloc → zU, R_drew → zV, R_drewN → zW, R_reads' → zX, R_lower → yA
open Option renaming bind_eq_some_iff → yE
open List renaming length_take → yI, length_drop → yJ, map_toArray → yK, map_cons → yL, map_nil → yM
set_option maxHeartbeats 8000000
set_option maxRecDepth 100000
attribute [local go_sem] max2_int min2_int max_two min_two max_three min_three max_four min_four
set_option linter.unusedVariables false
set_option linter.unusedSimpArgs false

def impl_EncodeHeader.l0 : Nat → List Int → List Int → Int → Option (List Int)
 | 0, _, _, _ => none
 | k + 1, x3, x4, x5 => if x5 < 3 then (if x4.length + x3.length < 17592186044416 then (impl_EncodeHeader.l0 k x3 (x4 ++ x3) (wrap64 (x5 + 1))) else (none)) else (some x4)
def impl_EncodeHeader.f (k : Nat) (a0_0 : Int) (a0_1 : Int) (a0_2 : Int) : Option (List Int) := (impl_IsValidHeader.f a0_0 a0_1 a0_2).bind fun t326 => (if t326 = true then ((impl_IntToBits.f k a0_0 2).bind fun t330 => ((impl_IntToBits.f k a0_1 8).bind fun t333 => (if t330.length + t333.length < 17592186044416 then ((some (t330 ++ t333 : List Int)).bind fun y336 => ((impl_IntToBits.f k a0_2 7).bind fun t339 => (if y336.length + t339.length < 17592186044416 then ((some (y336 ++ t339 : List Int)).bind fun y342 => ((impl_Parity.f k y342).bind fun t345 => (if y342.length < 17592186044416 then (if 54 ≤ 35184372088832 then (impl_EncodeHeader.l0 k (y342 ++ [t345]) (([] : List Int)) 0) else (none)) else (none)))) else (none)))) else (none)))) else (some (([] : List Int))))
theorem impl_EncodeHeader.calls (k : Nat) (a0_0 : Int) (a0_1 : Int) (a0_2 : Int) (r : List Int) (w : World) (h : impl_EncodeHeader.f k a0_0 a0_1 a0_2 = some r) :
  Calls Try.prog 135 #[.agg #[.int .i64 a0_0, .int .i64 a0_1, .int .i64 a0_2]] w fun e w' => ∃ v0_ : Value, e = .returned (v0_) ∧ Kd.R (Kd.int .i64) 3 w' w.heap.size (fun _ => True) v0_ r ∧ Below w.heap.size w w' := by
 have hu24 := Try.underlying24
 have HB := zO (Below.refl w.heap.size w)
 have H : ((impl_IsValidHeader.f a0_0 a0_1 a0_2).bind fun t326 => (if t326 = true then ((impl_IntToBits.f k a0_0 2).bind fun t330 => ((impl_IntToBits.f k a0_1 8).bind fun t333 => (if t330.length + t333.length < 17592186044416 then ((some (t330 ++ t333 : List Int)).bind fun y336 => ((impl_IntToBits.f k a0_2 7).bind fun t339 => (if y336.length + t339.length < 17592186044416 then ((some (y336 ++ t339 : List Int)).bind fun y342 => ((impl_Parity.f k y342).bind fun t345 => (if y342.length < 17592186044416 then (if 54 ≤ 35184372088832 then (impl_EncodeHeader.l0 k (y342 ++ [t345]) (([] : List Int)) 0) else (none)) else (none)))) else (none)))) else (none)))) else (some (([] : List Int))))) = some r := h
 clear h
 replace H := yE.mp H
 obtain ⟨t326, A20, H⟩ := H
 replace H : (if t326 = true then ((impl_IntToBits.f k a0_0 2).bind fun t330 => ((impl_IntToBits.f k a0_1 8).bind fun t333 => (if t330.length + t333.length < 17592186044416 then ((some (t330 ++ t333 : List Int)).bind fun y336 => ((impl_IntToBits.f k a0_2 7).bind fun t339 => (if y336.length + t339.length < 17592186044416 then ((some (y336 ++ t339 : List Int)).bind fun y342 => ((impl_Parity.f k y342).bind fun t345 => (if y342.length < 17592186044416 then (if 54 ≤ 35184372088832 then (impl_EncodeHeader.l0 k (y342 ++ [t345]) (([] : List Int)) 0) else (none)) else (none)))) else (none)))) else (none)))) else (some (([] : List Int)))) = some r := H
 have A2 := zO A20
 clear A20
 by_cases c3 : t326 = true
 ·subst c3
  have H1 : ((impl_IntToBits.f k a0_0 2).bind fun t330 => ((impl_IntToBits.f k a0_1 8).bind fun t333 => (if t330.length + t333.length < 17592186044416 then ((some (t330 ++ t333 : List Int)).bind fun y336 => ((impl_IntToBits.f k a0_2 7).bind fun t339 => (if y336.length + t339.length < 17592186044416 then ((some (y336 ++ t339 : List Int)).bind fun y342 => ((impl_Parity.f k y342).bind fun t345 => (if y342.length < 17592186044416 then (if 54 ≤ 35184372088832 then (impl_EncodeHeader.l0 k (y342 ++ [t345]) (([] : List Int)) 0) else (none)) else (none)))) else (none)))) else (none)))) = some r := by rw [if_pos rfl] at H; exact H
  clear H
  have H := H1
  clear H1
  replace H := yE.mp H
  obtain ⟨t330, A40, H⟩ := H
  replace H : ((impl_IntToBits.f k a0_1 8).bind fun t333 => (if t330.length + t333.length < 17592186044416 then ((some (t330 ++ t333 : List Int)).bind fun y336 => ((impl_IntToBits.f k a0_2 7).bind fun t339 => (if y336.length + t339.length < 17592186044416 then ((some (y336 ++ t339 : List Int)).bind fun y342 => ((impl_Parity.f k y342).bind fun t345 => (if y342.length < 17592186044416 then (if 54 ≤ 35184372088832 then (impl_EncodeHeader.l0 k (y342 ++ [t345]) (([] : List Int)) 0) else (none)) else (none)))) else (none)))) else (none))) = some r := H
  have A4 := zO A40
  clear A40
  replace H := yE.mp H
  obtain ⟨t333, A50, H⟩ := H
  replace H : (if t330.length + t333.length < 17592186044416 then ((some (t330 ++ t333 : List Int)).bind fun y336 => ((impl_IntToBits.f k a0_2 7).bind fun t339 => (if y336.length + t339.length < 17592186044416 then ((some (y336 ++ t339 : List Int)).bind fun y342 => ((impl_Parity.f k y342).bind fun t345 => (if y342.length < 17592186044416 then (if 54 ≤ 35184372088832 then (impl_EncodeHeader.l0 k (y342 ++ [t345]) (([] : List Int)) 0) else (none)) else (none)))) else (none)))) else (none)) = some r := H
  have A5 := zO A50
  clear A50
  by_cases c6 : t330.length + t333.length < 17592186044416
  case neg => rw [if_neg c6] at H; exact absurd H (by simp)
  rw [if_pos c6] at H
  have LMc6 := zO c6
  clear c6
  obtain ⟨y336, hy336⟩ : ∃ y_ : List Int, y_ = (t330 ++ t333) := ⟨_, rfl⟩
  replace H : ((impl_IntToBits.f k a0_2 7).bind fun t339 => (if y336.length + t339.length < 17592186044416 then ((some (y336 ++ t339 : List Int)).bind fun y342 => ((impl_Parity.f k y342).bind fun t345 => (if y342.length < 17592186044416 then (if 54 ≤ 35184372088832 then (impl_EncodeHeader.l0 k (y342 ++ [t345]) (([] : List Int)) 0) else (none)) else (none)))) else (none))) = some r := by first | (rw [hy336]; exact H) | exact H
  have Ny336 := zO hy336
  clear hy336
  replace H := yE.mp H
  obtain ⟨t339, A70, H⟩ := H
  replace H : (if y336.length + t339.length < 17592186044416 then ((some (y336 ++ t339 : List Int)).bind fun y342 => ((impl_Parity.f k y342).bind fun t345 => (if y342.length < 17592186044416 then (if 54 ≤ 35184372088832 then (impl_EncodeHeader.l0 k (y342 ++ [t345]) (([] : List Int)) 0) else (none)) else (none)))) else (none)) = some r := H
  have A7 := zO A70
  clear A70
  by_cases c8 : y336.length + t339.length < 17592186044416
  case neg => rw [if_neg c8] at H; exact absurd H (by simp)
  rw [if_pos c8] at H
  have LMc8 := zO c8
  clear c8
  obtain ⟨y342, hy342⟩ : ∃ y_ : List Int, y_ = (y336 ++ t339) := ⟨_, rfl⟩
  replace H : ((impl_Parity.f k y342).bind fun t345 => (if y342.length < 17592186044416 then (if 54 ≤ 35184372088832 then (impl_EncodeHeader.l0 k (y342 ++ [t345]) (([] : List Int)) 0) else (none)) else (none))) = some r := by first | (rw [hy342]; exact H) | exact H
  have Ny342 := zO hy342
  clear hy342
  replace H := yE.mp H
  obtain ⟨t345, A90, H⟩ := H
  replace H : (if y342.length < 17592186044416 then (if 54 ≤ 35184372088832 then (impl_EncodeHeader.l0 k (y342 ++ [t345]) (([] : List Int)) 0) else (none)) else (none)) = some r := H
  have A9 := zO A90
  clear A90
  by_cases c10 : y342.length < 17592186044416
  case neg => rw [if_neg c10] at H; exact absurd H (by simp)
  rw [if_pos c10] at H
  have LMc10 := zO c10
  clear c10
  obtain ⟨y346, hy346⟩ : ∃ y_ : List Int, y_ = (y342 ++ [t345]) := ⟨_, rfl⟩
  replace H : (if 54 ≤ 35184372088832 then (impl_EncodeHeader.l0 k y346 (([] : List Int)) 0) else (none)) = some r := by first | (rw [hy346]; exact H) | exact H
  have Ny346 := zO hy346
  clear hy346
  by_cases c11 : 54 ≤ 35184372088832
  case neg => rw [if_neg c11] at H; exact absurd H (by simp)
  rw [if_pos c11] at H
  have c11b0 := eq_true c11
  have c11b1 : decide (54 ≤ 35184372088832) = true := decide_eq_true c11
  clear c11
  obtain ⟨y349, hy349⟩ : ∃ y_ : List Int, y_ = (([] : List Int)) := ⟨_, rfl⟩
  replace H : (impl_EncodeHeader.l0 k y346 y349 0) = some r := by first | (rw [hy349]; exact H) | exact H
  have Ny349 := zO hy349
  clear hy349
  have H' := zO H
  clear H
  go_enter Try.func135, Try.ntmps135
  go_wp2_with (first | ((with_reducible refine zN (N := 1) rfl ?_); refine box_event ?hg (N := 1) ?hd (cs := #[.int .i64 a0_0, .int .i64 a0_1, .int .i64 a0_2]) (t := 24) ?hr ?_; (case hd => rfl); (case hg => rfl); (case hr => first | (go_simp; done) | (go_simp; rfl)); intro gb325 hg w12 hbox hb; have n0_ := zO (zE (by repeat (first | exact HB.out | apply zA | apply zL | apply zB)) hb); have n1_ := zO (hbox); have n2_ := zO ((by rw [hg]; exact (zD (by repeat (first | exact HB.out | apply zA | apply zL | apply zB))) : w.heap.size ≤ gb325)); have n3_ := zO ((by rw [hg]; exact (zD (by repeat (first | exact HB.out | apply zA | apply zL | apply zB))) : w.heap.size ≤ gb325)); clear HB; have HB := n0_; have BK325 := n1_; have GW325 := n2_; have GE325 := n3_; clear n0_ n1_ n2_ n3_; clear hb hbox hg; have hcz13_0 : w12.cell? ⟨gb325, 0, none⟩ = some (.int .i64 a0_0) := (zH BK325.out 0).trans rfl; have hcz13_1 : w12.cell? ⟨gb325, 1, none⟩ = some (.int .i64 a0_1) := (zH BK325.out 1).trans rfl; have hcz13_2 : w12.cell? ⟨gb325, 2, none⟩ = some (.int .i64 a0_2) := (zH BK325.out 2).trans rfl; have hfz13_0 := zK BK325.out 0; have hfz13_1 := zK BK325.out 1; have hfz13_2 := zK BK325.out 2) | ((with_reducible refine zM (f := 75) rfl ?_); refine goesL_ (some 7) rfl rfl Try.func75 (by kernel_rfl) rfl #[.agg #[.int .i64 a0_0, .int .i64 a0_1, .int .i64 a0_2]] rfl (by (try simp only [yK, yL, yM]); first | done | rfl | (simp only [yJ, yI]; rfl)) ?_; (with_reducible refine (impl_IsValidHeader.calls a0_0 a0_1 a0_2 true _ A2.out).mono ?_); rintro e w14 ⟨rfl, hb⟩; refine ⟨_, rfl, ?_⟩; have n0_ := zO (zG (g := gb325) (o := .cells #[.int .i64 a0_0, .int .i64 a0_1, .int .i64 a0_2] 24 (0, 0)) (by (with_reducible repeat (first | refine zJ ?_ _ | refine zI ?_ | refine zF ?_ _)); exact BK325.out) hb); have n1_ := zO (zE (by repeat (first | (with_reducible first | exact HB.out | apply zA | apply zL | apply zB | refine zC ?_ GE325.out) | exact HB.out)) hb); clear BK325; clear HB; have BK325 := n0_; have HB := n1_; clear n0_ n1_; (try clear hb); (try clear hb2); (try clear hk); (try clear hi); have hcz15_0 : w14.cell? ⟨gb325, 0, none⟩ = some (.int .i64 a0_0) := (zH BK325.out 0).trans rfl; have hcz15_1 : w14.cell? ⟨gb325, 1, none⟩ = some (.int .i64 a0_1) := (zH BK325.out 1).trans rfl; have hcz15_2 : w14.cell? ⟨gb325, 2, none⟩ = some (.int .i64 a0_2) := (zH BK325.out 2).trans rfl; have hfz15_0 := zK BK325.out 0; have hfz15_1 := zK BK325.out 1; have hfz15_2 := zK BK325.out 2) | ((with_reducible refine zM (f := 167) rfl ?_); refine goesL_ (some 12) rfl rfl Try.func167 (by kernel_rfl) rfl #[.int .i64 a0_0, .int .i64 2] rfl (by (try simp only [yK, yL, yM]); first | done | rfl | (simp only [yJ, yI]; rfl)) ?_; (with_reducible refine (impl_IntToBits.calls k a0_0 2 t330 _ A4.out).mono ?_); rintro e w16 ⟨v331, rfl, ho0, hb⟩; refine ⟨_, rfl, ?_⟩; have n0_ := zO (yA ho0 (zD (by repeat (first | (with_reducible first | exact HB.out | apply zA | apply zL | apply zB | refine zC ?_ GE325.out) | exact HB.out)))); have n1_ := zO (zG (g := gb325) (o := .cells #[.int .i64 a0_0, .int .i64 a0_1, .int .i64 a0_2] 24 (0, 0)) (by (with_reducible repeat (first | refine zJ ?_ _ | refine zI ?_ | refine zF ?_ _)); exact BK325.out) hb); have n2_ := zO (zE (by repeat (first | (with_reducible first | exact HB.out | apply zA | apply zL | apply zB | refine zC ?_ GE325.out) | exact HB.out)) hb); clear BK325; clear HB; have HO332 := n0_; have BK325 := n1_; have HB := n2_; clear n0_ n1_ n2_; (try clear hb); (try clear hb2); (try clear hk); (try clear hi); (try clear ho0); have hcz17_0 : w16.cell? ⟨gb325, 0, none⟩ = some (.int .i64 a0_0) := (zH BK325.out 0).trans rfl; have hcz17_1 : w16.cell? ⟨gb325, 1, none⟩ = some (.int .i64 a0_1) := (zH BK325.out 1).trans rfl; have hcz17_2 : w16.cell? ⟨gb325, 2, none⟩ = some (.int .i64 a0_2) := (zH BK325.out 2).trans rfl; have hfz17_0 := zK BK325.out 0; have hfz17_1 := zK BK325.out 1; have hfz17_2 := zK BK325.out 2) | ((with_reducible refine zM (f := 167) rfl ?_); refine goesL_ (some 16) rfl rfl Try.func167 (by kernel_rfl) rfl #[.int .i64 a0_1, .int .i64 8] rfl (by (try simp only [yK, yL, yM]); first | done | rfl | (simp only [yJ, yI]; rfl)) ?_; (with_reducible refine (impl_IntToBits.calls k a0_1 8 t333 _ A5.out).mono ?_); rintro e w18 ⟨v334, rfl, ho0, hb⟩; refine ⟨_, rfl, ?_⟩; have n0_ := zO (Kd.R_elder' (by (with_reducible repeat (first | apply zU | apply zW | apply zV)); exact HO332.out) (Kd.R_base ho0) hb); have n1_ := zO (yA (Kd.R_new' ho0 (Kd.R_lt (by (with_reducible repeat (first | apply zU | apply zW | apply zV)); exact HO332.out))) (zD (by repeat (first | (with_reducible first | exact HB.out | apply zA | apply zL | apply zB | refine zC ?_ GE325.out) | exact HB.out)))); have n2_ := zO (zG (g := gb325) (o := .cells #[.int .i64 a0_0, .int .i64 a0_1, .int .i64 a0_2] 24 (0, 0)) (by (with_reducible repeat (first | refine zJ ?_ _ | refine zI ?_ | refine zF ?_ _)); exact BK325.out) hb); have n3_ := zO (zE (by repeat (first | (with_reducible first | exact HB.out | apply zA | apply zL | apply zB | refine zC ?_ GE325.out) | exact HB.out)) hb); clear HO332; clear BK325; clear HB; have HO332 := n0_; have HO335 := n1_; have BK325 := n2_; have HB := n3_; clear n0_ n1_ n2_ n3_; (try clear hb); (try clear hb2); (try clear hk); (try clear hi); (try clear ho0); obtain ⟨Ao20, co20, eo20⟩ := Kd.R_slice HO335.out; subst eo20) | ((with_reducible refine gate_builtin (b := .append) (xs := #[.tmp 13, .tmp 16]) rfl ?_); at_builtin; refine Kd.R_append_rows (Kd.int .i64) (w0 := w) w.heap.size rfl (.tmp 13) (.tmp 16) 22 3 (.int .i64 0) 8 rfl Try.underlying22 info3 rfl (by decide) (by omega) v331 t330 t333 _ _ _ (fun k_ => some k_ ≠ (.slice Ao20 t333.length co20 : Value).ownBlock) (fun _ => False) rfl rfl ?aO ?aR (fun _ _ h => h) (fun _ h => h.elim) ?aF ?aB ?aS ?aL ?_; (case aR => repeat (first | exact (zX HO335.out).2.2 | (with_reducible refine zR ?_ _) | (with_reducible refine zT ?_ _) | (with_reducible refine zS ?_))); (case aB => exact (by repeat (first | (with_reducible first | exact HB.out | apply zA | apply zL | apply zB | refine zC ?_ GE325.out) | exact HB.out))); (case aF => exact (fun k_ hk => Kd.fresh' (Kd.R_lt (by (with_reducible repeat (first | apply zU | apply zW | apply zV)); exact HO335.out)) k_ hk)); (case aO => exact (by (with_reducible repeat (first | apply zU | apply zW | apply zV)); exact Kd.R_mono HO332.out (fun _ hk => hk.2))); (case aS => exact (zD (by repeat (first | (with_reducible first | exact HB.out | apply zA | apply zL | apply zB | refine zC ?_ GE325.out) | exact HB.out)))); (case aL => have := LMc6.out; omega); intro v337 w19 ho hb hg hat; rw [← Ny336.out] at ho; have n0_ := zO (blk_grown (g := gb325) (o := .cells #[.int .i64 a0_0, .int .i64 a0_1, .int .i64 a0_2] 24 (0, 0)) (by (with_reducible repeat (first | refine zJ ?_ _ | refine zI ?_ | refine zF ?_ _)); exact BK325.out) hg (Kd.R_ne HO332.out BK325.out (by decide))); have n1_ := zO (Kd.R_after (ok := (fun _ => True)) (by (with_reducible repeat (first | apply zU | apply zW | apply zV)); exact HO335.out) hg hat); have n2_ := zO (hb); have n3_ := zO (ho); clear BK325; clear HO335; clear HB; clear HO332; have BK325 := n0_; have HO335 := n1_; have HB := n2_; have HO338 := n3_; clear n0_ n1_ n2_ n3_; clear ho hb hg hat; have hcz21_0 : w19.cell? ⟨gb325, 0, none⟩ = some (.int .i64 a0_0) := (zH BK325.out 0).trans rfl; have hcz21_1 : w19.cell? ⟨gb325, 1, none⟩ = some (.int .i64 a0_1) := (zH BK325.out 1).trans rfl; have hcz21_2 : w19.cell? ⟨gb325, 2, none⟩ = some (.int .i64 a0_2) := (zH BK325.out 2).trans rfl; have hfz21_0 := zK BK325.out 0; have hfz21_1 := zK BK325.out 1; have hfz21_2 := zK BK325.out 2) | ((with_reducible refine zM (f := 167) rfl ?_); refine goesL_ (some 21) rfl rfl Try.func167 (by kernel_rfl) rfl #[.int .i64 a0_2, .int .i64 7] rfl (by (try simp only [yK, yL, yM]); first | done | rfl | (simp only [yJ, yI]; rfl)) ?_; (with_reducible refine (impl_IntToBits.calls k a0_2 7 t339 _ A7.out).mono ?_); rintro e w22 ⟨v340, rfl, ho0, hb⟩; refine ⟨_, rfl, ?_⟩; have n0_ := zO (Kd.R_elder' (by (with_reducible repeat (first | apply zU | apply zW | apply zV)); exact HO335.out) (Kd.R_base ho0) hb); have n1_ := zO (Kd.R_elder' (by (with_reducible repeat (first | apply zU | apply zW | apply zV)); exact HO338.out) (Kd.R_base ho0) hb); have n2_ := zO (yA (Kd.R_new' (Kd.R_new' ho0 (Kd.R_lt (by (with_reducible repeat (first | apply zU | apply zW | apply zV)); exact HO335.out))) (Kd.R_lt (by (with_reducible repeat (first | apply zU | apply zW | apply zV)); exact HO338.out))) (zD (by repeat (first | (with_reducible first | exact HB.out | apply zA | apply zL | apply zB | refine zC ?_ GE325.out) | exact HB.out)))); have n3_ := zO (zG (g := gb325) (o := .cells #[.int .i64 a0_0, .int .i64 a0_1, .int .i64 a0_2] 24 (0, 0)) (by (with_reducible repeat (first | refine zJ ?_ _ | refine zI ?_ | refine zF ?_ _)); exact BK325.out) hb); have n4_ := zO (zE (by repeat (first | (with_reducible first | exact HB.out | apply zA | apply zL | apply zB | refine zC ?_ GE325.out) | exact HB.out)) hb); clear HO335; clear HO338; clear BK325; clear HB; have HO335 := n0_; have HO338 := n1_; have HO341 := n2_; have BK325 := n3_; have HB := n4_; clear n0_ n1_ n2_ n3_ n4_; (try clear hb); (try clear hb2); (try clear hk); (try clear hi); (try clear ho0); obtain ⟨Ao24, co24, eo24⟩ := Kd.R_slice HO341.out; subst eo24) | ((with_reducible refine gate_builtin (b := .append) (xs := #[.tmp 18, .tmp 21]) rfl ?_); at_builtin; refine Kd.R_append_rows (Kd.int .i64) (w0 := w) w.heap.size rfl (.tmp 18) (.tmp 21) 22 3 (.int .i64 0) 8 rfl Try.underlying22 info3 rfl (by decide) (by omega) v337 y336 t339 _ _ _ (fun k_ => some k_ ≠ (.slice Ao20 t333.length co20 : Value).ownBlock ∧ some k_ ≠ (.slice Ao24 t339.length co24 : Value).ownBlock) (fun _ => False) rfl rfl ?aO ?aR (fun _ _ h => h) (fun _ h => h.elim) ?aF ?aB ?aS ?aL ?_; (case aR => repeat (first | exact (zX HO341.out).2.2 | (with_reducible refine zR ?_ _) | (with_reducible refine zT ?_ _) | (with_reducible refine zS ?_))); (case aB => exact (by repeat (first | (with_reducible first | exact HB.out | apply zA | apply zL | apply zB | refine zC ?_ GE325.out) | exact HB.out))); (case aF => exact (fun k_ hk => ⟨Kd.fresh' (Kd.R_lt (by (with_reducible repeat (first | apply zU | apply zW | apply zV)); exact HO335.out)) k_ hk, Kd.fresh' (Kd.R_lt (by (with_reducible repeat (first | apply zU | apply zW | apply zV)); exact HO341.out)) k_ hk⟩)); (case aO => exact (by (with_reducible repeat (first | apply zU | apply zW | apply zV)); exact HO338.out)); (case aS => exact (zD (by repeat (first | (with_reducible first | exact HB.out | apply zA | apply zL | apply zB | refine zC ?_ GE325.out) | exact HB.out)))); (case aL => have := LMc8.out; omega); intro v343 w23 ho hb hg hat; rw [← Ny342.out] at ho; have n0_ := zO (blk_grown (g := gb325) (o := .cells #[.int .i64 a0_0, .int .i64 a0_1, .int .i64 a0_2] 24 (0, 0)) (by (with_reducible repeat (first | refine zJ ?_ _ | refine zI ?_ | refine zF ?_ _)); exact BK325.out) hg (Kd.R_ne HO338.out BK325.out (by decide))); have n1_ := zO (Kd.R_after (ok := (fun k_ => some k_ ≠ (.slice Ao24 t339.length co24 : Value).ownBlock)) (by (with_reducible repeat (first | apply zU | apply zW | apply zV)); exact Kd.R_mono HO335.out (fun _ hk => ⟨hk.2, hk.1.2⟩)) hg hat); have n2_ := zO (Kd.R_after (ok := (fun k_ => some k_ ≠ (.slice Ao20 t333.length co20 : Value).ownBlock)) (by (with_reducible repeat (first | apply zU | apply zW | apply zV)); exact Kd.R_mono HO341.out (fun _ hk => ⟨hk.1.2, hk.2⟩)) hg hat); have n3_ := zO (hb); have n4_ := zO (ho); clear BK325; clear HO335; clear HO341; clear HB; clear HO338; have BK325 := n0_; have HO335 := n1_; have HO341 := n2_; have HB := n3_; have HO344 := n4_; clear n0_ n1_ n2_ n3_ n4_; clear ho hb hg hat; obtain ⟨Ao25, co25, eo25⟩ := Kd.R_slice HO344.out; subst eo25) | ((with_reducible refine zM (f := 74) rfl ?_); refine goesL_ (some 25) rfl rfl Try.func74 (by kernel_rfl) rfl #[.slice Ao25 y342.length co25] rfl (by (try simp only [yK, yL, yM]); first | done | rfl | (simp only [yJ, yI]; rfl)) ?_; (with_reducible refine (impl_Parity.calls k _ _ y342 t345 _ ?side1 ?side2 A9.out).mono ?_); (case side1 => repeat (first | exact (zX HO344.out).2.2 | (with_reducible refine zR ?_ _) | (with_reducible refine zT ?_ _) | (with_reducible refine zS ?_))); (case side2 => exact (zX HO344.out).2.1); rintro e w' ⟨rfl, ⟨nd, rfl⟩⟩; refine ⟨_, rfl, ?_⟩) | ((with_reducible refine gate_builtin (b := .append) (xs := #[.tmp 23, .tmp 26]) rfl ?_); at_builtin; refine Kd.R_append (Kd.int .i64) (w0 := w) w.heap.size rfl (.tmp 23) (.tmp 26) 22 3 (.int .i64 0) 8 rfl Try.underlying22 info3 rfl (by decide) (by omega) (.slice Ao25 y342.length co25) y342 t345 [.int .i64 t345] (fun k_ => some k_ ≠ (.slice Ao20 t333.length co20 : Value).ownBlock ∧ some k_ ≠ (.slice Ao24 t339.length co24 : Value).ownBlock) (fun _ => False) rfl rfl ?aP (fun _ hk => hk.elim) ?aF ?aO ?aB ?aS ?aL ?_; (case aP => exact rfl); (case aB => exact (by repeat (first | (with_reducible first | exact HB.out | apply zA | apply zL | apply zB | refine zC ?_ GE325.out) | exact HB.out))); (case aF => exact (fun k_ hk => ⟨Kd.fresh' (Kd.R_lt (by (with_reducible repeat (first | apply zU | apply zW | apply zV)); exact HO335.out)) k_ hk, Kd.fresh' (Kd.R_lt (by (with_reducible repeat (first | apply zU | apply zW | apply zV)); exact HO341.out)) k_ hk⟩)); (case aO => exact (by (with_reducible repeat (first | apply zU | apply zW | apply zV)); exact HO344.out)); (case aS => exact (zD (by repeat (first | (with_reducible first | exact HB.out | apply zA | apply zL | apply zB | refine zC ?_ GE325.out) | exact HB.out)))); (case aL => have := LMc10.out; omega); intro v347 w26 ho hb hg hat; rw [← Ny346.out] at ho; have n0_ := zO (blk_grown (g := gb325) (o := .cells #[.int .i64 a0_0, .int .i64 a0_1, .int .i64 a0_2] 24 (0, 0)) (by (with_reducible repeat (first | refine zJ ?_ _ | refine zI ?_ | refine zF ?_ _)); exact BK325.out) hg (Kd.R_ne HO344.out BK325.out (by decide))); have n1_ := zO (Kd.R_after (ok := (fun k_ => some k_ ≠ (.slice Ao24 t339.length co24 : Value).ownBlock)) (by (with_reducible repeat (first | apply zU | apply zW | apply zV)); exact HO335.out) hg hat); have n2_ := zO (Kd.R_after (ok := (fun k_ => some k_ ≠ (.slice Ao20 t333.length co20 : Value).ownBlock)) (by (with_reducible repeat (first | apply zU | apply zW | apply zV)); exact HO341.out) hg hat); have n3_ := zO (hb); have n4_ := zO (ho); clear BK325; clear HO335; clear HO341; clear HB; clear HO344; have BK325 := n0_; have HO335 := n1_; have HO341 := n2_; have HB := n3_; have HO348 := n4_; clear n0_ n1_ n2_ n3_ n4_; clear ho hb hg hat) | ((with_reducible refine zN (N := 28) rfl ?_); refine Kd.R_make0 .i64 _ 3 rfl (N := 28) rfl 22 _ _ rfl 54 rfl rfl Try.underlying22 (.int .i64 0) 8 info3 (by decide) (ok := fun _ => True) trivial (by omega) (by omega) (Below.refl _ _) (Nat.le_refl _) ?_; intro v350 w27 ho28 hb hg_ hnew_; clear hg_ hnew_; (first | rw [← Ny349.out] at ho28 | (simp only [Int.reduceToNat] at ho28; rw [← Ny349.out] at ho28)); have n0_ := zO (Kd.R_elder' (by (with_reducible repeat (first | apply zU | apply zW | apply zV)); exact HO335.out) (Kd.R_base ho28) hb); have n1_ := zO (Kd.R_elder' (by (with_reducible repeat (first | apply zU | apply zW | apply zV)); exact HO341.out) (Kd.R_base ho28) hb); have n2_ := zO (Kd.R_elder' (by (with_reducible repeat (first | apply zU | apply zW | apply zV)); exact HO348.out) (Kd.R_base ho28) hb); have n3_ := zO (yA (Kd.R_new' (Kd.R_new' (Kd.R_new' ho28 (Kd.R_lt (by (with_reducible repeat (first | apply zU | apply zW | apply zV)); exact HO335.out))) (Kd.R_lt (by (with_reducible repeat (first | apply zU | apply zW | apply zV)); exact HO341.out))) (Kd.R_lt (by (with_reducible repeat (first | apply zU | apply zW | apply zV)); exact HO348.out))) (zD (by repeat (first | (with_reducible first | exact HB.out | apply zA | apply zL | apply zB | refine zC ?_ GE325.out) | exact HB.out)))); have n4_ := zO (zG (g := gb325) (o := .cells #[.int .i64 a0_0, .int .i64 a0_1, .int .i64 a0_2] 24 (0, 0)) (by (with_reducible repeat (first | refine zJ ?_ _ | refine zI ?_ | refine zF ?_ _)); exact BK325.out) hb); have n5_ := zO (zE (by repeat (first | (with_reducible first | exact HB.out | apply zA | apply zL | apply zB | refine zC ?_ GE325.out) | exact HB.out)) hb); clear HO335; clear HO341; clear HO348; clear BK325; clear HB; have HO335 := n0_; have HO341 := n1_; have HO348 := n2_; have HO351 := n3_; have BK325 := n4_; have HB := n5_; clear n0_ n1_ n2_ n3_ n4_ n5_; clear hb ho28))
  go_loopg [4, 5] k (fun kq v4 v5 w' => ∃ (x4_1 : List Int) (x5_1 : Int), v5 = .int .i64 x5_1 ∧ Aside0 (impl_EncodeHeader.l0 kq y346 x4_1 x5_1 = some r) ∧ Aside0 (kq ≤ k) ∧ Aside0 (Kd.R (Kd.int .i64) 3 w' w.heap.size (fun k_ => some k_ ≠ (v4 : Value).ownBlock) v347 y346) ∧ Aside0 (Kd.R (Kd.int .i64) 3 w' w.heap.size (fun k_ => some k_ ≠ (v347 : Value).ownBlock) v4 x4_1) ∧ Aside0 (w'.heap[gb325]? = some (.cells #[.int .i64 a0_0, .int .i64 a0_1, .int .i64 a0_2] 24 (0, 0))) ∧ Aside0 (Below w.heap.size w w'))
  case atStart => exact ⟨(y349), (0), (by first | rfl | (simp; done) | (simp [*]; done)), H', ⟨Nat.le_refl _⟩, ⟨by (with_reducible repeat (first | apply zU | apply zW | apply zV)); exact Kd.R_mono HO348.out (fun _ hk => hk.2)⟩, ⟨by (with_reducible repeat (first | apply zU | apply zW | apply zV)); exact Kd.R_mono HO351.out (fun _ hk => hk.2)⟩, ⟨by (with_reducible repeat (first | refine zJ ?_ _ | refine zI ?_ | refine zF ?_ _)); exact BK325.out⟩, ⟨by repeat (first | (with_reducible first | exact HB.out | apply zA | apply zL | apply zB | refine zC ?_ GE325.out) | exact HB.out)⟩⟩
  case round =>
   clear H'
   try clear c1
   try clear p2
   try clear c3
   try clear c6
   try clear c7
   try clear c8
   try clear c10
   try clear c11
   try clear c11b0
   try clear c11b1
   try clear c13
   try clear c16
   try clear hcz13_0
   try clear hcz13_1
   try clear hcz13_2
   try clear hcz15_0
   try clear hcz15_1
   try clear hcz15_2
   try clear hcz17_0
   try clear hcz17_1
   try clear hcz17_2
   try clear hcz21_0
   try clear hcz21_1
   try clear hcz21_2
   try clear hfz13_0
   try clear hfz13_1
   try clear hfz13_2
   try clear hfz15_0
   try clear hfz15_1
   try clear hfz15_2
   try clear hfz17_0
   try clear hfz17_1
   try clear hfz17_2
   try clear hfz21_0
   try clear hfz21_1
   try clear hfz21_2
   obtain ⟨x4_1, x5_1, rfl, HA, HK1, HO_3, HO_4, BK325, HB⟩ := hrel
   cases gk with
   | zero => exact absurd HA.out (by simp [impl_EncodeHeader.l0])
   | succ k1 =>
    have H := HA.out
    clear HA
    simp only [impl_EncodeHeader.l0] at H
    by_cases c29 : x5_1 < 3
    ·rw [if_pos c29] at H
     have c29b0 : decide (x5_1 < 3) = true := decide_eq_true c29
     clear c29
     by_cases c30 : x4_1.length + y346.length < 17592186044416
     case neg => rw [if_neg c30] at H; exact absurd H (by simp)
     rw [if_pos c30] at H
     have LMc30 := zO c30
     clear c30
     obtain ⟨y352, hy352⟩ : ∃ y_ : List Int, y_ = (x4_1 ++ y346) := ⟨_, rfl⟩
     replace H : (impl_EncodeHeader.l0 k1 y346 y352 (wrap64 (x5_1 + 1))) = some r := by first | (rw [hy352]; exact H) | exact H
     have Ny352 := zO hy352
     clear hy352
     have H' := zO H
     clear H
     obtain ⟨Ao32, co32, eo32⟩ := Kd.R_slice HO_3.out
     subst eo32
     go_wp2_with (first | ((with_reducible refine gate_builtin (b := .append) (xs := #[.tmp 33, .tmp 34]) rfl ?_); at_builtin; refine Kd.R_append_rows (Kd.int .i64) (w0 := w) w.heap.size rfl (.tmp 33) (.tmp 34) 22 3 (.int .i64 0) 8 rfl Try.underlying22 info3 rfl (by decide) (by omega) u4 x4_1 y346 _ _ _ (fun k_ => some k_ ≠ (.slice Ao32 y346.length co32 : Value).ownBlock) (fun _ => False) rfl rfl ?aO ?aR (fun _ _ h => h) (fun _ h => h.elim) ?aF ?aB ?aS ?aL ?_; (case aR => repeat (first | exact (zX HO_3.out).2.2 | (with_reducible refine zR ?_ _) | (with_reducible refine zT ?_ _) | (with_reducible refine zS ?_))); (case aB => exact (by repeat (first | (with_reducible first | exact HB.out | apply zA | apply zL | apply zB | refine zC ?_ GE325.out) | exact HB.out))); (case aF => exact (fun k_ hk => Kd.fresh' (Kd.R_lt (by (with_reducible repeat (first | apply zU | apply zW | apply zV)); exact HO_3.out)) k_ hk)); (case aO => exact (by (with_reducible repeat (first | apply zU | apply zW | apply zV)); exact HO_4.out)); (case aS => exact (zD (by repeat (first | (with_reducible first | exact HB.out | apply zA | apply zL | apply zB | refine zC ?_ GE325.out) | exact HB.out)))); (case aL => have := LMc30.out; omega); intro v353 w31 ho hb hg hat; rw [← Ny352.out] at ho; have n0_ := zO (Kd.R_after (ok := (fun _ => True)) (by (with_reducible repeat (first | apply zU | apply zW | apply zV)); exact Kd.R_mono HO_3.out (fun _ hk => ⟨trivial, hk⟩)) hg hat); have n1_ := zO (blk_grown (g := gb325) (o := .cells #[.int .i64 a0_0, .int .i64 a0_1, .int .i64 a0_2] 24 (0, 0)) (by (with_reducible repeat (first | refine zJ ?_ _ | refine zI ?_ | refine zF ?_ _)); exact BK325.out) hg (Kd.R_ne HO_4.out BK325.out (by decide))); have n2_ := zO (hb); have n3_ := zO (ho); clear HO_3; clear BK325; clear HB; clear HO_4; have HO_3 := n0_; have BK325 := n1_; have HB := n2_; have HO354 := n3_; clear n0_ n1_ n2_ n3_; clear ho hb hg hat))
     go_roundg k1
     case measure => have := HK1.out; omega
     case rel => exact ⟨(y352), (wrap64 (x5_1 + 1)), (by first | rfl | (simp; done) | (simp [*]; done)), H', ⟨by have := HK1.out; omega⟩, ⟨by (with_reducible repeat (first | apply zU | apply zW | apply zV)); exact Kd.R_mono HO_3.out (fun _ hk => hk.2)⟩, ⟨by (with_reducible repeat (first | apply zU | apply zW | apply zV)); exact HO354.out⟩, ⟨by (with_reducible repeat (first | refine zJ ?_ _ | refine zI ?_ | refine zF ?_ _)); exact BK325.out⟩, ⟨by repeat (first | (with_reducible first | exact HB.out | apply zA | apply zL | apply zB | refine zC ?_ GE325.out) | exact HB.out)⟩⟩
    ·rw [if_neg c29] at H
     have c29b0 : decide (x5_1 < 3) = false := decide_eq_false c29
     clear c29
     obtain rfl := Option.some.inj H
     go_wp2
     go_ret
     exact ⟨_, by first | rfl | (simp [errW_none, errW_some] <;> rfl) | (simp [*, errW_none, errW_some] <;> rfl), by (with_reducible repeat (first | apply zU | apply zW | apply zV)); exact Kd.R_mono HO_4.out (fun _ hk => trivial), by repeat (first | (with_reducible first | exact HB.out | apply zA | apply zL | apply zB | refine zC ?_ GE325.out) | exact HB.out)⟩
 ·replace c3 := Bool.eq_false_iff.mpr c3
  subst c3
  have H1 : (some (([] : List Int))) = some r := by rw [if_neg (show ¬ (false = true) by decide)] at H; exact H
  clear H
  have H := H1
  clear H1
  obtain ⟨y327, hy327⟩ : ∃ y_ : List Int, y_ = (([] : List Int)) := ⟨_, rfl⟩
  replace H : (some y327) = some r := by first | (rw [hy327]; exact H) | exact H
  have Ny327 := zO hy327
  clear hy327
  obtain rfl := Option.some.inj H
  go_enter Try.func135, Try.ntmps135
  go_wp2_with (first | ((with_reducible refine zN (N := 1) rfl ?_); refine box_event ?hg (N := 1) ?hd (cs := #[.int .i64 a0_0, .int .i64 a0_1, .int .i64 a0_2]) (t := 24) ?hr ?_; (case hd => rfl); (case hg => rfl); (case hr => first | (go_simp; done) | (go_simp; rfl)); intro gb325 hg w33 hbox hb; have n0_ := zO (zE (by repeat (first | exact HB.out | apply zA | apply zL | apply zB)) hb); have n1_ := zO (hbox); have n2_ := zO ((by rw [hg]; exact (zD (by repeat (first | exact HB.out | apply zA | apply zL | apply zB))) : w.heap.size ≤ gb325)); have n3_ := zO ((by rw [hg]; exact (zD (by repeat (first | exact HB.out | apply zA | apply zL | apply zB))) : w.heap.size ≤ gb325)); clear HB; have HB := n0_; have BK325 := n1_; have GW325 := n2_; have GE325 := n3_; clear n0_ n1_ n2_ n3_; clear hb hbox hg; have hcz34_0 : w33.cell? ⟨gb325, 0, none⟩ = some (.int .i64 a0_0) := (zH BK325.out 0).trans rfl; have hcz34_1 : w33.cell? ⟨gb325, 1, none⟩ = some (.int .i64 a0_1) := (zH BK325.out 1).trans rfl; have hcz34_2 : w33.cell? ⟨gb325, 2, none⟩ = some (.int .i64 a0_2) := (zH BK325.out 2).trans rfl; have hfz34_0 := zK BK325.out 0; have hfz34_1 := zK BK325.out 1; have hfz34_2 := zK BK325.out 2) | ((with_reducible refine zM (f := 75) rfl ?_); refine goesL_ (some 7) rfl rfl Try.func75 (by kernel_rfl) rfl #[.agg #[.int .i64 a0_0, .int .i64 a0_1, .int .i64 a0_2]] rfl (by (try simp only [yK, yL, yM]); first | done | rfl | (simp only [yJ, yI]; rfl)) ?_; (with_reducible refine (impl_IsValidHeader.calls a0_0 a0_1 a0_2 false _ A2.out).mono ?_); rintro e w35 ⟨rfl, hb⟩; refine ⟨_, rfl, ?_⟩; have n0_ := zO (zG (g := gb325) (o := .cells #[.int .i64 a0_0, .int .i64 a0_1, .int .i64 a0_2] 24 (0, 0)) (by (with_reducible repeat (first | refine zJ ?_ _ | refine zI ?_ | refine zF ?_ _)); exact BK325.out) hb); have n1_ := zO (zE (by repeat (first | (with_reducible first | exact HB.out | apply zA | apply zL | apply zB | refine zC ?_ GE325.out) | exact HB.out)) hb); clear BK325; clear HB; have BK325 := n0_; have HB := n1_; clear n0_ n1_; (try clear hb); (try clear hb2); (try clear hk); (try clear hi)) | ((with_reducible refine zN (N := 9) rfl ?_); refine Kd.R_lit (Kd.int .i64) _ 3 ?hg (N := 9) ?hd (xs := ([] : List Int)) (inner := []) (ok := fun _ => True) (okp := fun _ => True) ?hr ?hp (fun _ hk => hk) trivial (Below.refl _ _) (Nat.le_refl _) (by simp) ?_; (case hd => rfl); (case hg => rfl); (case hr => first | (go_simp; done) | (go_simp; rfl)); (case hp => exact (Reps.none _ _)); intro v328 w36 ho37 hb hg_ hnew_; clear hg_ hnew_; (first | rw [← Ny327.out] at ho37 | (simp only [Int.reduceToNat] at ho37; rw [← Ny327.out] at ho37)); have n0_ := zO (yA ho37 (zD (by repeat (first | (with_reducible first | exact HB.out | apply zA | apply zL | apply zB | refine zC ?_ GE325.out) | exact HB.out)))); have n1_ := zO (zG (g := gb325) (o := .cells #[.int .i64 a0_0, .int .i64 a0_1, .int .i64 a0_2] 24 (0, 0)) (by (with_reducible repeat (first | refine zJ ?_ _ | refine zI ?_ | refine zF ?_ _)); exact BK325.out) hb); have n2_ := zO (zE (by repeat (first | (with_reducible first | exact HB.out | apply zA | apply zL | apply zB | refine zC ?_ GE325.out) | exact HB.out)) hb); clear BK325; clear HB; have HO329 := n0_; have BK325 := n1_; have HB := n2_; clear n0_ n1_ n2_; clear hb ho37))
  go_ret
  exact ⟨_, by first | rfl | (simp [errW_none, errW_some] <;> rfl) | (simp [*, errW_none, errW_some] <;> rfl), by (with_reducible repeat (first | apply zU | apply zW | apply zV)); exact HO329.out, by repeat (first | (with_reducible first | exact HB.out | apply zA | apply zL | apply zB | refine zC ?_ GE325.out) | exact HB.out)⟩

def impl_Interleave.l0 : Nat → List Int → Int → List Int → List Int → Int → Int → Option (List Int)
 | 0, _, _, _, _, _, _ => none
 | k + 1, x0, x1, x5, x16, x17, x18 => if x18 < x17 then (if 0 ≤ x18 then (if x18 < (x16.length : Int) then ((impl_InterleavedIndex.f (x0.length : Int) x1 x18).bind fun t360 => (if 0 ≤ t360 then (if t360 < (x5.length : Int) then (impl_Interleave.l0 k x0 x1 (x5.set (t360 : Int).toNat (rd x16 x18)) x16 x17 (wrap64 (x18 + 1))) else (none)) else (none))) else (none)) else (none)) else (some x5)
def impl_Interleave.f (k : Nat) (l0 : List Int) (a1 : Int) : Option (List Int) := (impl_copyInts.f l0).bind fun t355 => ((impl_isInterleaver.f (l0.length : Int) a1).bind fun t358 => (if t358 = true then (impl_Interleave.l0 k l0 a1 t355 l0 (l0.length : Int) 0) else (some t355)))
theorem impl_Interleave.calls (k : Nat) (A0 : Option Addr) (c0 : Nat) (l0 : List Int) (a1 : Int) (r : List Int) (w : World) (hr0 : Kd.C (Kd.int .i64) w A0 l0.length l0) (hc0 : l0.length ≤ c0) (h : impl_Interleave.f k l0 a1 = some r) :
  Calls Try.prog 136 #[.slice A0 l0.length c0, .int .i64 a1] w fun e w' => ∃ v0_ : Value, e = .returned (v0_) ∧ Kd.R (Kd.int .i64) 3 w' w.heap.size (fun _ => True) v0_ r ∧ Below w.heap.size w w' := by
 have HR0 := zO hr0
 have HC0 := zO hc0
 clear hr0 hc0
 have HB := zO (Below.refl w.heap.size w)
 have H : ((impl_copyInts.f l0).bind fun t355 => ((impl_isInterleaver.f (l0.length : Int) a1).bind fun t358 => (if t358 = true then (impl_Interleave.l0 k l0 a1 t355 l0 (l0.length : Int) 0) else (some t355)))) = some r := h
 clear h
 replace H := yE.mp H
 obtain ⟨t355, A30, H⟩ := H
 replace H : ((impl_isInterleaver.f (l0.length : Int) a1).bind fun t358 => (if t358 = true then (impl_Interleave.l0 k l0 a1 t355 l0 (l0.length : Int) 0) else (some t355))) = some r := H
 have A3 := zO A30
 clear A30
 replace H := yE.mp H
 obtain ⟨t358, A40, H⟩ := H
 replace H : (if t358 = true then (impl_Interleave.l0 k l0 a1 t355 l0 (l0.length : Int) 0) else (some t355)) = some r := H
 have A4 := zO A40
 clear A40
 by_cases c5 : t358 = true
 ·subst c5
  have H1 : (impl_Interleave.l0 k l0 a1 t355 l0 (l0.length : Int) 0) = some r := by rw [if_pos rfl] at H; exact H
  clear H
  have H := H1
  clear H1
  have H' := zO H
  clear H
  go_enter Try.func136, Try.ntmps136
  go_wp2_with (first | ((with_reducible refine zM (f := 103) rfl ?_); refine goesL_ (some 9) rfl rfl Try.func103 (by kernel_rfl) rfl #[.slice A0 l0.length c0] rfl (by (try simp only [yK, yL, yM]); first | done | rfl | (simp only [yJ, yI]; rfl)) ?_; (with_reducible refine (impl_copyInts.calls _ _ l0 t355 _ ?side1 ?side2 A3.out).mono ?_); (case side1 => repeat (first | exact HR0.out | (with_reducible refine zR ?_ _) | (with_reducible refine zT ?_ _) | (with_reducible refine zS ?_))); (case side2 => exact HC0.out); rintro e w6 ⟨v356, rfl, ho0, hb⟩; refine ⟨_, rfl, ?_⟩; have n0_ := zO (yA ho0 (zD (by repeat (first | exact HB.out | apply zA | apply zL | apply zB)))); have n1_ := zO (zE (by repeat (first | exact HB.out | apply zA | apply zL | apply zB)) hb); clear HB; have HO357 := n0_; have HB := n1_; clear n0_ n1_; (try clear hb); (try clear hb2); (try clear hk); (try clear hi); (try clear ho0)) | ((with_reducible refine zM (f := 162) rfl ?_); refine goesL_ (some 13) rfl rfl Try.func162 (by kernel_rfl) rfl #[.int .i64 (l0.length : Int), .int .i64 a1] rfl (by (try simp only [yK, yL, yM]); first | done | rfl | (simp only [yJ, yI]; rfl)) ?_; (with_reducible refine (impl_isInterleaver.calls (l0.length : Int) a1 true _ A4.out).mono ?_); rintro e w' ⟨rfl, ⟨nd, rfl⟩⟩; refine ⟨_, rfl, ?_⟩))
  go_loopg [18] k (fun kq v18 w' => ∃ (x5_1 : List Int) (x18_1 : Int), v18 = .int .i64 x18_1 ∧ Aside0 (impl_Interleave.l0 kq l0 a1 x5_1 l0 (l0.length : Int) x18_1 = some r) ∧ Aside0 (kq ≤ k) ∧ Aside0 (Kd.R (Kd.int .i64) 3 w' w.heap.size (fun _ => True) v356 x5_1) ∧ Aside0 (Below w.heap.size w w'))
  case atStart => exact ⟨(t355), (0), (by first | rfl | (simp; done) | (simp [*]; done)), H', ⟨Nat.le_refl _⟩, ⟨by (with_reducible repeat (first | apply zU | apply zW | apply zV)); exact HO357.out⟩, ⟨by repeat (first | exact HB.out | apply zA | apply zL | apply zB)⟩⟩
  case round =>
   clear H'
   try clear c1
   try clear p2
   try clear c5
   obtain ⟨x5_1, x18_1, rfl, HA, HK1, HO_5, HB⟩ := hrel
   cases gk with
   | zero => exact absurd HA.out (by simp [impl_Interleave.l0])
   | succ k1 =>
    have H := HA.out
    clear HA
    simp only [impl_Interleave.l0] at H
    by_cases c7 : x18_1 < (l0.length : Int)
    ·rw [if_pos c7] at H
     have c7b0 : decide (x18_1 < (l0.length : Int)) = true := decide_eq_true c7
     clear c7
     by_cases c8 : 0 ≤ x18_1
     case neg => rw [if_neg c8] at H; exact absurd H (by simp)
     rw [if_pos c8] at H
     have c8b0 : decide (0 ≤ x18_1) = true := decide_eq_true c8
     clear c8
     by_cases c9 : x18_1 < (l0.length : Int)
     case neg => rw [if_neg c9] at H; exact absurd H (by simp)
     rw [if_pos c9] at H
     have c9b0 : decide (x18_1 < (l0.length : Int)) = true := decide_eq_true c9
     clear c9
     replace H := yE.mp H
     obtain ⟨t360, A100, H⟩ := H
     replace H : (if 0 ≤ t360 then (if t360 < (x5_1.length : Int) then (impl_Interleave.l0 k1 l0 a1 (x5_1.set (t360 : Int).toNat (rd l0 x18_1)) l0 (l0.length : Int) (wrap64 (x18_1 + 1))) else (none)) else (none)) = some r := H
     have A10 := zO A100
     clear A100
     by_cases c11 : 0 ≤ t360
     case neg => rw [if_neg c11] at H; exact absurd H (by simp)
     rw [if_pos c11] at H
     have c11b0 : decide (0 ≤ t360) = true := decide_eq_true c11
     clear c11
     by_cases c12 : t360 < (x5_1.length : Int)
     case neg => rw [if_neg c12] at H; exact absurd H (by simp)
     rw [if_pos c12] at H
     have c12b0 : decide (t360 < (x5_1.length : Int)) = true := decide_eq_true c12
     clear c12
     obtain ⟨y361, hy361⟩ : ∃ y_ : List Int, y_ = (x5_1.set (t360 : Int).toNat (rd l0 x18_1)) := ⟨_, rfl⟩
     replace H : (impl_Interleave.l0 k1 l0 a1 y361 l0 (l0.length : Int) (wrap64 (x18_1 + 1))) = some r := by first | (rw [hy361]; exact H) | exact H
     have Ny361 := zO hy361
     clear hy361
     have H' := zO H
     clear H
     have p359 : 0 ≤ (x18_1 : Int) := yO (by assumption)
     have q359 : x18_1 < (l0.length : Int) := yO (by assumption)
     obtain ⟨ad359, e359, hx359_0⟩ := Kd.at_int HR0.out x18_1 p359 q359
     cases e359
     replace hx359_0 := (HB.out.cell (World.block_lt_of_cell? w _ hx359_0)).trans hx359_0
     replace p359 := eq_true p359
     replace q359 := eq_true q359
     go_wp2_with (first | ((with_reducible refine zM (f := 163) rfl ?_); refine goesL_ (some 28) rfl rfl Try.func163 (by kernel_rfl) rfl #[.int .i64 (l0.length : Int), .int .i64 a1, .int .i64 x18_1] rfl (by (try simp only [yK, yL, yM]); first | done | rfl | (simp only [yJ, yI]; rfl)) ?_; (with_reducible refine (impl_InterleavedIndex.calls (l0.length : Int) a1 x18_1 t360 _ A10.out).mono ?_); rintro e w' ⟨rfl, ⟨nd, rfl⟩⟩; refine ⟨_, rfl, ?_⟩; (try (rw [drewN_self wr]; generalize hq_ : World.drewN wr _ = wr; have n0_ : Aside0 (Kd.R (Kd.int .i64) 3 wr w.heap.size (fun _ => True) v356 x5_1) := ⟨by rw [← hq_]; exact (by (with_reducible repeat (first | apply zU | apply zW | apply zV)); exact HO_5.out)⟩; have n1_ : Aside0 (Below w.heap.size w wr) := ⟨by rw [← hq_]; exact (by repeat (first | exact HB.out | apply zA | apply zL | apply zB))⟩; clear HO_5 HB hq_; have HO_5 := n0_; have HB := n1_; clear n0_ n1_)); have p13 : 0 ≤ (t360 : Int) := yO (by assumption); have q13 : (t360 : Int) < ((x5_1.length : Int) : Int) := yO (by assumption); obtain ⟨go13, co13, eo13, gb13, gl13, cl13, HG13⟩ := Kd.R_form HO_5.out (by omega); (first | cases eo13 | (injection eo13 with ea_ en_ ec_; (first | subst ea_ | (injection ea_ with ea_; subst ea_)); subst ec_; clear en_)); have GB13 := zO gb13; have GG13 := zO HG13; clear gb13 gl13 HG13; obtain ⟨hx13_0, hf13_0⟩ := Kd.R_celln 0 HO_5.out (t360 : Int) p13 q13; replace p13 := eq_true p13; replace q13 := eq_true q13; obtain ⟨hy14_, hz14_⟩ := Kd.R_celln 0 HO_5.out (t360 : Int) (yO (by assumption)) (yO (by assumption)); have HP14 := Kd.R_putg HO_5.out (t360 : Int) (rd l0 x18_1)) | ((with_reducible refine gate_store (t := 3) (p := 30) rfl ?_); refine store_event (t := 3) (p := 30) (v := ?vo_w15) (w1 := (wr.setCell ⟨go13, (t360 : Int).toNat, none⟩ (.int .i64 (rd l0 x18_1)))) ?hg ?ho ?hn ?hr ?_; (case ho => rfl); (case hg => rfl); (case hn => rfl); (case hr => first | (go_simp; done) | (go_simp; rfl)); intro w15 hw; have hg : wr.grownBy w15 (some go13) := (by rw [hw]; exact HP14.2); have hp_ : Kd.R (Kd.int .i64) 3 w15 w.heap.size (fun _ => True) (.slice (some ⟨go13, 0, none⟩) x5_1.length co13) y361 := (by rw [hw, Ny361.out]; exact HP14.1); clear HP14; have n0_ := zO (hp_); have n1_ := zO ((by rw [hw]; exact zC (HB.out) GB13.out : Below w.heap.size w w15)); clear HO_5; clear HB; have HO_5 := n0_; have HB := n1_; clear n0_ n1_; clear hg hw hp_))
     go_roundg k1
     case measure => have := HK1.out; omega
     case rel => exact ⟨(y361), (wrap64 (x18_1 + 1)), (by first | rfl | (simp; done) | (simp [*]; done)), H', ⟨by have := HK1.out; omega⟩, ⟨by (with_reducible repeat (first | apply zU | apply zW | apply zV)); exact HO_5.out⟩, ⟨by repeat (first | exact HB.out | apply zA | apply zL | apply zB)⟩⟩
    ·rw [if_neg c7] at H
     have c7b0 : decide (x18_1 < (l0.length : Int)) = false := decide_eq_false c7
     clear c7
     obtain rfl := Option.some.inj H
     go_wp2
     go_ret
     exact ⟨_, by first | rfl | (simp [errW_none, errW_some] <;> rfl) | (simp [*, errW_none, errW_some] <;> rfl), by (with_reducible repeat (first | apply zU | apply zW | apply zV)); exact HO_5.out, by repeat (first | exact HB.out | apply zA | apply zL | apply zB)⟩
 ·replace c5 := Bool.eq_false_iff.mpr c5
  subst c5
  have H1 : (some t355) = some r := by rw [if_neg (show ¬ (false = true) by decide)] at H; exact H
  clear H
  have H := H1
  clear H1
  obtain rfl := Option.some.inj H
  go_enter Try.func136, Try.ntmps136
  go_wp2_with (first | ((with_reducible refine zM (f := 103) rfl ?_); refine goesL_ (some 9) rfl rfl Try.func103 (by kernel_rfl) rfl #[.slice A0 l0.length c0] rfl (by (try simp only [yK, yL, yM]); first | done | rfl | (simp only [yJ, yI]; rfl)) ?_; (with_reducible refine (impl_copyInts.calls _ _ l0 t355 _ ?side1 ?side2 A3.out).mono ?_); (case side1 => repeat (first | exact HR0.out | (with_reducible refine zR ?_ _) | (with_reducible refine zT ?_ _) | (with_reducible refine zS ?_))); (case side2 => exact HC0.out); rintro e w16 ⟨v356, rfl, ho0, hb⟩; refine ⟨_, rfl, ?_⟩; have n0_ := zO (yA ho0 (zD (by repeat (first | exact HB.out | apply zA | apply zL | apply zB)))); have n1_ := zO (zE (by repeat (first | exact HB.out | apply zA | apply zL | apply zB)) hb); clear HB; have HO357 := n0_; have HB := n1_; clear n0_ n1_; (try clear hb); (try clear hb2); (try clear hk); (try clear hi); (try clear ho0)) | ((with_reducible refine zM (f := 162) rfl ?_); refine goesL_ (some 13) rfl rfl Try.func162 (by kernel_rfl) rfl #[.int .i64 (l0.length : Int), .int .i64 a1] rfl (by (try simp only [yK, yL, yM]); first | done | rfl | (simp only [yJ, yI]; rfl)) ?_; (with_reducible refine (impl_isInterleaver.calls (l0.length : Int) a1 false _ A4.out).mono ?_); rintro e w' ⟨rfl, ⟨nd, rfl⟩⟩; refine ⟨_, rfl, ?_⟩))
  go_ret
  exact ⟨_, by first | rfl | (simp [errW_none, errW_some] <;> rfl) | (simp [*, errW_none, errW_some] <;> rfl), by (with_reducible repeat (first | apply zU | apply zW | apply zV)); exact HO357.out, by repeat (first | exact HB.out | apply zA | apply zL | apply zB)⟩

end Go.Proofs.Ytldbmljooafkcaa.PFnFrameErrors
