/- Contracts of Go functions. Conditions: the arguments read as the Lean function's. Written by print2.py, shrink.py (this session's). -/
import Derived.Test.YtldbmljooafkcaaPFnFrameErrorsx0
import Derived.Test.YtldbmljooafkcaaPFnFrameErrorsx2
import Derived.Test.YtldbmljooafkcaaPFnFrameErrorsx4
namespace Go.Proofs.Ytldbmljooafkcaa.PFnFrameErrors
open Go.RowKit Go.Proofs.YtldbmljooafkcaaW.PrintWords Go.Proofs.YtldbmljooafkcaaW.PrintLast Go.Proofs.YtldbmljooafkcaaW.PrintMore
open Go.Proofs.YtldbmljooafkcaaW.PrintWords renaming below_alloc → zA, below_drew1 → zB, below_set → zC, below_size → zD, below_step → zE, pw_below_drewN → zL, gate_callee → zM, gate_dst → zN
open Go.Proofs.YtldbmljooafkcaaW.PrintWords.Aside0 renaming mk → zO
open Go.Proofs.YtldbmljooafkcaaW.PrintWords.Kd renaming C_alloc → zR, C_drew → zS, C_drewN → zT, R_alloc → zU, R_drew → zV, R_drewN → zW, R_reads' → zX, R_lower → yA
open Option renaming bind_eq_some_iff → yE
open List renaming length_take → yI, length_drop → yJ, map_toArray → yK, map_cons → yL, map_nil → yM
set_option maxHeartbeats 8000000
set_option maxRecDepth 100000
attribute [local go_sem] max2_int min2_int max_two min_two max_three min_three max_four min_four
set_option linter.unusedVariables false
set_option linter.unusedSimpArgs false

def impl_ConvolutionalEncode.l0 : Nat → List Int → List Int → Int → Int → Option (List Int)
 | 0, _, _, _, _ => none
 | k + 1, x0, x3, x4, x5 => if x5 < (wrap64 ((x0.length : Int) + 2)) then (if x5 < (x0.length : Int) then (if 0 ≤ x5 then ((impl_OutputPair.f x4 (rd x0 x5)).bind fun bt285 => ((some (([bt285.1, bt285.2] : List Int) : List Int)).bind fun y287 => (if x3.length + y287.length < 17592186044416 then ((impl_NextState.f x4 (rd x0 x5)).bind fun t293 => (impl_ConvolutionalEncode.l0 k x0 (x3 ++ y287) t293 (wrap64 (x5 + 1)))) else (none)))) else (none)) else ((impl_OutputPair.f x4 0).bind fun bt294 => ((some (([bt294.1, bt294.2] : List Int) : List Int)).bind fun y296 => (if x3.length + y296.length < 17592186044416 then ((impl_NextState.f x4 0).bind fun t302 => (impl_ConvolutionalEncode.l0 k x0 (x3 ++ y296) t302 (wrap64 (x5 + 1)))) else (none))))) else (some x3)
def impl_ConvolutionalEncode.f (k : Nat) (l0 : List Int) : Option (List Int) := (impl_IsBitString.f k l0).bind fun t277 => (if t277 = true then (if 0 ≤ (wrap64 (2 * (wrap64 ((l0.length : Int) + 2)))) then (if (wrap64 (2 * (wrap64 ((l0.length : Int) + 2))) : Int).toNat ≤ 35184372088832 then (impl_ConvolutionalEncode.l0 k l0 (([] : List Int)) 0 0) else (none)) else (none)) else (some (([] : List Int))))
theorem impl_ConvolutionalEncode.calls (k : Nat) (A0 : Option Addr) (c0 : Nat) (l0 : List Int) (r : List Int) (w : World) (hr0 : Kd.C (Kd.int .i64) w A0 l0.length l0) (hc0 : l0.length ≤ c0) (h : impl_ConvolutionalEncode.f k l0 = some r) :
  Calls Try.prog 118 #[.slice A0 l0.length c0] w fun e w' => ∃ v0_ : Value, e = .returned (v0_) ∧ Kd.R (Kd.int .i64) 3 w' w.heap.size (fun _ => True) v0_ r ∧ Below w.heap.size w w' := by
 have HR0 := zO hr0
 have HC0 := zO hc0
 clear hr0 hc0
 have HB := zO (Below.refl w.heap.size w)
 have H : ((impl_IsBitString.f k l0).bind fun t277 => (if t277 = true then (if 0 ≤ (wrap64 (2 * (wrap64 ((l0.length : Int) + 2)))) then (if (wrap64 (2 * (wrap64 ((l0.length : Int) + 2))) : Int).toNat ≤ 35184372088832 then (impl_ConvolutionalEncode.l0 k l0 (([] : List Int)) 0 0) else (none)) else (none)) else (some (([] : List Int))))) = some r := h
 clear h
 replace H := yE.mp H
 obtain ⟨t277, A20, H⟩ := H
 replace H : (if t277 = true then (if 0 ≤ (wrap64 (2 * (wrap64 ((l0.length : Int) + 2)))) then (if (wrap64 (2 * (wrap64 ((l0.length : Int) + 2))) : Int).toNat ≤ 35184372088832 then (impl_ConvolutionalEncode.l0 k l0 (([] : List Int)) 0 0) else (none)) else (none)) else (some (([] : List Int)))) = some r := H
 have A2 := zO A20
 clear A20
 by_cases c3 : t277 = true
 ·subst c3
  have H1 : (if 0 ≤ (wrap64 (2 * (wrap64 ((l0.length : Int) + 2)))) then (if (wrap64 (2 * (wrap64 ((l0.length : Int) + 2))) : Int).toNat ≤ 35184372088832 then (impl_ConvolutionalEncode.l0 k l0 (([] : List Int)) 0 0) else (none)) else (none)) = some r := by rw [if_pos rfl] at H; exact H
  clear H
  have H := H1
  clear H1
  obtain ⟨ji4, hji4⟩ : ∃ j_ : Int, (wrap64 (2 * (wrap64 ((l0.length : Int) + 2)))) = j_ := ⟨_, rfl⟩
  replace H : (if 0 ≤ (ji4) then (if (ji4 : Int).toNat ≤ 35184372088832 then (impl_ConvolutionalEncode.l0 k l0 (([] : List Int)) 0 0) else (none)) else (none)) = some r := by first | (rw [hji4] at H; exact H) | (simp only [hji4] at H ⊢; exact H)
  (try rw [hji4] at A2)
  have hji4w : (IntKind.i64.wrap (2 * (wrap64 ((l0.length : Int) + 2)))) = ji4 := (i64_w _).trans hji4
  by_cases c5 : 0 ≤ (ji4)
  case neg => rw [if_neg c5] at H; exact absurd H (by simp)
  rw [if_pos c5] at H
  have c5b0 := eq_true c5
  have c5b1 : decide (0 ≤ (ji4)) = true := decide_eq_true c5
  clear c5
  by_cases c6 : (ji4 : Int).toNat ≤ 35184372088832
  case neg => rw [if_neg c6] at H; exact absurd H (by simp)
  rw [if_pos c6] at H
  have c6b0 := eq_true c6
  have c6b1 : decide ((ji4 : Int).toNat ≤ 35184372088832) = true := decide_eq_true c6
  clear c6
  obtain ⟨y281, hy281⟩ : ∃ y_ : List Int, y_ = (([] : List Int)) := ⟨_, rfl⟩
  replace H : (impl_ConvolutionalEncode.l0 k l0 y281 0 0) = some r := by first | (rw [hy281]; exact H) | exact H
  have Ny281 := zO hy281
  clear hy281
  have H' := zO H
  clear H
  go_enter Try.func118, Try.ntmps118
  go_wp2_with (first | ((with_reducible refine zM (f := 116) rfl ?_); refine goesL_ (some 10) rfl rfl Try.func116 (by kernel_rfl) rfl #[.slice A0 l0.length c0] rfl (by (try simp only [yK, yL, yM]); first | done | rfl | (simp only [yJ, yI]; rfl)) ?_; (with_reducible refine (impl_IsBitString.calls k _ _ l0 true _ ?side1 ?side2 A2.out).mono ?_); (case side1 => repeat (first | exact HR0.out | (with_reducible refine zR ?_ _) | (with_reducible refine zT ?_ _) | (with_reducible refine zS ?_))); (case side2 => exact HC0.out); rintro e w' ⟨rfl, ⟨nd, rfl⟩⟩; refine ⟨_, rfl, ?_⟩) | ((with_reducible refine zN (N := 17) rfl ?_); refine Kd.R_make0 .i64 _ 3 rfl (N := 17) rfl 22 _ _ rfl ji4 rfl rfl Try.underlying22 (.int .i64 0) 8 info3 (by decide) (ok := fun _ => True) trivial (yO (by assumption)) (Nat.le_trans (Nat.mul_le_mul_right _ (yO (by assumption) : (ji4 : Int).toNat ≤ 35184372088832)) (by omega)) (Below.refl _ _) (Nat.le_refl _) ?_; intro v282 w7 ho8 hb hg_ hnew_; clear hg_ hnew_; (first | rw [← Ny281.out] at ho8 | (simp only [Int.reduceToNat] at ho8; rw [← Ny281.out] at ho8)); have n0_ := zO (yA ho8 (zD (by repeat (first | exact HB.out | apply zA | apply zL | apply zB)))); have n1_ := zO (zE (by repeat (first | exact HB.out | apply zA | apply zL | apply zB)) hb); clear HB; have HO283 := n0_; have HB := n1_; clear n0_ n1_; clear hb ho8))
  go_loopg [3, 4, 5] k (fun kq v3 v4 v5 w' => ∃ (x3_1 : List Int) (x4_1 : Int) (x5_1 : Int), v4 = .int .i64 x4_1 ∧ v5 = .int .i64 x5_1 ∧ Aside0 (impl_ConvolutionalEncode.l0 kq l0 x3_1 x4_1 x5_1 = some r) ∧ Aside0 (kq ≤ k) ∧ Aside0 (Kd.R (Kd.int .i64) 3 w' w.heap.size (fun _ => True) v3 x3_1) ∧ Aside0 (Below w.heap.size w w'))
  case atStart => exact ⟨(y281), (0), (0), (by first | rfl | (simp; done) | (simp [*]; done)), (by first | rfl | (simp; done) | (simp [*]; done)), H', ⟨Nat.le_refl _⟩, ⟨by (with_reducible repeat (first | apply zU | apply zW | apply zV)); exact HO283.out⟩, ⟨by repeat (first | exact HB.out | apply zA | apply zL | apply zB)⟩⟩
  case round =>
   clear H'
   try clear c1
   try clear p2
   try clear c3
   try clear c5
   try clear c5b0
   try clear c5b1
   try clear c6
   try clear c6b0
   try clear c6b1
   try clear p6
   obtain ⟨x3_1, x4_1, x5_1, rfl, rfl, HA, HK1, HO_3, HB⟩ := hrel
   cases gk with
   | zero => exact absurd HA.out (by simp [impl_ConvolutionalEncode.l0])
   | succ k1 =>
    have H := HA.out
    clear HA
    simp only [impl_ConvolutionalEncode.l0] at H
    by_cases c9 : x5_1 < (wrap64 ((l0.length : Int) + 2))
    ·rw [if_pos c9] at H
     have c9b0 : decide (x5_1 < (wrap64 ((l0.length : Int) + 2))) = true := decide_eq_true c9
     clear c9
     by_cases c10 : x5_1 < (l0.length : Int)
     ·rw [if_pos c10] at H
      have c10b0 : decide (x5_1 < (l0.length : Int)) = true := decide_eq_true c10
      clear c10
      by_cases c11 : 0 ≤ x5_1
      case neg => rw [if_neg c11] at H; exact absurd H (by simp)
      rw [if_pos c11] at H
      have c11b0 : decide (0 ≤ x5_1) = true := decide_eq_true c11
      clear c11
      replace H := yE.mp H
      obtain ⟨⟨t285, t286⟩, A120, H⟩ := H
      replace H : ((some (([t285, t286] : List Int) : List Int)).bind fun y287 => (if x3_1.length + y287.length < 17592186044416 then ((impl_NextState.f x4_1 (rd l0 x5_1)).bind fun t293 => (impl_ConvolutionalEncode.l0 k1 l0 (x3_1 ++ y287) t293 (wrap64 (x5_1 + 1)))) else (none))) = some r := H
      have A12 := zO A120
      clear A120
      obtain ⟨y287, hy287⟩ : ∃ y_ : List Int, y_ = (([t285, t286] : List Int)) := ⟨_, rfl⟩
      replace H : (if x3_1.length + y287.length < 17592186044416 then ((impl_NextState.f x4_1 (rd l0 x5_1)).bind fun t293 => (impl_ConvolutionalEncode.l0 k1 l0 (x3_1 ++ y287) t293 (wrap64 (x5_1 + 1)))) else (none)) = some r := by first | (rw [hy287]; exact H) | exact H
      have Ny287 := zO hy287
      clear hy287
      by_cases c13 : x3_1.length + y287.length < 17592186044416
      case neg => rw [if_neg c13] at H; exact absurd H (by simp)
      rw [if_pos c13] at H
      have LMc13 := zO c13
      clear c13
      obtain ⟨y290, hy290⟩ : ∃ y_ : List Int, y_ = (x3_1 ++ y287) := ⟨_, rfl⟩
      replace H : ((impl_NextState.f x4_1 (rd l0 x5_1)).bind fun t293 => (impl_ConvolutionalEncode.l0 k1 l0 y290 t293 (wrap64 (x5_1 + 1)))) = some r := by first | (rw [hy290]; exact H) | exact H
      have Ny290 := zO hy290
      clear hy290
      replace H := yE.mp H
      obtain ⟨t293, A140, H⟩ := H
      replace H : (impl_ConvolutionalEncode.l0 k1 l0 y290 t293 (wrap64 (x5_1 + 1))) = some r := H
      have A14 := zO A140
      clear A140
      have H' := zO H
      clear H
      have p284 : 0 ≤ (x5_1 : Int) := yO (by assumption)
      have q284 : x5_1 < (l0.length : Int) := yO (by assumption)
      obtain ⟨ad284, e284, hx284_0⟩ := Kd.at_int HR0.out x5_1 p284 q284
      cases e284
      replace hx284_0 := (HB.out.cell (World.block_lt_of_cell? w _ hx284_0)).trans hx284_0
      replace p284 := eq_true p284
      replace q284 := eq_true q284
      go_wp2_with (first | ((with_reducible refine zM (f := 155) rfl ?_); refine goesL_ (some 36) rfl rfl Try.func155 (by kernel_rfl) rfl #[.int .i64 x4_1, .int .i64 (rd l0 x5_1)] rfl (by (try simp only [yK, yL, yM]); first | done | rfl | (simp only [yJ, yI]; rfl)) ?_; (with_reducible refine (impl_OutputPair.calls x4_1 (rd l0 x5_1) t285 t286 _ A12.out).mono ?_); rintro e w' ⟨rfl, ⟨nd, rfl⟩⟩; refine ⟨_, rfl, ?_⟩) | ((with_reducible refine zN (N := 42) rfl ?_); refine Kd.R_lit (Kd.int .i64) _ 3 ?hg (N := 42) ?hd (xs := ([t285, t286] : List Int)) (inner := [.int .i64 t285, .int .i64 t286]) (ok := fun _ => True) (okp := fun _ => True) ?hr ?hp (fun _ hk => hk) trivial (Below.refl _ _) (Nat.le_refl _) (by simp) ?_; (case hd => rfl); (case hg => rfl); (case hr => first | (go_simp; done) | (go_simp; rfl)); (case hp => exact (Reps.one (show Kd.M (Kd.int .i64) _ _ _ t285 [.int .i64 t285] from rfl) (Reps.one (show Kd.M (Kd.int .i64) _ _ _ t286 [.int .i64 t286] from rfl) (Reps.none _ _)))); intro v288 w15 ho16 hb hg_ hnew_; clear hg_ hnew_; (first | rw [← Ny287.out] at ho16 | (simp only [Int.reduceToNat] at ho16; rw [← Ny287.out] at ho16)); have n0_ := zO (Kd.R_elder' (by (with_reducible repeat (first | apply zU | apply zW | apply zV)); exact HO_3.out) (Kd.R_base ho16) hb); have n1_ := zO (yA (Kd.R_new' ho16 (Kd.R_lt (by (with_reducible repeat (first | apply zU | apply zW | apply zV)); exact HO_3.out))) (zD (by repeat (first | exact HB.out | apply zA | apply zL | apply zB)))); have n2_ := zO (zE (by repeat (first | exact HB.out | apply zA | apply zL | apply zB)) hb); clear HO_3; clear HB; have HO_3 := n0_; have HO289 := n1_; have HB := n2_; clear n0_ n1_ n2_; clear hb ho16; obtain ⟨Ao18, co18, eo18⟩ := Kd.R_slice HO289.out; subst eo18) | ((with_reducible refine gate_builtin (b := .append) (xs := #[.tmp 39, .tmp 42]) rfl ?_); at_builtin; refine Kd.R_append_rows (Kd.int .i64) (w0 := w) w.heap.size rfl (.tmp 39) (.tmp 42) 22 3 (.int .i64 0) 8 rfl Try.underlying22 info3 rfl (by decide) (by omega) u3 x3_1 y287 _ _ _ (fun k_ => some k_ ≠ (.slice Ao18 y287.length co18 : Value).ownBlock) (fun _ => False) rfl rfl ?aO ?aR (fun _ _ h => h) (fun _ h => h.elim) ?aF ?aB ?aS ?aL ?_; (case aR => repeat (first | exact (zX HO289.out).2.2 | (with_reducible refine zR ?_ _) | (with_reducible refine zT ?_ _) | (with_reducible refine zS ?_))); (case aB => exact (by repeat (first | exact HB.out | apply zA | apply zL | apply zB))); (case aF => exact (fun k_ hk => Kd.fresh' (Kd.R_lt (by (with_reducible repeat (first | apply zU | apply zW | apply zV)); exact HO289.out)) k_ hk)); (case aO => exact (by (with_reducible repeat (first | apply zU | apply zW | apply zV)); exact Kd.R_mono HO_3.out (fun _ hk => hk.2))); (case aS => exact (zD (by repeat (first | exact HB.out | apply zA | apply zL | apply zB)))); (case aL => have := LMc13.out; omega); intro v291 w17 ho hb hg hat; rw [← Ny290.out] at ho; have n0_ := zO (Kd.R_after (ok := (fun _ => True)) (by (with_reducible repeat (first | apply zU | apply zW | apply zV)); exact HO289.out) hg hat); have n1_ := zO (hb); have n2_ := zO (ho); clear HO289; clear HB; clear HO_3; have HO289 := n0_; have HB := n1_; have HO292 := n2_; clear n0_ n1_ n2_; clear ho hb hg hat) | ((with_reducible refine zM (f := 153) rfl ?_); refine goesL_ (some 46) rfl rfl Try.func153 (by kernel_rfl) rfl #[.int .i64 x4_1, .int .i64 (rd l0 x5_1)] rfl (by (try simp only [yK, yL, yM]); first | done | rfl | (simp only [yJ, yI]; rfl)) ?_; (with_reducible refine (impl_NextState.calls x4_1 (rd l0 x5_1) t293 _ A14.out).mono ?_); rintro e w' ⟨rfl, ⟨nd, rfl⟩⟩; refine ⟨_, rfl, ?_⟩))
      go_roundg k1
      case measure => have := HK1.out; omega
      case rel => exact ⟨(y290), (t293), (wrap64 (x5_1 + 1)), (by first | rfl | (simp; done) | (simp [*]; done)), (by first | rfl | (simp; done) | (simp [*]; done)), H', ⟨by have := HK1.out; omega⟩, ⟨by (with_reducible repeat (first | apply zU | apply zW | apply zV)); exact Kd.R_mono HO292.out (fun _ hk => trivial)⟩, ⟨by repeat (first | exact HB.out | apply zA | apply zL | apply zB)⟩⟩
     ·rw [if_neg c10] at H
      have c10b0 : decide (x5_1 < (l0.length : Int)) = false := decide_eq_false c10
      clear c10
      replace H := yE.mp H
      obtain ⟨⟨t294, t295⟩, A190, H⟩ := H
      replace H : ((some (([t294, t295] : List Int) : List Int)).bind fun y296 => (if x3_1.length + y296.length < 17592186044416 then ((impl_NextState.f x4_1 0).bind fun t302 => (impl_ConvolutionalEncode.l0 k1 l0 (x3_1 ++ y296) t302 (wrap64 (x5_1 + 1)))) else (none))) = some r := H
      have A19 := zO A190
      clear A190
      obtain ⟨y296, hy296⟩ : ∃ y_ : List Int, y_ = (([t294, t295] : List Int)) := ⟨_, rfl⟩
      replace H : (if x3_1.length + y296.length < 17592186044416 then ((impl_NextState.f x4_1 0).bind fun t302 => (impl_ConvolutionalEncode.l0 k1 l0 (x3_1 ++ y296) t302 (wrap64 (x5_1 + 1)))) else (none)) = some r := by first | (rw [hy296]; exact H) | exact H
      have Ny296 := zO hy296
      clear hy296
      by_cases c20 : x3_1.length + y296.length < 17592186044416
      case neg => rw [if_neg c20] at H; exact absurd H (by simp)
      rw [if_pos c20] at H
      have LMc20 := zO c20
      clear c20
      obtain ⟨y299, hy299⟩ : ∃ y_ : List Int, y_ = (x3_1 ++ y296) := ⟨_, rfl⟩
      replace H : ((impl_NextState.f x4_1 0).bind fun t302 => (impl_ConvolutionalEncode.l0 k1 l0 y299 t302 (wrap64 (x5_1 + 1)))) = some r := by first | (rw [hy299]; exact H) | exact H
      have Ny299 := zO hy299
      clear hy299
      replace H := yE.mp H
      obtain ⟨t302, A210, H⟩ := H
      replace H : (impl_ConvolutionalEncode.l0 k1 l0 y299 t302 (wrap64 (x5_1 + 1))) = some r := H
      have A21 := zO A210
      clear A210
      have H' := zO H
      clear H
      go_wp2_with (first | ((with_reducible refine zM (f := 155) rfl ?_); refine goesL_ (some 36) rfl rfl Try.func155 (by kernel_rfl) rfl #[.int .i64 x4_1, .int .i64 0] rfl (by (try simp only [yK, yL, yM]); first | done | rfl | (simp only [yJ, yI]; rfl)) ?_; (with_reducible refine (impl_OutputPair.calls x4_1 0 t294 t295 _ A19.out).mono ?_); rintro e w' ⟨rfl, ⟨nd, rfl⟩⟩; refine ⟨_, rfl, ?_⟩) | ((with_reducible refine zN (N := 42) rfl ?_); refine Kd.R_lit (Kd.int .i64) _ 3 ?hg (N := 42) ?hd (xs := ([t294, t295] : List Int)) (inner := [.int .i64 t294, .int .i64 t295]) (ok := fun _ => True) (okp := fun _ => True) ?hr ?hp (fun _ hk => hk) trivial (Below.refl _ _) (Nat.le_refl _) (by simp) ?_; (case hd => rfl); (case hg => rfl); (case hr => first | (go_simp; done) | (go_simp; rfl)); (case hp => exact (Reps.one (show Kd.M (Kd.int .i64) _ _ _ t294 [.int .i64 t294] from rfl) (Reps.one (show Kd.M (Kd.int .i64) _ _ _ t295 [.int .i64 t295] from rfl) (Reps.none _ _)))); intro v297 w22 ho23 hb hg_ hnew_; clear hg_ hnew_; (first | rw [← Ny296.out] at ho23 | (simp only [Int.reduceToNat] at ho23; rw [← Ny296.out] at ho23)); have n0_ := zO (Kd.R_elder' (by (with_reducible repeat (first | apply zU | apply zW | apply zV)); exact HO_3.out) (Kd.R_base ho23) hb); have n1_ := zO (yA (Kd.R_new' ho23 (Kd.R_lt (by (with_reducible repeat (first | apply zU | apply zW | apply zV)); exact HO_3.out))) (zD (by repeat (first | exact HB.out | apply zA | apply zL | apply zB)))); have n2_ := zO (zE (by repeat (first | exact HB.out | apply zA | apply zL | apply zB)) hb); clear HO_3; clear HB; have HO_3 := n0_; have HO298 := n1_; have HB := n2_; clear n0_ n1_ n2_; clear hb ho23; obtain ⟨Ao25, co25, eo25⟩ := Kd.R_slice HO298.out; subst eo25) | ((with_reducible refine gate_builtin (b := .append) (xs := #[.tmp 39, .tmp 42]) rfl ?_); at_builtin; refine Kd.R_append_rows (Kd.int .i64) (w0 := w) w.heap.size rfl (.tmp 39) (.tmp 42) 22 3 (.int .i64 0) 8 rfl Try.underlying22 info3 rfl (by decide) (by omega) u3 x3_1 y296 _ _ _ (fun k_ => some k_ ≠ (.slice Ao25 y296.length co25 : Value).ownBlock) (fun _ => False) rfl rfl ?aO ?aR (fun _ _ h => h) (fun _ h => h.elim) ?aF ?aB ?aS ?aL ?_; (case aR => repeat (first | exact (zX HO298.out).2.2 | (with_reducible refine zR ?_ _) | (with_reducible refine zT ?_ _) | (with_reducible refine zS ?_))); (case aB => exact (by repeat (first | exact HB.out | apply zA | apply zL | apply zB))); (case aF => exact (fun k_ hk => Kd.fresh' (Kd.R_lt (by (with_reducible repeat (first | apply zU | apply zW | apply zV)); exact HO298.out)) k_ hk)); (case aO => exact (by (with_reducible repeat (first | apply zU | apply zW | apply zV)); exact Kd.R_mono HO_3.out (fun _ hk => hk.2))); (case aS => exact (zD (by repeat (first | exact HB.out | apply zA | apply zL | apply zB)))); (case aL => have := LMc20.out; omega); intro v300 w24 ho hb hg hat; rw [← Ny299.out] at ho; have n0_ := zO (Kd.R_after (ok := (fun _ => True)) (by (with_reducible repeat (first | apply zU | apply zW | apply zV)); exact HO298.out) hg hat); have n1_ := zO (hb); have n2_ := zO (ho); clear HO298; clear HB; clear HO_3; have HO298 := n0_; have HB := n1_; have HO301 := n2_; clear n0_ n1_ n2_; clear ho hb hg hat) | ((with_reducible refine zM (f := 153) rfl ?_); refine goesL_ (some 46) rfl rfl Try.func153 (by kernel_rfl) rfl #[.int .i64 x4_1, .int .i64 0] rfl (by (try simp only [yK, yL, yM]); first | done | rfl | (simp only [yJ, yI]; rfl)) ?_; (with_reducible refine (impl_NextState.calls x4_1 0 t302 _ A21.out).mono ?_); rintro e w' ⟨rfl, ⟨nd, rfl⟩⟩; refine ⟨_, rfl, ?_⟩))
      go_roundg k1
      case measure => have := HK1.out; omega
      case rel => exact ⟨(y299), (t302), (wrap64 (x5_1 + 1)), (by first | rfl | (simp; done) | (simp [*]; done)), (by first | rfl | (simp; done) | (simp [*]; done)), H', ⟨by have := HK1.out; omega⟩, ⟨by (with_reducible repeat (first | apply zU | apply zW | apply zV)); exact Kd.R_mono HO301.out (fun _ hk => trivial)⟩, ⟨by repeat (first | exact HB.out | apply zA | apply zL | apply zB)⟩⟩
    ·rw [if_neg c9] at H
     have c9b0 : decide (x5_1 < (wrap64 ((l0.length : Int) + 2))) = false := decide_eq_false c9
     clear c9
     obtain rfl := Option.some.inj H
     go_wp2
     go_ret
     exact ⟨_, by first | rfl | (simp [errW_none, errW_some] <;> rfl) | (simp only [← hji4]; first | rfl | (simp [errW_none, errW_some] <;> rfl)) | (simp [*, errW_none, errW_some] <;> rfl), by (with_reducible repeat (first | apply zU | apply zW | apply zV)); exact HO_3.out, by repeat (first | exact HB.out | apply zA | apply zL | apply zB)⟩
 ·replace c3 := Bool.eq_false_iff.mpr c3
  subst c3
  have H1 : (some (([] : List Int))) = some r := by rw [if_neg (show ¬ (false = true) by decide)] at H; exact H
  clear H
  have H := H1
  clear H1
  obtain ⟨y278, hy278⟩ : ∃ y_ : List Int, y_ = (([] : List Int)) := ⟨_, rfl⟩
  replace H : (some y278) = some r := by first | (rw [hy278]; exact H) | exact H
  have Ny278 := zO hy278
  clear hy278
  obtain rfl := Option.some.inj H
  go_enter Try.func118, Try.ntmps118
  go_wp2_with (first | ((with_reducible refine zM (f := 116) rfl ?_); refine goesL_ (some 10) rfl rfl Try.func116 (by kernel_rfl) rfl #[.slice A0 l0.length c0] rfl (by (try simp only [yK, yL, yM]); first | done | rfl | (simp only [yJ, yI]; rfl)) ?_; (with_reducible refine (impl_IsBitString.calls k _ _ l0 false _ ?side1 ?side2 A2.out).mono ?_); (case side1 => repeat (first | exact HR0.out | (with_reducible refine zR ?_ _) | (with_reducible refine zT ?_ _) | (with_reducible refine zS ?_))); (case side2 => exact HC0.out); rintro e w' ⟨rfl, ⟨nd, rfl⟩⟩; refine ⟨_, rfl, ?_⟩) | ((with_reducible refine zN (N := 12) rfl ?_); refine Kd.R_lit (Kd.int .i64) _ 3 ?hg (N := 12) ?hd (xs := ([] : List Int)) (inner := []) (ok := fun _ => True) (okp := fun _ => True) ?hr ?hp (fun _ hk => hk) trivial (Below.refl _ _) (Nat.le_refl _) (by simp) ?_; (case hd => rfl); (case hg => rfl); (case hr => first | (go_simp; done) | (go_simp; rfl)); (case hp => exact (Reps.none _ _)); intro v279 w26 ho27 hb hg_ hnew_; clear hg_ hnew_; (first | rw [← Ny278.out] at ho27 | (simp only [Int.reduceToNat] at ho27; rw [← Ny278.out] at ho27)); have n0_ := zO (yA ho27 (zD (by repeat (first | exact HB.out | apply zA | apply zL | apply zB)))); have n1_ := zO (zE (by repeat (first | exact HB.out | apply zA | apply zL | apply zB)) hb); clear HB; have HO280 := n0_; have HB := n1_; clear n0_ n1_; clear hb ho27))
  go_ret
  exact ⟨_, by first | rfl | (simp [errW_none, errW_some] <;> rfl) | (simp [*, errW_none, errW_some] <;> rfl), by (with_reducible repeat (first | apply zU | apply zW | apply zV)); exact HO280.out, by repeat (first | exact HB.out | apply zA | apply zL | apply zB)⟩

mutual
def impl_BytesToBits.l0 : Nat → List Int → List Int → Int → Int → Option (List Int)
 | 0, _, _, _, _ => none
 | k + 1, x3, x11, x12, x13 => if x13 < x12 then (if 0 ≤ x13 then (if x13 < (x11.length : Int) then (impl_BytesToBits.l1 k x3 (rd x11 x13) 0 x11 x12 x13) else (none)) else (none)) else (some x3)
def impl_BytesToBits.l1 : Nat → List Int → Int → Int → List Int → Int → Int → Option (List Int)
 | 0, _, _, _, _, _, _ => none
 | k + 1, x3, x5, x6, x11, x12, x13 => if x6 < 8 then (if 0 ≤ x6 then (if x3.length < 17592186044416 then (impl_BytesToBits.l1 k (x3 ++ [Go.bits .and .i64 (wrap64 (shr .u8 x5 x6)) 1]) x5 (wrap64 (x6 + 1)) x11 x12 x13) else (none)) else (none)) else (impl_BytesToBits.l0 k x3 x11 x12 (wrap64 (x13 + 1)))
end
def impl_BytesToBits.f (k : Nat) (l0 : List Int) : Option (List Int) := if 0 ≤ (wrap64 (8 * (l0.length : Int))) then (if (wrap64 (8 * (l0.length : Int)) : Int).toNat ≤ 35184372088832 then (impl_BytesToBits.l0 k (([] : List Int)) l0 (l0.length : Int) 0) else (none)) else (none)
theorem impl_BytesToBits.calls (k : Nat) (A0 : Option Addr) (c0 : Nat) (l0 : List Int) (r : List Int) (w : World) (hr0 : Kd.C (Kd.int .u8) w A0 l0.length l0) (hc0 : l0.length ≤ c0) (h : impl_BytesToBits.f k l0 = some r) :
  Calls Try.prog 133 #[.slice A0 l0.length c0] w fun e w' => ∃ v0_ : Value, e = .returned (v0_) ∧ Kd.R (Kd.int .i64) 3 w' w.heap.size (fun _ => True) v0_ r ∧ Below w.heap.size w w' := by
 have HR0 := zO hr0
 have HC0 := zO hc0
 clear hr0 hc0
 have HB := zO (Below.refl w.heap.size w)
 have H : (if 0 ≤ (wrap64 (8 * (l0.length : Int))) then (if (wrap64 (8 * (l0.length : Int)) : Int).toNat ≤ 35184372088832 then (impl_BytesToBits.l0 k (([] : List Int)) l0 (l0.length : Int) 0) else (none)) else (none)) = some r := h
 clear h
 obtain ⟨ji2, hji2⟩ : ∃ j_ : Int, (wrap64 (8 * (l0.length : Int))) = j_ := ⟨_, rfl⟩
 replace H : (if 0 ≤ (ji2) then (if (ji2 : Int).toNat ≤ 35184372088832 then (impl_BytesToBits.l0 k (([] : List Int)) l0 (l0.length : Int) 0) else (none)) else (none)) = some r := by first | (rw [hji2] at H; exact H) | (simp only [hji2] at H ⊢; exact H)
 have hji2w : (IntKind.i64.wrap (8 * (l0.length : Int))) = ji2 := (i64_w _).trans hji2
 by_cases c3 : 0 ≤ (ji2)
 case neg => rw [if_neg c3] at H; exact absurd H (by simp)
 rw [if_pos c3] at H
 have c3b0 := eq_true c3
 have c3b1 : decide (0 ≤ (ji2)) = true := decide_eq_true c3
 clear c3
 by_cases c4 : (ji2 : Int).toNat ≤ 35184372088832
 case neg => rw [if_neg c4] at H; exact absurd H (by simp)
 rw [if_pos c4] at H
 have c4b0 := eq_true c4
 have c4b1 : decide ((ji2 : Int).toNat ≤ 35184372088832) = true := decide_eq_true c4
 clear c4
 obtain ⟨y303, hy303⟩ : ∃ y_ : List Int, y_ = (([] : List Int)) := ⟨_, rfl⟩
 replace H : (impl_BytesToBits.l0 k y303 l0 (l0.length : Int) 0) = some r := by first | (rw [hy303]; exact H) | exact H
 have Ny303 := zO hy303
 clear hy303
 have H' := zO H
 clear H
 go_enter Try.func133, Try.ntmps133
 go_wp2_with (first | ((with_reducible refine zN (N := 10) rfl ?_); refine Kd.R_make0 .i64 _ 3 rfl (N := 10) rfl 22 _ _ rfl ji2 rfl rfl Try.underlying22 (.int .i64 0) 8 info3 (by decide) (ok := fun _ => True) trivial (yO (by assumption)) (Nat.le_trans (Nat.mul_le_mul_right _ (yO (by assumption) : (ji2 : Int).toNat ≤ 35184372088832)) (by omega)) (Below.refl _ _) (Nat.le_refl _) ?_; intro v304 w5 ho6 hb hg_ hnew_; clear hg_ hnew_; (first | rw [← Ny303.out] at ho6 | (simp only [Int.reduceToNat] at ho6; rw [← Ny303.out] at ho6)); have n0_ := zO (yA ho6 (zD (by repeat (first | exact HB.out | apply zA | apply zL | apply zB)))); have n1_ := zO (zE (by repeat (first | exact HB.out | apply zA | apply zL | apply zB)) hb); clear HB; have HO305 := n0_; have HB := n1_; clear n0_ n1_; clear hb ho6))
 go_loopg [3, 13] k (fun kq v3 v13 w' => ∃ (x3_1 : List Int) (x13_1 : Int), v13 = .int .i64 x13_1 ∧ Aside0 (impl_BytesToBits.l0 kq x3_1 l0 (l0.length : Int) x13_1 = some r) ∧ Aside0 (kq ≤ k) ∧ Aside0 (Kd.R (Kd.int .i64) 3 w' w.heap.size (fun _ => True) v3 x3_1) ∧ Aside0 (Below w.heap.size w w'))
 case atStart => exact ⟨(y303), (0), (by first | rfl | (simp; done) | (simp [*]; done)), H', ⟨Nat.le_refl _⟩, ⟨by (with_reducible repeat (first | apply zU | apply zW | apply zV)); exact HO305.out⟩, ⟨by repeat (first | exact HB.out | apply zA | apply zL | apply zB)⟩⟩
 case round =>
  clear H'
  try clear c1
  try clear p2
  try clear c3
  try clear c3b0
  try clear c3b1
  try clear c4
  try clear c4b0
  try clear c4b1
  try clear p6
  obtain ⟨x3_1, x13_1, rfl, HA, HK1, HO_3, HB⟩ := hrel
  cases gk with
  | zero => exact absurd HA.out (by simp [impl_BytesToBits.l0])
  | succ k1 =>
   have H := HA.out
   clear HA
   simp only [impl_BytesToBits.l0] at H
   by_cases c7 : x13_1 < (l0.length : Int)
   ·rw [if_pos c7] at H
    have c7b0 : decide (x13_1 < (l0.length : Int)) = true := decide_eq_true c7
    clear c7
    by_cases c8 : 0 ≤ x13_1
    case neg => rw [if_neg c8] at H; exact absurd H (by simp)
    rw [if_pos c8] at H
    have c8b0 : decide (0 ≤ x13_1) = true := decide_eq_true c8
    clear c8
    by_cases c9 : x13_1 < (l0.length : Int)
    case neg => rw [if_neg c9] at H; exact absurd H (by simp)
    rw [if_pos c9] at H
    have c9b0 : decide (x13_1 < (l0.length : Int)) = true := decide_eq_true c9
    clear c9
    have H' := zO H
    clear H
    have p306 : 0 ≤ (x13_1 : Int) := yO (by assumption)
    have q306 : x13_1 < (l0.length : Int) := yO (by assumption)
    obtain ⟨ad306, e306, hx306_0⟩ := Kd.at_int HR0.out x13_1 p306 q306
    cases e306
    replace hx306_0 := (HB.out.cell (World.block_lt_of_cell? w _ hx306_0)).trans hx306_0
    replace p306 := eq_true p306
    replace q306 := eq_true q306
    go_wp2
    go_loopg [3, 6] k1 (fun kq v3 v6 w' => ∃ (x3_2 : List Int) (x6_2 : Int), v6 = .int .i64 x6_2 ∧ Aside0 (impl_BytesToBits.l1 kq x3_2 (rd l0 x13_1) x6_2 l0 (l0.length : Int) x13_1 = some r) ∧ Aside0 (kq ≤ k1) ∧ Aside0 (Kd.R (Kd.int .i64) 3 w' w.heap.size (fun _ => True) v3 x3_2) ∧ Aside0 (Below w.heap.size w w'))
    case atStart => exact ⟨(x3_1), (0), (by first | rfl | (simp; done) | (simp [*]; done)), H', ⟨Nat.le_refl _⟩, ⟨by (with_reducible repeat (first | apply zU | apply zW | apply zV)); exact HO_3.out⟩, ⟨by repeat (first | exact HB.out | apply zA | apply zL | apply zB)⟩⟩
    case round =>
     clear H'
     try clear c1
     try clear p2
     try clear c3
     try clear c3b0
     try clear c3b1
     try clear p3
     try clear q3
     try clear hx3
     try clear c4
     try clear c4b0
     try clear c4b1
     try clear p6
     try clear c7
     try clear c7b0
     try clear c8
     try clear c8b0
     try clear c9
     try clear c9b0
     try clear hx306_0
     try clear p2
     try clear p306
     try clear p6
     try clear q306
     obtain ⟨x3_2, x6_2, rfl, HA, HK2, HO_3, HB⟩ := hrel
     cases gk with
     | zero => exact absurd HA.out (by simp [impl_BytesToBits.l1])
     | succ k2 =>
      have H := HA.out
      clear HA
      simp only [impl_BytesToBits.l1] at H
      by_cases c10 : x6_2 < 8
      ·rw [if_pos c10] at H
       have c10b0 : decide (x6_2 < 8) = true := decide_eq_true c10
       clear c10
       by_cases c11 : 0 ≤ x6_2
       case neg => rw [if_neg c11] at H; exact absurd H (by simp)
       rw [if_pos c11] at H
       have c11b0 := eq_true c11
       have c11b1 : decide (0 ≤ x6_2) = true := decide_eq_true c11
       clear c11
       obtain ⟨ji12, hji12⟩ : ∃ j_ : Int, (shr .u8 (rd l0 x13_1) x6_2) = j_ := ⟨_, rfl⟩
       replace H : (if x3_2.length < 17592186044416 then (impl_BytesToBits.l1 k2 (x3_2 ++ [Go.bits .and .i64 (wrap64 (ji12)) 1]) (rd l0 x13_1) (wrap64 (x6_2 + 1)) l0 (l0.length : Int) x13_1) else (none)) = some r := by first | (rw [hji12] at H; exact H) | (simp only [hji12] at H ⊢; exact H)
       have hji12_ : ((rd l0 x13_1) / 2 ^ min x6_2.toNat 8) = ji12 := hji12
       have hji12z : x6_2 ≤ 8 → ((rd l0 x13_1) / 2 ^ x6_2.toNat) = ji12 := shr_small hji12
       by_cases c13 : x3_2.length < 17592186044416
       case neg => rw [if_neg c13] at H; exact absurd H (by simp)
       rw [if_pos c13] at H
       have LMc13 := zO c13
       clear c13
       obtain ⟨y307, hy307⟩ : ∃ y_ : List Int, y_ = (x3_2 ++ [Go.bits .and .i64 (wrap64 (ji12)) 1]) := ⟨_, rfl⟩
       replace H : (impl_BytesToBits.l1 k2 y307 (rd l0 x13_1) (wrap64 (x6_2 + 1)) l0 (l0.length : Int) x13_1) = some r := by first | (rw [hy307]; exact H) | exact H
       have Ny307 := zO hy307
       clear hy307
       have H' := zO H
       clear H
       go_wp2_with (first | ((with_reducible refine gate_builtin (b := .append) (xs := #[.tmp 21, .tmp 27]) rfl ?_); at_builtin; refine Kd.R_append (Kd.int .i64) (w0 := w) w.heap.size rfl (.tmp 21) (.tmp 27) 22 3 (.int .i64 0) 8 rfl Try.underlying22 info3 rfl (by decide) (by omega) u3 x3_2 (Go.bits .and .i64 (wrap64 (ji12)) 1) [.int .i64 (Go.bits .and .i64 (wrap64 (ji12)) 1)] (fun _ => True) (fun _ => False) rfl rfl ?aP (fun _ hk => hk.elim) ?aF ?aO ?aB ?aS ?aL ?_; (case aP => exact rfl); (case aB => exact (by repeat (first | exact HB.out | apply zA | apply zL | apply zB))); (case aF => exact (fun _ _ => trivial)); (case aO => exact (by (with_reducible repeat (first | apply zU | apply zW | apply zV)); exact HO_3.out)); (case aS => exact (zD (by repeat (first | exact HB.out | apply zA | apply zL | apply zB)))); (case aL => have := LMc13.out; omega); intro v308 w14 ho hb hg hat; rw [← Ny307.out] at ho; have n0_ := zO (hb); have n1_ := zO (ho); clear HB; clear HO_3; have HB := n0_; have HO309 := n1_; clear n0_ n1_; clear ho hb hg hat))
       go_roundg k2
       case measure => have := HK1.out; have := HK2.out; omega
       case rel => exact ⟨(y307), (wrap64 (x6_2 + 1)), (by first | rfl | (simp; done) | (simp [*]; done)), H', ⟨by have := HK1.out; have := HK2.out; omega⟩, ⟨by (with_reducible repeat (first | apply zU | apply zW | apply zV)); exact HO309.out⟩, ⟨by repeat (first | exact HB.out | apply zA | apply zL | apply zB)⟩⟩
      ·rw [if_neg c10] at H
       have c10b0 : decide (x6_2 < 8) = false := decide_eq_false c10
       clear c10
       have H' := zO H
       clear H
       go_wp2
       go_roundg k2
       case measure => have := HK1.out; have := HK2.out; omega
       case rel => exact ⟨(x3_2), (wrap64 (x13_1 + 1)), (by first | rfl | (simp; done) | (simp [*]; done)), H', ⟨by have := HK1.out; have := HK2.out; omega⟩, ⟨by (with_reducible repeat (first | apply zU | apply zW | apply zV)); exact HO_3.out⟩, ⟨by repeat (first | exact HB.out | apply zA | apply zL | apply zB)⟩⟩
   ·rw [if_neg c7] at H
    have c7b0 : decide (x13_1 < (l0.length : Int)) = false := decide_eq_false c7
    clear c7
    obtain rfl := Option.some.inj H
    go_wp2
    go_ret
    exact ⟨_, by first | rfl | (simp [errW_none, errW_some] <;> rfl) | (simp only [← hji2]; first | rfl | (simp [errW_none, errW_some] <;> rfl)) | (simp [*, errW_none, errW_some] <;> rfl), by (with_reducible repeat (first | apply zU | apply zW | apply zV)); exact HO_3.out, by repeat (first | exact HB.out | apply zA | apply zL | apply zB)⟩

def impl_Puncture.l0 : Nat → List Int → List Int → Int → Int → Option (List Int)
 | 0, _, _, _, _ => none
 | k + 1, x3, x7, x8, x9 => if x9 < x8 then (if 0 ≤ x9 then (if x9 < (x7.length : Int) then (if (Int.tmod x9 4) = 3 then (impl_Puncture.l0 k x3 x7 x8 (wrap64 (x9 + 1))) else (if x3.length < 17592186044416 then (impl_Puncture.l0 k (x3 ++ [rd x7 x9]) x7 x8 (wrap64 (x9 + 1))) else (none))) else (none)) else (none)) else (some x3)
def impl_Puncture.f (k : Nat) (l0 : List Int) : Option (List Int) := impl_Puncture.l0 k (([] : List Int)) l0 (l0.length : Int) 0
theorem impl_Puncture.calls (k : Nat) (A0 : Option Addr) (c0 : Nat) (l0 : List Int) (r : List Int) (w : World) (hr0 : Kd.C (Kd.int .i64) w A0 l0.length l0) (hc0 : l0.length ≤ c0) (h : impl_Puncture.f k l0 = some r) :
  Calls Try.prog 134 #[.slice A0 l0.length c0] w fun e w' => ∃ v0_ : Value, e = .returned (v0_) ∧ Kd.R (Kd.int .i64) 3 w' w.heap.size (fun _ => True) v0_ r ∧ Below w.heap.size w w' := by
 have HR0 := zO hr0
 have HC0 := zO hc0
 clear hr0 hc0
 have HB := zO (Below.refl w.heap.size w)
 have H : (impl_Puncture.l0 k (([] : List Int)) l0 (l0.length : Int) 0) = some r := h
 clear h
 obtain ⟨y310, hy310⟩ : ∃ y_ : List Int, y_ = (([] : List Int)) := ⟨_, rfl⟩
 replace H : (impl_Puncture.l0 k y310 l0 (l0.length : Int) 0) = some r := by first | (rw [hy310]; exact H) | exact H
 have Ny310 := zO hy310
 clear hy310
 have H' := zO H
 clear H
 go_enter Try.func134, Try.ntmps134
 go_wp2_with (first | ((with_reducible refine zN (N := 6) rfl ?_); refine Kd.R_lit (Kd.int .i64) _ 3 ?hg (N := 6) ?hd (xs := ([] : List Int)) (inner := []) (ok := fun _ => True) (okp := fun _ => True) ?hr ?hp (fun _ hk => hk) trivial (Below.refl _ _) (Nat.le_refl _) (by simp) ?_; (case hd => rfl); (case hg => rfl); (case hr => first | (go_simp; done) | (go_simp; rfl)); (case hp => exact (Reps.none _ _)); intro v311 w2 ho3 hb hg_ hnew_; clear hg_ hnew_; (first | rw [← Ny310.out] at ho3 | (simp only [Int.reduceToNat] at ho3; rw [← Ny310.out] at ho3)); have n0_ := zO (yA ho3 (zD (by repeat (first | exact HB.out | apply zA | apply zL | apply zB)))); have n1_ := zO (zE (by repeat (first | exact HB.out | apply zA | apply zL | apply zB)) hb); clear HB; have HO312 := n0_; have HB := n1_; clear n0_ n1_; clear hb ho3))
 go_loopg [3, 9] k (fun kq v3 v9 w' => ∃ (x3_1 : List Int) (x9_1 : Int), v9 = .int .i64 x9_1 ∧ Aside0 (impl_Puncture.l0 kq x3_1 l0 (l0.length : Int) x9_1 = some r) ∧ Aside0 (kq ≤ k) ∧ Aside0 (Kd.R (Kd.int .i64) 3 w' w.heap.size (fun _ => True) v3 x3_1) ∧ Aside0 (Below w.heap.size w w'))
 case atStart => exact ⟨(y310), (0), (by first | rfl | (simp; done) | (simp [*]; done)), H', ⟨Nat.le_refl _⟩, ⟨by (with_reducible repeat (first | apply zU | apply zW | apply zV)); exact HO312.out⟩, ⟨by repeat (first | exact HB.out | apply zA | apply zL | apply zB)⟩⟩
 case round =>
  clear H'
  try clear c1
  try clear p2
  obtain ⟨x3_1, x9_1, rfl, HA, HK1, HO_3, HB⟩ := hrel
  cases gk with
  | zero => exact absurd HA.out (by simp [impl_Puncture.l0])
  | succ k1 =>
   have H := HA.out
   clear HA
   simp only [impl_Puncture.l0] at H
   by_cases c4 : x9_1 < (l0.length : Int)
   ·rw [if_pos c4] at H
    have c4b0 : decide (x9_1 < (l0.length : Int)) = true := decide_eq_true c4
    clear c4
    by_cases c5 : 0 ≤ x9_1
    case neg => rw [if_neg c5] at H; exact absurd H (by simp)
    rw [if_pos c5] at H
    have c5b0 : decide (0 ≤ x9_1) = true := decide_eq_true c5
    clear c5
    by_cases c6 : x9_1 < (l0.length : Int)
    case neg => rw [if_neg c6] at H; exact absurd H (by simp)
    rw [if_pos c6] at H
    have c6b0 : decide (x9_1 < (l0.length : Int)) = true := decide_eq_true c6
    clear c6
    by_cases c7 : (Int.tmod x9_1 4) = 3
    ·rw [if_pos c7] at H
     have c7b0 : ((Int.tmod x9_1 4) == 3) = true := beq_iff_eq.mpr c7
     have c7b1 : ((Int.tmod x9_1 4) != 3) = false := bne_eq_false_iff_eq.mpr c7
     clear c7
     have H' := zO H
     clear H
     have p313 : 0 ≤ (x9_1 : Int) := yO (by assumption)
     have q313 : x9_1 < (l0.length : Int) := yO (by assumption)
     obtain ⟨ad313, e313, hx313_0⟩ := Kd.at_int HR0.out x9_1 p313 q313
     cases e313
     replace hx313_0 := (HB.out.cell (World.block_lt_of_cell? w _ hx313_0)).trans hx313_0
     replace p313 := eq_true p313
     replace q313 := eq_true q313
     go_wp2
     go_roundg k1
     case measure => have := HK1.out; omega
     case rel => exact ⟨(x3_1), (wrap64 (x9_1 + 1)), (by first | rfl | (simp; done) | (simp [*]; done)), H', ⟨by have := HK1.out; omega⟩, ⟨by (with_reducible repeat (first | apply zU | apply zW | apply zV)); exact HO_3.out⟩, ⟨by repeat (first | exact HB.out | apply zA | apply zL | apply zB)⟩⟩
    ·rw [if_neg c7] at H
     have c7b0 : ((Int.tmod x9_1 4) == 3) = false := beq_eq_false_iff_ne.mpr c7
     have c7b1 : ((Int.tmod x9_1 4) != 3) = true := bne_iff_ne.mpr c7
     by_cases c8 : x3_1.length < 17592186044416
     case neg => rw [if_neg c8] at H; exact absurd H (by simp)
     rw [if_pos c8] at H
     have LMc8 := zO c8
     clear c8
     obtain ⟨y314, hy314⟩ : ∃ y_ : List Int, y_ = (x3_1 ++ [rd l0 x9_1]) := ⟨_, rfl⟩
     replace H : (impl_Puncture.l0 k1 y314 l0 (l0.length : Int) (wrap64 (x9_1 + 1))) = some r := by first | (rw [hy314]; exact H) | exact H
     have Ny314 := zO hy314
     clear hy314
     have H' := zO H
     clear H
     have p313 : 0 ≤ (x9_1 : Int) := yO (by assumption)
     have q313 : x9_1 < (l0.length : Int) := yO (by assumption)
     obtain ⟨ad313, e313, hx313_0⟩ := Kd.at_int HR0.out x9_1 p313 q313
     cases e313
     replace hx313_0 := (HB.out.cell (World.block_lt_of_cell? w _ hx313_0)).trans hx313_0
     replace p313 := eq_true p313
     replace q313 := eq_true q313
     go_wp2_with (first | ((with_reducible refine gate_builtin (b := .append) (xs := #[.tmp 17, .tmp 19]) rfl ?_); at_builtin; refine Kd.R_append (Kd.int .i64) (w0 := w) w.heap.size rfl (.tmp 17) (.tmp 19) 22 3 (.int .i64 0) 8 rfl Try.underlying22 info3 rfl (by decide) (by omega) u3 x3_1 (rd l0 x9_1) [.int .i64 (rd l0 x9_1)] (fun _ => True) (fun _ => False) rfl rfl ?aP (fun _ hk => hk.elim) ?aF ?aO ?aB ?aS ?aL ?_; (case aP => exact rfl); (case aB => exact (by repeat (first | exact HB.out | apply zA | apply zL | apply zB))); (case aF => exact (fun _ _ => trivial)); (case aO => exact (by (with_reducible repeat (first | apply zU | apply zW | apply zV)); exact HO_3.out)); (case aS => exact (zD (by repeat (first | exact HB.out | apply zA | apply zL | apply zB)))); (case aL => have := LMc8.out; omega); intro v315 w9 ho hb hg hat; rw [← Ny314.out] at ho; have n0_ := zO (hb); have n1_ := zO (ho); clear HB; clear HO_3; have HB := n0_; have HO316 := n1_; clear n0_ n1_; clear ho hb hg hat))
     go_roundg k1
     case measure => have := HK1.out; omega
     case rel => exact ⟨(y314), (wrap64 (x9_1 + 1)), (by first | rfl | (simp; done) | (simp [*]; done)), H', ⟨by have := HK1.out; omega⟩, ⟨by (with_reducible repeat (first | apply zU | apply zW | apply zV)); exact HO316.out⟩, ⟨by repeat (first | exact HB.out | apply zA | apply zL | apply zB)⟩⟩
   ·rw [if_neg c4] at H
    have c4b0 : decide (x9_1 < (l0.length : Int)) = false := decide_eq_false c4
    clear c4
    obtain rfl := Option.some.inj H
    go_wp2
    go_ret
    exact ⟨_, by first | rfl | (simp [errW_none, errW_some] <;> rfl) | (simp [*, errW_none, errW_some] <;> rfl), by (with_reducible repeat (first | apply zU | apply zW | apply zV)); exact HO_3.out, by repeat (first | exact HB.out | apply zA | apply zL | apply zB)⟩

mutual
def impl_IntToBits.j0 : Nat → Int → Int → Bool → Option (List Int)
 | 0, _, _, _ => none
 | k + 1, x0, x1, x13 => if x13 = true then (some (([] : List Int))) else (if 0 ≤ x1 then (if (x1 : Int).toNat ≤ 35184372088832 then ((some (List.replicate (x1 : Int).toNat 0 : List Int)).bind fun y321 => (impl_IntToBits.l0 k x0 y321 (y321.length : Int) 0)) else (none)) else (none))
def impl_IntToBits.l0 : Nat → Int → List Int → Int → Int → Option (List Int)
 | 0, _, _, _, _ => none
 | k + 1, x0, x5, x18, x19 => if x19 < x18 then (if 0 ≤ x19 then (if x19 < (x5.length : Int) then (impl_IntToBits.l0 k x0 (x5.set (x19 : Int).toNat (Go.bits .and .i64 (shr .i64 x0 x19) 1)) x18 (wrap64 (x19 + 1))) else (none)) else (none)) else (some x5)
end
def impl_IntToBits.f (k : Nat) (a0 : Int) (a1 : Int) : Option (List Int) := if a0 < 0 then (impl_IntToBits.j0 k a0 a1 true) else ((impl_InRange.f a1 0 40).bind fun t317 => (impl_IntToBits.j0 k a0 a1 (!t317)))
theorem impl_IntToBits.calls (k : Nat) (a0 : Int) (a1 : Int) (r : List Int) (w : World) (h : impl_IntToBits.f k a0 a1 = some r) :
  Calls Try.prog 167 #[.int .i64 a0, .int .i64 a1] w fun e w' => ∃ v0_ : Value, e = .returned (v0_) ∧ Kd.R (Kd.int .i64) 3 w' w.heap.size (fun _ => True) v0_ r ∧ Below w.heap.size w w' := by
 have HB := zO (Below.refl w.heap.size w)
 have H : (if a0 < 0 then (impl_IntToBits.j0 k a0 a1 true) else ((impl_InRange.f a1 0 40).bind fun t317 => (impl_IntToBits.j0 k a0 a1 (!t317)))) = some r := h
 clear h
 have HC3 := zO H
 clear H
 go_enter Try.func167, Try.ntmps167
 go_upto_region 1 with (fail)
 go_cut [13] (fun v13 wc => ∃ (kq : Nat) (x13_2 : Bool), v13 = .bool x13_2 ∧ Aside0 (impl_IntToBits.j0 kq a0 a1 x13_2 = some r) ∧ Aside0 (kq ≤ k) ∧ Aside0 (Below w.heap.size w wc))
 case first =>
  have H := HC3.out
  clear HC3
  by_cases c4 : a0 < 0
  ·rw [if_pos c4] at H
   have c4b0 : decide (a0 < 0) = true := decide_eq_true c4
   clear c4
   (first | rw [c4b0] | (simp only [i64_w, i32_w]; rw [c4b0]) | skip)
   have H' := zO H
   clear H
   go_wp2
   go_meet
   case rel => exact ⟨_, (true), (by first | rfl | (simp; done) | (simp [*]; done)), H', ⟨by first | omega | exact Nat.le_refl _⟩, ⟨by repeat (first | exact HB.out | apply zA | apply zL | apply zB)⟩⟩
  ·rw [if_neg c4] at H
   have c4b0 : decide (a0 < 0) = false := decide_eq_false c4
   clear c4
   (first | rw [c4b0] | (simp only [i64_w, i32_w]; rw [c4b0]) | skip)
   replace H := yE.mp H
   obtain ⟨t317, A50, H⟩ := H
   replace H : (impl_IntToBits.j0 k a0 a1 (!t317)) = some r := H
   have A5 := zO A50
   clear A50
   have H' := zO H
   clear H
   go_wp2_with (first | (go_at_call 101; (with_reducible refine (impl_InRange.calls a1 0 40 t317 _ A5.out).mono ?_); rintro e w' ⟨rfl, ⟨nd, rfl⟩⟩))
   go_meet
   case rel => exact ⟨_, (!t317), (by first | rfl | (simp; done) | (simp [*]; done)), H', ⟨by first | omega | exact Nat.le_refl _⟩, ⟨by repeat (first | exact HB.out | apply zA | apply zL | apply zB)⟩⟩
 case rest =>
  clear HC3
  try clear c1
  try clear p2
  try clear c4
  try clear c4b0
  obtain ⟨kq, x13_2, rfl, HA, HJ2, HB⟩ := hcut
  cases kq with
  | zero => exact absurd HA.out (by simp [impl_IntToBits.j0])
  | succ kj2 =>
   have H := HA.out
   clear HA
   simp only [impl_IntToBits.j0] at H
   by_cases c6 : x13_2 = true
   ·subst c6
    have H1 : (some (([] : List Int))) = some r := by rw [if_pos rfl] at H; exact H
    clear H
    have H := H1
    clear H1
    obtain ⟨y318, hy318⟩ : ∃ y_ : List Int, y_ = (([] : List Int)) := ⟨_, rfl⟩
    replace H : (some y318) = some r := by first | (rw [hy318]; exact H) | exact H
    have Ny318 := zO hy318
    clear hy318
    obtain rfl := Option.some.inj H
    go_wp2_with (first | ((with_reducible refine zN (N := 14) rfl ?_); refine Kd.R_lit (Kd.int .i64) _ 3 ?hg (N := 14) ?hd (xs := ([] : List Int)) (inner := []) (ok := fun _ => True) (okp := fun _ => True) ?hr ?hp (fun _ hk => hk) trivial (Below.refl _ _) (Nat.le_refl _) (by simp) ?_; (case hd => rfl); (case hg => rfl); (case hr => first | (go_simp; done) | (go_simp; rfl)); (case hp => exact (Reps.none _ _)); intro v319 w7 ho8 hb hg_ hnew_; clear hg_ hnew_; (first | rw [← Ny318.out] at ho8 | (simp only [Int.reduceToNat] at ho8; rw [← Ny318.out] at ho8)); have n0_ := zO (yA ho8 (zD (by repeat (first | exact HB.out | apply zA | apply zL | apply zB)))); have n1_ := zO (zE (by repeat (first | exact HB.out | apply zA | apply zL | apply zB)) hb); clear HB; have HO320 := n0_; have HB := n1_; clear n0_ n1_; clear hb ho8))
    go_ret
    exact ⟨_, by first | rfl | (simp [errW_none, errW_some] <;> rfl) | (simp [*, errW_none, errW_some] <;> rfl), by (with_reducible repeat (first | apply zU | apply zW | apply zV)); exact HO320.out, by repeat (first | exact HB.out | apply zA | apply zL | apply zB)⟩
   ·replace c6 := Bool.eq_false_iff.mpr c6
    subst c6
    have H1 : (if 0 ≤ a1 then (if (a1 : Int).toNat ≤ 35184372088832 then ((some (List.replicate (a1 : Int).toNat 0 : List Int)).bind fun y321 => (impl_IntToBits.l0 kj2 a0 y321 (y321.length : Int) 0)) else (none)) else (none)) = some r := by rw [if_neg (show ¬ (false = true) by decide)] at H; exact H
    clear H
    have H := H1
    clear H1
    by_cases c9 : 0 ≤ a1
    case neg => rw [if_neg c9] at H; exact absurd H (by simp)
    rw [if_pos c9] at H
    have c9b0 := eq_true c9
    have c9b1 : decide (0 ≤ a1) = true := decide_eq_true c9
    clear c9
    by_cases c10 : (a1 : Int).toNat ≤ 35184372088832
    case neg => rw [if_neg c10] at H; exact absurd H (by simp)
    rw [if_pos c10] at H
    have c10b0 := eq_true c10
    have c10b1 : decide ((a1 : Int).toNat ≤ 35184372088832) = true := decide_eq_true c10
    clear c10
    obtain ⟨y321, hy321⟩ : ∃ y_ : List Int, y_ = (List.replicate (a1 : Int).toNat 0) := ⟨_, rfl⟩
    replace H : (impl_IntToBits.l0 kj2 a0 y321 (y321.length : Int) 0) = some r := by first | (rw [hy321]; exact H) | exact H
    have Ny321 := zO hy321
    clear hy321
    have H' := zO H
    clear H
    go_wp2_with (first | ((with_reducible refine zN (N := 16) rfl ?_); refine Kd.R_make (Kd.int .i64) _ 3 rfl (N := 16) rfl 22 _ _ rfl a1 rfl rfl Try.underlying22 (.int .i64 0) 8 info3 rfl (by decide) (by omega) 0 (ok := fun _ => True) (okp := fun _ => True) rfl (fun _ hk => hk) trivial (yO (by assumption)) (Nat.le_trans (Nat.mul_le_mul_right _ (yO (by assumption) : a1.toNat ≤ 35184372088832)) (by omega)) (Below.refl _ _) (Nat.le_refl _) ?_; intro v322 w11 ho12 hb hg_ hnew_; clear hg_ hnew_; (first | rw [← Ny321.out] at ho12 | (simp only [Int.reduceToNat] at ho12; rw [← Ny321.out] at ho12)); have n0_ := zO (yA ho12 (zD (by repeat (first | exact HB.out | apply zA | apply zL | apply zB)))); have n1_ := zO (zE (by repeat (first | exact HB.out | apply zA | apply zL | apply zB)) hb); clear HB; have HO323 := n0_; have HB := n1_; clear n0_ n1_; clear hb ho12; obtain ⟨Ao13, co13, eo13⟩ := Kd.R_slice HO323.out; subst eo13))
    go_loopg [19] kj2 (fun kq v19 w' => ∃ (x5_2 : List Int) (x19_2 : Int), v19 = .int .i64 x19_2 ∧ Aside0 (impl_IntToBits.l0 kq a0 x5_2 (y321.length : Int) x19_2 = some r) ∧ Aside0 (kq ≤ kj2) ∧ Aside0 (Kd.R (Kd.int .i64) 3 w' w.heap.size (fun _ => True) (.slice Ao13 y321.length co13) x5_2) ∧ Aside0 (Below w.heap.size w w'))
    case atStart => exact ⟨(y321), (0), (by first | rfl | (simp; done) | (simp [*]; done)), H', ⟨Nat.le_refl _⟩, ⟨by (with_reducible repeat (first | apply zU | apply zW | apply zV)); exact HO323.out⟩, ⟨by repeat (first | exact HB.out | apply zA | apply zL | apply zB)⟩⟩
    case round =>
     clear H'
     try clear c1
     try clear p2
     try clear c4
     try clear c4b0
     try clear c6
     try clear c9
     try clear c9b0
     try clear c9b1
     try clear c10
     try clear c10b0
     try clear c10b1
     try clear p2
     obtain ⟨x5_2, x19_2, rfl, HA, HK2, HO_5, HB⟩ := hrel
     have hl5_2 := (zX HO_5.out).1
     rw [hl5_2] at HO_5
     (try simp only [hl5_2])
     cases gk with
     | zero => exact absurd HA.out (by simp [impl_IntToBits.l0])
     | succ k2 =>
      have H := HA.out
      clear HA
      simp only [impl_IntToBits.l0] at H
      by_cases c14 : x19_2 < (y321.length : Int)
      ·rw [if_pos c14] at H
       have c14b0 : decide (x19_2 < (y321.length : Int)) = true := decide_eq_true c14
       clear c14
       by_cases c15 : 0 ≤ x19_2
       case neg => rw [if_neg c15] at H; exact absurd H (by simp)
       rw [if_pos c15] at H
       have c15b0 := eq_true c15
       have c15b1 : decide (0 ≤ x19_2) = true := decide_eq_true c15
       clear c15
       obtain ⟨ji16, hji16⟩ : ∃ j_ : Int, (shr .i64 a0 x19_2) = j_ := ⟨_, rfl⟩
       replace H : (if x19_2 < (x5_2.length : Int) then (impl_IntToBits.l0 k2 a0 (x5_2.set (x19_2 : Int).toNat (Go.bits .and .i64 (ji16) 1)) (y321.length : Int) (wrap64 (x19_2 + 1))) else (none)) = some r := by first | (rw [hji16] at H; exact H) | (simp only [hji16] at H ⊢; exact H)
       have hji16_ : (a0 / 2 ^ min x19_2.toNat 64) = ji16 := hji16
       have hji16z : x19_2 ≤ 64 → (a0 / 2 ^ x19_2.toNat) = ji16 := shr_small hji16
       by_cases c17 : x19_2 < (x5_2.length : Int)
       case neg => rw [if_neg c17] at H; exact absurd H (by simp)
       rw [if_pos c17] at H
       have c17b0 : decide (x19_2 < (x5_2.length : Int)) = true := decide_eq_true c17
       clear c17
       obtain ⟨y324, hy324⟩ : ∃ y_ : List Int, y_ = (x5_2.set (x19_2 : Int).toNat (Go.bits .and .i64 (ji16) 1)) := ⟨_, rfl⟩
       replace H : (impl_IntToBits.l0 k2 a0 y324 (y321.length : Int) (wrap64 (x19_2 + 1))) = some r := by first | (rw [hy324]; exact H) | exact H
       have Ny324 := zO hy324
       clear hy324
       have H' := zO H
       clear H
       have p18 : 0 ≤ (x19_2 : Int) := yO (by assumption)
       have q18 : (x19_2 : Int) < ((x5_2.length : Int) : Int) := yO (by assumption)
       obtain ⟨go18, co18, eo18, gb18, gl18, cl18, HG18⟩ := Kd.R_form HO_5.out (by omega)
       (first | cases eo18 | (injection eo18 with ea_ en_ ec_; (first | subst ea_ | (injection ea_ with ea_; subst ea_)); subst ec_; clear en_))
       have GB18 := zO gb18
       have GG18 := zO HG18
       clear gb18 gl18 HG18
       obtain ⟨hx18_0, hf18_0⟩ := Kd.R_celln 0 HO_5.out (x19_2 : Int) p18 q18
       replace p18 := eq_true p18
       replace q18 := eq_true q18
       have HP19 := Kd.R_putg HO_5.out (x19_2 : Int) (Go.bits .and .i64 (ji16) 1)
       go_wp2_with (first | ((with_reducible refine gate_store (t := 3) (p := 28) rfl ?_); refine store_event (t := 3) (p := 28) (v := ?vo_w20) (w1 := (wr.setCell ⟨go18, (x19_2 : Int).toNat, none⟩ (.int .i64 (Go.bits .and .i64 (ji16) 1)))) ?hg ?ho ?hn ?hr ?_; (case ho => rfl); (case hg => rfl); (case hn => rfl); (case hr => first | (go_simp; done) | (go_simp; rfl)); intro w20 hw; have hg : wr.grownBy w20 (some go18) := (by rw [hw]; exact HP19.2); have hp_ : Kd.R (Kd.int .i64) 3 w20 w.heap.size (fun _ => True) (.slice (some ⟨go18, 0, none⟩) x5_2.length co13) y324 := (by rw [hw, Ny324.out]; exact HP19.1); clear HP19; have n0_ := zO (hp_); have n1_ := zO ((by rw [hw]; exact zC (HB.out) GB18.out : Below w.heap.size w w20)); clear HO_5; clear HB; have HO_5 := n0_; have HB := n1_; clear n0_ n1_; clear hg hw hp_))
       (try simp only [← hl5_2])
       go_roundg k2
       case measure => have := HJ2.out; have := HK2.out; omega
       case rel => exact ⟨(y324), (wrap64 (x19_2 + 1)), (by first | rfl | (simp; done) | (simp [*]; done)), H', ⟨by have := HJ2.out; have := HK2.out; omega⟩, ⟨by (try simp only [hl5_2]); (with_reducible repeat (first | apply zU | apply zW | apply zV)); exact HO_5.out⟩, ⟨by repeat (first | exact HB.out | apply zA | apply zL | apply zB)⟩⟩
      ·rw [if_neg c14] at H
       have c14b0 : decide (x19_2 < (y321.length : Int)) = false := decide_eq_false c14
       clear c14
       (try rw [hl5_2] at c14b0)
       obtain rfl := Option.some.inj H
       go_wp2
       go_ret
       exact ⟨_, by first | rfl | (simp [errW_none, errW_some] <;> rfl) | (simp [*, errW_none, errW_some] <;> rfl), by (with_reducible repeat (first | apply zU | apply zW | apply zV)); exact HO_5.out, by repeat (first | exact HB.out | apply zA | apply zL | apply zB)⟩

end Go.Proofs.Ytldbmljooafkcaa.PFnFrameErrors
