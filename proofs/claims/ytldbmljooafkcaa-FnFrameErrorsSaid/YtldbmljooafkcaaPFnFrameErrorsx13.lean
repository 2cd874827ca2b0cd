/- Contracts of Go functions. Conditions: the arguments read as the Lean function's. Written by print2.py, shrink.py (this session's). -/
import Derived.Test.YtldbmljooafkcaaPFnFrameErrorsx0
import Derived.Test.YtldbmljooafkcaaPFnFrameErrorsx12
namespace Go.Proofs.Ytldbmljooafkcaa.PFnFrameErrors
open Go.RowKit Go.Proofs.YtldbmljooafkcaaW.PrintWords Go.Proofs.YtldbmljooafkcaaW.PrintLast Go.Proofs.YtldbmljooafkcaaW.PrintMore
open Go.Proofs.YtldbmljooafkcaaW.PrintWords renaming below_alloc → zA, below_drew1 → zB, below_set → zC, below_size → zD, below_step → zE, pw_below_drewN → zL, gate_callee → zM, gate_dst → zN
open Go.Proofs.YtldbmljooafkcaaW.PrintWords.Aside0 renaming mk → zO
open Go.Proofs.YtldbmljooafkcaaW.PrintWords.Drawn0 renaming refl → zP, step → zQ
open Go.Proofs.YtldbmljooafkcaaW.PrintWords.Kd renaming C_alloc → zR, C_drew → zS, C_drewN → zT, R_alloc → zU, R_drew → zV, R_drewN → zW, R_reads' → zX, R_lower → yA
open Option renaming bind_eq_some_iff → yE
open List renaming setIfInBounds_toArray → yF, set_cons_zero → yG, set_cons_succ → yH, length_take → yI, length_drop → yJ, map_toArray → yK, map_cons → yL, map_nil → yM
set_option maxHeartbeats 8000000
set_option maxRecDepth 100000
attribute [local go_sem] max2_int min2_int max_two min_two max_three min_three max_four min_four
set_option linter.unusedVariables false
set_option linter.unusedSimpArgs false

def spec_ConvolutionalEncode.l0 : Nat → List Int → List Int → Int → Int → Option (List Int)
 | 0, _, _, _, _ => none
 | k + 1, x0, x3, x4, x5 => if x5 < (wrap64 ((x0.length : Int) + 2)) then (if x5 < (x0.length : Int) then (if 0 ≤ x5 then ((spec_OutputPair.f x4 (rd x0 x5)).bind fun bt462 => ((some (([bt462.1, bt462.2] : List Int) : List Int)).bind fun y464 => (if x3.length + y464.length < 17592186044416 then ((spec_NextState.f x4 (rd x0 x5)).bind fun t470 => (spec_ConvolutionalEncode.l0 k x0 (x3 ++ y464) t470 (wrap64 (x5 + 1)))) else (none)))) else (none)) else ((spec_OutputPair.f x4 0).bind fun bt471 => ((some (([bt471.1, bt471.2] : List Int) : List Int)).bind fun y473 => (if x3.length + y473.length < 17592186044416 then ((spec_NextState.f x4 0).bind fun t479 => (spec_ConvolutionalEncode.l0 k x0 (x3 ++ y473) t479 (wrap64 (x5 + 1)))) else (none))))) else (some x3)
def spec_ConvolutionalEncode.f (k : Nat) (l0 : List Int) : Option (List Int) := (some (([] : List Int) : List Int)).bind fun y457 => ((spec_IsBitString.f k l0).bind fun t460 => (if t460 = true then (spec_ConvolutionalEncode.l0 k l0 y457 0 0) else (some y457)))
theorem spec_ConvolutionalEncode.calls (k : Nat) (A0 : Option Addr) (c0 : Nat) (l0 : List Int) (r : List Int) (w : World) (hr0 : Kd.C (Kd.int .i64) w A0 l0.length l0) (hc0 : l0.length ≤ c0) (h : spec_ConvolutionalEncode.f k l0 = some r) :
  Calls Try.prog 52 #[.slice A0 l0.length c0] w fun e w' => ∃ v0_ : Value, e = .returned (v0_) ∧ Kd.R (Kd.int .i64) 3 w' w.heap.size (fun _ => True) v0_ r ∧ Below w.heap.size w w' := by
 have HR0 := zO hr0
 have HC0 := zO hc0
 clear hr0 hc0
 have HB := zO (Below.refl w.heap.size w)
 have H : ((some (([] : List Int) : List Int)).bind fun y457 => ((spec_IsBitString.f k l0).bind fun t460 => (if t460 = true then (spec_ConvolutionalEncode.l0 k l0 y457 0 0) else (some y457)))) = some r := h
 clear h
 obtain ⟨y457, hy457⟩ : ∃ y_ : List Int, y_ = (([] : List Int)) := ⟨_, rfl⟩
 replace H : ((spec_IsBitString.f k l0).bind fun t460 => (if t460 = true then (spec_ConvolutionalEncode.l0 k l0 y457 0 0) else (some y457))) = some r := by first | (rw [hy457]; exact H) | exact H
 have Ny457 := zO hy457
 clear hy457
 replace H := yE.mp H
 obtain ⟨t460, A20, H⟩ := H
 replace H : (if t460 = true then (spec_ConvolutionalEncode.l0 k l0 y457 0 0) else (some y457)) = some r := H
 have A2 := zO A20
 clear A20
 by_cases c3 : t460 = true
 ·subst c3
  have H1 : (spec_ConvolutionalEncode.l0 k l0 y457 0 0) = some r := by rw [if_pos rfl] at H; exact H
  clear H
  have H := H1
  clear H1
  have H' := zO H
  clear H
  go_enter Try.func52, Try.ntmps52
  go_wp2_with (first | ((with_reducible refine zN (N := 9) rfl ?_); refine Kd.R_lit (Kd.int .i64) _ 3 ?hg (N := 9) ?hd (xs := ([] : List Int)) (inner := []) (ok := fun _ => True) (okp := fun _ => True) ?hr ?hp (fun _ hk => hk) trivial (Below.refl _ _) (Nat.le_refl _) (by simp) ?_; (case hd => rfl); (case hg => rfl); (case hr => first | (go_simp; done) | (go_simp; rfl)); (case hp => exact (Reps.none _ _)); intro v458 w4 ho5 hb hg_ hnew_; clear hg_ hnew_; (first | rw [← Ny457.out] at ho5 | (simp only [Int.reduceToNat] at ho5; rw [← Ny457.out] at ho5)); have n0_ := zO (yA ho5 (zD (by repeat (first | exact HB.out | apply zA | apply zL | apply zB)))); have n1_ := zO (zE (by repeat (first | exact HB.out | apply zA | apply zL | apply zB)) hb); clear HB; have HO459 := n0_; have HB := n1_; clear n0_ n1_; clear hb ho5) | ((with_reducible refine zM (f := 112) rfl ?_); refine goesL_ (some 11) rfl rfl Try.func112 (by kernel_rfl) rfl #[.slice A0 l0.length c0] rfl (by (try simp only [yK, yL, yM]); first | done | rfl | (simp only [yJ, yI]; rfl)) ?_; (with_reducible refine (spec_IsBitString.calls k _ _ l0 true _ ?side1 ?side2 A2.out).mono ?_); (case side1 => repeat (first | exact (Kd.C_below HR0.out HB.out) | (with_reducible refine zR ?_ _) | (with_reducible refine zT ?_ _) | (with_reducible refine zS ?_))); (case side2 => exact HC0.out); rintro e w' ⟨rfl, ⟨nd, rfl⟩⟩; refine ⟨_, rfl, ?_⟩))
  go_loopg [3, 4, 5] k (fun kq v3 v4 v5 w' => ∃ (x3_1 : List Int) (x4_1 : Int) (x5_1 : Int), v4 = .int .i64 x4_1 ∧ v5 = .int .i64 x5_1 ∧ Aside0 (spec_ConvolutionalEncode.l0 kq l0 x3_1 x4_1 x5_1 = some r) ∧ Aside0 (kq ≤ k) ∧ Aside0 (Kd.R (Kd.int .i64) 3 w' w.heap.size (fun _ => True) v3 x3_1) ∧ Aside0 (Below w.heap.size w w'))
  case atStart => exact ⟨(y457), (0), (0), (by first | rfl | (simp; done) | (simp [*]; done)), (by first | rfl | (simp; done) | (simp [*]; done)), H', ⟨Nat.le_refl _⟩, ⟨by (with_reducible repeat (first | apply zU | apply zW | apply zV)); exact HO459.out⟩, ⟨by repeat (first | exact HB.out | apply zA | apply zL | apply zB)⟩⟩
  case round =>
   clear H'
   try clear c1
   try clear p2
   try clear c3
   try clear c5
   obtain ⟨x3_1, x4_1, x5_1, rfl, rfl, HA, HK1, HO_3, HB⟩ := hrel
   cases gk with
   | zero => exact absurd HA.out (by simp [spec_ConvolutionalEncode.l0])
   | succ k1 =>
    have H := HA.out
    clear HA
    simp only [spec_ConvolutionalEncode.l0] at H
    by_cases c6 : x5_1 < (wrap64 ((l0.length : Int) + 2))
    ·rw [if_pos c6] at H
     have c6b0 : decide (x5_1 < (wrap64 ((l0.length : Int) + 2))) = true := decide_eq_true c6
     clear c6
     by_cases c7 : x5_1 < (l0.length : Int)
     ·rw [if_pos c7] at H
      have c7b0 : decide (x5_1 < (l0.length : Int)) = true := decide_eq_true c7
      clear c7
      by_cases c8 : 0 ≤ x5_1
      case neg => rw [if_neg c8] at H; exact absurd H (by simp)
      rw [if_pos c8] at H
      have c8b0 : decide (0 ≤ x5_1) = true := decide_eq_true c8
      clear c8
      replace H := yE.mp H
      obtain ⟨⟨t462, t463⟩, A90, H⟩ := H
      replace H : ((some (([t462, t463] : List Int) : List Int)).bind fun y464 => (if x3_1.length + y464.length < 17592186044416 then ((spec_NextState.f x4_1 (rd l0 x5_1)).bind fun t470 => (spec_ConvolutionalEncode.l0 k1 l0 (x3_1 ++ y464) t470 (wrap64 (x5_1 + 1)))) else (none))) = some r := H
      have A9 := zO A90
      clear A90
      obtain ⟨y464, hy464⟩ : ∃ y_ : List Int, y_ = (([t462, t463] : List Int)) := ⟨_, rfl⟩
      replace H : (if x3_1.length + y464.length < 17592186044416 then ((spec_NextState.f x4_1 (rd l0 x5_1)).bind fun t470 => (spec_ConvolutionalEncode.l0 k1 l0 (x3_1 ++ y464) t470 (wrap64 (x5_1 + 1)))) else (none)) = some r := by first | (rw [hy464]; exact H) | exact H
      have Ny464 := zO hy464
      clear hy464
      by_cases c10 : x3_1.length + y464.length < 17592186044416
      case neg => rw [if_neg c10] at H; exact absurd H (by simp)
      rw [if_pos c10] at H
      have LMc10 := zO c10
      clear c10
      obtain ⟨y467, hy467⟩ : ∃ y_ : List Int, y_ = (x3_1 ++ y464) := ⟨_, rfl⟩
      replace H : ((spec_NextState.f x4_1 (rd l0 x5_1)).bind fun t470 => (spec_ConvolutionalEncode.l0 k1 l0 y467 t470 (wrap64 (x5_1 + 1)))) = some r := by first | (rw [hy467]; exact H) | exact H
      have Ny467 := zO hy467
      clear hy467
      replace H := yE.mp H
      obtain ⟨t470, A110, H⟩ := H
      replace H : (spec_ConvolutionalEncode.l0 k1 l0 y467 t470 (wrap64 (x5_1 + 1))) = some r := H
      have A11 := zO A110
      clear A110
      have H' := zO H
      clear H
      have p461 : 0 ≤ (x5_1 : Int) := yO (by assumption)
      have q461 : x5_1 < (l0.length : Int) := yO (by assumption)
      obtain ⟨ad461, e461, hx461_0⟩ := Kd.at_int HR0.out x5_1 p461 q461
      cases e461
      replace hx461_0 := (HB.out.cell (World.block_lt_of_cell? w _ hx461_0)).trans hx461_0
      replace p461 := eq_true p461
      replace q461 := eq_true q461
      go_wp2_with (first | ((with_reducible refine zM (f := 113) rfl ?_); refine goesL_ (some 32) rfl rfl Try.func113 (by kernel_rfl) rfl #[.int .i64 x4_1, .int .i64 (rd l0 x5_1)] rfl (by (try simp only [yK, yL, yM]); first | done | rfl | (simp only [yJ, yI]; rfl)) ?_; (with_reducible refine (spec_OutputPair.calls x4_1 (rd l0 x5_1) t462 t463 _ A9.out).mono ?_); rintro e w' ⟨rfl, ⟨nd, rfl⟩⟩; refine ⟨_, rfl, ?_⟩) | ((with_reducible refine zN (N := 38) rfl ?_); refine Kd.R_lit (Kd.int .i64) _ 3 ?hg (N := 38) ?hd (xs := ([t462, t463] : List Int)) (inner := [.int .i64 t462, .int .i64 t463]) (ok := fun _ => True) (okp := fun _ => True) ?hr ?hp (fun _ hk => hk) trivial (Below.refl _ _) (Nat.le_refl _) (by simp) ?_; (case hd => rfl); (case hg => rfl); (case hr => first | (go_simp; done) | (go_simp; rfl)); (case hp => exact (Reps.one (show Kd.M (Kd.int .i64) _ _ _ t462 [.int .i64 t462] from rfl) (Reps.one (show Kd.M (Kd.int .i64) _ _ _ t463 [.int .i64 t463] from rfl) (Reps.none _ _)))); intro v465 w12 ho13 hb hg_ hnew_; clear hg_ hnew_; (first | rw [← Ny464.out] at ho13 | (simp only [Int.reduceToNat] at ho13; rw [← Ny464.out] at ho13)); have n0_ := zO (Kd.R_elder' (by (with_reducible repeat (first | apply zU | apply zW | apply zV)); exact HO_3.out) (Kd.R_base ho13) hb); have n1_ := zO (yA (Kd.R_new' ho13 (Kd.R_lt (by (with_reducible repeat (first | apply zU | apply zW | apply zV)); exact HO_3.out))) (zD (by repeat (first | exact HB.out | apply zA | apply zL | apply zB)))); have n2_ := zO (zE (by repeat (first | exact HB.out | apply zA | apply zL | apply zB)) hb); clear HO_3; clear HB; have HO_3 := n0_; have HO466 := n1_; have HB := n2_; clear n0_ n1_ n2_; clear hb ho13; obtain ⟨Ao15, co15, eo15⟩ := Kd.R_slice HO466.out; subst eo15) | ((with_reducible refine gate_builtin (b := .append) (xs := #[.tmp 35, .tmp 38]) rfl ?_); at_builtin; refine Kd.R_append_rows (Kd.int .i64) (w0 := w) w.heap.size rfl (.tmp 35) (.tmp 38) 22 3 (.int .i64 0) 8 rfl Try.underlying22 info3 rfl (by decide) (by omega) u3 x3_1 y464 _ _ _ (fun k_ => some k_ ≠ (.slice Ao15 y464.length co15 : Value).ownBlock) (fun _ => False) rfl rfl ?aO ?aR (fun _ _ h => h) (fun _ h => h.elim) ?aF ?aB ?aS ?aL ?_; (case aR => repeat (first | exact (zX HO466.out).2.2 | (with_reducible refine zR ?_ _) | (with_reducible refine zT ?_ _) | (with_reducible refine zS ?_))); (case aB => exact (by repeat (first | exact HB.out | apply zA | apply zL | apply zB))); (case aF => exact (fun k_ hk => Kd.fresh' (Kd.R_lt (by (with_reducible repeat (first | apply zU | apply zW | apply zV)); exact HO466.out)) k_ hk)); (case aO => exact (by (with_reducible repeat (first | apply zU | apply zW | apply zV)); exact Kd.R_mono HO_3.out (fun _ hk => hk.2))); (case aS => exact (zD (by repeat (first | exact HB.out | apply zA | apply zL | apply zB)))); (case aL => have := LMc10.out; omega); intro v468 w14 ho hb hg hat; rw [← Ny467.out] at ho; have n0_ := zO (Kd.R_after (ok := (fun _ => True)) (by (with_reducible repeat (first | apply zU | apply zW | apply zV)); exact HO466.out) hg hat); have n1_ := zO (hb); have n2_ := zO (ho); clear HO466; clear HB; clear HO_3; have HO466 := n0_; have HB := n1_; have HO469 := n2_; clear n0_ n1_ n2_; clear ho hb hg hat) | ((with_reducible refine zM (f := 114) rfl ?_); refine goesL_ (some 42) rfl rfl Try.func114 (by kernel_rfl) rfl #[.int .i64 x4_1, .int .i64 (rd l0 x5_1)] rfl (by (try simp only [yK, yL, yM]); first | done | rfl | (simp only [yJ, yI]; rfl)) ?_; (with_reducible refine (spec_NextState.calls x4_1 (rd l0 x5_1) t470 _ A11.out).mono ?_); rintro e w' ⟨rfl, ⟨nd, rfl⟩⟩; refine ⟨_, rfl, ?_⟩))
      go_roundg k1
      case measure => have := HK1.out; omega
      case rel => exact ⟨(y467), (t470), (wrap64 (x5_1 + 1)), (by first | rfl | (simp; done) | (simp [*]; done)), (by first | rfl | (simp; done) | (simp [*]; done)), H', ⟨by have := HK1.out; omega⟩, ⟨by (with_reducible repeat (first | apply zU | apply zW | apply zV)); exact Kd.R_mono HO469.out (fun _ hk => trivial)⟩, ⟨by repeat (first | exact HB.out | apply zA | apply zL | apply zB)⟩⟩
     ·rw [if_neg c7] at H
      have c7b0 : decide (x5_1 < (l0.length : Int)) = false := decide_eq_false c7
      clear c7
      replace H := yE.mp H
      obtain ⟨⟨t471, t472⟩, A160, H⟩ := H
      replace H : ((some (([t471, t472] : List Int) : List Int)).bind fun y473 => (if x3_1.length + y473.length < 17592186044416 then ((spec_NextState.f x4_1 0).bind fun t479 => (spec_ConvolutionalEncode.l0 k1 l0 (x3_1 ++ y473) t479 (wrap64 (x5_1 + 1)))) else (none))) = some r := H
      have A16 := zO A160
      clear A160
      obtain ⟨y473, hy473⟩ : ∃ y_ : List Int, y_ = (([t471, t472] : List Int)) := ⟨_, rfl⟩
      replace H : (if x3_1.length + y473.length < 17592186044416 then ((spec_NextState.f x4_1 0).bind fun t479 => (spec_ConvolutionalEncode.l0 k1 l0 (x3_1 ++ y473) t479 (wrap64 (x5_1 + 1)))) else (none)) = some r := by first | (rw [hy473]; exact H) | exact H
      have Ny473 := zO hy473
      clear hy473
      by_cases c17 : x3_1.length + y473.length < 17592186044416
      case neg => rw [if_neg c17] at H; exact absurd H (by simp)
      rw [if_pos c17] at H
      have LMc17 := zO c17
      clear c17
      obtain ⟨y476, hy476⟩ : ∃ y_ : List Int, y_ = (x3_1 ++ y473) := ⟨_, rfl⟩
      replace H : ((spec_NextState.f x4_1 0).bind fun t479 => (spec_ConvolutionalEncode.l0 k1 l0 y476 t479 (wrap64 (x5_1 + 1)))) = some r := by first | (rw [hy476]; exact H) | exact H
      have Ny476 := zO hy476
      clear hy476
      replace H := yE.mp H
      obtain ⟨t479, A180, H⟩ := H
      replace H : (spec_ConvolutionalEncode.l0 k1 l0 y476 t479 (wrap64 (x5_1 + 1))) = some r := H
      have A18 := zO A180
      clear A180
      have H' := zO H
      clear H
      go_wp2_with (first | ((with_reducible refine zM (f := 113) rfl ?_); refine goesL_ (some 32) rfl rfl Try.func113 (by kernel_rfl) rfl #[.int .i64 x4_1, .int .i64 0] rfl (by (try simp only [yK, yL, yM]); first | done | rfl | (simp only [yJ, yI]; rfl)) ?_; (with_reducible refine (spec_OutputPair.calls x4_1 0 t471 t472 _ A16.out).mono ?_); rintro e w' ⟨rfl, ⟨nd, rfl⟩⟩; refine ⟨_, rfl, ?_⟩) | ((with_reducible refine zN (N := 38) rfl ?_); refine Kd.R_lit (Kd.int .i64) _ 3 ?hg (N := 38) ?hd (xs := ([t471, t472] : List Int)) (inner := [.int .i64 t471, .int .i64 t472]) (ok := fun _ => True) (okp := fun _ => True) ?hr ?hp (fun _ hk => hk) trivial (Below.refl _ _) (Nat.le_refl _) (by simp) ?_; (case hd => rfl); (case hg => rfl); (case hr => first | (go_simp; done) | (go_simp; rfl)); (case hp => exact (Reps.one (show Kd.M (Kd.int .i64) _ _ _ t471 [.int .i64 t471] from rfl) (Reps.one (show Kd.M (Kd.int .i64) _ _ _ t472 [.int .i64 t472] from rfl) (Reps.none _ _)))); intro v474 w19 ho20 hb hg_ hnew_; clear hg_ hnew_; (first | rw [← Ny473.out] at ho20 | (simp only [Int.reduceToNat] at ho20; rw [← Ny473.out] at ho20)); have n0_ := zO (Kd.R_elder' (by (with_reducible repeat (first | apply zU | apply zW | apply zV)); exact HO_3.out) (Kd.R_base ho20) hb); have n1_ := zO (yA (Kd.R_new' ho20 (Kd.R_lt (by (with_reducible repeat (first | apply zU | apply zW | apply zV)); exact HO_3.out))) (zD (by repeat (first | exact HB.out | apply zA | apply zL | apply zB)))); have n2_ := zO (zE (by repeat (first | exact HB.out | apply zA | apply zL | apply zB)) hb); clear HO_3; clear HB; have HO_3 := n0_; have HO475 := n1_; have HB := n2_; clear n0_ n1_ n2_; clear hb ho20; obtain ⟨Ao22, co22, eo22⟩ := Kd.R_slice HO475.out; subst eo22) | ((with_reducible refine gate_builtin (b := .append) (xs := #[.tmp 35, .tmp 38]) rfl ?_); at_builtin; refine Kd.R_append_rows (Kd.int .i64) (w0 := w) w.heap.size rfl (.tmp 35) (.tmp 38) 22 3 (.int .i64 0) 8 rfl Try.underlying22 info3 rfl (by decide) (by omega) u3 x3_1 y473 _ _ _ (fun k_ => some k_ ≠ (.slice Ao22 y473.length co22 : Value).ownBlock) (fun _ => False) rfl rfl ?aO ?aR (fun _ _ h => h) (fun _ h => h.elim) ?aF ?aB ?aS ?aL ?_; (case aR => repeat (first | exact (zX HO475.out).2.2 | (with_reducible refine zR ?_ _) | (with_reducible refine zT ?_ _) | (with_reducible refine zS ?_))); (case aB => exact (by repeat (first | exact HB.out | apply zA | apply zL | apply zB))); (case aF => exact (fun k_ hk => Kd.fresh' (Kd.R_lt (by (with_reducible repeat (first | apply zU | apply zW | apply zV)); exact HO475.out)) k_ hk)); (case aO => exact (by (with_reducible repeat (first | apply zU | apply zW | apply zV)); exact Kd.R_mono HO_3.out (fun _ hk => hk.2))); (case aS => exact (zD (by repeat (first | exact HB.out | apply zA | apply zL | apply zB)))); (case aL => have := LMc17.out; omega); intro v477 w21 ho hb hg hat; rw [← Ny476.out] at ho; have n0_ := zO (Kd.R_after (ok := (fun _ => True)) (by (with_reducible repeat (first | apply zU | apply zW | apply zV)); exact HO475.out) hg hat); have n1_ := zO (hb); have n2_ := zO (ho); clear HO475; clear HB; clear HO_3; have HO475 := n0_; have HB := n1_; have HO478 := n2_; clear n0_ n1_ n2_; clear ho hb hg hat) | ((with_reducible refine zM (f := 114) rfl ?_); refine goesL_ (some 42) rfl rfl Try.func114 (by kernel_rfl) rfl #[.int .i64 x4_1, .int .i64 0] rfl (by (try simp only [yK, yL, yM]); first | done | rfl | (simp only [yJ, yI]; rfl)) ?_; (with_reducible refine (spec_NextState.calls x4_1 0 t479 _ A18.out).mono ?_); rintro e w' ⟨rfl, ⟨nd, rfl⟩⟩; refine ⟨_, rfl, ?_⟩))
      go_roundg k1
      case measure => have := HK1.out; omega
      case rel => exact ⟨(y476), (t479), (wrap64 (x5_1 + 1)), (by first | rfl | (simp; done) | (simp [*]; done)), (by first | rfl | (simp; done) | (simp [*]; done)), H', ⟨by have := HK1.out; omega⟩, ⟨by (with_reducible repeat (first | apply zU | apply zW | apply zV)); exact Kd.R_mono HO478.out (fun _ hk => trivial)⟩, ⟨by repeat (first | exact HB.out | apply zA | apply zL | apply zB)⟩⟩
    ·rw [if_neg c6] at H
     have c6b0 : decide (x5_1 < (wrap64 ((l0.length : Int) + 2))) = false := decide_eq_false c6
     clear c6
     obtain rfl := Option.some.inj H
     go_wp2
     go_ret
     exact ⟨_, by first | rfl | (simp [errW_none, errW_some] <;> rfl) | (simp [*, errW_none, errW_some] <;> rfl), by (with_reducible repeat (first | apply zU | apply zW | apply zV)); exact HO_3.out, by repeat (first | exact HB.out | apply zA | apply zL | apply zB)⟩
 ·replace c3 := Bool.eq_false_iff.mpr c3
  subst c3
  have H1 : (some y457) = some r := by rw [if_neg (show ¬ (false = true) by decide)] at H; exact H
  clear H
  have H := H1
  clear H1
  obtain rfl := Option.some.inj H
  go_enter Try.func52, Try.ntmps52
  go_wp2_with (first | ((with_reducible refine zN (N := 9) rfl ?_); refine Kd.R_lit (Kd.int .i64) _ 3 ?hg (N := 9) ?hd (xs := ([] : List Int)) (inner := []) (ok := fun _ => True) (okp := fun _ => True) ?hr ?hp (fun _ hk => hk) trivial (Below.refl _ _) (Nat.le_refl _) (by simp) ?_; (case hd => rfl); (case hg => rfl); (case hr => first | (go_simp; done) | (go_simp; rfl)); (case hp => exact (Reps.none _ _)); intro v458 w23 ho24 hb hg_ hnew_; clear hg_ hnew_; (first | rw [← Ny457.out] at ho24 | (simp only [Int.reduceToNat] at ho24; rw [← Ny457.out] at ho24)); have n0_ := zO (yA ho24 (zD (by repeat (first | exact HB.out | apply zA | apply zL | apply zB)))); have n1_ := zO (zE (by repeat (first | exact HB.out | apply zA | apply zL | apply zB)) hb); clear HB; have HO459 := n0_; have HB := n1_; clear n0_ n1_; clear hb ho24) | ((with_reducible refine zM (f := 112) rfl ?_); refine goesL_ (some 11) rfl rfl Try.func112 (by kernel_rfl) rfl #[.slice A0 l0.length c0] rfl (by (try simp only [yK, yL, yM]); first | done | rfl | (simp only [yJ, yI]; rfl)) ?_; (with_reducible refine (spec_IsBitString.calls k _ _ l0 false _ ?side1 ?side2 A2.out).mono ?_); (case side1 => repeat (first | exact (Kd.C_below HR0.out HB.out) | (with_reducible refine zR ?_ _) | (with_reducible refine zT ?_ _) | (with_reducible refine zS ?_))); (case side2 => exact HC0.out); rintro e w' ⟨rfl, ⟨nd, rfl⟩⟩; refine ⟨_, rfl, ?_⟩))
  go_ret
  exact ⟨_, by first | rfl | (simp [errW_none, errW_some] <;> rfl) | (simp [*, errW_none, errW_some] <;> rfl), by (with_reducible repeat (first | apply zU | apply zW | apply zV)); exact HO459.out, by repeat (first | exact HB.out | apply zA | apply zL | apply zB)⟩

mutual
def spec_Crc16.l0 : Nat → List Int → Int → Int → Option (Int)
 | 0, _, _, _ => none
 | k + 1, x0, x3, x4 => if x4 < (x0.length : Int) then (if 0 ≤ x4 then (spec_Crc16.l1 k x0 (Go.bits .xor .i64 x3 (wrap64 (rd x0 x4))) x4 0) else (none)) else (some (Go.bits .xor .i64 x3 65535))
def spec_Crc16.l1 : Nat → List Int → Int → Int → Int → Option (Int)
 | 0, _, _, _, _ => none
 | k + 1, x0, x3, x4, x5 => if x5 < 8 then (if (Go.bits .and .i64 x3 1) = 1 then (spec_Crc16.l1 k x0 (Go.bits .xor .i64 (x3 / 2) 33800) x4 (wrap64 (x5 + 1))) else (spec_Crc16.l1 k x0 (x3 / 2) x4 (wrap64 (x5 + 1)))) else (spec_Crc16.l0 k x0 x3 (wrap64 (x4 + 1)))
end
def spec_Crc16.f (k : Nat) (l0 : List Int) : Option (Int) := spec_Crc16.l0 k l0 65535 0
theorem spec_Crc16.calls (k : Nat) (A0 : Option Addr) (c0 : Nat) (l0 : List Int) (r : Int) (w : World) (hr0 : Kd.C (Kd.int .u8) w A0 l0.length l0) (hc0 : l0.length ≤ c0) (h : spec_Crc16.f k l0 = some r) :
  Calls Try.prog 138 #[.slice A0 l0.length c0] w fun e w' => e = .returned (.int .i64 r) ∧ Drawn0 w w' := by
 have HR0 := zO hr0
 have HC0 := zO hc0
 clear hr0 hc0
 have H : (spec_Crc16.l0 k l0 65535 0) = some r := h
 clear h
 have H' := zO H
 clear H
 go_enter Try.func138, Try.ntmps138
 go_wp2
 go_loopg [3, 4] k (fun kq v3 v4 w' => ∃ (x3_1 : Int) (x4_1 : Int), v3 = .int .i64 x3_1 ∧ v4 = .int .i64 x4_1 ∧ Aside0 (spec_Crc16.l0 kq l0 x3_1 x4_1 = some r) ∧ Aside0 (kq ≤ k) ∧ Drawn0 w w')
 case atStart => exact ⟨(65535), (0), (by first | rfl | (simp; done) | (simp [*]; done)), (by first | rfl | (simp; done) | (simp [*]; done)), H', ⟨Nat.le_refl _⟩, by repeat (first | exact zP _ | apply zQ)⟩
 case round =>
  clear H'
  try clear c1
  obtain ⟨x3_1, x4_1, rfl, rfl, HA, HK1, ⟨m1, rfl⟩⟩ := hrel
  cases gk with
  | zero => exact absurd HA.out (by simp [spec_Crc16.l0])
  | succ k1 =>
   have H := HA.out
   clear HA
   simp only [spec_Crc16.l0] at H
   by_cases c2 : x4_1 < (l0.length : Int)
   ·rw [if_pos c2] at H
    have c2b0 : decide (x4_1 < (l0.length : Int)) = true := decide_eq_true c2
    clear c2
    by_cases c3 : 0 ≤ x4_1
    case neg => rw [if_neg c3] at H; exact absurd H (by simp)
    rw [if_pos c3] at H
    have c3b0 : decide (0 ≤ x4_1) = true := decide_eq_true c3
    clear c3
    have H' := zO H
    clear H
    have p480 : 0 ≤ (x4_1 : Int) := yO (by assumption)
    have q480 : x4_1 < (l0.length : Int) := yO (by assumption)
    obtain ⟨ad480, e480, hx480_0⟩ := Kd.at_int HR0.out x4_1 p480 q480
    cases e480
    replace p480 := eq_true p480
    replace q480 := eq_true q480
    go_wp2
    go_loopg [3, 5] k1 (fun kq v3 v5 w' => ∃ (x3_2 : Int) (x5_2 : Int), v3 = .int .i64 x3_2 ∧ v5 = .int .i64 x5_2 ∧ Aside0 (spec_Crc16.l1 kq l0 x3_2 x4_1 x5_2 = some r) ∧ Aside0 (kq ≤ k1) ∧ Drawn0 w w')
    case atStart => exact ⟨(Go.bits .xor .i64 x3_1 (wrap64 (rd l0 x4_1))), (0), (by first | rfl | (simp; done) | (simp [*]; done)), (by first | rfl | (simp; done) | (simp [*]; done)), H', ⟨Nat.le_refl _⟩, by repeat (first | exact zP _ | apply zQ)⟩
    case round =>
     clear H'
     try clear c1
     try clear c2
     try clear c2b0
     try clear p2
     try clear c3
     try clear c3b0
     try clear hx480_0
     try clear p480
     try clear q480
     obtain ⟨x3_2, x5_2, rfl, rfl, HA, HK2, ⟨m2, rfl⟩⟩ := hrel
     cases gk with
     | zero => exact absurd HA.out (by simp [spec_Crc16.l1])
     | succ k2 =>
      have H := HA.out
      clear HA
      simp only [spec_Crc16.l1] at H
      by_cases c4 : x5_2 < 8
      ·rw [if_pos c4] at H
       have c4b0 : decide (x5_2 < 8) = true := decide_eq_true c4
       clear c4
       by_cases c5 : (Go.bits .and .i64 x3_2 1) = 1
       ·rw [if_pos c5] at H
        have c5b0 : ((Go.bits .and .i64 x3_2 1) == 1) = true := beq_iff_eq.mpr c5
        have c5b1 : ((Go.bits .and .i64 x3_2 1) != 1) = false := bne_eq_false_iff_eq.mpr c5
        clear c5
        have H' := zO H
        clear H
        go_wp2
        go_roundg k2
        case measure => have := HK1.out; have := HK2.out; omega
        case rel => exact ⟨(Go.bits .xor .i64 (x3_2 / 2) 33800), (wrap64 (x5_2 + 1)), (by first | rfl | (simp; done) | (simp [*]; done)), (by first | rfl | (simp; done) | (simp [*]; done)), H', ⟨by have := HK1.out; have := HK2.out; omega⟩, by repeat (first | exact zP _ | apply zQ)⟩
       ·rw [if_neg c5] at H
        have c5b0 : ((Go.bits .and .i64 x3_2 1) == 1) = false := beq_eq_false_iff_ne.mpr c5
        have c5b1 : ((Go.bits .and .i64 x3_2 1) != 1) = true := bne_iff_ne.mpr c5
        have H' := zO H
        clear H
        go_wp2
        go_roundg k2
        case measure => have := HK1.out; have := HK2.out; omega
        case rel => exact ⟨(x3_2 / 2), (wrap64 (x5_2 + 1)), (by first | rfl | (simp; done) | (simp [*]; done)), (by first | rfl | (simp; done) | (simp [*]; done)), H', ⟨by have := HK1.out; have := HK2.out; omega⟩, by repeat (first | exact zP _ | apply zQ)⟩
      ·rw [if_neg c4] at H
       have c4b0 : decide (x5_2 < 8) = false := decide_eq_false c4
       clear c4
       have H' := zO H
       clear H
       go_wp2
       go_roundg k2
       case measure => have := HK1.out; have := HK2.out; omega
       case rel => exact ⟨(x3_2), (wrap64 (x4_1 + 1)), (by first | rfl | (simp; done) | (simp [*]; done)), (by first | rfl | (simp; done) | (simp [*]; done)), H', ⟨by have := HK1.out; have := HK2.out; omega⟩, by repeat (first | exact zP _ | apply zQ)⟩
   ·rw [if_neg c2] at H
    have c2b0 : decide (x4_1 < (l0.length : Int)) = false := decide_eq_false c2
    clear c2
    obtain rfl := Option.some.inj H
    go_wp2
    go_ret
    exact ⟨by first | rfl | exact yP _ | (simp; done) | (simp [*]; done), by repeat (first | exact zP _ | apply zQ)⟩

def spec_AppendCrc.f (k : Nat) (l0 : List Int) : Option (List Int) := (spec_Crc16.f k l0).bind fun t481 => ((some (([] : List Int) : List Int)).bind fun y482 => (if y482.length + l0.length < 140737488355328 then ((some (y482 ++ l0 : List Int)).bind fun y485 => ((some (([(t481) % 256, (t481 / 256) % 256] : List Int) : List Int)).bind fun y488 => (if y485.length + y488.length < 140737488355328 then (some (y485 ++ y488)) else (none)))) else (none)))
theorem spec_AppendCrc.calls (k : Nat) (A0 : Option Addr) (c0 : Nat) (l0 : List Int) (r : List Int) (w : World) (hr0 : Kd.C (Kd.int .u8) w A0 l0.length l0) (hc0 : l0.length ≤ c0) (h : spec_AppendCrc.f k l0 = some r) :
  Calls Try.prog 89 #[.slice A0 l0.length c0] w fun e w' => ∃ v0_ : Value, e = .returned (v0_) ∧ Kd.R (Kd.int .u8) 5 w' w.heap.size (fun _ => True) v0_ r ∧ Below w.heap.size w w' := by
 have HR0 := zO hr0
 have HC0 := zO hc0
 clear hr0 hc0
 have HB := zO (Below.refl w.heap.size w)
 have H : ((spec_Crc16.f k l0).bind fun t481 => ((some (([] : List Int) : List Int)).bind fun y482 => (if y482.length + l0.length < 140737488355328 then ((some (y482 ++ l0 : List Int)).bind fun y485 => ((some (([(t481) % 256, (t481 / 256) % 256] : List Int) : List Int)).bind fun y488 => (if y485.length + y488.length < 140737488355328 then (some (y485 ++ y488)) else (none)))) else (none)))) = some r := h
 clear h
 replace H := yE.mp H
 obtain ⟨t481, A20, H⟩ := H
 replace H : ((some (([] : List Int) : List Int)).bind fun y482 => (if y482.length + l0.length < 140737488355328 then ((some (y482 ++ l0 : List Int)).bind fun y485 => ((some (([(t481) % 256, (t481 / 256) % 256] : List Int) : List Int)).bind fun y488 => (if y485.length + y488.length < 140737488355328 then (some (y485 ++ y488)) else (none)))) else (none))) = some r := H
 have A2 := zO A20
 clear A20
 obtain ⟨y482, hy482⟩ : ∃ y_ : List Int, y_ = (([] : List Int)) := ⟨_, rfl⟩
 replace H : (if y482.length + l0.length < 140737488355328 then ((some (y482 ++ l0 : List Int)).bind fun y485 => ((some (([(t481) % 256, (t481 / 256) % 256] : List Int) : List Int)).bind fun y488 => (if y485.length + y488.length < 140737488355328 then (some (y485 ++ y488)) else (none)))) else (none)) = some r := by first | (rw [hy482]; exact H) | exact H
 have Ny482 := zO hy482
 clear hy482
 by_cases c3 : y482.length + l0.length < 140737488355328
 case neg => rw [if_neg c3] at H; exact absurd H (by simp)
 rw [if_pos c3] at H
 have LMc3 := zO c3
 clear c3
 obtain ⟨y485, hy485⟩ : ∃ y_ : List Int, y_ = (y482 ++ l0) := ⟨_, rfl⟩
 replace H : ((some (([(t481) % 256, (t481 / 256) % 256] : List Int) : List Int)).bind fun y488 => (if y485.length + y488.length < 140737488355328 then (some (y485 ++ y488)) else (none))) = some r := by first | (rw [hy485]; exact H) | exact H
 have Ny485 := zO hy485
 clear hy485
 obtain ⟨y488, hy488⟩ : ∃ y_ : List Int, y_ = (([(t481) % 256, (t481 / 256) % 256] : List Int)) := ⟨_, rfl⟩
 replace H : (if y485.length + y488.length < 140737488355328 then (some (y485 ++ y488)) else (none)) = some r := by first | (rw [hy488]; exact H) | exact H
 have Ny488 := zO hy488
 clear hy488
 by_cases c4 : y485.length + y488.length < 140737488355328
 case neg => rw [if_neg c4] at H; exact absurd H (by simp)
 rw [if_pos c4] at H
 have LMc4 := zO c4
 clear c4
 obtain ⟨y491, hy491⟩ : ∃ y_ : List Int, y_ = (y485 ++ y488) := ⟨_, rfl⟩
 replace H : (some y491) = some r := by first | (rw [hy491]; exact H) | exact H
 have Ny491 := zO hy491
 clear hy491
 obtain rfl := Option.some.inj H
 go_enter Try.func89, Try.ntmps89
 go_wp2_with (first | ((with_reducible refine zM (f := 138) rfl ?_); refine goesL_ (some 5) rfl rfl Try.func138 (by kernel_rfl) rfl #[.slice A0 l0.length c0] rfl (by (try simp only [yK, yL, yM]); first | done | rfl | (simp only [yJ, yI]; rfl)) ?_; (with_reducible refine (spec_Crc16.calls k _ _ l0 t481 _ ?side1 ?side2 A2.out).mono ?_); (case side1 => repeat (first | exact HR0.out | (with_reducible refine zR ?_ _) | (with_reducible refine zT ?_ _) | (with_reducible refine zS ?_))); (case side2 => exact HC0.out); rintro e w' ⟨rfl, ⟨nd, rfl⟩⟩; refine ⟨_, rfl, ?_⟩) | ((with_reducible refine zN (N := 6) rfl ?_); refine Kd.R_lit (Kd.int .u8) _ 5 ?hg (N := 6) ?hd (xs := ([] : List Int)) (inner := []) (ok := fun _ => True) (okp := fun _ => True) ?hr ?hp (fun _ hk => hk) trivial (Below.refl _ _) (Nat.le_refl _) (by simp) ?_; (case hd => rfl); (case hg => rfl); (case hr => first | (go_simp; done) | (go_simp; rfl)); (case hp => exact (Reps.none _ _)); intro v483 w5 ho6 hb hg_ hnew_; clear hg_ hnew_; (first | rw [← Ny482.out] at ho6 | (simp only [Int.reduceToNat] at ho6; rw [← Ny482.out] at ho6)); have n0_ := zO (yA ho6 (zD (by repeat (first | exact HB.out | apply zA | apply zL | apply zB)))); have n1_ := zO (zE (by repeat (first | exact HB.out | apply zA | apply zL | apply zB)) hb); clear HB; have HO484 := n0_; have HB := n1_; clear n0_ n1_; clear hb ho6) | ((with_reducible refine gate_builtin (b := .append) (xs := #[.tmp 6, .tmp 7]) rfl ?_); at_builtin; refine Kd.R_append_rows (Kd.int .u8) (w0 := w) w.heap.size rfl (.tmp 6) (.tmp 7) 31 5 (.int .u8 0) 1 rfl Try.underlying31 info5 rfl (by decide) (by omega) v483 y482 l0 _ _ _ (fun _ => True) (fun _ => False) rfl rfl ?aO ?aR (fun _ _ h => h) (fun _ h => h.elim) ?aF ?aB ?aS ?aL ?_; (case aR => repeat (first | exact (Kd.C_below HR0.out HB.out) | (with_reducible refine zR ?_ _) | (with_reducible refine zT ?_ _) | (with_reducible refine zS ?_))); (case aB => exact (by repeat (first | exact HB.out | apply zA | apply zL | apply zB))); (case aF => exact (fun _ _ => trivial)); (case aO => exact (by (with_reducible repeat (first | apply zU | apply zW | apply zV)); exact HO484.out)); (case aS => exact (zD (by repeat (first | exact HB.out | apply zA | apply zL | apply zB)))); (case aL => have := LMc3.out; omega); intro v486 w7 ho hb hg hat; rw [← Ny485.out] at ho; have n0_ := zO (hb); have n1_ := zO (ho); clear HB; clear HO484; have HB := n0_; have HO487 := n1_; clear n0_ n1_; clear ho hb hg hat) | ((with_reducible refine zN (N := 14) rfl ?_); refine Kd.R_lit (Kd.int .u8) _ 5 ?hg (N := 14) ?hd (xs := ([(t481) % 256, (t481 / 256) % 256] : List Int)) (inner := [.int .u8 ((t481) % 256), .int .u8 ((t481 / 256) % 256)]) (ok := fun _ => True) (okp := fun _ => True) ?hr ?hp (fun _ hk => hk) trivial (Below.refl _ _) (Nat.le_refl _) (by simp) ?_; (case hd => rfl); (case hg => rfl); (case hr => first | (go_simp; done) | (go_simp; rfl)); (case hp => exact (Reps.one (show Kd.M (Kd.int .u8) _ _ _ ((t481) % 256) [.int .u8 ((t481) % 256)] from rfl) (Reps.one (show Kd.M (Kd.int .u8) _ _ _ ((t481 / 256) % 256) [.int .u8 ((t481 / 256) % 256)] from rfl) (Reps.none _ _)))); intro v489 w8 ho9 hb hg_ hnew_; clear hg_ hnew_; (first | rw [← Ny488.out] at ho9 | (simp only [Int.reduceToNat] at ho9; rw [← Ny488.out] at ho9)); have n0_ := zO (Kd.R_elder' (by (with_reducible repeat (first | apply zU | apply zW | apply zV)); exact HO487.out) (Kd.R_base ho9) hb); have n1_ := zO (yA (Kd.R_new' ho9 (Kd.R_lt (by (with_reducible repeat (first | apply zU | apply zW | apply zV)); exact HO487.out))) (zD (by repeat (first | exact HB.out | apply zA | apply zL | apply zB)))); have n2_ := zO (zE (by repeat (first | exact HB.out | apply zA | apply zL | apply zB)) hb); clear HO487; clear HB; have HO487 := n0_; have HO490 := n1_; have HB := n2_; clear n0_ n1_ n2_; clear hb ho9; obtain ⟨Ao11, co11, eo11⟩ := Kd.R_slice HO490.out; subst eo11) | ((with_reducible refine gate_builtin (b := .append) (xs := #[.tmp 8, .tmp 14]) rfl ?_); at_builtin; refine Kd.R_append_rows (Kd.int .u8) (w0 := w) w.heap.size rfl (.tmp 8) (.tmp 14) 31 5 (.int .u8 0) 1 rfl Try.underlying31 info5 rfl (by decide) (by omega) v486 y485 y488 _ _ _ (fun k_ => some k_ ≠ (.slice Ao11 y488.length co11 : Value).ownBlock) (fun _ => False) rfl rfl ?aO ?aR (fun _ _ h => h) (fun _ h => h.elim) ?aF ?aB ?aS ?aL ?_; (case aR => repeat (first | exact (zX HO490.out).2.2 | (with_reducible refine zR ?_ _) | (with_reducible refine zT ?_ _) | (with_reducible refine zS ?_))); (case aB => exact (by repeat (first | exact HB.out | apply zA | apply zL | apply zB))); (case aF => exact (fun k_ hk => Kd.fresh' (Kd.R_lt (by (with_reducible repeat (first | apply zU | apply zW | apply zV)); exact HO490.out)) k_ hk)); (case aO => exact (by (with_reducible repeat (first | apply zU | apply zW | apply zV)); exact Kd.R_mono HO487.out (fun _ hk => hk.2))); (case aS => exact (zD (by repeat (first | exact HB.out | apply zA | apply zL | apply zB)))); (case aL => have := LMc4.out; omega); intro v492 w10 ho hb hg hat; rw [← Ny491.out] at ho; have n0_ := zO (Kd.R_after (ok := (fun _ => True)) (by (with_reducible repeat (first | apply zU | apply zW | apply zV)); exact HO490.out) hg hat); have n1_ := zO (hb); have n2_ := zO (ho); clear HO490; clear HB; clear HO487; have HO490 := n0_; have HB := n1_; have HO493 := n2_; clear n0_ n1_ n2_; clear ho hb hg hat))
 go_ret
 exact ⟨_, by first | rfl | (simp [errW_none, errW_some] <;> rfl) | (simp [*, errW_none, errW_some] <;> rfl), by (with_reducible repeat (first | apply zU | apply zW | apply zV)); exact Kd.R_mono HO493.out (fun _ hk => trivial), by repeat (first | exact HB.out | apply zA | apply zL | apply zB)⟩

def spec_l5Out.f (a0 : Int) : Option (Int) := some (Go.bits .and .i64 (Go.bits .xor .i64 (a0 / 8) (a0 / 64)) 1)
theorem spec_l5Out.calls (a0 : Int) (r : Int) (w : World) (h : spec_l5Out.f a0 = some r) :
  Calls Try.prog 159 #[.int .i64 a0] w fun e w' => e = .returned (.int .i64 r) ∧ Drawn0 w w' := by
 have H : (some (Go.bits .and .i64 (Go.bits .xor .i64 (a0 / 8) (a0 / 64)) 1)) = some r := h
 clear h
 obtain rfl := Option.some.inj H
 go_enter Try.func159, Try.ntmps159
 go_wp2
 go_ret
 exact ⟨by first | rfl | exact yP _ | (simp; done) | (simp [*]; done), by repeat (first | exact zP _ | apply zQ)⟩

def spec_NextScramblerState.f (a0 : Int) : Option (Int) := (spec_l1In.f a0 1 127).bind fun t494 => (if t494 = true then ((spec_l5Out.f a0).bind fun t495 => (some (Go.bits .or .i64 (Go.bits .and .i64 (wrap64 (a0 * 2)) 127) t495))) else (some 0))
theorem spec_NextScramblerState.calls (a0 : Int) (r : Int) (w : World) (h : spec_NextScramblerState.f a0 = some r) :
  Calls Try.prog 160 #[.int .i64 a0] w fun e w' => e = .returned (.int .i64 r) ∧ Drawn0 w w' := by
 have H : ((spec_l1In.f a0 1 127).bind fun t494 => (if t494 = true then ((spec_l5Out.f a0).bind fun t495 => (some (Go.bits .or .i64 (Go.bits .and .i64 (wrap64 (a0 * 2)) 127) t495))) else (some 0))) = some r := h
 clear h
 replace H := yE.mp H
 obtain ⟨t494, A20, H⟩ := H
 replace H : (if t494 = true then ((spec_l5Out.f a0).bind fun t495 => (some (Go.bits .or .i64 (Go.bits .and .i64 (wrap64 (a0 * 2)) 127) t495))) else (some 0)) = some r := H
 have A2 := zO A20
 clear A20
 by_cases c3 : t494 = true
 ·subst c3
  have H1 : ((spec_l5Out.f a0).bind fun t495 => (some (Go.bits .or .i64 (Go.bits .and .i64 (wrap64 (a0 * 2)) 127) t495))) = some r := by rw [if_pos rfl] at H; exact H
  clear H
  have H := H1
  clear H1
  replace H := yE.mp H
  obtain ⟨t495, A40, H⟩ := H
  replace H : (some (Go.bits .or .i64 (Go.bits .and .i64 (wrap64 (a0 * 2)) 127) t495)) = some r := H
  have A4 := zO A40
  clear A40
  obtain rfl := Option.some.inj H
  go_enter Try.func160, Try.ntmps160
  go_wp2_with (first | ((with_reducible refine zM (f := 95) rfl ?_); refine goesL_ (some 4) rfl rfl Try.func95 (by kernel_rfl) rfl #[.int .i64 a0, .int .i64 1, .int .i64 127] rfl (by (try simp only [yK, yL, yM]); first | done | rfl | (simp only [yJ, yI]; rfl)) ?_; (with_reducible refine (spec_l1In.calls a0 1 127 true _ A2.out).mono ?_); rintro e w' ⟨rfl, ⟨nd, rfl⟩⟩; refine ⟨_, rfl, ?_⟩) | ((with_reducible refine zM (f := 159) rfl ?_); refine goesL_ (some 10) rfl rfl Try.func159 (by kernel_rfl) rfl #[.int .i64 a0] rfl (by (try simp only [yK, yL, yM]); first | done | rfl | (simp only [yJ, yI]; rfl)) ?_; (with_reducible refine (spec_l5Out.calls a0 t495 _ A4.out).mono ?_); rintro e w' ⟨rfl, ⟨nd, rfl⟩⟩; refine ⟨_, rfl, ?_⟩))
  go_ret
  exact ⟨by first | rfl | exact yP _ | (simp; done) | (simp [*]; done), by repeat (first | exact zP _ | apply zQ)⟩
 ·replace c3 := Bool.eq_false_iff.mpr c3
  subst c3
  have H1 : (some 0) = some r := by rw [if_neg (show ¬ (false = true) by decide)] at H; exact H
  clear H
  have H := H1
  clear H1
  obtain rfl := Option.some.inj H
  go_enter Try.func160, Try.ntmps160
  go_wp2_with (first | ((with_reducible refine zM (f := 95) rfl ?_); refine goesL_ (some 4) rfl rfl Try.func95 (by kernel_rfl) rfl #[.int .i64 a0, .int .i64 1, .int .i64 127] rfl (by (try simp only [yK, yL, yM]); first | done | rfl | (simp only [yJ, yI]; rfl)) ?_; (with_reducible refine (spec_l1In.calls a0 1 127 false _ A2.out).mono ?_); rintro e w' ⟨rfl, ⟨nd, rfl⟩⟩; refine ⟨_, rfl, ?_⟩))
  go_ret
  exact ⟨by first | rfl | exact yP _ | (simp; done) | (simp [*]; done), by repeat (first | exact zP _ | apply zQ)⟩

mutual
def spec_Scramble.j0 : Nat → Int → List Int → List Int → Bool → Option (List Int)
 | 0, _, _, _, _ => none
 | k + 1, x0, x1, x5, x17 => if x17 = true then (some x5) else (spec_Scramble.l0 k x0 x1 x5 0)
def spec_Scramble.l0 : Nat → Int → List Int → List Int → Int → Option (List Int)
 | 0, _, _, _, _ => none
 | k + 1, x0, x1, x5, x6 => if x6 < (x1.length : Int) then (if 0 ≤ x6 then ((spec_l5Out.f x0).bind fun t505 => (if x6 < (x5.length : Int) then ((spec_NextScramblerState.f x0).bind fun t507 => (spec_Scramble.l0 k t507 x1 (x5.set (x6 : Int).toNat (Go.bits .xor .i64 (rd x1 x6) t505)) (wrap64 (x6 + 1)))) else (none))) else (none)) else (some x5)
end
def spec_Scramble.f (k : Nat) (a0 : Int) (l1 : List Int) : Option (List Int) := (some (([] : List Int) : List Int)).bind fun y496 => (if y496.length + l1.length < 17592186044416 then ((some (y496 ++ l1 : List Int)).bind fun y499 => ((spec_l1In.f a0 1 127).bind fun t502 => (if t502 = true then ((spec_IsBitString.f k l1).bind fun t503 => (spec_Scramble.j0 k a0 l1 y499 (!t503))) else (spec_Scramble.j0 k a0 l1 y499 true)))) else (none))
def spec_Scramble.T7 : Bool × List (List Nat × List Nat) := (true, [([], []), ([], []), ([], []), ([], []), ([2, 3], [2, 3]), ([4], [4]), ([], []), ([6], [6]), ([5, 7], [5, 7]), ([0, 1, 0, 1, 2, 3, 4, 5, 6, 7, 8], [0, 1]), ([9, 8, 7, 0, 1, 2, 3, 4, 5, 6, 7, 8], [8, 9])])
def spec_Scramble.B7 : List Nat := [0, 0, 0, 0, 12, 28, 0, 64, 252, 511, 1023]
theorem spec_Scramble.tab7 : rtab .any (opsOf Try.f124 7) = spec_Scramble.T7 := by kernel_rfl
theorem spec_Scramble.bits7 : waitsOk spec_Scramble.T7.2 spec_Scramble.B7 = true := by kernel_rfl
theorem spec_Scramble.calls (k : Nat) (a0 : Int) (A1 : Option Addr) (c1 : Nat) (l1 : List Int) (r : List Int) (w : World) (hr1 : Kd.C (Kd.int .i64) w A1 l1.length l1) (hc1 : l1.length ≤ c1) (h : spec_Scramble.f k a0 l1 = some r) :
  Calls Try.prog 124 #[.int .i64 a0, .slice A1 l1.length c1] w fun e w' => ∃ v0_ : Value, e = .returned (v0_) ∧ Kd.R (Kd.int .i64) 3 w' w.heap.size (fun _ => True) v0_ r ∧ Below w.heap.size w w' := by
 have HR1 := zO hr1
 have HC1 := zO hc1
 clear hr1 hc1
 have HB := zO (Below.refl w.heap.size w)
 have H : ((some (([] : List Int) : List Int)).bind fun y496 => (if y496.length + l1.length < 17592186044416 then ((some (y496 ++ l1 : List Int)).bind fun y499 => ((spec_l1In.f a0 1 127).bind fun t502 => (if t502 = true then ((spec_IsBitString.f k l1).bind fun t503 => (spec_Scramble.j0 k a0 l1 y499 (!t503))) else (spec_Scramble.j0 k a0 l1 y499 true)))) else (none))) = some r := h
 clear h
 obtain ⟨y496, hy496⟩ : ∃ y_ : List Int, y_ = (([] : List Int)) := ⟨_, rfl⟩
 replace H : (if y496.length + l1.length < 17592186044416 then ((some (y496 ++ l1 : List Int)).bind fun y499 => ((spec_l1In.f a0 1 127).bind fun t502 => (if t502 = true then ((spec_IsBitString.f k l1).bind fun t503 => (spec_Scramble.j0 k a0 l1 y499 (!t503))) else (spec_Scramble.j0 k a0 l1 y499 true)))) else (none)) = some r := by first | (rw [hy496]; exact H) | exact H
 have Ny496 := zO hy496
 clear hy496
 by_cases c3 : y496.length + l1.length < 17592186044416
 case neg => rw [if_neg c3] at H; exact absurd H (by simp)
 rw [if_pos c3] at H
 have LMc3 := zO c3
 clear c3
 obtain ⟨y499, hy499⟩ : ∃ y_ : List Int, y_ = (y496 ++ l1) := ⟨_, rfl⟩
 replace H : ((spec_l1In.f a0 1 127).bind fun t502 => (if t502 = true then ((spec_IsBitString.f k l1).bind fun t503 => (spec_Scramble.j0 k a0 l1 y499 (!t503))) else (spec_Scramble.j0 k a0 l1 y499 true))) = some r := by first | (rw [hy499]; exact H) | exact H
 have Ny499 := zO hy499
 clear hy499
 have HC4 := zO H
 clear H
 go_enter Try.func124, Try.ntmps124
 go_upto_region 2 with (first | ((with_reducible refine zN (N := 7) rfl ?_); refine Kd.R_lit (Kd.int .i64) _ 3 ?hg (N := 7) ?hd (xs := ([] : List Int)) (inner := []) (ok := fun _ => True) (okp := fun _ => True) ?hr ?hp (fun _ hk => hk) trivial (Below.refl _ _) (Nat.le_refl _) (by simp) ?_; (case hd => rfl); (case hg => rfl); (case hr => first | (go_simp; done) | (go_simp; rfl)); (case hp => exact (Reps.none _ _)); intro v497 w5 ho6 hb hg_ hnew_; clear hg_ hnew_; (first | rw [← Ny496.out] at ho6 | (simp only [Int.reduceToNat] at ho6; rw [← Ny496.out] at ho6)); have n0_ := zO (yA ho6 (zD (by repeat (first | exact HB.out | apply zA | apply zL | apply zB)))); have n1_ := zO (zE (by repeat (first | exact HB.out | apply zA | apply zL | apply zB)) hb); clear HB; have HO498 := n0_; have HB := n1_; clear n0_ n1_; clear hb ho6) | ((with_reducible refine gate_builtin (b := .append) (xs := #[.tmp 7, .tmp 8]) rfl ?_); at_builtin; refine Kd.R_append_rows (Kd.int .i64) (w0 := w) w.heap.size rfl (.tmp 7) (.tmp 8) 22 3 (.int .i64 0) 8 rfl Try.underlying22 info3 rfl (by decide) (by omega) v497 y496 l1 _ _ _ (fun _ => True) (fun _ => False) rfl rfl ?aO ?aR (fun _ _ h => h) (fun _ h => h.elim) ?aF ?aB ?aS ?aL ?_; (case aR => repeat (first | exact (Kd.C_below HR1.out HB.out) | (with_reducible refine zR ?_ _) | (with_reducible refine zT ?_ _) | (with_reducible refine zS ?_))); (case aB => exact (by repeat (first | exact HB.out | apply zA | apply zL | apply zB))); (case aF => exact (fun _ _ => trivial)); (case aO => exact (by (with_reducible repeat (first | apply zU | apply zW | apply zV)); exact HO498.out)); (case aS => exact (zD (by repeat (first | exact HB.out | apply zA | apply zL | apply zB)))); (case aL => have := LMc3.out; omega); intro v500 w7 ho hb hg hat; rw [← Ny499.out] at ho; have n0_ := zO (hb); have n1_ := zO (ho); clear HB; clear HO498; have HB := n0_; have HO501 := n1_; clear n0_ n1_; clear ho hb hg hat))
 (try simp only [Act.put, yF, yG, yH])
 go_cut [17] (fun v17 wc => ∃ (kq : Nat) (x17_3 : Bool), v17 = .bool x17_3 ∧ Aside0 (spec_Scramble.j0 kq a0 l1 y499 x17_3 = some r) ∧ Aside0 (kq ≤ k) ∧ Aside0 (Kd.R (Kd.int .i64) 3 wc w.heap.size (fun _ => True) v500 y499) ∧ Aside0 (Below w.heap.size w wc))
 case first =>
  have H := HC4.out
  clear HC4
  replace H := yE.mp H
  obtain ⟨t502, A80, H⟩ := H
  replace H : (if t502 = true then ((spec_IsBitString.f k l1).bind fun t503 => (spec_Scramble.j0 k a0 l1 y499 (!t503))) else (spec_Scramble.j0 k a0 l1 y499 true)) = some r := H
  have A8 := zO A80
  clear A80
  by_cases c9 : t502 = true
  ·subst c9
   have H1 : ((spec_IsBitString.f k l1).bind fun t503 => (spec_Scramble.j0 k a0 l1 y499 (!t503))) = some r := by rw [if_pos rfl] at H; exact H
   clear H
   have H := H1
   clear H1
   replace H := yE.mp H
   obtain ⟨t503, A100, H⟩ := H
   replace H : (spec_Scramble.j0 k a0 l1 y499 (!t503)) = some r := H
   have A10 := zO A100
   clear A100
   have H' := zO H
   clear H
   go_wp2_with (first | ((with_reducible refine zM (f := 95) rfl ?_); refine goesL_ (some 11) rfl rfl Try.func95 (by kernel_rfl) rfl #[.int .i64 a0, .int .i64 1, .int .i64 127] rfl (by (try simp only [yK, yL, yM]); first | done | rfl | (simp only [yJ, yI]; rfl)) ?_; (with_reducible refine (spec_l1In.calls a0 1 127 true _ A8.out).mono ?_); rintro e w' ⟨rfl, ⟨nd, rfl⟩⟩; refine ⟨_, rfl, ?_⟩) | (go_at_call 112; (with_reducible refine (spec_IsBitString.calls k _ _ l1 t503 _ ?side1 ?side2 A10.out).mono ?_); (case side1 => repeat (first | exact (Kd.C_below HR1.out (by repeat (first | exact HB.out | apply zA | apply zL | apply zB))) | (with_reducible refine zR ?_ _) | (with_reducible refine zT ?_ _) | (with_reducible refine zS ?_))); (case side2 => exact HC1.out); rintro e w' ⟨rfl, ⟨nd, rfl⟩⟩))
   go_meet
   case rel => exact ⟨_, (!t503), (by first | rfl | (simp; done) | (simp [*]; done)), H', ⟨by first | omega | exact Nat.le_refl _⟩, ⟨by (with_reducible repeat (first | apply zU | apply zW | apply zV)); exact HO501.out⟩, ⟨by repeat (first | exact HB.out | apply zA | apply zL | apply zB)⟩⟩
  ·replace c9 := Bool.eq_false_iff.mpr c9
   subst c9
   have H1 : (spec_Scramble.j0 k a0 l1 y499 true) = some r := by rw [if_neg (show ¬ (false = true) by decide)] at H; exact H
   clear H
   have H := H1
   clear H1
   have H' := zO H
   clear H
   go_wp2_with (first | ((with_reducible refine zM (f := 95) rfl ?_); refine goesL_ (some 11) rfl rfl Try.func95 (by kernel_rfl) rfl #[.int .i64 a0, .int .i64 1, .int .i64 127] rfl (by (try simp only [yK, yL, yM]); first | done | rfl | (simp only [yJ, yI]; rfl)) ?_; (with_reducible refine (spec_l1In.calls a0 1 127 false _ A8.out).mono ?_); rintro e w' ⟨rfl, ⟨nd, rfl⟩⟩; refine ⟨_, rfl, ?_⟩))
   go_meet
   case rel => exact ⟨_, (true), (by first | rfl | (simp; done) | (simp [*]; done)), H', ⟨by first | omega | exact Nat.le_refl _⟩, ⟨by (with_reducible repeat (first | apply zU | apply zW | apply zV)); exact HO501.out⟩, ⟨by repeat (first | exact HB.out | apply zA | apply zL | apply zB)⟩⟩
 case rest =>
  clear HC4
  try clear c1
  try clear p2
  try clear c3
  try clear c9
  obtain ⟨kq, x17_3, rfl, HA, HJ3, HO_5, HB⟩ := hcut
  cases kq with
  | zero => exact absurd HA.out (by simp [spec_Scramble.j0])
  | succ kj3 =>
   have H := HA.out
   clear HA
   simp only [spec_Scramble.j0] at H
   by_cases c11 : x17_3 = true
   ·subst c11
    have H1 : (some y499) = some r := by rw [if_pos rfl] at H; exact H
    clear H
    have H := H1
    clear H1
    obtain rfl := Option.some.inj H
    go_wp2
    go_ret
    exact ⟨_, by first | rfl | (simp [errW_none, errW_some] <;> rfl) | (simp [*, errW_none, errW_some] <;> rfl), by (with_reducible repeat (first | apply zU | apply zW | apply zV)); exact HO_5.out, by repeat (first | exact HB.out | apply zA | apply zL | apply zB)⟩
   ·replace c11 := Bool.eq_false_iff.mpr c11
    subst c11
    have H1 : (spec_Scramble.l0 kj3 a0 l1 y499 0) = some r := by rw [if_neg (show ¬ (false = true) by decide)] at H; exact H
    clear H
    have H := H1
    clear H1
    have H' := zO H
    clear H
    go_wp2
    go_loopg [0, 6] kj3 (fun kq v0 v6 w' => ∃ (x0_2 : Int) (x5_2 : List Int) (x6_2 : Int), v0 = .int .i64 x0_2 ∧ v6 = .int .i64 x6_2 ∧ Aside0 (spec_Scramble.l0 kq x0_2 l1 x5_2 x6_2 = some r) ∧ Aside0 (kq ≤ kj3) ∧ Aside0 (Kd.R (Kd.int .i64) 3 w' w.heap.size (fun _ => True) v500 x5_2) ∧ Aside0 (Below w.heap.size w w'))
    case atStart => exact ⟨(a0), (y499), (0), (by first | rfl | (simp; done) | (simp [*]; done)), (by first | rfl | (simp; done) | (simp [*]; done)), H', ⟨Nat.le_refl _⟩, ⟨by (with_reducible repeat (first | apply zU | apply zW | apply zV)); exact HO_5.out⟩, ⟨by repeat (first | exact HB.out | apply zA | apply zL | apply zB)⟩⟩
    case round =>
     clear H'
     try clear c1
     try clear p2
     try clear c3
     try clear c9
     try clear c11
     try clear p2
     obtain ⟨x0_2, x5_2, x6_2, rfl, rfl, HA, HK2, HO_5, HB⟩ := hrel
     cases gk with
     | zero => exact absurd HA.out (by simp [spec_Scramble.l0])
     | succ k2 =>
      have H := HA.out
      clear HA
      simp only [spec_Scramble.l0] at H
      by_cases c12 : x6_2 < (l1.length : Int)
      ·rw [if_pos c12] at H
       have c12b0 : decide (x6_2 < (l1.length : Int)) = true := decide_eq_true c12
       clear c12
       by_cases c13 : 0 ≤ x6_2
       case neg => rw [if_neg c13] at H; exact absurd H (by simp)
       rw [if_pos c13] at H
       have c13b0 : decide (0 ≤ x6_2) = true := decide_eq_true c13
       clear c13
       replace H := yE.mp H
       obtain ⟨t505, A140, H⟩ := H
       replace H : (if x6_2 < (x5_2.length : Int) then ((spec_NextScramblerState.f x0_2).bind fun t507 => (spec_Scramble.l0 k2 t507 l1 (x5_2.set (x6_2 : Int).toNat (Go.bits .xor .i64 (rd l1 x6_2) t505)) (wrap64 (x6_2 + 1)))) else (none)) = some r := H
       have A14 := zO A140
       clear A140
       by_cases c15 : x6_2 < (x5_2.length : Int)
       case neg => rw [if_neg c15] at H; exact absurd H (by simp)
       rw [if_pos c15] at H
       have c15b0 : decide (x6_2 < (x5_2.length : Int)) = true := decide_eq_true c15
       clear c15
       obtain ⟨y506, hy506⟩ : ∃ y_ : List Int, y_ = (x5_2.set (x6_2 : Int).toNat (Go.bits .xor .i64 (rd l1 x6_2) t505)) := ⟨_, rfl⟩
       replace H : ((spec_NextScramblerState.f x0_2).bind fun t507 => (spec_Scramble.l0 k2 t507 l1 y506 (wrap64 (x6_2 + 1)))) = some r := by first | (rw [hy506]; exact H) | exact H
       have Ny506 := zO hy506
       clear hy506
       replace H := yE.mp H
       obtain ⟨t507, A170, H⟩ := H
       replace H : (spec_Scramble.l0 k2 t507 l1 y506 (wrap64 (x6_2 + 1))) = some r := H
       have A17 := zO A170
       clear A170
       have H' := zO H
       clear H
       try go_wp2
       have n0_ := zO (zV HO_5.out)
       have n1_ := zO (zB HB.out)
       clear HO_5
       clear HB
       have HO_5 := n0_
       have HB := n1_
       clear n0_ n1_
       have p504 : 0 ≤ (x6_2 : Int) := yO (by assumption)
       have q504 : x6_2 < (l1.length : Int) := yO (by assumption)
       obtain ⟨ad504, e504, hx504_0⟩ := Kd.at_int HR1.out x6_2 p504 q504
       have hw504_0 := hx504_0
       cases e504
       replace hx504_0 := (HB.out.cell (World.block_lt_of_cell? w _ hx504_0)).trans hx504_0
       replace p504 := eq_true p504
       replace q504 := eq_true q504
       refine start_ (n := 11) (S := fun w' => w'.cell? (ad504.add (x6_2).toNat) = some (.int .i64 (rd l1 x6_2))) (ds := [10]) #[false, false, false, false, false, false, false, false, false, false, false] (by kernel_rfl) rfl rfl (((HB.out.cell (World.block_lt_of_cell? w _ hw504_0)).trans hw504_0)) (fun hHeld => ?_); refine with_tabW spec_Scramble.tab7 spec_Scramble.bits7 (fun HT_ HW_ => ?_)
       generalize wr.drew = w18 at HO_5 HB hx504_0 hHeld ⊢
       refine pure_ (i := 0) (N := some 25) (v := ?_) (a' := ?_) #[true, false, false, false, false, false, false, false, false, false, false] rfl rfl (any_of HT_.out (by kernel_rfl)) (fun _ _ _ h => h) (Or.inl ⟨by rfl, ?_⟩) ?_ ?_; rotate_left
       ·intro w'; go_simp; with_reducible rfl
       rotate_left
       ·simp only [Act.put, yF, yG, yH, i64_w, i32_w]; rfl
       refine pure_ (i := 1) (N := some 26) (v := ?_) (a' := ?_) #[true, true, false, false, false, false, false, false, false, false, false] rfl rfl (any_of HT_.out (by kernel_rfl)) (fun _ _ _ h => h) (Or.inl ⟨by rfl, ?_⟩) ?_ ?_; rotate_left
       ·intro w'; go_simp; with_reducible rfl
       rotate_left
       ·simp only [Act.put, yF, yG, yH, i64_w, i32_w]; rfl
       refine pure_ (i := 2) (N := some 27) (v := ?_) (a' := ?_) #[true, true, true, false, false, false, false, false, false, false, false] rfl rfl (any_of HT_.out (by kernel_rfl)) (fun _ _ _ h => h) (Or.inl ⟨by rfl, ?_⟩) ?_ ?_; rotate_left
       ·intro w'; go_simp; with_reducible rfl
       rotate_left
       ·simp only [Act.put, yF, yG, yH, i64_w, i32_w]; rfl
       refine pure_ (i := 3) (N := some 28) (v := ?_) (a' := ?_) #[true, true, true, true, false, false, false, false, false, false, false] rfl rfl (any_of HT_.out (by kernel_rfl)) (fun _ _ _ h => h) (Or.inl ⟨by rfl, ?_⟩) ?_ ?_; rotate_left
       ·intro w'; go_simp; with_reducible rfl
       rotate_left
       ·simp only [Act.put, yF, yG, yH, i64_w, i32_w]; rfl
       refine pure_ (i := 4) (N := some 29) (v := ?_) (a' := ?_) #[true, true, true, true, true, false, false, false, false, false, false] rfl rfl (any_of HT_.out (by kernel_rfl)) (fun _ _ _ h => h) (Or.inl ⟨by rfl, ?_⟩) ?_ ?_; rotate_left
       ·intro w'; go_simp; with_reducible rfl
       rotate_left
       ·simp only [Act.put, yF, yG, yH, i64_w, i32_w]; rfl
       refine pure_ (i := 6) (N := some 31) (v := ?_) (a' := ?_) #[true, true, true, true, true, false, true, false, false, false, false] rfl rfl (any_of HT_.out (by kernel_rfl)) (fun _ _ _ h => h) (Or.inl ⟨by rfl, ?_⟩) ?_ ?_; rotate_left
       ·intro w'; go_simp; with_reducible rfl
       rotate_left
       ·simp only [Act.put, yF, yG, yH, i64_w, i32_w]; rfl
       refine take_ (i := 5) (N := some 30) (v := ?_) (a' := ?_) #[true, true, true, true, true, true, true, false, false, false, false] rfl rfl (take_ofW HT_.out HW_.out (by kernel_rfl)) (fun _ _ _ h => h) (Or.inl ⟨by rfl, ?_⟩) hHeld ?_ ?_; rotate_left
       ·intro w' s0
        go_simp
        with_reducible rfl
       rotate_left
       ·simp only [Act.put, yF, yG, yH, i64_w, i32_w]; rfl
       refine one_ (i := 7) (N := some 32) #[true, true, true, true, true, true, true, true, false, false, false] rfl rfl (one_of HT_.out (by kernel_rfl)) (by decide) (fun K hK => ?_)
       refine goes_ Try.func159 (by kernel_rfl) rfl #[.int .i64 x0_2] (by rfl) rfl rfl (by (try simp only [yK, yL, yM]); first | done | rfl | (simp only [yJ, yI]; rfl)) ?_
       with_reducible refine (spec_l5Out.calls x0_2 t505 _ A14.out).mono ?_
       rintro e w' ⟨rfl, ⟨nd, rfl⟩⟩
       refine ⟨_, rfl, ?_⟩
       have p16 : 0 ≤ (x6_2 : Int) := yO (by assumption)
       have q16 : (x6_2 : Int) < ((x5_2.length : Int) : Int) := yO (by assumption)
       obtain ⟨go16, co16, eo16, gb16, gl16, cl16, HG16⟩ := Kd.R_form HO_5.out (by omega)
       (first | cases eo16 | (injection eo16 with ea_ en_ ec_; (first | subst ea_ | (injection ea_ with ea_; subst ea_)); subst ec_; clear en_))
       have GB16 := zO gb16
       have GG16 := zO HG16
       clear gb16 gl16 HG16
       obtain ⟨hx16_0, hf16_0⟩ := Kd.R_celln 0 HO_5.out (x6_2 : Int) p16 q16
       replace p16 := eq_true p16
       replace q16 := eq_true q16
       have HP19 := Kd.R_putn HO_5.out (x6_2 : Int) (Go.bits .xor .i64 (rd l1 x6_2) t505)
       rw [← Ny506.out] at HP19
       have HQ19 := zO HP19
       clear HP19
       refine hK.out _ _ (((HB.out.cell (World.block_lt_of_cell? w _ hw504_0)).trans hw504_0)) (fun hHeld => ?_)
       clear hK K
       refine norm_ (a' := ?_) ?_ ?_; rotate_left
       ·show Act.put _ (some 32) _ = _; simp only [Act.put, yF, yG, yH, i64_w, i32_w]; rfl
       refine pure_ (i := 8) (N := some 33) (v := ?_) (a' := ?_) #[true, true, true, true, true, true, true, true, true, false, false] rfl rfl (any_of HT_.out (by kernel_rfl)) (fun _ _ _ h => h) (Or.inl ⟨by rfl, ?_⟩) ?_ ?_; rotate_left
       ·intro w'; go_simp; with_reducible rfl
       rotate_left
       ·simp only [Act.put, yF, yG, yH, i64_w, i32_w]; rfl
       refine pure_ (i := 9) (N := some 34) (v := ?_) (a' := ?_) #[true, true, true, true, true, true, true, true, true, true, false] rfl rfl (any_of HT_.out (by kernel_rfl)) (fun _ _ _ h => h) (Or.inl ⟨by rfl, ?_⟩) ?_ ?_; rotate_left
       ·intro w'; go_simp; with_reducible rfl
       rotate_left
       ·simp only [Act.put, yF, yG, yH, i64_w, i32_w]; rfl
       refine last_ (i := 10) (N := none) #[true, true, true, true, true, true, true, true, true, true, true] rfl rfl (one_of HT_.out (by kernel_rfl)) (by decide) (fun K hK => ?_)
       refine skip_ (w1 := ?_) (by rfl) rfl ?_ ?_; rotate_left
       ·go_simp
        rfl
       refine hK.out _ _ ?_
       clear hK K
       refine done_ (done_of HT_.out (by kernel_rfl)) ?_
       try go_wp2_with (first | ((with_reducible refine zM (f := 160) rfl ?_); refine goesL_ (some 36) rfl rfl Try.func160 (by kernel_rfl) rfl #[.int .i64 x0_2] rfl (by (try simp only [yK, yL, yM]); first | done | rfl | (simp only [yJ, yI]; rfl)) ?_; (with_reducible refine (spec_NextScramblerState.calls x0_2 t507 _ A17.out).mono ?_); rintro e w' ⟨rfl, ⟨nd, rfl⟩⟩; refine ⟨_, rfl, ?_⟩))
       go_roundg k2
       case measure => have := HJ3.out; have := HK2.out; omega
       case rel => exact ⟨(t507), (y506), (wrap64 (x6_2 + 1)), (by first | rfl | (simp; done) | (simp [*]; done)), (by first | rfl | (simp; done) | (simp [*]; done)), H', ⟨by have := HJ3.out; have := HK2.out; omega⟩, ⟨by (with_reducible repeat (first | apply zU | apply zW | apply zV)); exact HQ19.out⟩, ⟨by repeat (first | (with_reducible first | exact HB.out | apply zA | apply zL | apply zB | refine zC ?_ GB16.out) | exact HB.out)⟩⟩
      ·rw [if_neg c12] at H
       have c12b0 : decide (x6_2 < (l1.length : Int)) = false := decide_eq_false c12
       clear c12
       obtain rfl := Option.some.inj H
       go_wp2
       go_ret
       exact ⟨_, by first | rfl | (simp [errW_none, errW_some] <;> rfl) | (simp [*, errW_none, errW_some] <;> rfl), by (with_reducible repeat (first | apply zU | apply zW | apply zV)); exact HO_5.out, by repeat (first | exact HB.out | apply zA | apply zL | apply zB)⟩

end Go.Proofs.Ytldbmljooafkcaa.PFnFrameErrors
