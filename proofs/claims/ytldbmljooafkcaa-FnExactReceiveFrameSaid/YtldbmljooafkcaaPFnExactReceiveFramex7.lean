/- Contracts of Go functions. Conditions: the arguments read as the Lean function's. Written by print2.py, shrink.py (this session's). -/
import Derived.Test.YtldbmljooafkcaaPFnExactReceiveFramex0
import Derived.Test.YtldbmljooafkcaaPFnExactReceiveFramex4
import Derived.Test.YtldbmljooafkcaaPFnExactReceiveFramex5
import Derived.Test.YtldbmljooafkcaaPFnExactReceiveFramex6
namespace Go.Proofs.Ytldbmljooafkcaa.PFnExactReceiveFrame
open Go.RowKit Go.Proofs.YtldbmljooafkcaaW.PrintWords Go.Proofs.YtldbmljooafkcaaW.PrintLast Go.Proofs.YtldbmljooafkcaaW.PrintMore
open Go.Proofs.YtldbmljooafkcaaW.PrintWords renaming below_alloc → zA, below_drew1 → zB, below_set → zC, below_size → zD, below_step → zE, pw_below_drewN → zL, gate_callee → zM, gate_dst → zN
open Go.Proofs.YtldbmljooafkcaaW.PrintWords.Aside0 renaming mk → zO
open Go.Proofs.YtldbmljooafkcaaW.PrintWords.Kd renaming C_alloc → zR, C_drew → zS, C_drewN → zT, R_alloc → zU, R_drew → zV, R_drewN → zW, R_lower → yA, N_alloc → yB, N_drewN → yC, N_drew → yD
open Option renaming bind_eq_some_iff → yE
open List renaming setIfInBounds_toArray → yF, set_cons_zero → yG, set_cons_succ → yH, length_take → yI, length_drop → yJ, map_toArray → yK, map_cons → yL, map_nil → yM
set_option maxHeartbeats 8000000
set_option maxRecDepth 100000
attribute [local go_sem] max2_int min2_int max_two min_two max_three min_three max_four min_four
set_option linter.unusedVariables false
set_option linter.unusedSimpArgs false

mutual
def spec_ViterbiDecode.j0 : Nat → List Int → Int → Bool → Option (List Int × Int)
 | 0, _, _, _ => none
 | k + 1, x0, x4, x20 => if x20 = true then (some ((([] : List Int)), (-1))) else ((spec_l7Costs.f k x0 x4).bind fun t202 => (if 0 ≤ x4 then (if (x4 : Int).toNat ≤ 35184372088832 then (spec_ViterbiDecode.l0 k x0 x4 t202 (List.replicate (x4 : Int).toNat 0) 0 (wrap64 ((wrap64 (x4 + 2)) - 1))) else (none)) else (none)))
def spec_ViterbiDecode.l0 : Nat → List Int → Int → List (List Int) → List Int → Int → Int → Option (List Int × Int)
 | 0, _, _, _, _, _, _ => none
 | k + 1, x0, x4, x5, x6, x7, x8 => if x8 ≥ 0 then (if 0 ≤ x8 then (if x8 < (x5.length : Int) then (if 0 ≤ (wrap64 (x8 + 1)) then (if (wrap64 (x8 + 1)) < (x5.length : Int) then (if 0 ≤ x7 then (if x7 < ((rd_L2 x5 (wrap64 (x8 + 1))).length : Int) then (if 0 ≤ (wrap64 (2 * x8)) then (if (wrap64 (2 * x8)) < (x0.length : Int) then (if 0 ≤ (wrap64 ((wrap64 (2 * x8)) + 1)) then (if (wrap64 ((wrap64 (2 * x8)) + 1)) < (x0.length : Int) then ((spec_l7Back.f k (rd_L2 x5 x8) (rd (rd_L2 x5 (wrap64 (x8 + 1))) x7) x7 (decide (x8 < x4)) (rd x0 (wrap64 (2 * x8))) (rd x0 (wrap64 ((wrap64 (2 * x8)) + 1)))).bind fun bt213 => (if x8 < x4 then (if x8 < (x6.length : Int) then (spec_ViterbiDecode.l0 k x0 x4 x5 (x6.set (x8 : Int).toNat bt213.2) bt213.1 (wrap64 (x8 - 1))) else (none)) else (spec_ViterbiDecode.l0 k x0 x4 x5 x6 bt213.1 (wrap64 (x8 - 1))))) else (none)) else (none)) else (none)) else (none)) else (none)) else (none)) else (none)) else (none)) else (none)) else (none)) else (if 0 ≤ (wrap64 (x4 + 2)) then (if (wrap64 (x4 + 2)) < (x5.length : Int) then (if 0 < ((rd_L2 x5 (wrap64 (x4 + 2))).length : Int) then (some (x6, rd (rd_L2 x5 (wrap64 (x4 + 2))) 0)) else (none)) else (none)) else (none))
end
def spec_ViterbiDecode.f (k : Nat) (l0 : List Int) : Option (List Int × Int) := (spec_InputLength.f (l0.length : Int)).bind fun t197 => (if t197 < 0 then (spec_ViterbiDecode.j0 k l0 t197 true) else ((spec_IsSymbolString.f k l0).bind fun t198 => (spec_ViterbiDecode.j0 k l0 t197 (!t198))))
def spec_ViterbiDecode.T10 : Bool × List (List Nat × List Nat) := (true, [([], []), ([], []), ([0, 1], [0, 1]), ([2], [2]), ([], []), ([], []), ([5], [5]), ([4, 6], [4, 6]), ([7], [7]), ([], []), ([8, 9], [8, 9]), ([10], [10]), ([], []), ([], []), ([], []), ([13, 14], [13, 14]), ([], []), ([], []), ([17], [17]), ([16, 18], [16, 18]), ([19], [19]), ([], []), ([], []), ([22], [22]), ([23], [23]), ([21, 24], [21, 24]), ([25], [25]), ([3, 11, 12, 15, 20, 26], [3, 11, 12, 15, 20, 26]), ([27], [27]), ([28], [28]), ([28], [28]), ([29, 27, 0, 1, 2, 3, 4, 5, 6, 7, 8, 9, 10, 11, 12, 13, 14, 15, 16, 17, 18, 19, 20, 21, 22, 23, 24, 25, 26, 27, 28, 29], [29]), ([30, 31, 0, 1, 2, 3, 4, 5, 6, 7, 8, 9, 10, 11, 12, 13, 14, 15, 16, 17, 18, 19, 20, 21, 22, 23, 24, 25, 26, 27, 28, 29, 30, 31], [30])])
def spec_ViterbiDecode.B10 : List Nat := [0, 0, 3, 7, 0, 0, 32, 112, 240, 0, 1008, 2032, 0, 0, 0, 24576, 0, 0, 131072, 458752, 983040, 0, 0, 4194304, 12582912, 31457280, 65011712, 134217727, 268435455, 536870911, 536870911, 1073741823, 4294967295]
theorem spec_ViterbiDecode.tab10 : rtab .any (opsOf Try.f49 10) = spec_ViterbiDecode.T10 := by kernel_rfl
theorem spec_ViterbiDecode.bits10 : waitsOk spec_ViterbiDecode.T10.2 spec_ViterbiDecode.B10 = true := by kernel_rfl
def spec_ViterbiDecode.T14 : Bool × List (List Nat × List Nat) := (true, [([], []), ([], []), ([], []), ([2], [2]), ([1, 3], [1, 3]), ([4], [4]), ([5], [5]), ([6], [6]), ([0, 0], [0]), ([7, 8, 0, 1, 2, 3, 4, 5, 6, 7, 8], [7])])
def spec_ViterbiDecode.B14 : List Nat := [0, 0, 0, 4, 14, 30, 62, 126, 1, 511]
theorem spec_ViterbiDecode.tab14 : rtab .any (opsOf Try.f49 14) = spec_ViterbiDecode.T14 := by kernel_rfl
theorem spec_ViterbiDecode.bits14 : waitsOk spec_ViterbiDecode.T14.2 spec_ViterbiDecode.B14 = true := by kernel_rfl
theorem spec_ViterbiDecode.calls (k : Nat) (A0 : Option Addr) (c0 : Nat) (l0 : List Int) (r1 : List Int) (r2 : Int) (w : World) (hr0 : Kd.C (Kd.int .i64) w A0 l0.length l0) (hc0 : l0.length ≤ c0) (h : spec_ViterbiDecode.f k l0 = some (r1, r2)) :
  Calls Try.prog 49 #[.slice A0 l0.length c0] w fun e w' => ∃ v0_ : Value, e = .returned (.tuple #[v0_, .int .i64 r2]) ∧ Kd.R (Kd.int .i64) 3 w' w.heap.size (fun _ => True) v0_ r1 ∧ Below w.heap.size w w' := by
 have HR0 := zO hr0
 have HC0 := zO hc0
 clear hr0 hc0
 have HB := zO (Below.refl w.heap.size w)
 have H : ((spec_InputLength.f (l0.length : Int)).bind fun t197 => (if t197 < 0 then (spec_ViterbiDecode.j0 k l0 t197 true) else ((spec_IsSymbolString.f k l0).bind fun t198 => (spec_ViterbiDecode.j0 k l0 t197 (!t198))))) = some (r1, r2) := h
 clear h
 replace H := yE.mp H
 obtain ⟨t197, A20, H⟩ := H
 replace H : (if t197 < 0 then (spec_ViterbiDecode.j0 k l0 t197 true) else ((spec_IsSymbolString.f k l0).bind fun t198 => (spec_ViterbiDecode.j0 k l0 t197 (!t198)))) = some (r1, r2) := H
 have A2 := zO A20
 clear A20
 have HC3 := zO H
 clear H
 go_enter Try.func49, Try.ntmps49
 go_upto_region 2 with (first | ((with_reducible refine zM (f := 56) rfl ?_); refine goesL_ (some 13) rfl rfl Try.func56 (by kernel_rfl) rfl #[.int .i64 (l0.length : Int)] rfl (by (try simp only [yK, yL, yM]); first | done | rfl | (simp only [yJ, yI]; rfl)) ?_; (with_reducible refine (spec_InputLength.calls (l0.length : Int) t197 _ A2.out).mono ?_); rintro e w' ⟨rfl, ⟨nd, rfl⟩⟩; refine ⟨_, rfl, ?_⟩))
 (try simp only [Act.put, yF, yG, yH])
 go_cut [20] (fun v20 wc => ∃ (kq : Nat) (x20_2 : Bool), v20 = .bool x20_2 ∧ Aside0 (spec_ViterbiDecode.j0 kq l0 t197 x20_2 = some (r1, r2)) ∧ Aside0 (kq ≤ k) ∧ Aside0 (Below w.heap.size w wc))
 case first =>
  have H := HC3.out
  clear HC3
  by_cases c4 : t197 < 0
  ·rw [if_pos c4] at H
   have c4b0 : decide (t197 < 0) = true := decide_eq_true c4
   clear c4
   (first | rw [c4b0] | (simp only [i64_w, i32_w]; rw [c4b0]) | skip)
   have H' := zO H
   clear H
   go_wp2
   go_meet
   case rel => exact ⟨_, (true), (by first | rfl | (simp; done) | (simp [*]; done)), H', ⟨by first | omega | exact Nat.le_refl _⟩, ⟨by repeat (first | exact HB.out | apply zA | apply zL | apply zB)⟩⟩
  ·rw [if_neg c4] at H
   have c4b0 : decide (t197 < 0) = false := decide_eq_false c4
   clear c4
   (first | rw [c4b0] | (simp only [i64_w, i32_w]; rw [c4b0]) | skip)
   replace H := yE.mp H
   obtain ⟨t198, A50, H⟩ := H
   replace H : (spec_ViterbiDecode.j0 k l0 t197 (!t198)) = some (r1, r2) := H
   have A5 := zO A50
   clear A50
   have H' := zO H
   clear H
   go_wp2_with (first | (go_at_call 57; (with_reducible refine (spec_IsSymbolString.calls k _ _ l0 t198 _ ?side1 ?side2 A5.out).mono ?_); (case side1 => repeat (first | exact (Kd.C_below HR0.out HB.out) | (with_reducible refine zR ?_ _) | (with_reducible refine zT ?_ _) | (with_reducible refine zS ?_))); (case side2 => exact HC0.out); rintro e w' ⟨rfl, ⟨nd, rfl⟩⟩))
   go_meet
   case rel => exact ⟨_, (!t198), (by first | rfl | (simp; done) | (simp [*]; done)), H', ⟨by first | omega | exact Nat.le_refl _⟩, ⟨by repeat (first | exact HB.out | apply zA | apply zL | apply zB)⟩⟩
 case rest =>
  clear HC3
  try clear p2
  try clear c4
  try clear c4b0
  try clear c5
  obtain ⟨kq, x20_2, rfl, HA, HJ2, HB⟩ := hcut
  cases kq with
  | zero => exact absurd HA.out (by simp [spec_ViterbiDecode.j0])
  | succ kj2 =>
   have H := HA.out
   clear HA
   simp only [spec_ViterbiDecode.j0] at H
   by_cases c6 : x20_2 = true
   ·subst c6
    have H1 : (some ((([] : List Int)), (-1))) = some (r1, r2) := by rw [if_pos rfl] at H; exact H
    clear H
    have H := H1
    clear H1
    obtain ⟨y199, hy199⟩ : ∃ y_ : List Int, y_ = (([] : List Int)) := ⟨_, rfl⟩
    replace H : (some (y199, (-1))) = some (r1, r2) := by first | (rw [hy199]; exact H) | exact H
    have Ny199 := zO hy199
    clear hy199
    simp only [Option.some.injEq, Prod.mk.injEq] at H
    obtain ⟨rfl, rfl⟩ := H
    go_wp2_with (first | ((with_reducible refine zN (N := 21) rfl ?_); refine Kd.R_lit (Kd.int .i64) _ 3 ?hg (N := 21) ?hd (xs := ([] : List Int)) (inner := []) (ok := fun _ => True) (okp := fun _ => True) ?hr ?hp (fun _ hk => hk) trivial (Below.refl _ _) (Nat.le_refl _) (by simp) ?_; (case hd => rfl); (case hg => rfl); (case hr => first | (go_simp; done) | (go_simp; rfl)); (case hp => exact (Reps.none _ _)); intro v200 w7 ho8 hb hg_ hnew_; clear hg_ hnew_; (first | rw [← Ny199.out] at ho8 | (simp only [Int.reduceToNat] at ho8; rw [← Ny199.out] at ho8)); have n0_ := zO (yA ho8 (zD (by repeat (first | exact HB.out | apply zA | apply zL | apply zB)))); have n1_ := zO (zE (by repeat (first | exact HB.out | apply zA | apply zL | apply zB)) hb); clear HB; have HO201 := n0_; have HB := n1_; clear n0_ n1_; clear hb ho8))
    go_ret2
    exact ⟨_, by first | rfl | (simp [errW_none, errW_some] <;> rfl) | (simp [*, errW_none, errW_some] <;> rfl), by (with_reducible repeat (first | apply zU | apply zW | apply zV)); exact HO201.out, by repeat (first | exact HB.out | apply zA | apply zL | apply zB)⟩
   ·replace c6 := Bool.eq_false_iff.mpr c6
    subst c6
    have H1 : ((spec_l7Costs.f kj2 l0 t197).bind fun t202 => (if 0 ≤ t197 then (if (t197 : Int).toNat ≤ 35184372088832 then (spec_ViterbiDecode.l0 kj2 l0 t197 t202 (List.replicate (t197 : Int).toNat 0) 0 (wrap64 ((wrap64 (t197 + 2)) - 1))) else (none)) else (none))) = some (r1, r2) := by rw [if_neg (show ¬ (false = true) by decide)] at H; exact H
    clear H
    have H := H1
    clear H1
    replace H := yE.mp H
    obtain ⟨t202, A90, H⟩ := H
    replace H : (if 0 ≤ t197 then (if (t197 : Int).toNat ≤ 35184372088832 then (spec_ViterbiDecode.l0 kj2 l0 t197 t202 (List.replicate (t197 : Int).toNat 0) 0 (wrap64 ((wrap64 (t197 + 2)) - 1))) else (none)) else (none)) = some (r1, r2) := H
    have A9 := zO A90
    clear A90
    by_cases c10 : 0 ≤ t197
    case neg => rw [if_neg c10] at H; exact absurd H (by simp)
    rw [if_pos c10] at H
    have c10b0 := eq_true c10
    have c10b1 : decide (0 ≤ t197) = true := decide_eq_true c10
    clear c10
    by_cases c11 : (t197 : Int).toNat ≤ 35184372088832
    case neg => rw [if_neg c11] at H; exact absurd H (by simp)
    rw [if_pos c11] at H
    have c11b0 := eq_true c11
    have c11b1 : decide ((t197 : Int).toNat ≤ 35184372088832) = true := decide_eq_true c11
    clear c11
    obtain ⟨y205, hy205⟩ : ∃ y_ : List Int, y_ = (List.replicate (t197 : Int).toNat 0) := ⟨_, rfl⟩
    replace H : (spec_ViterbiDecode.l0 kj2 l0 t197 t202 y205 0 (wrap64 ((wrap64 (t197 + 2)) - 1))) = some (r1, r2) := by first | (rw [hy205]; exact H) | exact H
    have Ny205 := zO hy205
    clear hy205
    have H' := zO H
    clear H
    go_wp2_with (first | ((with_reducible refine zM (f := 106) rfl ?_); refine goesL_ (some 24) rfl rfl Try.func106 (by kernel_rfl) rfl #[.slice A0 l0.length c0, .int .i64 t197] rfl (by (try simp only [yK, yL, yM]); first | done | rfl | (simp only [yJ, yI]; rfl)) ?_; (with_reducible refine (spec_l7Costs.calls kj2 _ _ l0 t197 t202 _ ?side1 ?side2 A9.out).mono ?_); (case side1 => repeat (first | exact (Kd.C_below HR0.out HB.out) | (with_reducible refine zR ?_ _) | (with_reducible refine zT ?_ _) | (with_reducible refine zS ?_))); (case side2 => exact HC0.out); rintro e w12 ⟨v203, rfl, ho0, hb⟩; refine ⟨_, rfl, ?_⟩; have n0_ := zO (Kd.N_lower (Kd.N_mono (ok' := fun k_ => True) ho0 (fun k_ hk_ => trivial)) (zD (by repeat (first | exact HB.out | apply zA | apply zL | apply zB)))); have n1_ := zO (zE (by repeat (first | exact HB.out | apply zA | apply zL | apply zB)) hb); clear HB; have HO204 := n0_; have HB := n1_; clear n0_ n1_; (try clear hb); (try clear hb2); (try clear hk); (try clear hi); (try clear ho0)) | ((with_reducible refine zN (N := 26) rfl ?_); refine Kd.R_make (Kd.int .i64) _ 3 rfl (N := 26) rfl 22 _ _ rfl t197 rfl rfl Try.underlying22 (.int .i64 0) 8 info3 rfl (by decide) (by omega) 0 (ok := fun _ => True) (okp := fun _ => True) rfl (fun _ hk => hk) trivial (yO (by assumption)) (Nat.le_trans (Nat.mul_le_mul_right _ (yO (by assumption) : t197.toNat ≤ 35184372088832)) (by omega)) (Below.refl _ _) (Nat.le_refl _) ?_; intro v206 w13 ho14 hb hg_ hnew_; clear hg_ hnew_; (first | rw [← Ny205.out] at ho14 | (simp only [Int.reduceToNat] at ho14; rw [← Ny205.out] at ho14)); have n0_ := zO (Kd.N_elder' (by (with_reducible repeat (first | apply yB | apply yC | apply yD)); exact HO204.out) (Kd.R_base ho14) hb); have n1_ := zO (yA ho14 (zD (by repeat (first | exact HB.out | apply zA | apply zL | apply zB)))); have n2_ := zO (zE (by repeat (first | exact HB.out | apply zA | apply zL | apply zB)) hb); clear HO204; clear HB; have HO204 := n0_; have HO207 := n1_; have HB := n2_; clear n0_ n1_ n2_; clear hb ho14))
    go_loopg [7, 8] kj2 (fun kq v7 v8 w' => ∃ (x6_2 : List Int) (x7_2 : Int) (x8_2 : Int), v7 = .int .i64 x7_2 ∧ v8 = .int .i64 x8_2 ∧ Aside0 (spec_ViterbiDecode.l0 kq l0 t197 t202 x6_2 x7_2 x8_2 = some (r1, r2)) ∧ Aside0 (kq ≤ kj2) ∧ Aside0 (Kd.N (Kd.slice 3 (Kd.int .i64)) 22 w' w.heap.size (fun k_ => some k_ ≠ (v206 : Value).ownBlock) v203 t202) ∧ Aside0 (Kd.R (Kd.int .i64) 3 w' w.heap.size (fun _ => True) v206 x6_2) ∧ Aside0 (Below w.heap.size w w'))
    case atStart => exact ⟨(y205), (0), (wrap64 ((wrap64 (t197 + 2)) - 1)), (by first | rfl | (simp; done) | (simp [*]; done)), (by first | rfl | (simp; done) | (simp [*]; done)), H', ⟨Nat.le_refl _⟩, ⟨by (with_reducible repeat (first | apply yB | apply yC | apply yD)); exact Kd.N_mono HO204.out (fun _ hk => hk.2)⟩, ⟨by (with_reducible repeat (first | apply zU | apply zW | apply zV)); exact HO207.out⟩, ⟨by repeat (first | exact HB.out | apply zA | apply zL | apply zB)⟩⟩
    case round =>
     clear H'
     try clear c1
     try clear p2
     try clear c4
     try clear c4b0
     try clear c5
     try clear c6
     try clear p6
     try clear c10
     try clear c10b0
     try clear c10b1
     try clear c11
     try clear c11b0
     try clear c11b1
     try clear p2
     obtain ⟨x6_2, x7_2, x8_2, rfl, rfl, HA, HK2, HO_5, HO_6, HB⟩ := hrel
     cases gk with
     | zero => exact absurd HA.out (by simp [spec_ViterbiDecode.l0])
     | succ k2 =>
      have H := HA.out
      clear HA
      simp only [spec_ViterbiDecode.l0] at H
      by_cases c15 : x8_2 ≥ 0
      ·rw [if_pos c15] at H
       have c15b0 : decide (0 ≤ x8_2) = true := decide_eq_true c15
       clear c15
       by_cases c16 : 0 ≤ x8_2
       case neg => rw [if_neg c16] at H; exact absurd H (by simp)
       rw [if_pos c16] at H
       have c16b0 : decide (0 ≤ x8_2) = true := decide_eq_true c16
       clear c16
       by_cases c17 : x8_2 < (t202.length : Int)
       case neg => rw [if_neg c17] at H; exact absurd H (by simp)
       rw [if_pos c17] at H
       have c17b0 : decide (x8_2 < (t202.length : Int)) = true := decide_eq_true c17
       clear c17
       obtain ⟨ji18, hji18⟩ : ∃ j_ : Int, (wrap64 (x8_2 + 1)) = j_ := ⟨_, rfl⟩
       replace H : (if 0 ≤ (ji18) then (if (ji18) < (t202.length : Int) then (if 0 ≤ x7_2 then (if x7_2 < ((rd_L2 t202 (ji18)).length : Int) then (if 0 ≤ (wrap64 (2 * x8_2)) then (if (wrap64 (2 * x8_2)) < (l0.length : Int) then (if 0 ≤ (wrap64 ((wrap64 (2 * x8_2)) + 1)) then (if (wrap64 ((wrap64 (2 * x8_2)) + 1)) < (l0.length : Int) then ((spec_l7Back.f k2 (rd_L2 t202 x8_2) (rd (rd_L2 t202 (ji18)) x7_2) x7_2 (decide (x8_2 < t197)) (rd l0 (wrap64 (2 * x8_2))) (rd l0 (wrap64 ((wrap64 (2 * x8_2)) + 1)))).bind fun bt213 => (if x8_2 < t197 then (if x8_2 < (x6_2.length : Int) then (spec_ViterbiDecode.l0 k2 l0 t197 t202 (x6_2.set (x8_2 : Int).toNat bt213.2) bt213.1 (wrap64 (x8_2 - 1))) else (none)) else (spec_ViterbiDecode.l0 k2 l0 t197 t202 x6_2 bt213.1 (wrap64 (x8_2 - 1))))) else (none)) else (none)) else (none)) else (none)) else (none)) else (none)) else (none)) else (none)) = some (r1, r2) := by first | (rw [hji18] at H; exact H) | (simp only [hji18] at H ⊢; exact H)
       have hji18w : (IntKind.i64.wrap (x8_2 + 1)) = ji18 := (i64_w _).trans hji18
       by_cases c19 : 0 ≤ (ji18)
       case neg => rw [if_neg c19] at H; exact absurd H (by simp)
       rw [if_pos c19] at H
       have c19b0 : decide (0 ≤ (ji18)) = true := decide_eq_true c19
       clear c19
       by_cases c20 : (ji18) < (t202.length : Int)
       case neg => rw [if_neg c20] at H; exact absurd H (by simp)
       rw [if_pos c20] at H
       have c20b0 : decide ((ji18) < (t202.length : Int)) = true := decide_eq_true c20
       clear c20
       by_cases c21 : 0 ≤ x7_2
       case neg => rw [if_neg c21] at H; exact absurd H (by simp)
       rw [if_pos c21] at H
       have c21b0 : decide (0 ≤ x7_2) = true := decide_eq_true c21
       clear c21
       by_cases c22 : x7_2 < ((rd_L2 t202 (ji18)).length : Int)
       case neg => rw [if_neg c22] at H; exact absurd H (by simp)
       rw [if_pos c22] at H
       have c22b0 : decide (x7_2 < ((rd_L2 t202 (ji18)).length : Int)) = true := decide_eq_true c22
       clear c22
       obtain ⟨ji23, hji23⟩ : ∃ j_ : Int, (wrap64 (2 * x8_2)) = j_ := ⟨_, rfl⟩
       replace H : (if 0 ≤ (ji23) then (if (ji23) < (l0.length : Int) then (if 0 ≤ (wrap64 ((ji23) + 1)) then (if (wrap64 ((ji23) + 1)) < (l0.length : Int) then ((spec_l7Back.f k2 (rd_L2 t202 x8_2) (rd (rd_L2 t202 (ji18)) x7_2) x7_2 (decide (x8_2 < t197)) (rd l0 (ji23)) (rd l0 (wrap64 ((ji23) + 1)))).bind fun bt213 => (if x8_2 < t197 then (if x8_2 < (x6_2.length : Int) then (spec_ViterbiDecode.l0 k2 l0 t197 t202 (x6_2.set (x8_2 : Int).toNat bt213.2) bt213.1 (wrap64 (x8_2 - 1))) else (none)) else (spec_ViterbiDecode.l0 k2 l0 t197 t202 x6_2 bt213.1 (wrap64 (x8_2 - 1))))) else (none)) else (none)) else (none)) else (none)) = some (r1, r2) := by first | (rw [hji23] at H; exact H) | (simp only [hji23] at H ⊢; exact H)
       have hji23w : (IntKind.i64.wrap (2 * x8_2)) = ji23 := (i64_w _).trans hji23
       by_cases c24 : 0 ≤ (ji23)
       case neg => rw [if_neg c24] at H; exact absurd H (by simp)
       rw [if_pos c24] at H
       have c24b0 : decide (0 ≤ (ji23)) = true := decide_eq_true c24
       clear c24
       by_cases c25 : (ji23) < (l0.length : Int)
       case neg => rw [if_neg c25] at H; exact absurd H (by simp)
       rw [if_pos c25] at H
       have c25b0 : decide ((ji23) < (l0.length : Int)) = true := decide_eq_true c25
       clear c25
       obtain ⟨ji26, hji26⟩ : ∃ j_ : Int, (wrap64 ((ji23) + 1)) = j_ := ⟨_, rfl⟩
       replace H : (if 0 ≤ (ji26) then (if (ji26) < (l0.length : Int) then ((spec_l7Back.f k2 (rd_L2 t202 x8_2) (rd (rd_L2 t202 (ji18)) x7_2) x7_2 (decide (x8_2 < t197)) (rd l0 (ji23)) (rd l0 (ji26))).bind fun bt213 => (if x8_2 < t197 then (if x8_2 < (x6_2.length : Int) then (spec_ViterbiDecode.l0 k2 l0 t197 t202 (x6_2.set (x8_2 : Int).toNat bt213.2) bt213.1 (wrap64 (x8_2 - 1))) else (none)) else (spec_ViterbiDecode.l0 k2 l0 t197 t202 x6_2 bt213.1 (wrap64 (x8_2 - 1))))) else (none)) else (none)) = some (r1, r2) := by first | (rw [hji26] at H; exact H) | (simp only [hji26] at H ⊢; exact H)
       have hji26w : (IntKind.i64.wrap ((ji23) + 1)) = ji26 := (i64_w _).trans hji26
       by_cases c27 : 0 ≤ (ji26)
       case neg => rw [if_neg c27] at H; exact absurd H (by simp)
       rw [if_pos c27] at H
       have c27b0 : decide (0 ≤ (ji26)) = true := decide_eq_true c27
       clear c27
       by_cases c28 : (ji26) < (l0.length : Int)
       case neg => rw [if_neg c28] at H; exact absurd H (by simp)
       rw [if_pos c28] at H
       have c28b0 : decide ((ji26) < (l0.length : Int)) = true := decide_eq_true c28
       clear c28
       replace H := yE.mp H
       obtain ⟨⟨t213, t214⟩, A290, H⟩ := H
       replace H : (if x8_2 < t197 then (if x8_2 < (x6_2.length : Int) then (spec_ViterbiDecode.l0 k2 l0 t197 t202 (x6_2.set (x8_2 : Int).toNat t214) t213 (wrap64 (x8_2 - 1))) else (none)) else (spec_ViterbiDecode.l0 k2 l0 t197 t202 x6_2 t213 (wrap64 (x8_2 - 1)))) = some (r1, r2) := H
       have A29 := zO A290
       clear A290
       by_cases c30 : x8_2 < t197
       ·rw [if_pos c30] at H
        have c30b0 : decide (x8_2 < t197) = true := decide_eq_true c30
        clear c30
        by_cases c31 : x8_2 < (x6_2.length : Int)
        case neg => rw [if_neg c31] at H; exact absurd H (by simp)
        rw [if_pos c31] at H
        have c31b0 : decide (x8_2 < (x6_2.length : Int)) = true := decide_eq_true c31
        clear c31
        obtain ⟨y215, hy215⟩ : ∃ y_ : List Int, y_ = (x6_2.set (x8_2 : Int).toNat t214) := ⟨_, rfl⟩
        replace H : (spec_ViterbiDecode.l0 k2 l0 t197 t202 y215 t213 (wrap64 (x8_2 - 1))) = some (r1, r2) := by first | (rw [hy215]; exact H) | exact H
        have Ny215 := zO hy215
        clear hy215
        have H' := zO H
        clear H
        try go_wp2
        have n0_ := zO (yD HO_5.out)
        have n1_ := zO (zV HO_6.out)
        have n2_ := zO (zB HB.out)
        clear HO_5
        clear HO_6
        clear HB
        have HO_5 := n0_
        have HO_6 := n1_
        have HB := n2_
        clear n0_ n1_ n2_
        obtain ⟨Ao34, co34, eo34⟩ := Kd.N_slice HO_5.out
        (first | subst eo34 | (injection eo34 with f1_ f2_ f3_; have f4_ := f1_.symm; have f5_ := f3_.symm; clear f1_ f2_ f3_; subst f4_; subst f5_))
        have p208 : 0 ≤ (x8_2 : Int) := yO (by assumption)
        have q208 : x8_2 < (t202.length : Int) := yO (by assumption)
        obtain ⟨ad208, A208_0, c208_0, e208, hx208_0, hl208_0, hi208_0⟩ := at_L2 (Kd.N_reads' HO_5.out).2.2 x8_2 p208 q208
        cases e208
        obtain ⟨ce208, hce208, hMe208, hcc208⟩ := Kd.N_get HO_5.out [] x8_2 p208 (by first | exact q208 | exact yO (by assumption) | (have e_ := (Kd.N_reads' HO_5.out).1; omega))
        obtain ⟨ua208_0, uc208_0, rfl, ul208_0, ge208_0⟩ := Kd.FK_slice_open hMe208
        have hv208_0 := hcc208 0 _ rfl
        rw [Nat.add_zero, show ((Kd.slice 3 (Kd.int .i64))).sz = 1 from rfl, Nat.mul_one] at hv208_0
        replace hv208_0 := Option.some.inj (hv208_0.symm.trans hx208_0)
        injection hv208_0 with hva_ hvn_ hvc_
        rw [hva_] at ge208_0
        rw [hvc_] at ul208_0
        have HL208_0 := zO (show Kd.V (Kd.int .i64) 3 _ w.heap.size _ _ (rd_L2 t202 x8_2) from Kd.V_mk ul208_0 ge208_0)
        clear hva_ hvn_ hvc_ ge208_0 ul208_0
        clear hcc208 hce208
        have HR208_0 := zO hi208_0
        have HC208_0 := zO hl208_0
        clear hi208_0 hl208_0
        replace p208 := eq_true p208
        replace q208 := eq_true q208
        have p209 : 0 ≤ ((ji18) : Int) := yO (by assumption)
        have q209 : (ji18) < (t202.length : Int) := yO (by assumption)
        obtain ⟨ad209, A209_0, c209_0, e209, hx209_0, hl209_0, hi209_0⟩ := at_L2 (Kd.N_reads' HO_5.out).2.2 (ji18) p209 q209
        obtain rfl : ad208 = ad209 := (by injection e209)
        obtain ⟨ce209, hce209, hMe209, hcc209⟩ := Kd.N_get HO_5.out [] (ji18) p209 (by first | exact q209 | exact yO (by assumption) | (have e_ := (Kd.N_reads' HO_5.out).1; omega))
        obtain ⟨ua209_0, uc209_0, rfl, ul209_0, ge209_0⟩ := Kd.FK_slice_open hMe209
        have hv209_0 := hcc209 0 _ rfl
        rw [Nat.add_zero, show ((Kd.slice 3 (Kd.int .i64))).sz = 1 from rfl, Nat.mul_one] at hv209_0
        replace hv209_0 := Option.some.inj (hv209_0.symm.trans hx209_0)
        injection hv209_0 with hva_ hvn_ hvc_
        rw [hva_] at ge209_0
        rw [hvc_] at ul209_0
        have HL209_0 := zO (show Kd.V (Kd.int .i64) 3 _ w.heap.size _ _ (rd_L2 t202 (ji18)) from Kd.V_mk ul209_0 ge209_0)
        clear hva_ hvn_ hvc_ ge209_0 ul209_0
        clear hcc209 hce209
        have HR209_0 := zO hi209_0
        have HC209_0 := zO hl209_0
        clear hi209_0 hl209_0
        replace p209 := eq_true p209
        replace q209 := eq_true q209
        have p210 : 0 ≤ (x7_2 : Int) := yO (by assumption)
        have q210 : x7_2 < ((rd_L2 t202 (ji18)).length : Int) := yO (by assumption)
        obtain ⟨ad210, e210, hx210_0⟩ := Kd.at_int (by repeat (first | (with_reducible exact HR209_0.out) | (with_reducible refine zR ?_ _) | (with_reducible refine zT ?_ _) | (with_reducible refine zS ?_) | exact HR209_0.out)) x7_2 p210 q210
        cases e210
        replace p210 := eq_true p210
        replace q210 := eq_true q210
        have p211 : 0 ≤ ((ji23) : Int) := yO (by assumption)
        have q211 : (ji23) < (l0.length : Int) := yO (by assumption)
        obtain ⟨ad211, e211, hx211_0⟩ := Kd.at_int HR0.out (ji23) p211 q211
        have hw211_0 := hx211_0
        cases e211
        replace hx211_0 := (HB.out.cell (World.block_lt_of_cell? w _ hx211_0)).trans hx211_0
        replace p211 := eq_true p211
        replace q211 := eq_true q211
        have p212 : 0 ≤ ((ji26) : Int) := yO (by assumption)
        have q212 : (ji26) < (l0.length : Int) := yO (by assumption)
        obtain ⟨ad212, e212, hx212_0⟩ := Kd.at_int HR0.out (ji26) p212 q212
        have hw212_0 := hx212_0
        obtain rfl : ad211 = ad212 := (by injection e212)
        replace hx212_0 := (HB.out.cell (World.block_lt_of_cell? w _ hx212_0)).trans hx212_0
        replace p212 := eq_true p212
        replace q212 := eq_true q212
        refine start_ (n := 33) (S := fun w' => w'.cell? (ad208.add (x8_2).toNat) = some (.slice A208_0 (rd_L2 t202 x8_2).length c208_0) ∧ w'.cell? (ad208.add ((ji18)).toNat) = some (.slice (some ad210) (rd_L2 t202 (ji18)).length c209_0) ∧ w'.cell? (ad210.add (x7_2).toNat) = some (.int .i64 (rd (rd_L2 t202 (ji18)) x7_2)) ∧ w'.cell? (ad211.add ((ji23)).toNat) = some (.int .i64 (rd l0 (ji23))) ∧ w'.cell? (ad211.add ((ji26)).toNat) = some (.int .i64 (rd l0 (ji26)))) (ds := []) #[false, false, false, false, false, false, false, false, false, false, false, false, false, false, false, false, false, false, false, false, false, false, false, false, false, false, false, false, false, false, false, false, false] (by kernel_rfl) rfl rfl ⟨hx208_0, hx209_0, hx210_0, ((HB.out.cell (World.block_lt_of_cell? w _ hw211_0)).trans hw211_0), ((HB.out.cell (World.block_lt_of_cell? w _ hw212_0)).trans hw212_0)⟩ (fun hHeld => ?_); refine with_tabW spec_ViterbiDecode.tab10 spec_ViterbiDecode.bits10 (fun HT_ HW_ => ?_)
        generalize wr.drew = w33 at HO_5 HO_6 HB HL208_0 HL209_0 HR208_0 HR209_0 hx208_0 hx209_0 hx210_0 hx211_0 hx212_0 hHeld ⊢
        refine pure_ (i := 0) (N := some 35) (v := ?_) (a' := ?_) #[true, false, false, false, false, false, false, false, false, false, false, false, false, false, false, false, false, false, false, false, false, false, false, false, false, false, false, false, false, false, false, false, false] rfl rfl (any_of HT_.out (by kernel_rfl)) (fun _ _ _ h => h) (Or.inl ⟨by rfl, ?_⟩) ?_ ?_; rotate_left
        ·intro w'; go_simp; with_reducible rfl
        rotate_left
        ·simp only [Act.put, yF, yG, yH, i64_w, i32_w]; rfl
        refine pure_ (i := 1) (N := some 36) (v := ?_) (a' := ?_) #[true, true, false, false, false, false, false, false, false, false, false, false, false, false, false, false, false, false, false, false, false, false, false, false, false, false, false, false, false, false, false, false, false] rfl rfl (any_of HT_.out (by kernel_rfl)) (fun _ _ _ h => h) (Or.inl ⟨by rfl, ?_⟩) ?_ ?_; rotate_left
        ·intro w'; go_simp; with_reducible rfl
        rotate_left
        ·simp only [Act.put, yF, yG, yH, i64_w, i32_w]; rfl
        refine pure_ (i := 2) (N := some 37) (v := ?_) (a' := ?_) #[true, true, true, false, false, false, false, false, false, false, false, false, false, false, false, false, false, false, false, false, false, false, false, false, false, false, false, false, false, false, false, false, false] rfl rfl (any_of HT_.out (by kernel_rfl)) (fun _ _ _ h => h) (Or.inl ⟨by rfl, ?_⟩) ?_ ?_; rotate_left
        ·intro w'; go_simp; with_reducible rfl
        rotate_left
        ·simp only [Act.put, yF, yG, yH, i64_w, i32_w]; rfl
        refine pure_ (i := 4) (N := some 39) (v := ?_) (a' := ?_) #[true, true, true, false, true, false, false, false, false, false, false, false, false, false, false, false, false, false, false, false, false, false, false, false, false, false, false, false, false, false, false, false, false] rfl rfl (any_of HT_.out (by kernel_rfl)) (fun _ _ _ h => h) (Or.inl ⟨by rfl, ?_⟩) ?_ ?_; rotate_left
        ·intro w'; go_simp; with_reducible rfl
        rotate_left
        ·simp only [Act.put, yF, yG, yH, i64_w, i32_w]; rfl
        refine pure_ (i := 5) (N := some 40) (v := ?_) (a' := ?_) #[true, true, true, false, true, true, false, false, false, false, false, false, false, false, false, false, false, false, false, false, false, false, false, false, false, false, false, false, false, false, false, false, false] rfl rfl (any_of HT_.out (by kernel_rfl)) (fun _ _ _ h => h) (Or.inl ⟨by rfl, ?_⟩) ?_ ?_; rotate_left
        ·intro w'; go_simp; with_reducible rfl
        rotate_left
        ·simp only [Act.put, yF, yG, yH, i64_w, i32_w]; rfl
        refine pure_ (i := 6) (N := some 41) (v := ?_) (a' := ?_) #[true, true, true, false, true, true, true, false, false, false, false, false, false, false, false, false, false, false, false, false, false, false, false, false, false, false, false, false, false, false, false, false, false] rfl rfl (any_of HT_.out (by kernel_rfl)) (fun _ _ _ h => h) (Or.inl ⟨by rfl, ?_⟩) ?_ ?_; rotate_left
        ·intro w'; go_simp; with_reducible rfl
        rotate_left
        ·simp only [Act.put, yF, yG, yH, i64_w, i32_w]; rfl
        refine pure_ (i := 7) (N := some 42) (v := ?_) (a' := ?_) #[true, true, true, false, true, true, true, true, false, false, false, false, false, false, false, false, false, false, false, false, false, false, false, false, false, false, false, false, false, false, false, false, false] rfl rfl (any_of HT_.out (by kernel_rfl)) (fun _ _ _ h => h) (Or.inl ⟨by rfl, ?_⟩) ?_ ?_; rotate_left
        ·intro w'; go_simp; with_reducible rfl
        rotate_left
        ·simp only [Act.put, yF, yG, yH, i64_w, i32_w]; rfl
        refine pure_ (i := 9) (N := some 44) (v := ?_) (a' := ?_) #[true, true, true, false, true, true, true, true, false, true, false, false, false, false, false, false, false, false, false, false, false, false, false, false, false, false, false, false, false, false, false, false, false] rfl rfl (any_of HT_.out (by kernel_rfl)) (fun _ _ _ h => h) (Or.inl ⟨by rfl, ?_⟩) ?_ ?_; rotate_left
        ·intro w'; go_simp; with_reducible rfl
        rotate_left
        ·simp only [Act.put, yF, yG, yH, i64_w, i32_w]; rfl
        refine pure_ (i := 12) (N := some 47) (v := ?_) (a' := ?_) #[true, true, true, false, true, true, true, true, false, true, false, false, true, false, false, false, false, false, false, false, false, false, false, false, false, false, false, false, false, false, false, false, false] rfl rfl (any_of HT_.out (by kernel_rfl)) (fun _ _ _ h => h) (Or.inl ⟨by rfl, ?_⟩) ?_ ?_; rotate_left
        ·intro w'; go_simp; with_reducible rfl
        rotate_left
        ·simp only [Act.put, yF, yG, yH, i64_w, i32_w]; rfl
        refine pure_ (i := 13) (N := some 48) (v := ?_) (a' := ?_) #[true, true, true, false, true, true, true, true, false, true, false, false, true, true, false, false, false, false, false, false, false, false, false, false, false, false, false, false, false, false, false, false, false] rfl rfl (any_of HT_.out (by kernel_rfl)) (fun _ _ _ h => h) (Or.inl ⟨by rfl, ?_⟩) ?_ ?_; rotate_left
        ·intro w'; go_simp; with_reducible rfl
        rotate_left
        ·simp only [Act.put, yF, yG, yH, i64_w, i32_w]; rfl
        refine pure_ (i := 14) (N := some 49) (v := ?_) (a' := ?_) #[true, true, true, false, true, true, true, true, false, true, false, false, true, true, true, false, false, false, false, false, false, false, false, false, false, false, false, false, false, false, false, false, false] rfl rfl (any_of HT_.out (by kernel_rfl)) (fun _ _ _ h => h) (Or.inl ⟨by rfl, ?_⟩) ?_ ?_; rotate_left
        ·intro w'; go_simp; with_reducible rfl
        rotate_left
        ·simp only [Act.put, yF, yG, yH, i64_w, i32_w]; rfl
        refine pure_ (i := 15) (N := some 50) (v := ?_) (a' := ?_) #[true, true, true, false, true, true, true, true, false, true, false, false, true, true, true, true, false, false, false, false, false, false, false, false, false, false, false, false, false, false, false, false, false] rfl rfl (any_of HT_.out (by kernel_rfl)) (fun _ _ _ h => h) (Or.inl ⟨by rfl, ?_⟩) ?_ ?_; rotate_left
        ·intro w'; go_simp; with_reducible rfl
        rotate_left
        ·simp only [Act.put, yF, yG, yH, i64_w, i32_w]; rfl
        refine pure_ (i := 16) (N := some 51) (v := ?_) (a' := ?_) #[true, true, true, false, true, true, true, true, false, true, false, false, true, true, true, true, true, false, false, false, false, false, false, false, false, false, false, false, false, false, false, false, false] rfl rfl (any_of HT_.out (by kernel_rfl)) (fun _ _ _ h => h) (Or.inl ⟨by rfl, ?_⟩) ?_ ?_; rotate_left
        ·intro w'; go_simp; with_reducible rfl
        rotate_left
        ·simp only [Act.put, yF, yG, yH, i64_w, i32_w]; rfl
        refine pure_ (i := 17) (N := some 52) (v := ?_) (a' := ?_) #[true, true, true, false, true, true, true, true, false, true, false, false, true, true, true, true, true, true, false, false, false, false, false, false, false, false, false, false, false, false, false, false, false] rfl rfl (any_of HT_.out (by kernel_rfl)) (fun _ _ _ h => h) (Or.inl ⟨by rfl, ?_⟩) ?_ ?_; rotate_left
        ·intro w'; go_simp; with_reducible rfl
        rotate_left
        ·simp only [Act.put, yF, yG, yH, i64_w, i32_w]; rfl
        refine pure_ (i := 18) (N := some 53) (v := ?_) (a' := ?_) #[true, true, true, false, true, true, true, true, false, true, false, false, true, true, true, true, true, true, true, false, false, false, false, false, false, false, false, false, false, false, false, false, false] rfl rfl (any_of HT_.out (by kernel_rfl)) (fun _ _ _ h => h) (Or.inl ⟨by rfl, ?_⟩) ?_ ?_; rotate_left
        ·intro w'; go_simp; with_reducible rfl
        rotate_left
        ·simp only [Act.put, yF, yG, yH, i64_w, i32_w]; rfl
        refine pure_ (i := 19) (N := some 54) (v := ?_) (a' := ?_) #[true, true, true, false, true, true, true, true, false, true, false, false, true, true, true, true, true, true, true, true, false, false, false, false, false, false, false, false, false, false, false, false, false] rfl rfl (any_of HT_.out (by kernel_rfl)) (fun _ _ _ h => h) (Or.inl ⟨by rfl, ?_⟩) ?_ ?_; rotate_left
        ·intro w'; go_simp; with_reducible rfl
        rotate_left
        ·simp only [Act.put, yF, yG, yH, i64_w, i32_w]; rfl
        refine pure_ (i := 21) (N := some 56) (v := ?_) (a' := ?_) #[true, true, true, false, true, true, true, true, false, true, false, false, true, true, true, true, true, true, true, true, false, true, false, false, false, false, false, false, false, false, false, false, false] rfl rfl (any_of HT_.out (by kernel_rfl)) (fun _ _ _ h => h) (Or.inl ⟨by rfl, ?_⟩) ?_ ?_; rotate_left
        ·intro w'; go_simp; with_reducible rfl
        rotate_left
        ·simp only [Act.put, yF, yG, yH, i64_w, i32_w]; rfl
        refine pure_ (i := 22) (N := some 57) (v := ?_) (a' := ?_) #[true, true, true, false, true, true, true, true, false, true, false, false, true, true, true, true, true, true, true, true, false, true, true, false, false, false, false, false, false, false, false, false, false] rfl rfl (any_of HT_.out (by kernel_rfl)) (fun _ _ _ h => h) (Or.inl ⟨by rfl, ?_⟩) ?_ ?_; rotate_left
        ·intro w'; go_simp; with_reducible rfl
        rotate_left
        ·simp only [Act.put, yF, yG, yH, i64_w, i32_w]; rfl
        refine pure_ (i := 23) (N := some 58) (v := ?_) (a' := ?_) #[true, true, true, false, true, true, true, true, false, true, false, false, true, true, true, true, true, true, true, true, false, true, true, true, false, false, false, false, false, false, false, false, false] rfl rfl (any_of HT_.out (by kernel_rfl)) (fun _ _ _ h => h) (Or.inl ⟨by rfl, ?_⟩) ?_ ?_; rotate_left
        ·intro w'; go_simp; with_reducible rfl
        rotate_left
        ·simp only [Act.put, yF, yG, yH, i64_w, i32_w]; rfl
        refine pure_ (i := 24) (N := some 59) (v := ?_) (a' := ?_) #[true, true, true, false, true, true, true, true, false, true, false, false, true, true, true, true, true, true, true, true, false, true, true, true, true, false, false, false, false, false, false, false, false] rfl rfl (any_of HT_.out (by kernel_rfl)) (fun _ _ _ h => h) (Or.inl ⟨by rfl, ?_⟩) ?_ ?_; rotate_left
        ·intro w'; go_simp; with_reducible rfl
        rotate_left
        ·simp only [Act.put, yF, yG, yH, i64_w, i32_w]; rfl
        refine pure_ (i := 25) (N := some 60) (v := ?_) (a' := ?_) #[true, true, true, false, true, true, true, true, false, true, false, false, true, true, true, true, true, true, true, true, false, true, true, true, true, true, false, false, false, false, false, false, false] rfl rfl (any_of HT_.out (by kernel_rfl)) (fun _ _ _ h => h) (Or.inl ⟨by rfl, ?_⟩) ?_ ?_; rotate_left
        ·intro w'; go_simp; with_reducible rfl
        rotate_left
        ·simp only [Act.put, yF, yG, yH, i64_w, i32_w]; rfl
        refine take_ (i := 3) (N := some 38) (v := ?_) (a' := ?_) #[true, true, true, true, true, true, true, true, false, true, false, false, true, true, true, true, true, true, true, true, false, true, true, true, true, true, false, false, false, false, false, false, false] rfl rfl (take_ofW HT_.out HW_.out (by kernel_rfl)) (fun _ _ _ h => h) (Or.inl ⟨by rfl, ?_⟩) hHeld ?_ ?_; rotate_left
        ·rintro w' ⟨s0, s1, s2, s3, s4⟩; go_simp; with_reducible rfl
        rotate_left
        ·simp only [Act.put, yF, yG, yH, i64_w, i32_w]; rfl
        refine take_ (i := 8) (N := some 43) (v := ?_) (a' := ?_) #[true, true, true, true, true, true, true, true, true, true, false, false, true, true, true, true, true, true, true, true, false, true, true, true, true, true, false, false, false, false, false, false, false] rfl rfl (take_ofW HT_.out HW_.out (by kernel_rfl)) (fun _ _ _ h => h) (Or.inl ⟨by rfl, ?_⟩) hHeld ?_ ?_; rotate_left
        ·rintro w' ⟨s0, s1, s2, s3, s4⟩; go_simp; with_reducible rfl
        rotate_left
        ·simp only [Act.put, yF, yG, yH, i64_w, i32_w]; rfl
        refine pure_ (i := 10) (N := some 45) (v := ?_) (a' := ?_) #[true, true, true, true, true, true, true, true, true, true, true, false, true, true, true, true, true, true, true, true, false, true, true, true, true, true, false, false, false, false, false, false, false] rfl rfl (any_of HT_.out (by kernel_rfl)) (fun _ _ _ h => h) (Or.inl ⟨by rfl, ?_⟩) ?_ ?_; rotate_left
        ·intro w'; go_simp; with_reducible rfl
        rotate_left
        ·simp only [Act.put, yF, yG, yH, i64_w, i32_w]; rfl
        refine take_ (i := 11) (N := some 46) (v := ?_) (a' := ?_) #[true, true, true, true, true, true, true, true, true, true, true, true, true, true, true, true, true, true, true, true, false, true, true, true, true, true, false, false, false, false, false, false, false] rfl rfl (take_ofW HT_.out HW_.out (by kernel_rfl)) (fun _ _ _ h => h) (Or.inl ⟨by rfl, ?_⟩) hHeld ?_ ?_; rotate_left
        ·rintro w' ⟨s0, s1, s2, s3, s4⟩; go_simp; with_reducible rfl
        rotate_left
        ·simp only [Act.put, yF, yG, yH, i64_w, i32_w]; rfl
        refine take_ (i := 20) (N := some 55) (v := ?_) (a' := ?_) #[true, true, true, true, true, true, true, true, true, true, true, true, true, true, true, true, true, true, true, true, true, true, true, true, true, true, false, false, false, false, false, false, false] rfl rfl (take_ofW HT_.out HW_.out (by kernel_rfl)) (fun _ _ _ h => h) (Or.inl ⟨by rfl, ?_⟩) hHeld ?_ ?_; rotate_left
        ·rintro w' ⟨s0, s1, s2, s3, s4⟩; go_simp; with_reducible rfl
        rotate_left
        ·simp only [Act.put, yF, yG, yH, i64_w, i32_w]; rfl
        refine take_ (i := 26) (N := some 61) (v := ?_) (a' := ?_) #[true, true, true, true, true, true, true, true, true, true, true, true, true, true, true, true, true, true, true, true, true, true, true, true, true, true, true, false, false, false, false, false, false] rfl rfl (take_ofW HT_.out HW_.out (by kernel_rfl)) (fun _ _ _ h => h) (Or.inl ⟨by rfl, ?_⟩) hHeld ?_ ?_; rotate_left
        ·rintro w' ⟨s0, s1, s2, s3, s4⟩; go_simp; with_reducible rfl
        rotate_left
        ·simp only [Act.put, yF, yG, yH, i64_w, i32_w]; rfl
        refine one_ (i := 27) (N := some 62) #[true, true, true, true, true, true, true, true, true, true, true, true, true, true, true, true, true, true, true, true, true, true, true, true, true, true, true, true, false, false, false, false, false] rfl rfl (one_of HT_.out (by kernel_rfl)) (by decide) (fun K hK => ?_)
        refine goes_ Try.func107 (by kernel_rfl) rfl #[.slice A208_0 (rd_L2 t202 x8_2).length c208_0, .int .i64 (rd (rd_L2 t202 (ji18)) x7_2), .int .i64 x7_2, .bool (decide (x8_2 < t197)), .int .i64 (rd l0 (ji23)), .int .i64 (rd l0 (ji26))] (by rfl) rfl rfl (by (try simp only [yK, yL, yM]); first | done | (simp only [hji18, hji23, hji26]; rfl) | (simp only [hji18, hji23, hji26, c30b0]; rfl) | (rw [c30b0]; rfl) | rfl | (simp only [yJ, yI]; rfl)) ?_
        with_reducible refine (spec_l7Back.calls k2 _ _ (rd_L2 t202 x8_2) (rd (rd_L2 t202 (ji18)) x7_2) x7_2 (decide (x8_2 < t197)) (rd l0 (ji23)) (rd l0 (ji26)) t213 t214 _ ?side1 ?side2 A29.out).mono ?_
        (case side1 => repeat (first | exact (by repeat (first | (with_reducible exact HR208_0.out) | (with_reducible refine zR ?_ _) | (with_reducible refine zT ?_ _) | (with_reducible refine zS ?_) | exact HR208_0.out)) | (with_reducible refine zR ?_ _) | (with_reducible refine zT ?_ _) | (with_reducible refine zS ?_)))
        (case side2 => exact HC208_0.out)
        rintro e w' ⟨rfl, ⟨nd, rfl⟩⟩
        refine ⟨_, rfl, ?_⟩
        refine hK.out _ _ ⟨hHeld.1, hHeld.2.1, hHeld.2.2.1, ((HB.out.cell (World.block_lt_of_cell? w _ hw211_0)).trans hw211_0), ((HB.out.cell (World.block_lt_of_cell? w _ hw212_0)).trans hw212_0)⟩ (fun hHeld => ?_)
        clear hK K
        refine norm_ (a' := ?_) ?_ ?_; rotate_left
        ·show Act.put _ (some 62) _ = _; simp only [Act.put, yF, yG, yH, i64_w, i32_w]; rfl
        refine pure_ (i := 28) (N := some 34) (v := ?_) (a' := ?_) #[true, true, true, true, true, true, true, true, true, true, true, true, true, true, true, true, true, true, true, true, true, true, true, true, true, true, true, true, true, false, false, false, false] rfl rfl (any_of HT_.out (by kernel_rfl)) (fun _ _ _ h => h) (Or.inl ⟨by rfl, ?_⟩) ?_ ?_; rotate_left
        ·intro w'; go_simp; with_reducible rfl
        rotate_left
        ·simp only [Act.put, yF, yG, yH, i64_w, i32_w]; rfl
        refine pure_ (i := 29) (N := some 63) (v := ?_) (a' := ?_) #[true, true, true, true, true, true, true, true, true, true, true, true, true, true, true, true, true, true, true, true, true, true, true, true, true, true, true, true, true, true, false, false, false] rfl rfl (any_of HT_.out (by kernel_rfl)) (fun _ _ _ h => h) (Or.inl ⟨by rfl, ?_⟩) ?_ ?_; rotate_left
        ·intro w'; go_simp; with_reducible rfl
        rotate_left
        ·simp only [Act.put, yF, yG, yH, i64_w, i32_w]; rfl
        refine pure_ (i := 30) (N := some 64) (v := ?_) (a' := ?_) #[true, true, true, true, true, true, true, true, true, true, true, true, true, true, true, true, true, true, true, true, true, true, true, true, true, true, true, true, true, true, true, false, false] rfl rfl (any_of HT_.out (by kernel_rfl)) (fun _ _ _ h => h) (Or.inl ⟨by rfl, ?_⟩) ?_ ?_; rotate_left
        ·intro w'; go_simp; with_reducible rfl
        rotate_left
        ·simp only [Act.put, yF, yG, yH, i64_w, i32_w]; rfl
        refine pure_ (i := 31) (N := some 9) (v := ?_) (a' := ?_) #[true, true, true, true, true, true, true, true, true, true, true, true, true, true, true, true, true, true, true, true, true, true, true, true, true, true, true, true, true, true, true, true, false] rfl rfl (any_of HT_.out (by kernel_rfl)) (fun _ _ _ h => h) (Or.inl ⟨by rfl, ?_⟩) ?_ ?_; rotate_left
        ·intro w'; go_simp; with_reducible rfl
        rotate_left
        ·simp only [Act.put, yF, yG, yH, i64_w, i32_w]; rfl
        refine pure_ (i := 32) (N := some 10) (v := ?_) (a' := ?_) #[true, true, true, true, true, true, true, true, true, true, true, true, true, true, true, true, true, true, true, true, true, true, true, true, true, true, true, true, true, true, true, true, true] rfl rfl (any_of HT_.out (by kernel_rfl)) (fun _ _ _ h => h) (Or.inl ⟨by rfl, ?_⟩) ?_ ?_; rotate_left
        ·intro w'; go_simp; with_reducible rfl
        rotate_left
        ·simp only [Act.put, yF, yG, yH, i64_w, i32_w]; rfl
        refine done_ (done_of HT_.out (by kernel_rfl)) ?_
        have p32 : 0 ≤ (x8_2 : Int) := yO (by assumption)
        have q32 : (x8_2 : Int) < ((x6_2.length : Int) : Int) := yO (by assumption)
        obtain ⟨go32, co32, eo32, gb32, gl32, cl32, HG32⟩ := Kd.R_form HO_6.out (by omega)
        (first | cases eo32 | (injection eo32 with ea_ en_ ec_; (first | subst ea_ | (injection ea_ with ea_; subst ea_)); subst ec_; clear en_))
        have GB32 := zO gb32
        have GG32 := zO HG32
        clear gb32 gl32 HG32
        obtain ⟨hx32_0, hf32_0⟩ := Kd.R_celln 0 HO_6.out (x8_2 : Int) p32 q32
        replace p32 := eq_true p32
        replace q32 := eq_true q32
        obtain ⟨hy35_, hz35_⟩ := Kd.R_celln 0 HO_6.out (x8_2 : Int) (yO (by assumption)) (yO (by assumption))
        have HP35 := Kd.R_putg HO_6.out (x8_2 : Int) t214
        try go_wp2_with (first | ((with_reducible refine gate_store (t := 3) (p := 71) rfl ?_); refine store_event (t := 3) (p := 71) (v := ?vo_w36) (w1 := (w33.setCell ⟨go32, (x8_2 : Int).toNat, none⟩ (.int .i64 t214))) ?hg ?ho ?hn ?hr ?_; (case ho => rfl); (case hg => rfl); (case hn => rfl); (case hr => first | (go_simp; done) | (go_simp; rfl)); intro w36 hw; have hg : w33.grownBy w36 (some go32) := (by rw [hw]; exact HP35.2); have hp_ : Kd.R (Kd.int .i64) 3 w36 w.heap.size (fun _ => True) (.slice (some ⟨go32, 0, none⟩) x6_2.length co32) y215 := (by rw [hw, Ny215.out]; exact HP35.1); clear HP35; have n0_ := zO (Kd.N_afterv (v := (.slice (some ⟨go32, 0, none⟩) x6_2.length co32)) (v1 := (.slice (some ⟨go32, 0, none⟩) x6_2.length co32)) (ok := (fun _ => True)) (by (with_reducible repeat (first | apply yB | apply yC | apply yD)); exact Kd.N_mono HO_5.out (fun _ hk => ⟨trivial, hk⟩)) hg (.inl rfl)); have n1_ := zO (hp_); have n2_ := zO (Kd.V_afterv (v := (.slice (some ⟨go32, 0, none⟩) x6_2.length co32)) (v1 := (.slice (some ⟨go32, 0, none⟩) x6_2.length co32)) (ok := (fun k_ => some k_ ≠ (.slice (some ad208) t202.length co34 : Value).ownBlock)) (by (with_reducible repeat (first | apply Kd.V_alloc | apply Kd.V_drewN | apply Kd.V_drew)); exact Kd.V_mono HL208_0.out (fun _ hk => ⟨hk.2, hk.1⟩)) hg (.inl rfl)); have n3_ := zO (Kd.V_afterv (v := (.slice (some ⟨go32, 0, none⟩) x6_2.length co32)) (v1 := (.slice (some ⟨go32, 0, none⟩) x6_2.length co32)) (ok := (fun k_ => some k_ ≠ (.slice (some ad208) t202.length co34 : Value).ownBlock)) (by (with_reducible repeat (first | apply Kd.V_alloc | apply Kd.V_drewN | apply Kd.V_drew)); exact Kd.V_mono HL209_0.out (fun _ hk => ⟨hk.2, hk.1⟩)) hg (.inl rfl)); have n4_ := zO ((by rw [hw]; exact zC (HB.out) GB32.out : Below w.heap.size w w36)); clear HO_5; clear HO_6; clear HL208_0; clear HL209_0; clear HB; have HO_5 := n0_; have HO_6 := n1_; have HL208_0 := n2_; have HL209_0 := n3_; have HB := n4_; clear n0_ n1_ n2_ n3_ n4_; clear hg hw hp_))
        go_roundg k2
        case measure => have := HJ2.out; have := HK2.out; omega
        case rel => exact ⟨(y215), (t213), (wrap64 (x8_2 - 1)), (by first | rfl | (simp; done) | (simp [*]; done)), (by first | rfl | (simp; done) | (simp [*]; done)), H', ⟨by have := HJ2.out; have := HK2.out; omega⟩, ⟨by first | ((with_reducible repeat (first | apply yB | apply yC | apply yD)); exact Kd.N_mono HO_5.out (fun _ hk => hk.2)) | exact yC (Kd.N_mono (Kd.N_afterv (ok := fun _ => True) (Kd.N_mono HO_5.out (fun _ hk => ⟨trivial, hk⟩)) HP35.2 (.inl rfl)) (fun _ hk => hk.2)) _⟩, ⟨by first | ((with_reducible repeat (first | apply zU | apply zW | apply zV)); exact HO_6.out) | (rw [Ny215.out]; exact zW HP35.1 _)⟩, ⟨by first | ((repeat (first | exact HB.out | apply zA | apply zL | apply zB)); done) | exact zC (zL HB.out _) GB32.out⟩⟩
       ·rw [if_neg c30] at H
        have c30b0 : decide (x8_2 < t197) = false := decide_eq_false c30
        clear c30
        have H' := zO H
        clear H
        try go_wp2
        have n0_ := zO (yD HO_5.out)
        have n1_ := zO (zV HO_6.out)
        have n2_ := zO (zB HB.out)
        clear HO_5
        clear HO_6
        clear HB
        have HO_5 := n0_
        have HO_6 := n1_
        have HB := n2_
        clear n0_ n1_ n2_
        obtain ⟨Ao38, co38, eo38⟩ := Kd.N_slice HO_5.out
        (first | subst eo38 | (injection eo38 with f1_ f2_ f3_; have f4_ := f1_.symm; have f5_ := f3_.symm; clear f1_ f2_ f3_; subst f4_; subst f5_))
        have p208 : 0 ≤ (x8_2 : Int) := yO (by assumption)
        have q208 : x8_2 < (t202.length : Int) := yO (by assumption)
        obtain ⟨ad208, A208_0, c208_0, e208, hx208_0, hl208_0, hi208_0⟩ := at_L2 (Kd.N_reads' HO_5.out).2.2 x8_2 p208 q208
        cases e208
        obtain ⟨ce208, hce208, hMe208, hcc208⟩ := Kd.N_get HO_5.out [] x8_2 p208 (by first | exact q208 | exact yO (by assumption) | (have e_ := (Kd.N_reads' HO_5.out).1; omega))
        obtain ⟨ua208_0, uc208_0, rfl, ul208_0, ge208_0⟩ := Kd.FK_slice_open hMe208
        have hv208_0 := hcc208 0 _ rfl
        rw [Nat.add_zero, show ((Kd.slice 3 (Kd.int .i64))).sz = 1 from rfl, Nat.mul_one] at hv208_0
        replace hv208_0 := Option.some.inj (hv208_0.symm.trans hx208_0)
        injection hv208_0 with hva_ hvn_ hvc_
        rw [hva_] at ge208_0
        rw [hvc_] at ul208_0
        have HL208_0 := zO (show Kd.V (Kd.int .i64) 3 _ w.heap.size _ _ (rd_L2 t202 x8_2) from Kd.V_mk ul208_0 ge208_0)
        clear hva_ hvn_ hvc_ ge208_0 ul208_0
        clear hcc208 hce208
        have HR208_0 := zO hi208_0
        have HC208_0 := zO hl208_0
        clear hi208_0 hl208_0
        replace p208 := eq_true p208
        replace q208 := eq_true q208
        have p209 : 0 ≤ ((ji18) : Int) := yO (by assumption)
        have q209 : (ji18) < (t202.length : Int) := yO (by assumption)
        obtain ⟨ad209, A209_0, c209_0, e209, hx209_0, hl209_0, hi209_0⟩ := at_L2 (Kd.N_reads' HO_5.out).2.2 (ji18) p209 q209
        obtain rfl : ad208 = ad209 := (by injection e209)
        obtain ⟨ce209, hce209, hMe209, hcc209⟩ := Kd.N_get HO_5.out [] (ji18) p209 (by first | exact q209 | exact yO (by assumption) | (have e_ := (Kd.N_reads' HO_5.out).1; omega))
        obtain ⟨ua209_0, uc209_0, rfl, ul209_0, ge209_0⟩ := Kd.FK_slice_open hMe209
        have hv209_0 := hcc209 0 _ rfl
        rw [Nat.add_zero, show ((Kd.slice 3 (Kd.int .i64))).sz = 1 from rfl, Nat.mul_one] at hv209_0
        replace hv209_0 := Option.some.inj (hv209_0.symm.trans hx209_0)
        injection hv209_0 with hva_ hvn_ hvc_
        rw [hva_] at ge209_0
        rw [hvc_] at ul209_0
        have HL209_0 := zO (show Kd.V (Kd.int .i64) 3 _ w.heap.size _ _ (rd_L2 t202 (ji18)) from Kd.V_mk ul209_0 ge209_0)
        clear hva_ hvn_ hvc_ ge209_0 ul209_0
        clear hcc209 hce209
        have HR209_0 := zO hi209_0
        have HC209_0 := zO hl209_0
        clear hi209_0 hl209_0
        replace p209 := eq_true p209
        replace q209 := eq_true q209
        have p210 : 0 ≤ (x7_2 : Int) := yO (by assumption)
        have q210 : x7_2 < ((rd_L2 t202 (ji18)).length : Int) := yO (by assumption)
        obtain ⟨ad210, e210, hx210_0⟩ := Kd.at_int (by repeat (first | (with_reducible exact HR209_0.out) | (with_reducible refine zR ?_ _) | (with_reducible refine zT ?_ _) | (with_reducible refine zS ?_) | exact HR209_0.out)) x7_2 p210 q210
        cases e210
        replace p210 := eq_true p210
        replace q210 := eq_true q210
        have p211 : 0 ≤ ((ji23) : Int) := yO (by assumption)
        have q211 : (ji23) < (l0.length : Int) := yO (by assumption)
        obtain ⟨ad211, e211, hx211_0⟩ := Kd.at_int HR0.out (ji23) p211 q211
        have hw211_0 := hx211_0
        cases e211
        replace hx211_0 := (HB.out.cell (World.block_lt_of_cell? w _ hx211_0)).trans hx211_0
        replace p211 := eq_true p211
        replace q211 := eq_true q211
        have p212 : 0 ≤ ((ji26) : Int) := yO (by assumption)
        have q212 : (ji26) < (l0.length : Int) := yO (by assumption)
        obtain ⟨ad212, e212, hx212_0⟩ := Kd.at_int HR0.out (ji26) p212 q212
        have hw212_0 := hx212_0
        obtain rfl : ad211 = ad212 := (by injection e212)
        replace hx212_0 := (HB.out.cell (World.block_lt_of_cell? w _ hx212_0)).trans hx212_0
        replace p212 := eq_true p212
        replace q212 := eq_true q212
        refine start_ (n := 33) (S := fun w' => w'.cell? (ad208.add (x8_2).toNat) = some (.slice A208_0 (rd_L2 t202 x8_2).length c208_0) ∧ w'.cell? (ad208.add ((ji18)).toNat) = some (.slice (some ad210) (rd_L2 t202 (ji18)).length c209_0) ∧ w'.cell? (ad210.add (x7_2).toNat) = some (.int .i64 (rd (rd_L2 t202 (ji18)) x7_2)) ∧ w'.cell? (ad211.add ((ji23)).toNat) = some (.int .i64 (rd l0 (ji23))) ∧ w'.cell? (ad211.add ((ji26)).toNat) = some (.int .i64 (rd l0 (ji26)))) (ds := []) #[false, false, false, false, false, false, false, false, false, false, false, false, false, false, false, false, false, false, false, false, false, false, false, false, false, false, false, false, false, false, false, false, false] (by kernel_rfl) rfl rfl ⟨hx208_0, hx209_0, hx210_0, ((HB.out.cell (World.block_lt_of_cell? w _ hw211_0)).trans hw211_0), ((HB.out.cell (World.block_lt_of_cell? w _ hw212_0)).trans hw212_0)⟩ (fun hHeld => ?_); refine with_tabW spec_ViterbiDecode.tab10 spec_ViterbiDecode.bits10 (fun HT_ HW_ => ?_)
        generalize wr.drew = w37 at HO_5 HO_6 HB HL208_0 HL209_0 HR208_0 HR209_0 hx208_0 hx209_0 hx210_0 hx211_0 hx212_0 hHeld ⊢
        refine pure_ (i := 0) (N := some 35) (v := ?_) (a' := ?_) #[true, false, false, false, false, false, false, false, false, false, false, false, false, false, false, false, false, false, false, false, false, false, false, false, false, false, false, false, false, false, false, false, false] rfl rfl (any_of HT_.out (by kernel_rfl)) (fun _ _ _ h => h) (Or.inl ⟨by rfl, ?_⟩) ?_ ?_; rotate_left
        ·intro w'; go_simp; with_reducible rfl
        rotate_left
        ·simp only [Act.put, yF, yG, yH, i64_w, i32_w]; rfl
        refine pure_ (i := 1) (N := some 36) (v := ?_) (a' := ?_) #[true, true, false, false, false, false, false, false, false, false, false, false, false, false, false, false, false, false, false, false, false, false, false, false, false, false, false, false, false, false, false, false, false] rfl rfl (any_of HT_.out (by kernel_rfl)) (fun _ _ _ h => h) (Or.inl ⟨by rfl, ?_⟩) ?_ ?_; rotate_left
        ·intro w'; go_simp; with_reducible rfl
        rotate_left
        ·simp only [Act.put, yF, yG, yH, i64_w, i32_w]; rfl
        refine pure_ (i := 2) (N := some 37) (v := ?_) (a' := ?_) #[true, true, true, false, false, false, false, false, false, false, false, false, false, false, false, false, false, false, false, false, false, false, false, false, false, false, false, false, false, false, false, false, false] rfl rfl (any_of HT_.out (by kernel_rfl)) (fun _ _ _ h => h) (Or.inl ⟨by rfl, ?_⟩) ?_ ?_; rotate_left
        ·intro w'; go_simp; with_reducible rfl
        rotate_left
        ·simp only [Act.put, yF, yG, yH, i64_w, i32_w]; rfl
        refine pure_ (i := 4) (N := some 39) (v := ?_) (a' := ?_) #[true, true, true, false, true, false, false, false, false, false, false, false, false, false, false, false, false, false, false, false, false, false, false, false, false, false, false, false, false, false, false, false, false] rfl rfl (any_of HT_.out (by kernel_rfl)) (fun _ _ _ h => h) (Or.inl ⟨by rfl, ?_⟩) ?_ ?_; rotate_left
        ·intro w'; go_simp; with_reducible rfl
        rotate_left
        ·simp only [Act.put, yF, yG, yH, i64_w, i32_w]; rfl
        refine pure_ (i := 5) (N := some 40) (v := ?_) (a' := ?_) #[true, true, true, false, true, true, false, false, false, false, false, false, false, false, false, false, false, false, false, false, false, false, false, false, false, false, false, false, false, false, false, false, false] rfl rfl (any_of HT_.out (by kernel_rfl)) (fun _ _ _ h => h) (Or.inl ⟨by rfl, ?_⟩) ?_ ?_; rotate_left
        ·intro w'; go_simp; with_reducible rfl
        rotate_left
        ·simp only [Act.put, yF, yG, yH, i64_w, i32_w]; rfl
        refine pure_ (i := 6) (N := some 41) (v := ?_) (a' := ?_) #[true, true, true, false, true, true, true, false, false, false, false, false, false, false, false, false, false, false, false, false, false, false, false, false, false, false, false, false, false, false, false, false, false] rfl rfl (any_of HT_.out (by kernel_rfl)) (fun _ _ _ h => h) (Or.inl ⟨by rfl, ?_⟩) ?_ ?_; rotate_left
        ·intro w'; go_simp; with_reducible rfl
        rotate_left
        ·simp only [Act.put, yF, yG, yH, i64_w, i32_w]; rfl
        refine pure_ (i := 7) (N := some 42) (v := ?_) (a' := ?_) #[true, true, true, false, true, true, true, true, false, false, false, false, false, false, false, false, false, false, false, false, false, false, false, false, false, false, false, false, false, false, false, false, false] rfl rfl (any_of HT_.out (by kernel_rfl)) (fun _ _ _ h => h) (Or.inl ⟨by rfl, ?_⟩) ?_ ?_; rotate_left
        ·intro w'; go_simp; with_reducible rfl
        rotate_left
        ·simp only [Act.put, yF, yG, yH, i64_w, i32_w]; rfl
        refine pure_ (i := 9) (N := some 44) (v := ?_) (a' := ?_) #[true, true, true, false, true, true, true, true, false, true, false, false, false, false, false, false, false, false, false, false, false, false, false, false, false, false, false, false, false, false, false, false, false] rfl rfl (any_of HT_.out (by kernel_rfl)) (fun _ _ _ h => h) (Or.inl ⟨by rfl, ?_⟩) ?_ ?_; rotate_left
        ·intro w'; go_simp; with_reducible rfl
        rotate_left
        ·simp only [Act.put, yF, yG, yH, i64_w, i32_w]; rfl
        refine pure_ (i := 12) (N := some 47) (v := ?_) (a' := ?_) #[true, true, true, false, true, true, true, true, false, true, false, false, true, false, false, false, false, false, false, false, false, false, false, false, false, false, false, false, false, false, false, false, false] rfl rfl (any_of HT_.out (by kernel_rfl)) (fun _ _ _ h => h) (Or.inl ⟨by rfl, ?_⟩) ?_ ?_; rotate_left
        ·intro w'; go_simp; with_reducible rfl
        rotate_left
        ·simp only [Act.put, yF, yG, yH, i64_w, i32_w]; rfl
        refine pure_ (i := 13) (N := some 48) (v := ?_) (a' := ?_) #[true, true, true, false, true, true, true, true, false, true, false, false, true, true, false, false, false, false, false, false, false, false, false, false, false, false, false, false, false, false, false, false, false] rfl rfl (any_of HT_.out (by kernel_rfl)) (fun _ _ _ h => h) (Or.inl ⟨by rfl, ?_⟩) ?_ ?_; rotate_left
        ·intro w'; go_simp; with_reducible rfl
        rotate_left
        ·simp only [Act.put, yF, yG, yH, i64_w, i32_w]; rfl
        refine pure_ (i := 14) (N := some 49) (v := ?_) (a' := ?_) #[true, true, true, false, true, true, true, true, false, true, false, false, true, true, true, false, false, false, false, false, false, false, false, false, false, false, false, false, false, false, false, false, false] rfl rfl (any_of HT_.out (by kernel_rfl)) (fun _ _ _ h => h) (Or.inl ⟨by rfl, ?_⟩) ?_ ?_; rotate_left
        ·intro w'; go_simp; with_reducible rfl
        rotate_left
        ·simp only [Act.put, yF, yG, yH, i64_w, i32_w]; rfl
        refine pure_ (i := 15) (N := some 50) (v := ?_) (a' := ?_) #[true, true, true, false, true, true, true, true, false, true, false, false, true, true, true, true, false, false, false, false, false, false, false, false, false, false, false, false, false, false, false, false, false] rfl rfl (any_of HT_.out (by kernel_rfl)) (fun _ _ _ h => h) (Or.inl ⟨by rfl, ?_⟩) ?_ ?_; rotate_left
        ·intro w'; go_simp; with_reducible rfl
        rotate_left
        ·simp only [Act.put, yF, yG, yH, i64_w, i32_w]; rfl
        refine pure_ (i := 16) (N := some 51) (v := ?_) (a' := ?_) #[true, true, true, false, true, true, true, true, false, true, false, false, true, true, true, true, true, false, false, false, false, false, false, false, false, false, false, false, false, false, false, false, false] rfl rfl (any_of HT_.out (by kernel_rfl)) (fun _ _ _ h => h) (Or.inl ⟨by rfl, ?_⟩) ?_ ?_; rotate_left
        ·intro w'; go_simp; with_reducible rfl
        rotate_left
        ·simp only [Act.put, yF, yG, yH, i64_w, i32_w]; rfl
        refine pure_ (i := 17) (N := some 52) (v := ?_) (a' := ?_) #[true, true, true, false, true, true, true, true, false, true, false, false, true, true, true, true, true, true, false, false, false, false, false, false, false, false, false, false, false, false, false, false, false] rfl rfl (any_of HT_.out (by kernel_rfl)) (fun _ _ _ h => h) (Or.inl ⟨by rfl, ?_⟩) ?_ ?_; rotate_left
        ·intro w'; go_simp; with_reducible rfl
        rotate_left
        ·simp only [Act.put, yF, yG, yH, i64_w, i32_w]; rfl
        refine pure_ (i := 18) (N := some 53) (v := ?_) (a' := ?_) #[true, true, true, false, true, true, true, true, false, true, false, false, true, true, true, true, true, true, true, false, false, false, false, false, false, false, false, false, false, false, false, false, false] rfl rfl (any_of HT_.out (by kernel_rfl)) (fun _ _ _ h => h) (Or.inl ⟨by rfl, ?_⟩) ?_ ?_; rotate_left
        ·intro w'; go_simp; with_reducible rfl
        rotate_left
        ·simp only [Act.put, yF, yG, yH, i64_w, i32_w]; rfl
        refine pure_ (i := 19) (N := some 54) (v := ?_) (a' := ?_) #[true, true, true, false, true, true, true, true, false, true, false, false, true, true, true, true, true, true, true, true, false, false, false, false, false, false, false, false, false, false, false, false, false] rfl rfl (any_of HT_.out (by kernel_rfl)) (fun _ _ _ h => h) (Or.inl ⟨by rfl, ?_⟩) ?_ ?_; rotate_left
        ·intro w'; go_simp; with_reducible rfl
        rotate_left
        ·simp only [Act.put, yF, yG, yH, i64_w, i32_w]; rfl
        refine pure_ (i := 21) (N := some 56) (v := ?_) (a' := ?_) #[true, true, true, false, true, true, true, true, false, true, false, false, true, true, true, true, true, true, true, true, false, true, false, false, false, false, false, false, false, false, false, false, false] rfl rfl (any_of HT_.out (by kernel_rfl)) (fun _ _ _ h => h) (Or.inl ⟨by rfl, ?_⟩) ?_ ?_; rotate_left
        ·intro w'; go_simp; with_reducible rfl
        rotate_left
        ·simp only [Act.put, yF, yG, yH, i64_w, i32_w]; rfl
        refine pure_ (i := 22) (N := some 57) (v := ?_) (a' := ?_) #[true, true, true, false, true, true, true, true, false, true, false, false, true, true, true, true, true, true, true, true, false, true, true, false, false, false, false, false, false, false, false, false, false] rfl rfl (any_of HT_.out (by kernel_rfl)) (fun _ _ _ h => h) (Or.inl ⟨by rfl, ?_⟩) ?_ ?_; rotate_left
        ·intro w'; go_simp; with_reducible rfl
        rotate_left
        ·simp only [Act.put, yF, yG, yH, i64_w, i32_w]; rfl
        refine pure_ (i := 23) (N := some 58) (v := ?_) (a' := ?_) #[true, true, true, false, true, true, true, true, false, true, false, false, true, true, true, true, true, true, true, true, false, true, true, true, false, false, false, false, false, false, false, false, false] rfl rfl (any_of HT_.out (by kernel_rfl)) (fun _ _ _ h => h) (Or.inl ⟨by rfl, ?_⟩) ?_ ?_; rotate_left
        ·intro w'; go_simp; with_reducible rfl
        rotate_left
        ·simp only [Act.put, yF, yG, yH, i64_w, i32_w]; rfl
        refine pure_ (i := 24) (N := some 59) (v := ?_) (a' := ?_) #[true, true, true, false, true, true, true, true, false, true, false, false, true, true, true, true, true, true, true, true, false, true, true, true, true, false, false, false, false, false, false, false, false] rfl rfl (any_of HT_.out (by kernel_rfl)) (fun _ _ _ h => h) (Or.inl ⟨by rfl, ?_⟩) ?_ ?_; rotate_left
        ·intro w'; go_simp; with_reducible rfl
        rotate_left
        ·simp only [Act.put, yF, yG, yH, i64_w, i32_w]; rfl
        refine pure_ (i := 25) (N := some 60) (v := ?_) (a' := ?_) #[true, true, true, false, true, true, true, true, false, true, false, false, true, true, true, true, true, true, true, true, false, true, true, true, true, true, false, false, false, false, false, false, false] rfl rfl (any_of HT_.out (by kernel_rfl)) (fun _ _ _ h => h) (Or.inl ⟨by rfl, ?_⟩) ?_ ?_; rotate_left
        ·intro w'; go_simp; with_reducible rfl
        rotate_left
        ·simp only [Act.put, yF, yG, yH, i64_w, i32_w]; rfl
        refine take_ (i := 3) (N := some 38) (v := ?_) (a' := ?_) #[true, true, true, true, true, true, true, true, false, true, false, false, true, true, true, true, true, true, true, true, false, true, true, true, true, true, false, false, false, false, false, false, false] rfl rfl (take_ofW HT_.out HW_.out (by kernel_rfl)) (fun _ _ _ h => h) (Or.inl ⟨by rfl, ?_⟩) hHeld ?_ ?_; rotate_left
        ·rintro w' ⟨s0, s1, s2, s3, s4⟩; go_simp; with_reducible rfl
        rotate_left
        ·simp only [Act.put, yF, yG, yH, i64_w, i32_w]; rfl
        refine take_ (i := 8) (N := some 43) (v := ?_) (a' := ?_) #[true, true, true, true, true, true, true, true, true, true, false, false, true, true, true, true, true, true, true, true, false, true, true, true, true, true, false, false, false, false, false, false, false] rfl rfl (take_ofW HT_.out HW_.out (by kernel_rfl)) (fun _ _ _ h => h) (Or.inl ⟨by rfl, ?_⟩) hHeld ?_ ?_; rotate_left
        ·rintro w' ⟨s0, s1, s2, s3, s4⟩; go_simp; with_reducible rfl
        rotate_left
        ·simp only [Act.put, yF, yG, yH, i64_w, i32_w]; rfl
        refine pure_ (i := 10) (N := some 45) (v := ?_) (a' := ?_) #[true, true, true, true, true, true, true, true, true, true, true, false, true, true, true, true, true, true, true, true, false, true, true, true, true, true, false, false, false, false, false, false, false] rfl rfl (any_of HT_.out (by kernel_rfl)) (fun _ _ _ h => h) (Or.inl ⟨by rfl, ?_⟩) ?_ ?_; rotate_left
        ·intro w'; go_simp; with_reducible rfl
        rotate_left
        ·simp only [Act.put, yF, yG, yH, i64_w, i32_w]; rfl
        refine take_ (i := 11) (N := some 46) (v := ?_) (a' := ?_) #[true, true, true, true, true, true, true, true, true, true, true, true, true, true, true, true, true, true, true, true, false, true, true, true, true, true, false, false, false, false, false, false, false] rfl rfl (take_ofW HT_.out HW_.out (by kernel_rfl)) (fun _ _ _ h => h) (Or.inl ⟨by rfl, ?_⟩) hHeld ?_ ?_; rotate_left
        ·rintro w' ⟨s0, s1, s2, s3, s4⟩; go_simp; with_reducible rfl
        rotate_left
        ·simp only [Act.put, yF, yG, yH, i64_w, i32_w]; rfl
        refine take_ (i := 20) (N := some 55) (v := ?_) (a' := ?_) #[true, true, true, true, true, true, true, true, true, true, true, true, true, true, true, true, true, true, true, true, true, true, true, true, true, true, false, false, false, false, false, false, false] rfl rfl (take_ofW HT_.out HW_.out (by kernel_rfl)) (fun _ _ _ h => h) (Or.inl ⟨by rfl, ?_⟩) hHeld ?_ ?_; rotate_left
        ·rintro w' ⟨s0, s1, s2, s3, s4⟩; go_simp; with_reducible rfl
        rotate_left
        ·simp only [Act.put, yF, yG, yH, i64_w, i32_w]; rfl
        refine take_ (i := 26) (N := some 61) (v := ?_) (a' := ?_) #[true, true, true, true, true, true, true, true, true, true, true, true, true, true, true, true, true, true, true, true, true, true, true, true, true, true, true, false, false, false, false, false, false] rfl rfl (take_ofW HT_.out HW_.out (by kernel_rfl)) (fun _ _ _ h => h) (Or.inl ⟨by rfl, ?_⟩) hHeld ?_ ?_; rotate_left
        ·rintro w' ⟨s0, s1, s2, s3, s4⟩; go_simp; with_reducible rfl
        rotate_left
        ·simp only [Act.put, yF, yG, yH, i64_w, i32_w]; rfl
        refine one_ (i := 27) (N := some 62) #[true, true, true, true, true, true, true, true, true, true, true, true, true, true, true, true, true, true, true, true, true, true, true, true, true, true, true, true, false, false, false, false, false] rfl rfl (one_of HT_.out (by kernel_rfl)) (by decide) (fun K hK => ?_)
        refine goes_ Try.func107 (by kernel_rfl) rfl #[.slice A208_0 (rd_L2 t202 x8_2).length c208_0, .int .i64 (rd (rd_L2 t202 (ji18)) x7_2), .int .i64 x7_2, .bool (decide (x8_2 < t197)), .int .i64 (rd l0 (ji23)), .int .i64 (rd l0 (ji26))] (by rfl) rfl rfl (by (try simp only [yK, yL, yM]); first | done | (simp only [hji18, hji23, hji26]; rfl) | (simp only [hji18, hji23, hji26, c30b0]; rfl) | (rw [c30b0]; rfl) | rfl | (simp only [yJ, yI]; rfl)) ?_
        with_reducible refine (spec_l7Back.calls k2 _ _ (rd_L2 t202 x8_2) (rd (rd_L2 t202 (ji18)) x7_2) x7_2 (decide (x8_2 < t197)) (rd l0 (ji23)) (rd l0 (ji26)) t213 t214 _ ?side1 ?side2 A29.out).mono ?_
        (case side1 => repeat (first | exact (by repeat (first | (with_reducible exact HR208_0.out) | (with_reducible refine zR ?_ _) | (with_reducible refine zT ?_ _) | (with_reducible refine zS ?_) | exact HR208_0.out)) | (with_reducible refine zR ?_ _) | (with_reducible refine zT ?_ _) | (with_reducible refine zS ?_)))
        (case side2 => exact HC208_0.out)
        rintro e w' ⟨rfl, ⟨nd, rfl⟩⟩
        refine ⟨_, rfl, ?_⟩
        refine hK.out _ _ ⟨hHeld.1, hHeld.2.1, hHeld.2.2.1, ((HB.out.cell (World.block_lt_of_cell? w _ hw211_0)).trans hw211_0), ((HB.out.cell (World.block_lt_of_cell? w _ hw212_0)).trans hw212_0)⟩ (fun hHeld => ?_)
        clear hK K
        refine norm_ (a' := ?_) ?_ ?_; rotate_left
        ·show Act.put _ (some 62) _ = _; simp only [Act.put, yF, yG, yH, i64_w, i32_w]; rfl
        refine pure_ (i := 28) (N := some 34) (v := ?_) (a' := ?_) #[true, true, true, true, true, true, true, true, true, true, true, true, true, true, true, true, true, true, true, true, true, true, true, true, true, true, true, true, true, false, false, false, false] rfl rfl (any_of HT_.out (by kernel_rfl)) (fun _ _ _ h => h) (Or.inl ⟨by rfl, ?_⟩) ?_ ?_; rotate_left
        ·intro w'; go_simp; with_reducible rfl
        rotate_left
        ·simp only [Act.put, yF, yG, yH, i64_w, i32_w]; rfl
        refine pure_ (i := 29) (N := some 63) (v := ?_) (a' := ?_) #[true, true, true, true, true, true, true, true, true, true, true, true, true, true, true, true, true, true, true, true, true, true, true, true, true, true, true, true, true, true, false, false, false] rfl rfl (any_of HT_.out (by kernel_rfl)) (fun _ _ _ h => h) (Or.inl ⟨by rfl, ?_⟩) ?_ ?_; rotate_left
        ·intro w'; go_simp; with_reducible rfl
        rotate_left
        ·simp only [Act.put, yF, yG, yH, i64_w, i32_w]; rfl
        refine pure_ (i := 30) (N := some 64) (v := ?_) (a' := ?_) #[true, true, true, true, true, true, true, true, true, true, true, true, true, true, true, true, true, true, true, true, true, true, true, true, true, true, true, true, true, true, true, false, false] rfl rfl (any_of HT_.out (by kernel_rfl)) (fun _ _ _ h => h) (Or.inl ⟨by rfl, ?_⟩) ?_ ?_; rotate_left
        ·intro w'; go_simp; with_reducible rfl
        rotate_left
        ·simp only [Act.put, yF, yG, yH, i64_w, i32_w]; rfl
        refine pure_ (i := 31) (N := some 9) (v := ?_) (a' := ?_) #[true, true, true, true, true, true, true, true, true, true, true, true, true, true, true, true, true, true, true, true, true, true, true, true, true, true, true, true, true, true, true, true, false] rfl rfl (any_of HT_.out (by kernel_rfl)) (fun _ _ _ h => h) (Or.inl ⟨by rfl, ?_⟩) ?_ ?_; rotate_left
        ·intro w'; go_simp; with_reducible rfl
        rotate_left
        ·simp only [Act.put, yF, yG, yH, i64_w, i32_w]; rfl
        refine pure_ (i := 32) (N := some 10) (v := ?_) (a' := ?_) #[true, true, true, true, true, true, true, true, true, true, true, true, true, true, true, true, true, true, true, true, true, true, true, true, true, true, true, true, true, true, true, true, true] rfl rfl (any_of HT_.out (by kernel_rfl)) (fun _ _ _ h => h) (Or.inl ⟨by rfl, ?_⟩) ?_ ?_; rotate_left
        ·intro w'; go_simp; with_reducible rfl
        rotate_left
        ·simp only [Act.put, yF, yG, yH, i64_w, i32_w]; rfl
        refine done_ (done_of HT_.out (by kernel_rfl)) ?_
        try go_wp2
        go_roundg k2
        case measure => have := HJ2.out; have := HK2.out; omega
        case rel => exact ⟨(x6_2), (t213), (wrap64 (x8_2 - 1)), (by first | rfl | (simp; done) | (simp [*]; done)), (by first | rfl | (simp; done) | (simp [*]; done)), H', ⟨by have := HJ2.out; have := HK2.out; omega⟩, ⟨by (with_reducible repeat (first | apply yB | apply yC | apply yD)); exact HO_5.out⟩, ⟨by (with_reducible repeat (first | apply zU | apply zW | apply zV)); exact HO_6.out⟩, ⟨by repeat (first | exact HB.out | apply zA | apply zL | apply zB)⟩⟩
      ·rw [if_neg c15] at H
       have c15b0 : decide (0 ≤ x8_2) = false := decide_eq_false c15
       clear c15
       obtain ⟨ji39, hji39⟩ : ∃ j_ : Int, (wrap64 (t197 + 2)) = j_ := ⟨_, rfl⟩
       replace H : (if 0 ≤ (ji39) then (if (ji39) < (t202.length : Int) then (if 0 < ((rd_L2 t202 (ji39)).length : Int) then (some (x6_2, rd (rd_L2 t202 (ji39)) 0)) else (none)) else (none)) else (none)) = some (r1, r2) := by first | (rw [hji39] at H; exact H) | (simp only [hji39] at H ⊢; exact H)
       have hji39w : (IntKind.i64.wrap (t197 + 2)) = ji39 := (i64_w _).trans hji39
       by_cases c40 : 0 ≤ (ji39)
       case neg => rw [if_neg c40] at H; exact absurd H (by simp)
       rw [if_pos c40] at H
       have c40b0 : decide (0 ≤ (ji39)) = true := decide_eq_true c40
       clear c40
       by_cases c41 : (ji39) < (t202.length : Int)
       case neg => rw [if_neg c41] at H; exact absurd H (by simp)
       rw [if_pos c41] at H
       have c41b0 : decide ((ji39) < (t202.length : Int)) = true := decide_eq_true c41
       clear c41
       by_cases c42 : 0 < ((rd_L2 t202 (ji39)).length : Int)
       case neg => rw [if_neg c42] at H; exact absurd H (by simp)
       rw [if_pos c42] at H
       have c42b0 : decide (0 < ((rd_L2 t202 (ji39)).length : Int)) = true := decide_eq_true c42
       have c42b1 : decide (0 < (rd_L2 t202 (ji39)).length) = true := decide_eq_true (by omega)
       clear c42
       simp only [Option.some.injEq, Prod.mk.injEq] at H
       obtain ⟨rfl, rfl⟩ := H
       try go_wp2
       have n0_ := zO (yD HO_5.out)
       have n1_ := zO (zV HO_6.out)
       have n2_ := zO (zB HB.out)
       clear HO_5
       clear HO_6
       clear HB
       have HO_5 := n0_
       have HO_6 := n1_
       have HB := n2_
       clear n0_ n1_ n2_
       obtain ⟨Ao44, co44, eo44⟩ := Kd.N_slice HO_5.out
       (first | subst eo44 | (injection eo44 with f1_ f2_ f3_; have f4_ := f1_.symm; have f5_ := f3_.symm; clear f1_ f2_ f3_; subst f4_; subst f5_))
       have p216 : 0 ≤ ((ji39) : Int) := yO (by assumption)
       have q216 : (ji39) < (t202.length : Int) := yO (by assumption)
       obtain ⟨ad216, A216_0, c216_0, e216, hx216_0, hl216_0, hi216_0⟩ := at_L2 (Kd.N_reads' HO_5.out).2.2 (ji39) p216 q216
       cases e216
       obtain ⟨ce216, hce216, hMe216, hcc216⟩ := Kd.N_get HO_5.out [] (ji39) p216 (by first | exact q216 | exact yO (by assumption) | (have e_ := (Kd.N_reads' HO_5.out).1; omega))
       obtain ⟨ua216_0, uc216_0, rfl, ul216_0, ge216_0⟩ := Kd.FK_slice_open hMe216
       have hv216_0 := hcc216 0 _ rfl
       rw [Nat.add_zero, show ((Kd.slice 3 (Kd.int .i64))).sz = 1 from rfl, Nat.mul_one] at hv216_0
       replace hv216_0 := Option.some.inj (hv216_0.symm.trans hx216_0)
       injection hv216_0 with hva_ hvn_ hvc_
       rw [hva_] at ge216_0
       rw [hvc_] at ul216_0
       have HL216_0 := zO (show Kd.V (Kd.int .i64) 3 _ w.heap.size _ _ (rd_L2 t202 (ji39)) from Kd.V_mk ul216_0 ge216_0)
       clear hva_ hvn_ hvc_ ge216_0 ul216_0
       clear hcc216 hce216
       have HR216_0 := zO hi216_0
       have HC216_0 := zO hl216_0
       clear hi216_0 hl216_0
       replace p216 := eq_true p216
       replace q216 := eq_true q216
       have p217 : 0 ≤ (0 : Int) := (by omega)
       have q217 : 0 < ((rd_L2 t202 (ji39)).length : Int) := yO (by assumption)
       obtain ⟨ad217, e217, hx217_0⟩ := Kd.at_int (by repeat (first | (with_reducible exact HR216_0.out) | (with_reducible refine zR ?_ _) | (with_reducible refine zT ?_ _) | (with_reducible refine zS ?_) | exact HR216_0.out)) 0 p217 q217
       cases e217
       have qi217 : (0 < (rd_L2 t202 (ji39)).length) = True := eq_true (by omega)
       (try rw [show ((0 : Int)).toNat = 0 from rfl] at hx217_0)
       (try rw [Addr.add_zero'] at hx217_0)
       replace p217 := eq_true p217
       replace q217 := eq_true q217
       refine start_ (n := 10) (S := fun w' => w'.cell? (ad216.add ((ji39)).toNat) = some (.slice (some ad217) (rd_L2 t202 (ji39)).length c216_0) ∧ w'.cell? ad217 = some (.int .i64 (rd (rd_L2 t202 (ji39)) 0))) (ds := []) #[false, false, false, false, false, false, false, false, false, false] (by kernel_rfl) rfl rfl ⟨hx216_0, hx217_0⟩ (fun hHeld => ?_); refine with_tabW spec_ViterbiDecode.tab14 spec_ViterbiDecode.bits14 (fun HT_ HW_ => ?_)
       generalize wr.drew = w43 at HO_5 HO_6 HB HL216_0 HR216_0 hx216_0 hx217_0 hHeld ⊢
       refine pure_ (i := 0) (N := some 73) (v := ?_) (a' := ?_) #[true, false, false, false, false, false, false, false, false, false] rfl rfl (any_of HT_.out (by kernel_rfl)) (fun _ _ _ h => h) (Or.inl ⟨by rfl, ?_⟩) ?_ ?_; rotate_left
       ·intro w'; go_simp; with_reducible rfl
       rotate_left
       ·simp only [Act.put, yF, yG, yH, i64_w, i32_w]; rfl
       refine pure_ (i := 1) (N := some 74) (v := ?_) (a' := ?_) #[true, true, false, false, false, false, false, false, false, false] rfl rfl (any_of HT_.out (by kernel_rfl)) (fun _ _ _ h => h) (Or.inl ⟨by rfl, ?_⟩) ?_ ?_; rotate_left
       ·intro w'; go_simp; with_reducible rfl
       rotate_left
       ·simp only [Act.put, yF, yG, yH, i64_w, i32_w]; rfl
       refine pure_ (i := 2) (N := some 75) (v := ?_) (a' := ?_) #[true, true, true, false, false, false, false, false, false, false] rfl rfl (any_of HT_.out (by kernel_rfl)) (fun _ _ _ h => h) (Or.inl ⟨by rfl, ?_⟩) ?_ ?_; rotate_left
       ·intro w'; go_simp; with_reducible rfl
       rotate_left
       ·simp only [Act.put, yF, yG, yH, i64_w, i32_w]; rfl
       refine pure_ (i := 3) (N := some 76) (v := ?_) (a' := ?_) #[true, true, true, true, false, false, false, false, false, false] rfl rfl (any_of HT_.out (by kernel_rfl)) (fun _ _ _ h => h) (Or.inl ⟨by rfl, ?_⟩) ?_ ?_; rotate_left
       ·intro w'; go_simp; with_reducible rfl
       rotate_left
       ·simp only [Act.put, yF, yG, yH, i64_w, i32_w]; rfl
       refine pure_ (i := 4) (N := some 77) (v := ?_) (a' := ?_) #[true, true, true, true, true, false, false, false, false, false] rfl rfl (any_of HT_.out (by kernel_rfl)) (fun _ _ _ h => h) (Or.inl ⟨by rfl, ?_⟩) ?_ ?_; rotate_left
       ·intro w'; go_simp; with_reducible rfl
       rotate_left
       ·simp only [Act.put, yF, yG, yH, i64_w, i32_w]; rfl
       refine pure_ (i := 8) (N := some 2) (v := ?_) (a' := ?_) #[true, true, true, true, true, false, false, false, true, false] rfl rfl (any_of HT_.out (by kernel_rfl)) (fun _ _ _ h => h) (Or.inl ⟨by rfl, ?_⟩) ?_ ?_; rotate_left
       ·intro w'; go_simp; with_reducible rfl
       rotate_left
       ·simp only [Act.put, yF, yG, yH, i64_w, i32_w]; rfl
       refine take_ (i := 5) (N := some 78) (v := ?_) (a' := ?_) #[true, true, true, true, true, true, false, false, true, false] rfl rfl (take_ofW HT_.out HW_.out (by kernel_rfl)) (fun _ _ _ h => h) (Or.inl ⟨by rfl, ?_⟩) hHeld ?_ ?_; rotate_left
       ·rintro w' ⟨s0, s1⟩; go_simp; with_reducible rfl
       rotate_left
       ·simp only [Act.put, yF, yG, yH, i64_w, i32_w]; rfl
       refine pure_ (i := 6) (N := some 79) (v := ?_) (a' := ?_) #[true, true, true, true, true, true, true, false, true, false] rfl rfl (any_of HT_.out (by kernel_rfl)) (fun _ _ _ h => h) (Or.inl ⟨by rfl, ?_⟩) ?_ ?_; rotate_left
       ·intro w'; go_simp; with_reducible rfl
       rotate_left
       ·simp only [Act.put, yF, yG, yH, i64_w, i32_w]; rfl
       refine take_ (i := 7) (N := some 80) (v := ?_) (a' := ?_) #[true, true, true, true, true, true, true, true, true, false] rfl rfl (take_ofW HT_.out HW_.out (by kernel_rfl)) (fun _ _ _ h => h) (Or.inl ⟨by rfl, ?_⟩) hHeld ?_ ?_; rotate_left
       ·rintro w' ⟨s0, s1⟩; go_simp; with_reducible rfl
       rotate_left
       ·simp only [Act.put, yF, yG, yH, i64_w, i32_w]; rfl
       refine pure_ (i := 9) (N := some 3) (v := ?_) (a' := ?_) #[true, true, true, true, true, true, true, true, true, true] rfl rfl (any_of HT_.out (by kernel_rfl)) (fun _ _ _ h => h) (Or.inl ⟨by rfl, ?_⟩) ?_ ?_; rotate_left
       ·intro w'; go_simp; with_reducible rfl
       rotate_left
       ·simp only [Act.put, yF, yG, yH, i64_w, i32_w]; rfl
       refine done_ (done_of HT_.out (by kernel_rfl)) ?_
       try go_wp2
       go_ret2
       exact ⟨_, by first | rfl | (simp [errW_none, errW_some] <;> rfl) | (simp only [← hji39]; first | rfl | (simp [errW_none, errW_some] <;> rfl)) | (simp [*, errW_none, errW_some] <;> rfl), by (with_reducible repeat (first | apply zU | apply zW | apply zV)); exact HO_6.out, by repeat (first | exact HB.out | apply zA | apply zL | apply zB)⟩

end Go.Proofs.Ytldbmljooafkcaa.PFnExactReceiveFrame
