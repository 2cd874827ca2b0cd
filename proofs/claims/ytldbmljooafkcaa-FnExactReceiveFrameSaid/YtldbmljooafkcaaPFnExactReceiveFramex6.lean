/- Contracts of Go functions. Conditions: the arguments read as the Lean function's. Written by print2.py, shrink.py (this session's). -/
import Derived.Test.YtldbmljooafkcaaPFnExactReceiveFramex0
import Derived.Test.YtldbmljooafkcaaPFnExactReceiveFramex4
namespace Go.Proofs.Ytldbmljooafkcaa.PFnExactReceiveFrame
open Go.RowKit Go.Proofs.YtldbmljooafkcaaW.PrintWords Go.Proofs.YtldbmljooafkcaaW.PrintLast Go.Proofs.YtldbmljooafkcaaW.PrintMore
open Go.Proofs.YtldbmljooafkcaaW.PrintWords.Aside0 renaming mk → zO
open Go.Proofs.YtldbmljooafkcaaW.PrintWords.Drawn0 renaming refl → zP, step → zQ
open Option renaming bind_eq_some_iff → yE
open Go.World renaming drewN_drewN → yN
set_option maxHeartbeats 8000000
set_option maxRecDepth 100000
attribute [local go_sem] max2_int min2_int max_two min_two max_three min_three max_four min_four
set_option linter.unusedVariables false
set_option linter.unusedSimpArgs false

mutual
def spec_l7Back.l0 : Nat → List Int → Int → Int → Bool → Int → Int → Int → Int → Option (Int × Int)
 | 0, _, _, _, _, _, _, _, _ => none
 | k + 1, x0, x1, x2, x3, x4, x5, x14, x15 => if x15 < 4 then (if 0 ≤ x15 then (if x15 < (x0.length : Int) then (if (rd x0 x15) < 0 then (spec_l7Back.j1 k x0 x1 x2 x3 x4 x5 x14 x15 true) else (if x14 = 1 then (if x3 = true then ((spec_NextState.f x15 x14).bind fun t193 => (spec_l7Back.j1 k x0 x1 x2 x3 x4 x5 x14 x15 (t193 != x2))) else (spec_l7Back.j1 k x0 x1 x2 x3 x4 x5 x14 x15 true)) else ((spec_NextState.f x15 x14).bind fun t194 => (spec_l7Back.j1 k x0 x1 x2 x3 x4 x5 x14 x15 (t194 != x2))))) else (none)) else (none)) else (some (0, 0))
def spec_l7Back.j1 : Nat → List Int → Int → Int → Bool → Int → Int → Int → Int → Bool → Option (Int × Int)
 | 0, _, _, _, _, _, _, _, _, _ => none
 | k + 1, x0, x1, x2, x3, x4, x5, x14, x15, x41 => if x41 = true then (spec_l7Back.l0 k x0 x1 x2 x3 x4 x5 x14 (wrap64 (x15 + 1))) else (if 0 ≤ x15 then (if x15 < (x0.length : Int) then ((spec_BranchDistance.f k x15 x14 x4 x5).bind fun t196 => (if (wrap64 ((rd x0 x15) + t196)) = x1 then (some (x15, x14)) else (spec_l7Back.l0 k x0 x1 x2 x3 x4 x5 x14 (wrap64 (x15 + 1))))) else (none)) else (none))
end
def spec_l7Back.f (k : Nat) (l0 : List Int) (a1 : Int) (a2 : Int) (a3 : Bool) (a4 : Int) (a5 : Int) : Option (Int × Int) := spec_l7Back.l0 k l0 a1 a2 a3 a4 a5 (Go.bits .and .i64 a2 1) 0
theorem spec_l7Back.calls (k : Nat) (A0 : Option Addr) (c0 : Nat) (l0 : List Int) (a1 : Int) (a2 : Int) (a3 : Bool) (a4 : Int) (a5 : Int) (r1 : Int) (r2 : Int) (w : World) (hr0 : Kd.C (Kd.int .i64) w A0 l0.length l0) (hc0 : l0.length ≤ c0) (h : spec_l7Back.f k l0 a1 a2 a3 a4 a5 = some (r1, r2)) :
  Calls Try.prog 107 #[.slice A0 l0.length c0, .int .i64 a1, .int .i64 a2, .bool a3, .int .i64 a4, .int .i64 a5] w fun e w' => e = .returned (.tuple #[.int .i64 r1, .int .i64 r2]) ∧ Drawn0 w w' := by
 have HR0 := zO hr0
 have HC0 := zO hc0
 clear hr0 hc0
 have H : (spec_l7Back.l0 k l0 a1 a2 a3 a4 a5 (Go.bits .and .i64 a2 1) 0) = some (r1, r2) := h
 clear h
 have H' := zO H
 clear H
 go_enter Try.func107, Try.ntmps107
 go_wp2
 repeat (go_quiet (fail); try go_wp2)
 go_loopg [15] k (fun kq v15 w' => ∃ (x15_1 : Int), v15 = .int .i64 x15_1 ∧ Aside0 (spec_l7Back.l0 kq l0 a1 a2 a3 a4 a5 (Go.bits .and .i64 a2 1) x15_1 = some (r1, r2)) ∧ Aside0 (kq ≤ k) ∧ Drawn0 w w')
 case atStart => exact ⟨(0), (by first | rfl | (simp; done) | (simp [*]; done)), H', ⟨Nat.le_refl _⟩, by repeat (first | exact zP _ | apply zQ)⟩
 case round =>
  clear H'
  try clear c1
  try clear p2
  obtain ⟨x15_1, rfl, HA, HK1, ⟨m1, rfl⟩⟩ := hrel
  cases gk with
  | zero => exact absurd HA.out (by simp [spec_l7Back.l0])
  | succ k1 =>
   have H := HA.out
   clear HA
   simp only [spec_l7Back.l0] at H
   by_cases c7 : x15_1 < 4
   ·rw [if_pos c7] at H
    have c7b0 : decide (x15_1 < 4) = true := decide_eq_true c7
    clear c7
    have HC8 := zO H
    clear H
    go_upto_region 5 with (fail)
    repeat (go_quiet (fail); go_upto_region 5 with (fail))
    go_cut [41] (fun v41 wc => ∃ (kq : Nat) (x41_7 : Bool), v41 = .bool x41_7 ∧ Aside0 (spec_l7Back.j1 kq l0 a1 a2 a3 a4 a5 (Go.bits .and .i64 a2 1) x15_1 x41_7 = some (r1, r2)) ∧ Aside0 (kq ≤ k1) ∧ Drawn0 w wc)
    case first =>
     have H := HC8.out
     clear HC8
     by_cases c9 : 0 ≤ x15_1
     case neg => rw [if_neg c9] at H; exact absurd H (by simp)
     rw [if_pos c9] at H
     have c9b0 : decide (0 ≤ x15_1) = true := decide_eq_true c9
     clear c9
     (first | rw [c9b0] | (simp only [i64_w, i32_w]; rw [c9b0]) | skip)
     by_cases c10 : x15_1 < (l0.length : Int)
     case neg => rw [if_neg c10] at H; exact absurd H (by simp)
     rw [if_pos c10] at H
     have c10b0 : decide (x15_1 < (l0.length : Int)) = true := decide_eq_true c10
     clear c10
     by_cases c11 : (rd l0 x15_1) < 0
     ·rw [if_pos c11] at H
      have c11b0 : decide ((rd l0 x15_1) < 0) = true := decide_eq_true c11
      clear c11
      have H' := zO H
      clear H
      have p192 : 0 ≤ (x15_1 : Int) := yO (by assumption)
      have q192 : x15_1 < (l0.length : Int) := yO (by assumption)
      obtain ⟨ad192, e192, hx192_0⟩ := Kd.at_int HR0.out x15_1 p192 q192
      cases e192
      replace p192 := eq_true p192
      replace q192 := eq_true q192
      go_wp2
      repeat (go_quiet (fail); try go_wp2)
      go_meet
      case rel => exact ⟨_, (true), (by first | rfl | (simp; done) | (simp [*]; done)), H', ⟨by have := HK1.out; first | omega | exact Nat.le_refl _⟩, by repeat (first | exact zP _ | apply zQ)⟩
     ·rw [if_neg c11] at H
      have c11b0 : decide ((rd l0 x15_1) < 0) = false := decide_eq_false c11
      clear c11
      by_cases c12 : (Go.bits .and .i64 a2 1) = 1
      ·rw [if_pos c12] at H
       have c12b0 : ((Go.bits .and .i64 a2 1) == 1) = true := beq_iff_eq.mpr c12
       have c12b1 : ((Go.bits .and .i64 a2 1) != 1) = false := bne_eq_false_iff_eq.mpr c12
       clear c12
       by_cases c13 : a3 = true
       ·subst c13
        have H1 : ((spec_NextState.f x15_1 (Go.bits .and .i64 a2 1)).bind fun t193 => (spec_l7Back.j1 k1 l0 a1 a2 true a4 a5 (Go.bits .and .i64 a2 1) x15_1 (t193 != a2))) = some (r1, r2) := by rw [if_pos rfl] at H; exact H
        clear H
        have H := H1
        clear H1
        replace H := yE.mp H
        obtain ⟨t193, A140, H⟩ := H
        replace H : (spec_l7Back.j1 k1 l0 a1 a2 true a4 a5 (Go.bits .and .i64 a2 1) x15_1 (t193 != a2)) = some (r1, r2) := H
        have A14 := zO A140
        clear A140
        have H' := zO H
        clear H
        have p192 : 0 ≤ (x15_1 : Int) := yO (by assumption)
        have q192 : x15_1 < (l0.length : Int) := yO (by assumption)
        obtain ⟨ad192, e192, hx192_0⟩ := Kd.at_int HR0.out x15_1 p192 q192
        cases e192
        replace p192 := eq_true p192
        replace q192 := eq_true q192
        go_wp2_with (first | (go_at_call 114; (with_reducible refine (spec_NextState.calls x15_1 (Go.bits .and .i64 a2 1) t193 _ A14.out).mono ?_); rintro e w' ⟨rfl, ⟨nd, rfl⟩⟩; (try first | exact ⟨rfl, _, yN _ _ _⟩ | exact ⟨rfl, _, yQ _ _ _ _⟩)))
        repeat (go_quiet (first | (go_at_call 114; (with_reducible refine (spec_NextState.calls x15_1 (Go.bits .and .i64 a2 1) t193 _ A14.out).mono ?_); rintro e w' ⟨rfl, ⟨nd, rfl⟩⟩; (try first | exact ⟨rfl, _, yN _ _ _⟩ | exact ⟨rfl, _, yQ _ _ _ _⟩))); try go_wp2_with (first | (go_at_call 114; (with_reducible refine (spec_NextState.calls x15_1 (Go.bits .and .i64 a2 1) t193 _ A14.out).mono ?_); rintro e w' ⟨rfl, ⟨nd, rfl⟩⟩; (try first | exact ⟨rfl, _, yN _ _ _⟩ | exact ⟨rfl, _, yQ _ _ _ _⟩))))
        go_meet
        case rel => exact ⟨_, ((t193 != a2)), (by first | rfl | (simp; done) | (simp [*]; done)), H', ⟨by have := HK1.out; first | omega | exact Nat.le_refl _⟩, by repeat (first | exact zP _ | apply zQ)⟩
       ·replace c13 := Bool.eq_false_iff.mpr c13
        subst c13
        have H1 : (spec_l7Back.j1 k1 l0 a1 a2 false a4 a5 (Go.bits .and .i64 a2 1) x15_1 true) = some (r1, r2) := by rw [if_neg (show ¬ (false = true) by decide)] at H; exact H
        clear H
        have H := H1
        clear H1
        have H' := zO H
        clear H
        have p192 : 0 ≤ (x15_1 : Int) := yO (by assumption)
        have q192 : x15_1 < (l0.length : Int) := yO (by assumption)
        obtain ⟨ad192, e192, hx192_0⟩ := Kd.at_int HR0.out x15_1 p192 q192
        cases e192
        replace p192 := eq_true p192
        replace q192 := eq_true q192
        go_wp2
        repeat (go_quiet (fail); try go_wp2)
        go_meet
        case rel => exact ⟨_, (true), (by first | rfl | (simp; done) | (simp [*]; done)), H', ⟨by have := HK1.out; first | omega | exact Nat.le_refl _⟩, by repeat (first | exact zP _ | apply zQ)⟩
      ·rw [if_neg c12] at H
       have c12b0 : ((Go.bits .and .i64 a2 1) == 1) = false := beq_eq_false_iff_ne.mpr c12
       have c12b1 : ((Go.bits .and .i64 a2 1) != 1) = true := bne_iff_ne.mpr c12
       replace H := yE.mp H
       obtain ⟨t194, A150, H⟩ := H
       replace H : (spec_l7Back.j1 k1 l0 a1 a2 a3 a4 a5 (Go.bits .and .i64 a2 1) x15_1 (t194 != a2)) = some (r1, r2) := H
       have A15 := zO A150
       clear A150
       have H' := zO H
       clear H
       have p192 : 0 ≤ (x15_1 : Int) := yO (by assumption)
       have q192 : x15_1 < (l0.length : Int) := yO (by assumption)
       obtain ⟨ad192, e192, hx192_0⟩ := Kd.at_int HR0.out x15_1 p192 q192
       cases e192
       replace p192 := eq_true p192
       replace q192 := eq_true q192
       go_wp2_with (first | (go_at_call 114; (with_reducible refine (spec_NextState.calls x15_1 (Go.bits .and .i64 a2 1) t194 _ A15.out).mono ?_); rintro e w' ⟨rfl, ⟨nd, rfl⟩⟩; (try first | exact ⟨rfl, _, yN _ _ _⟩ | exact ⟨rfl, _, yQ _ _ _ _⟩)))
       repeat (go_quiet (first | (go_at_call 114; (with_reducible refine (spec_NextState.calls x15_1 (Go.bits .and .i64 a2 1) t194 _ A15.out).mono ?_); rintro e w' ⟨rfl, ⟨nd, rfl⟩⟩; (try first | exact ⟨rfl, _, yN _ _ _⟩ | exact ⟨rfl, _, yQ _ _ _ _⟩))); try go_wp2_with (first | (go_at_call 114; (with_reducible refine (spec_NextState.calls x15_1 (Go.bits .and .i64 a2 1) t194 _ A15.out).mono ?_); rintro e w' ⟨rfl, ⟨nd, rfl⟩⟩; (try first | exact ⟨rfl, _, yN _ _ _⟩ | exact ⟨rfl, _, yQ _ _ _ _⟩))))
       go_meet
       case rel => exact ⟨_, ((t194 != a2)), (by first | rfl | (simp; done) | (simp [*]; done)), H', ⟨by have := HK1.out; first | omega | exact Nat.le_refl _⟩, by repeat (first | exact zP _ | apply zQ)⟩
    case rest =>
     clear HC8
     try clear c1
     try clear p1
     try clear q1
     try clear hx1
     try clear p2
     try clear c7
     try clear c7b0
     try clear c9
     try clear c9b0
     try clear c10
     try clear c10b0
     try clear c11
     try clear c11b0
     try clear c12
     try clear c12b0
     try clear c12b1
     try clear c13
     try clear hx192_0
     try clear p192
     try clear p2
     try clear q192
     obtain ⟨kq, x41_7, rfl, HA, HJ7, ⟨mc7, rfl⟩⟩ := hcut
     cases kq with
     | zero => exact absurd HA.out (by simp [spec_l7Back.j1])
     | succ kj7 =>
      have H := HA.out
      clear HA
      simp only [spec_l7Back.j1] at H
      by_cases c16 : x41_7 = true
      ·subst c16
       have H1 : (spec_l7Back.l0 kj7 l0 a1 a2 a3 a4 a5 (Go.bits .and .i64 a2 1) (wrap64 (x15_1 + 1))) = some (r1, r2) := by rw [if_pos rfl] at H; exact H
       clear H
       have H := H1
       clear H1
       have H' := zO H
       clear H
       go_wp2
       repeat (go_quiet (fail); try go_wp2)
       go_roundg kj7
       case measure => have := HK1.out; have := HJ7.out; omega
       case rel => exact ⟨(wrap64 (x15_1 + 1)), (by first | rfl | (simp; done) | (simp [*]; done)), H', ⟨by have := HK1.out; have := HJ7.out; omega⟩, by repeat (first | exact zP _ | apply zQ)⟩
      ·replace c16 := Bool.eq_false_iff.mpr c16
       subst c16
       have H1 : (if 0 ≤ x15_1 then (if x15_1 < (l0.length : Int) then ((spec_BranchDistance.f kj7 x15_1 (Go.bits .and .i64 a2 1) a4 a5).bind fun t196 => (if (wrap64 ((rd l0 x15_1) + t196)) = a1 then (some (x15_1, (Go.bits .and .i64 a2 1))) else (spec_l7Back.l0 kj7 l0 a1 a2 a3 a4 a5 (Go.bits .and .i64 a2 1) (wrap64 (x15_1 + 1))))) else (none)) else (none)) = some (r1, r2) := by rw [if_neg (show ¬ (false = true) by decide)] at H; exact H
       clear H
       have H := H1
       clear H1
       by_cases c17 : 0 ≤ x15_1
       case neg => rw [if_neg c17] at H; exact absurd H (by simp)
       rw [if_pos c17] at H
       have c17b0 : decide (0 ≤ x15_1) = true := decide_eq_true c17
       clear c17
       by_cases c18 : x15_1 < (l0.length : Int)
       case neg => rw [if_neg c18] at H; exact absurd H (by simp)
       rw [if_pos c18] at H
       have c18b0 : decide (x15_1 < (l0.length : Int)) = true := decide_eq_true c18
       clear c18
       replace H := yE.mp H
       obtain ⟨t196, A190, H⟩ := H
       replace H : (if (wrap64 ((rd l0 x15_1) + t196)) = a1 then (some (x15_1, (Go.bits .and .i64 a2 1))) else (spec_l7Back.l0 kj7 l0 a1 a2 a3 a4 a5 (Go.bits .and .i64 a2 1) (wrap64 (x15_1 + 1)))) = some (r1, r2) := H
       have A19 := zO A190
       clear A190
       by_cases c20 : (wrap64 ((rd l0 x15_1) + t196)) = a1
       ·rw [if_pos c20] at H
        have c20b0 : ((wrap64 ((rd l0 x15_1) + t196)) == a1) = true := beq_iff_eq.mpr c20
        have c20b1 : ((wrap64 ((rd l0 x15_1) + t196)) != a1) = false := bne_eq_false_iff_eq.mpr c20
        clear c20
        simp only [Option.some.injEq, Prod.mk.injEq] at H
        obtain ⟨rfl, rfl⟩ := H
        have p195 : 0 ≤ (x15_1 : Int) := yO (by assumption)
        have q195 : x15_1 < (l0.length : Int) := yO (by assumption)
        obtain ⟨ad195, e195, hx195_0⟩ := Kd.at_int HR0.out x15_1 p195 q195
        cases e195
        replace p195 := eq_true p195
        replace q195 := eq_true q195
        go_wp2_with (first | (go_at_call 152; (with_reducible refine (spec_BranchDistance.calls kj7 x15_1 (Go.bits .and .i64 a2 1) a4 a5 t196 _ A19.out).mono ?_); rintro e w' ⟨rfl, ⟨nd, rfl⟩⟩; (try first | exact ⟨rfl, _, yN _ _ _⟩ | exact ⟨rfl, _, yQ _ _ _ _⟩)))
        repeat (go_quiet (first | (go_at_call 152; (with_reducible refine (spec_BranchDistance.calls kj7 x15_1 (Go.bits .and .i64 a2 1) a4 a5 t196 _ A19.out).mono ?_); rintro e w' ⟨rfl, ⟨nd, rfl⟩⟩; (try first | exact ⟨rfl, _, yN _ _ _⟩ | exact ⟨rfl, _, yQ _ _ _ _⟩))); try go_wp2_with (first | (go_at_call 152; (with_reducible refine (spec_BranchDistance.calls kj7 x15_1 (Go.bits .and .i64 a2 1) a4 a5 t196 _ A19.out).mono ?_); rintro e w' ⟨rfl, ⟨nd, rfl⟩⟩; (try first | exact ⟨rfl, _, yN _ _ _⟩ | exact ⟨rfl, _, yQ _ _ _ _⟩))))
        go_ret2
        exact ⟨by first | rfl | exact yP _ | (simp; done) | (simp [*]; done), by repeat (first | exact zP _ | apply zQ)⟩
       ·rw [if_neg c20] at H
        have c20b0 : ((wrap64 ((rd l0 x15_1) + t196)) == a1) = false := beq_eq_false_iff_ne.mpr c20
        have c20b1 : ((wrap64 ((rd l0 x15_1) + t196)) != a1) = true := bne_iff_ne.mpr c20
        have H' := zO H
        clear H
        have p195 : 0 ≤ (x15_1 : Int) := yO (by assumption)
        have q195 : x15_1 < (l0.length : Int) := yO (by assumption)
        obtain ⟨ad195, e195, hx195_0⟩ := Kd.at_int HR0.out x15_1 p195 q195
        cases e195
        replace p195 := eq_true p195
        replace q195 := eq_true q195
        go_wp2_with (first | (go_at_call 152; (with_reducible refine (spec_BranchDistance.calls kj7 x15_1 (Go.bits .and .i64 a2 1) a4 a5 t196 _ A19.out).mono ?_); rintro e w' ⟨rfl, ⟨nd, rfl⟩⟩; (try first | exact ⟨rfl, _, yN _ _ _⟩ | exact ⟨rfl, _, yQ _ _ _ _⟩)))
        repeat (go_quiet (first | (go_at_call 152; (with_reducible refine (spec_BranchDistance.calls kj7 x15_1 (Go.bits .and .i64 a2 1) a4 a5 t196 _ A19.out).mono ?_); rintro e w' ⟨rfl, ⟨nd, rfl⟩⟩; (try first | exact ⟨rfl, _, yN _ _ _⟩ | exact ⟨rfl, _, yQ _ _ _ _⟩))); try go_wp2_with (first | (go_at_call 152; (with_reducible refine (spec_BranchDistance.calls kj7 x15_1 (Go.bits .and .i64 a2 1) a4 a5 t196 _ A19.out).mono ?_); rintro e w' ⟨rfl, ⟨nd, rfl⟩⟩; (try first | exact ⟨rfl, _, yN _ _ _⟩ | exact ⟨rfl, _, yQ _ _ _ _⟩))))
        go_roundg kj7
        case measure => have := HK1.out; have := HJ7.out; omega
        case rel => exact ⟨(wrap64 (x15_1 + 1)), (by first | rfl | (simp; done) | (simp [*]; done)), H', ⟨by have := HK1.out; have := HJ7.out; omega⟩, by repeat (first | exact zP _ | apply zQ)⟩
   ·rw [if_neg c7] at H
    have c7b0 : decide (x15_1 < 4) = false := decide_eq_false c7
    clear c7
    simp only [Option.some.injEq, Prod.mk.injEq] at H
    obtain ⟨rfl, rfl⟩ := H
    go_wp2
    repeat (go_quiet (fail); try go_wp2)
    go_ret2
    exact ⟨by first | rfl | exact yP _ | (simp; done) | (simp [*]; done), by repeat (first | exact zP _ | apply zQ)⟩

end Go.Proofs.Ytldbmljooafkcaa.PFnExactReceiveFrame
