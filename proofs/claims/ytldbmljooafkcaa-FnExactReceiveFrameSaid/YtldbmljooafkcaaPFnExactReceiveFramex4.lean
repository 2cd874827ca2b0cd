/- Contracts of Go functions. Conditions: the arguments read as the Lean function's. Written by print2.py, shrink.py (this session's). -/
import Derived.Test.YtldbmljooafkcaaPFnExactReceiveFramex0
import Derived.Test.YtldbmljooafkcaaPFnExactReceiveFramex1
namespace Go.Proofs.Ytldbmljooafkcaa.PFnExactReceiveFrame
open Go.RowKit Go.Proofs.YtldbmljooafkcaaW.PrintWords Go.Proofs.YtldbmljooafkcaaW.PrintLast Go.Proofs.YtldbmljooafkcaaW.PrintMore
open Go.Proofs.YtldbmljooafkcaaW.PrintWords renaming gate_callee → zM
open Go.Proofs.YtldbmljooafkcaaW.PrintWords.Aside0 renaming mk → zO
open Go.Proofs.YtldbmljooafkcaaW.PrintWords.Drawn0 renaming refl → zP, step → zQ
open Option renaming bind_eq_some_iff → yE
open List renaming setIfInBounds_toArray → yF, set_cons_zero → yG, set_cons_succ → yH, length_take → yI, length_drop → yJ, map_toArray → yK, map_cons → yL, map_nil → yM
set_option maxHeartbeats 8000000
set_option maxRecDepth 100000
attribute [local go_sem] max2_int min2_int max_two min_two max_three min_three max_four min_four
set_option linter.unusedVariables false
set_option linter.unusedSimpArgs false

def spec_InputLength.f (a0 : Int) : Option (Int) := if a0 < 0 then (some (-1)) else (if (Int.tmod a0 2) = 0 then ((spec_l1In.f (wrap64 ((wrap64 (Int.tdiv a0 2)) - 2)) 0 1000).bind fun t159 => (if t159 = true then (some (wrap64 ((wrap64 (Int.tdiv a0 2)) - 2))) else (some (-1)))) else (some (-1)))
theorem spec_InputLength.calls (a0 : Int) (r : Int) (w : World) (h : spec_InputLength.f a0 = some r) :
  Calls Try.prog 56 #[.int .i64 a0] w fun e w' => e = .returned (.int .i64 r) ∧ Drawn0 w w' := by
 have H : (if a0 < 0 then (some (-1)) else (if (Int.tmod a0 2) = 0 then ((spec_l1In.f (wrap64 ((wrap64 (Int.tdiv a0 2)) - 2)) 0 1000).bind fun t159 => (if t159 = true then (some (wrap64 ((wrap64 (Int.tdiv a0 2)) - 2))) else (some (-1)))) else (some (-1)))) = some r := h
 clear h
 by_cases c2 : a0 < 0
 ·rw [if_pos c2] at H
  have c2b0 : decide (a0 < 0) = true := decide_eq_true c2
  clear c2
  obtain rfl := Option.some.inj H
  go_enter Try.func56, Try.ntmps56
  go_wp2
  go_ret
  exact ⟨by first | rfl | exact yP _ | (simp; done) | (simp [*]; done), by repeat (first | exact zP _ | apply zQ)⟩
 ·rw [if_neg c2] at H
  have c2b0 : decide (a0 < 0) = false := decide_eq_false c2
  clear c2
  by_cases c3 : (Int.tmod a0 2) = 0
  ·rw [if_pos c3] at H
   have c3b0 : ((Int.tmod a0 2) == 0) = true := beq_iff_eq.mpr c3
   have c3b1 : ((Int.tmod a0 2) != 0) = false := bne_eq_false_iff_eq.mpr c3
   clear c3
   replace H := yE.mp H
   obtain ⟨t159, A40, H⟩ := H
   replace H : (if t159 = true then (some (wrap64 ((wrap64 (Int.tdiv a0 2)) - 2))) else (some (-1))) = some r := H
   have A4 := zO A40
   clear A40
   by_cases c5 : t159 = true
   ·subst c5
    have H1 : (some (wrap64 ((wrap64 (Int.tdiv a0 2)) - 2))) = some r := by rw [if_pos rfl] at H; exact H
    clear H
    have H := H1
    clear H1
    obtain rfl := Option.some.inj H
    go_enter Try.func56, Try.ntmps56
    go_wp2_with (first | (go_at_call 95; (with_reducible refine (spec_l1In.calls (wrap64 ((wrap64 (Int.tdiv a0 2)) - 2)) 0 1000 true _ A4.out).mono ?_); rintro e w' ⟨rfl, ⟨nd, rfl⟩⟩))
    go_ret
    exact ⟨by first | rfl | exact yP _ | (simp; done) | (simp [*]; done), by repeat (first | exact zP _ | apply zQ)⟩
   ·replace c5 := Bool.eq_false_iff.mpr c5
    subst c5
    have H1 : (some (-1)) = some r := by rw [if_neg (show ¬ (false = true) by decide)] at H; exact H
    clear H
    have H := H1
    clear H1
    obtain rfl := Option.some.inj H
    go_enter Try.func56, Try.ntmps56
    go_wp2_with (first | (go_at_call 95; (with_reducible refine (spec_l1In.calls (wrap64 ((wrap64 (Int.tdiv a0 2)) - 2)) 0 1000 false _ A4.out).mono ?_); rintro e w' ⟨rfl, ⟨nd, rfl⟩⟩))
    go_ret
    exact ⟨by first | rfl | exact yP _ | (simp; done) | (simp [*]; done), by repeat (first | exact zP _ | apply zQ)⟩
  ·rw [if_neg c3] at H
   have c3b0 : ((Int.tmod a0 2) == 0) = false := beq_eq_false_iff_ne.mpr c3
   have c3b1 : ((Int.tmod a0 2) != 0) = true := bne_iff_ne.mpr c3
   obtain rfl := Option.some.inj H
   go_enter Try.func56, Try.ntmps56
   go_wp2
   go_ret
   exact ⟨by first | rfl | exact yP _ | (simp; done) | (simp [*]; done), by repeat (first | exact zP _ | apply zQ)⟩

def spec_IsSymbolString.l0 : Nat → List Int → Int → Option (Bool)
 | 0, _, _ => none
 | k + 1, x0, x3 => if x3 < (x0.length : Int) then (if 0 ≤ x3 then ((spec_l1In.f (rd x0 x3) 0 2).bind fun t161 => (if t161 = true then (spec_IsSymbolString.l0 k x0 (wrap64 (x3 + 1))) else (some false))) else (none)) else (some true)
def spec_IsSymbolString.f (k : Nat) (l0 : List Int) : Option (Bool) := spec_IsSymbolString.l0 k l0 0
theorem spec_IsSymbolString.calls (k : Nat) (A0 : Option Addr) (c0 : Nat) (l0 : List Int) (r : Bool) (w : World) (hr0 : Kd.C (Kd.int .i64) w A0 l0.length l0) (hc0 : l0.length ≤ c0) (h : spec_IsSymbolString.f k l0 = some r) :
  Calls Try.prog 57 #[.slice A0 l0.length c0] w fun e w' => e = .returned (.bool r) ∧ Drawn0 w w' := by
 have HR0 := zO hr0
 have HC0 := zO hc0
 clear hr0 hc0
 have H : (spec_IsSymbolString.l0 k l0 0) = some r := h
 clear h
 have H' := zO H
 clear H
 go_enter Try.func57, Try.ntmps57
 go_wp2
 go_loopg [3] k (fun kq v3 w' => ∃ (x3_1 : Int), v3 = .int .i64 x3_1 ∧ Aside0 (spec_IsSymbolString.l0 kq l0 x3_1 = some r) ∧ Aside0 (kq ≤ k) ∧ Drawn0 w w')
 case atStart => exact ⟨(0), (by first | rfl | (simp; done) | (simp [*]; done)), H', ⟨Nat.le_refl _⟩, by repeat (first | exact zP _ | apply zQ)⟩
 case round =>
  clear H'
  obtain ⟨x3_1, rfl, HA, HK1, ⟨m1, rfl⟩⟩ := hrel
  cases gk with
  | zero => exact absurd HA.out (by simp [spec_IsSymbolString.l0])
  | succ k1 =>
   have H := HA.out
   clear HA
   simp only [spec_IsSymbolString.l0] at H
   by_cases c2 : x3_1 < (l0.length : Int)
   ·rw [if_pos c2] at H
    have c2b0 : decide (x3_1 < (l0.length : Int)) = true := decide_eq_true c2
    clear c2
    by_cases c3 : 0 ≤ x3_1
    case neg => rw [if_neg c3] at H; exact absurd H (by simp)
    rw [if_pos c3] at H
    have c3b0 : decide (0 ≤ x3_1) = true := decide_eq_true c3
    clear c3
    replace H := yE.mp H
    obtain ⟨t161, A40, H⟩ := H
    replace H : (if t161 = true then (spec_IsSymbolString.l0 k1 l0 (wrap64 (x3_1 + 1))) else (some false)) = some r := H
    have A4 := zO A40
    clear A40
    by_cases c5 : t161 = true
    ·subst c5
     have H1 : (spec_IsSymbolString.l0 k1 l0 (wrap64 (x3_1 + 1))) = some r := by rw [if_pos rfl] at H; exact H
     clear H
     have H := H1
     clear H1
     have H' := zO H
     clear H
     have p160 : 0 ≤ (x3_1 : Int) := yO (by assumption)
     have q160 : x3_1 < (l0.length : Int) := yO (by assumption)
     obtain ⟨ad160, e160, hx160_0⟩ := Kd.at_int HR0.out x3_1 p160 q160
     cases e160
     replace p160 := eq_true p160
     replace q160 := eq_true q160
     go_wp2_with (first | ((with_reducible refine zM (f := 95) rfl ?_); refine goesL_ (some 14) rfl rfl Try.func95 (by kernel_rfl) rfl #[.int .i64 (rd l0 x3_1), .int .i64 0, .int .i64 2] rfl (by (try simp only [yK, yL, yM]); first | done | rfl | (simp only [yJ, yI]; rfl)) ?_; (with_reducible refine (spec_l1In.calls (rd l0 x3_1) 0 2 true _ A4.out).mono ?_); rintro e w' ⟨rfl, ⟨nd, rfl⟩⟩; refine ⟨_, rfl, ?_⟩))
     go_roundg k1
     case measure => have := HK1.out; omega
     case rel => exact ⟨(wrap64 (x3_1 + 1)), (by first | rfl | (simp; done) | (simp [*]; done)), H', ⟨by have := HK1.out; omega⟩, by repeat (first | exact zP _ | apply zQ)⟩
    ·replace c5 := Bool.eq_false_iff.mpr c5
     subst c5
     have H1 : (some false) = some r := by rw [if_neg (show ¬ (false = true) by decide)] at H; exact H
     clear H
     have H := H1
     clear H1
     obtain rfl := Option.some.inj H
     have p160 : 0 ≤ (x3_1 : Int) := yO (by assumption)
     have q160 : x3_1 < (l0.length : Int) := yO (by assumption)
     obtain ⟨ad160, e160, hx160_0⟩ := Kd.at_int HR0.out x3_1 p160 q160
     cases e160
     replace p160 := eq_true p160
     replace q160 := eq_true q160
     go_wp2_with (first | ((with_reducible refine zM (f := 95) rfl ?_); refine goesL_ (some 14) rfl rfl Try.func95 (by kernel_rfl) rfl #[.int .i64 (rd l0 x3_1), .int .i64 0, .int .i64 2] rfl (by (try simp only [yK, yL, yM]); first | done | rfl | (simp only [yJ, yI]; rfl)) ?_; (with_reducible refine (spec_l1In.calls (rd l0 x3_1) 0 2 false _ A4.out).mono ?_); rintro e w' ⟨rfl, ⟨nd, rfl⟩⟩; refine ⟨_, rfl, ?_⟩))
     go_ret
     exact ⟨by first | rfl | exact yP _ | (simp; done) | (simp [*]; done), by repeat (first | exact zP _ | apply zQ)⟩
   ·rw [if_neg c2] at H
    have c2b0 : decide (x3_1 < (l0.length : Int)) = false := decide_eq_false c2
    clear c2
    obtain rfl := Option.some.inj H
    go_wp2
    go_ret
    exact ⟨by first | rfl | exact yP _ | (simp; done) | (simp [*]; done), by repeat (first | exact zP _ | apply zQ)⟩

def spec_NextState.f (a0 : Int) (a1 : Int) : Option (Int) := (spec_l1In.f a0 0 3).bind fun t162 => (if t162 = true then ((spec_l1In.f a1 0 1).bind fun t163 => (if t163 = true then (some (Go.bits .and .i64 (wrap64 ((wrap64 (2 * a0)) + a1)) 3)) else (some 0))) else (some 0))
theorem spec_NextState.calls (a0 : Int) (a1 : Int) (r : Int) (w : World) (h : spec_NextState.f a0 a1 = some r) :
  Calls Try.prog 114 #[.int .i64 a0, .int .i64 a1] w fun e w' => e = .returned (.int .i64 r) ∧ Drawn0 w w' := by
 have H : ((spec_l1In.f a0 0 3).bind fun t162 => (if t162 = true then ((spec_l1In.f a1 0 1).bind fun t163 => (if t163 = true then (some (Go.bits .and .i64 (wrap64 ((wrap64 (2 * a0)) + a1)) 3)) else (some 0))) else (some 0))) = some r := h
 clear h
 replace H := yE.mp H
 obtain ⟨t162, A30, H⟩ := H
 replace H : (if t162 = true then ((spec_l1In.f a1 0 1).bind fun t163 => (if t163 = true then (some (Go.bits .and .i64 (wrap64 ((wrap64 (2 * a0)) + a1)) 3)) else (some 0))) else (some 0)) = some r := H
 have A3 := zO A30
 clear A30
 by_cases c4 : t162 = true
 ·subst c4
  have H1 : ((spec_l1In.f a1 0 1).bind fun t163 => (if t163 = true then (some (Go.bits .and .i64 (wrap64 ((wrap64 (2 * a0)) + a1)) 3)) else (some 0))) = some r := by rw [if_pos rfl] at H; exact H
  clear H
  have H := H1
  clear H1
  replace H := yE.mp H
  obtain ⟨t163, A50, H⟩ := H
  replace H : (if t163 = true then (some (Go.bits .and .i64 (wrap64 ((wrap64 (2 * a0)) + a1)) 3)) else (some 0)) = some r := H
  have A5 := zO A50
  clear A50
  by_cases c6 : t163 = true
  ·subst c6
   have H1 : (some (Go.bits .and .i64 (wrap64 ((wrap64 (2 * a0)) + a1)) 3)) = some r := by rw [if_pos rfl] at H; exact H
   clear H
   have H := H1
   clear H1
   obtain rfl := Option.some.inj H
   go_enter Try.func114, Try.ntmps114
   go_wp2_with (first | ((with_reducible refine zM (f := 95) rfl ?_); refine goesL_ (some 6) rfl rfl Try.func95 (by kernel_rfl) rfl #[.int .i64 a0, .int .i64 0, .int .i64 3] rfl (by (try simp only [yK, yL, yM]); first | done | rfl | (simp only [yJ, yI]; rfl)) ?_; (with_reducible refine (spec_l1In.calls a0 0 3 true _ A3.out).mono ?_); rintro e w' ⟨rfl, ⟨nd, rfl⟩⟩; refine ⟨_, rfl, ?_⟩) | (go_at_call 95; (with_reducible refine (spec_l1In.calls a1 0 1 true _ A5.out).mono ?_); rintro e w' ⟨rfl, ⟨nd, rfl⟩⟩))
   go_ret
   exact ⟨by first | rfl | exact yP _ | (simp; done) | (simp [*]; done), by repeat (first | exact zP _ | apply zQ)⟩
  ·replace c6 := Bool.eq_false_iff.mpr c6
   subst c6
   have H1 : (some 0) = some r := by rw [if_neg (show ¬ (false = true) by decide)] at H; exact H
   clear H
   have H := H1
   clear H1
   obtain rfl := Option.some.inj H
   go_enter Try.func114, Try.ntmps114
   go_wp2_with (first | ((with_reducible refine zM (f := 95) rfl ?_); refine goesL_ (some 6) rfl rfl Try.func95 (by kernel_rfl) rfl #[.int .i64 a0, .int .i64 0, .int .i64 3] rfl (by (try simp only [yK, yL, yM]); first | done | rfl | (simp only [yJ, yI]; rfl)) ?_; (with_reducible refine (spec_l1In.calls a0 0 3 true _ A3.out).mono ?_); rintro e w' ⟨rfl, ⟨nd, rfl⟩⟩; refine ⟨_, rfl, ?_⟩) | (go_at_call 95; (with_reducible refine (spec_l1In.calls a1 0 1 false _ A5.out).mono ?_); rintro e w' ⟨rfl, ⟨nd, rfl⟩⟩))
   go_ret
   exact ⟨by first | rfl | exact yP _ | (simp; done) | (simp [*]; done), by repeat (first | exact zP _ | apply zQ)⟩
 ·replace c4 := Bool.eq_false_iff.mpr c4
  subst c4
  have H1 : (some 0) = some r := by rw [if_neg (show ¬ (false = true) by decide)] at H; exact H
  clear H
  have H := H1
  clear H1
  obtain rfl := Option.some.inj H
  go_enter Try.func114, Try.ntmps114
  go_wp2_with (first | ((with_reducible refine zM (f := 95) rfl ?_); refine goesL_ (some 6) rfl rfl Try.func95 (by kernel_rfl) rfl #[.int .i64 a0, .int .i64 0, .int .i64 3] rfl (by (try simp only [yK, yL, yM]); first | done | rfl | (simp only [yJ, yI]; rfl)) ?_; (with_reducible refine (spec_l1In.calls a0 0 3 false _ A3.out).mono ?_); rintro e w' ⟨rfl, ⟨nd, rfl⟩⟩; refine ⟨_, rfl, ?_⟩))
  go_ret
  exact ⟨by first | rfl | exact yP _ | (simp; done) | (simp [*]; done), by repeat (first | exact zP _ | apply zQ)⟩

def spec_OutputPair.f (a0 : Int) (a1 : Int) : Option (Int × Int) := (spec_l1In.f a0 0 3).bind fun t164 => (if t164 = true then ((spec_l1In.f a1 0 1).bind fun t165 => (if t165 = true then (some (Go.bits .xor .i64 (Go.bits .xor .i64 a1 (Go.bits .and .i64 a0 1)) (a0 / 2), Go.bits .xor .i64 a1 (a0 / 2))) else (some (0, 0)))) else (some (0, 0)))
theorem spec_OutputPair.calls (a0 : Int) (a1 : Int) (r1 : Int) (r2 : Int) (w : World) (h : spec_OutputPair.f a0 a1 = some (r1, r2)) :
  Calls Try.prog 113 #[.int .i64 a0, .int .i64 a1] w fun e w' => e = .returned (.tuple #[.int .i64 r1, .int .i64 r2]) ∧ Drawn0 w w' := by
 have H : ((spec_l1In.f a0 0 3).bind fun t164 => (if t164 = true then ((spec_l1In.f a1 0 1).bind fun t165 => (if t165 = true then (some (Go.bits .xor .i64 (Go.bits .xor .i64 a1 (Go.bits .and .i64 a0 1)) (a0 / 2), Go.bits .xor .i64 a1 (a0 / 2))) else (some (0, 0)))) else (some (0, 0)))) = some (r1, r2) := h
 clear h
 replace H := yE.mp H
 obtain ⟨t164, A30, H⟩ := H
 replace H : (if t164 = true then ((spec_l1In.f a1 0 1).bind fun t165 => (if t165 = true then (some (Go.bits .xor .i64 (Go.bits .xor .i64 a1 (Go.bits .and .i64 a0 1)) (a0 / 2), Go.bits .xor .i64 a1 (a0 / 2))) else (some (0, 0)))) else (some (0, 0))) = some (r1, r2) := H
 have A3 := zO A30
 clear A30
 by_cases c4 : t164 = true
 ·subst c4
  have H1 : ((spec_l1In.f a1 0 1).bind fun t165 => (if t165 = true then (some (Go.bits .xor .i64 (Go.bits .xor .i64 a1 (Go.bits .and .i64 a0 1)) (a0 / 2), Go.bits .xor .i64 a1 (a0 / 2))) else (some (0, 0)))) = some (r1, r2) := by rw [if_pos rfl] at H; exact H
  clear H
  have H := H1
  clear H1
  replace H := yE.mp H
  obtain ⟨t165, A50, H⟩ := H
  replace H : (if t165 = true then (some (Go.bits .xor .i64 (Go.bits .xor .i64 a1 (Go.bits .and .i64 a0 1)) (a0 / 2), Go.bits .xor .i64 a1 (a0 / 2))) else (some (0, 0))) = some (r1, r2) := H
  have A5 := zO A50
  clear A50
  by_cases c6 : t165 = true
  ·subst c6
   have H1 : (some (Go.bits .xor .i64 (Go.bits .xor .i64 a1 (Go.bits .and .i64 a0 1)) (a0 / 2), Go.bits .xor .i64 a1 (a0 / 2))) = some (r1, r2) := by rw [if_pos rfl] at H; exact H
   clear H
   have H := H1
   clear H1
   simp only [Option.some.injEq, Prod.mk.injEq] at H
   obtain ⟨rfl, rfl⟩ := H
   go_enter Try.func113, Try.ntmps113
   go_wp2_with (first | ((with_reducible refine zM (f := 95) rfl ?_); refine goesL_ (some 7) rfl rfl Try.func95 (by kernel_rfl) rfl #[.int .i64 a0, .int .i64 0, .int .i64 3] rfl (by (try simp only [yK, yL, yM]); first | done | rfl | (simp only [yJ, yI]; rfl)) ?_; (with_reducible refine (spec_l1In.calls a0 0 3 true _ A3.out).mono ?_); rintro e w' ⟨rfl, ⟨nd, rfl⟩⟩; refine ⟨_, rfl, ?_⟩) | (go_at_call 95; (with_reducible refine (spec_l1In.calls a1 0 1 true _ A5.out).mono ?_); rintro e w' ⟨rfl, ⟨nd, rfl⟩⟩))
   go_ret2
   exact ⟨by first | rfl | exact yP _ | (simp; done) | (simp [*]; done), by repeat (first | exact zP _ | apply zQ)⟩
  ·replace c6 := Bool.eq_false_iff.mpr c6
   subst c6
   have H1 : (some (0, 0)) = some (r1, r2) := by rw [if_neg (show ¬ (false = true) by decide)] at H; exact H
   clear H
   have H := H1
   clear H1
   simp only [Option.some.injEq, Prod.mk.injEq] at H
   obtain ⟨rfl, rfl⟩ := H
   go_enter Try.func113, Try.ntmps113
   go_wp2_with (first | ((with_reducible refine zM (f := 95) rfl ?_); refine goesL_ (some 7) rfl rfl Try.func95 (by kernel_rfl) rfl #[.int .i64 a0, .int .i64 0, .int .i64 3] rfl (by (try simp only [yK, yL, yM]); first | done | rfl | (simp only [yJ, yI]; rfl)) ?_; (with_reducible refine (spec_l1In.calls a0 0 3 true _ A3.out).mono ?_); rintro e w' ⟨rfl, ⟨nd, rfl⟩⟩; refine ⟨_, rfl, ?_⟩) | (go_at_call 95; (with_reducible refine (spec_l1In.calls a1 0 1 false _ A5.out).mono ?_); rintro e w' ⟨rfl, ⟨nd, rfl⟩⟩))
   go_ret2
   exact ⟨by first | rfl | exact yP _ | (simp; done) | (simp [*]; done), by repeat (first | exact zP _ | apply zQ)⟩
 ·replace c4 := Bool.eq_false_iff.mpr c4
  subst c4
  have H1 : (some (0, 0)) = some (r1, r2) := by rw [if_neg (show ¬ (false = true) by decide)] at H; exact H
  clear H
  have H := H1
  clear H1
  simp only [Option.some.injEq, Prod.mk.injEq] at H
  obtain ⟨rfl, rfl⟩ := H
  go_enter Try.func113, Try.ntmps113
  go_wp2_with (first | ((with_reducible refine zM (f := 95) rfl ?_); refine goesL_ (some 7) rfl rfl Try.func95 (by kernel_rfl) rfl #[.int .i64 a0, .int .i64 0, .int .i64 3] rfl (by (try simp only [yK, yL, yM]); first | done | rfl | (simp only [yJ, yI]; rfl)) ?_; (with_reducible refine (spec_l1In.calls a0 0 3 false _ A3.out).mono ?_); rintro e w' ⟨rfl, ⟨nd, rfl⟩⟩; refine ⟨_, rfl, ?_⟩))
  go_ret2
  exact ⟨by first | rfl | exact yP _ | (simp; done) | (simp [*]; done), by repeat (first | exact zP _ | apply zQ)⟩

def spec_BranchDistance.j0 : Nat → Int → Int → Int → Bool → Option (Int)
 | 0, _, _, _, _ => none
 | k + 1, x3, x10, x11, x24 => if x24 = true then (if x3 = 2 then (some (wrap64 (x11 + 1))) else (if x3 = x10 then (some (wrap64 (x11 + 1))) else (some (wrap64 ((wrap64 (x11 + 1)) + 1))))) else (if x3 = 2 then (some x11) else (if x3 = x10 then (some x11) else (some (wrap64 (x11 + 1)))))
def spec_BranchDistance.f (k : Nat) (a0 : Int) (a1 : Int) (a2 : Int) (a3 : Int) : Option (Int) := (spec_OutputPair.f a0 a1).bind fun bt166 => (if a2 = 2 then (spec_BranchDistance.j0 k a3 bt166.2 0 false) else (spec_BranchDistance.j0 k a3 bt166.2 0 (a2 != bt166.1)))
theorem spec_BranchDistance.calls (k : Nat) (a0 : Int) (a1 : Int) (a2 : Int) (a3 : Int) (r : Int) (w : World) (h : spec_BranchDistance.f k a0 a1 a2 a3 = some r) :
  Calls Try.prog 152 #[.int .i64 a0, .int .i64 a1, .int .i64 a2, .int .i64 a3] w fun e w' => e = .returned (.int .i64 r) ∧ Drawn0 w w' := by
 have H : ((spec_OutputPair.f a0 a1).bind fun bt166 => (if a2 = 2 then (spec_BranchDistance.j0 k a3 bt166.2 0 false) else (spec_BranchDistance.j0 k a3 bt166.2 0 (a2 != bt166.1)))) = some r := h
 clear h
 replace H := yE.mp H
 obtain ⟨⟨t166, t167⟩, A50, H⟩ := H
 replace H : (if a2 = 2 then (spec_BranchDistance.j0 k a3 t167 0 false) else (spec_BranchDistance.j0 k a3 t167 0 (a2 != t166))) = some r := H
 have A5 := zO A50
 clear A50
 have HC6 := zO H
 clear H
 go_enter Try.func152, Try.ntmps152
 go_upto_region 3 with (first | ((with_reducible refine zM (f := 113) rfl ?_); refine goesL_ (some 15) rfl rfl Try.func113 (by kernel_rfl) rfl #[.int .i64 a0, .int .i64 a1] rfl (by (try simp only [yK, yL, yM]); first | done | rfl | (simp only [yJ, yI]; rfl)) ?_; (with_reducible refine (spec_OutputPair.calls a0 a1 t166 t167 _ A5.out).mono ?_); rintro e w' ⟨rfl, ⟨nd, rfl⟩⟩; refine ⟨_, rfl, ?_⟩))
 (try simp only [Act.put, yF, yG, yH])
 go_cut [24] (fun v24 wc => ∃ (kq : Nat) (x24_5 : Bool), v24 = .bool x24_5 ∧ Aside0 (spec_BranchDistance.j0 kq a3 t167 0 x24_5 = some r) ∧ Aside0 (kq ≤ k) ∧ Drawn0 w wc)
 case first =>
  have H := HC6.out
  clear HC6
  by_cases c7 : a2 = 2
  ·rw [if_pos c7] at H
   have c7b0 : (a2 == 2) = true := beq_iff_eq.mpr c7
   have c7b1 : (a2 != 2) = false := bne_eq_false_iff_eq.mpr c7
   clear c7
   (first | rw [c7b0] | (simp only [i64_w, i32_w]; rw [c7b0]) | skip)
   have H' := zO H
   clear H
   go_wp2
   go_meet
   case rel => exact ⟨_, (false), (by first | rfl | (simp; done) | (simp [*]; done)), H', ⟨by first | omega | exact Nat.le_refl _⟩, by repeat (first | exact zP _ | apply zQ)⟩
  ·rw [if_neg c7] at H
   have c7b0 : (a2 == 2) = false := beq_eq_false_iff_ne.mpr c7
   have c7b1 : (a2 != 2) = true := bne_iff_ne.mpr c7
   (first | rw [c7b0] | (simp only [i64_w, i32_w]; rw [c7b0]) | skip)
   have H' := zO H
   clear H
   go_wp2
   go_meet
   case rel => exact ⟨_, ((a2 != t166)), (by first | rfl | (simp; done) | (simp [*]; done)), H', ⟨by first | omega | exact Nat.le_refl _⟩, by repeat (first | exact zP _ | apply zQ)⟩
 case rest =>
  clear HC6
  try clear c1
  try clear p2
  try clear c7
  try clear c7b0
  try clear c7b1
  obtain ⟨kq, x24_5, rfl, HA, HJ5, ⟨mc5, rfl⟩⟩ := hcut
  cases kq with
  | zero => exact absurd HA.out (by simp [spec_BranchDistance.j0])
  | succ kj5 =>
   have H := HA.out
   clear HA
   simp only [spec_BranchDistance.j0] at H
   by_cases c8 : x24_5 = true
   ·subst c8
    have H1 : (if a3 = 2 then (some (wrap64 (0 + 1))) else (if a3 = t167 then (some (wrap64 (0 + 1))) else (some (wrap64 ((wrap64 (0 + 1)) + 1))))) = some r := by rw [if_pos rfl] at H; exact H
    clear H
    have H := H1
    clear H1
    by_cases c9 : a3 = 2
    ·rw [if_pos c9] at H
     have c9b0 : (a3 == 2) = true := beq_iff_eq.mpr c9
     have c9b1 : (a3 != 2) = false := bne_eq_false_iff_eq.mpr c9
     clear c9
     obtain rfl := Option.some.inj H
     go_wp2
     go_ret
     exact ⟨by first | rfl | exact yP _ | (simp; done) | (simp [*]; done) | (simp [wrap64]; done), by repeat (first | exact zP _ | apply zQ)⟩
    ·rw [if_neg c9] at H
     have c9b0 : (a3 == 2) = false := beq_eq_false_iff_ne.mpr c9
     have c9b1 : (a3 != 2) = true := bne_iff_ne.mpr c9
     by_cases c10 : a3 = t167
     ·rw [if_pos c10] at H
      have c10b0 : (a3 == t167) = true := beq_iff_eq.mpr c10
      have c10b1 : (a3 != t167) = false := bne_eq_false_iff_eq.mpr c10
      clear c10
      obtain rfl := Option.some.inj H
      go_wp2
      go_ret
      exact ⟨by first | rfl | exact yP _ | (simp; done) | (simp [*]; done) | (simp [wrap64]; done), by repeat (first | exact zP _ | apply zQ)⟩
     ·rw [if_neg c10] at H
      have c10b0 : (a3 == t167) = false := beq_eq_false_iff_ne.mpr c10
      have c10b1 : (a3 != t167) = true := bne_iff_ne.mpr c10
      obtain rfl := Option.some.inj H
      go_wp2
      go_ret
      exact ⟨by first | rfl | exact yP _ | (simp; done) | (simp [*]; done) | (simp [wrap64]; done), by repeat (first | exact zP _ | apply zQ)⟩
   ·replace c8 := Bool.eq_false_iff.mpr c8
    subst c8
    have H1 : (if a3 = 2 then (some 0) else (if a3 = t167 then (some 0) else (some (wrap64 (0 + 1))))) = some r := by rw [if_neg (show ¬ (false = true) by decide)] at H; exact H
    clear H
    have H := H1
    clear H1
    by_cases c11 : a3 = 2
    ·rw [if_pos c11] at H
     have c11b0 : (a3 == 2) = true := beq_iff_eq.mpr c11
     have c11b1 : (a3 != 2) = false := bne_eq_false_iff_eq.mpr c11
     clear c11
     obtain rfl := Option.some.inj H
     go_wp2
     go_ret
     exact ⟨by first | rfl | exact yP _ | (simp; done) | (simp [*]; done) | (simp [wrap64]; done), by repeat (first | exact zP _ | apply zQ)⟩
    ·rw [if_neg c11] at H
     have c11b0 : (a3 == 2) = false := beq_eq_false_iff_ne.mpr c11
     have c11b1 : (a3 != 2) = true := bne_iff_ne.mpr c11
     by_cases c12 : a3 = t167
     ·rw [if_pos c12] at H
      have c12b0 : (a3 == t167) = true := beq_iff_eq.mpr c12
      have c12b1 : (a3 != t167) = false := bne_eq_false_iff_eq.mpr c12
      clear c12
      obtain rfl := Option.some.inj H
      go_wp2
      go_ret
      exact ⟨by first | rfl | exact yP _ | (simp; done) | (simp [*]; done) | (simp [wrap64]; done), by repeat (first | exact zP _ | apply zQ)⟩
     ·rw [if_neg c12] at H
      have c12b0 : (a3 == t167) = false := beq_eq_false_iff_ne.mpr c12
      have c12b1 : (a3 != t167) = true := bne_iff_ne.mpr c12
      obtain rfl := Option.some.inj H
      go_wp2
      go_ret
      exact ⟨by first | rfl | exact yP _ | (simp; done) | (simp [*]; done) | (simp [wrap64]; done), by repeat (first | exact zP _ | apply zQ)⟩

end Go.Proofs.Ytldbmljooafkcaa.PFnExactReceiveFrame
