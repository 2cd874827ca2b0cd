/- Contracts of Go functions. Conditions: the arguments read as the Lean function's. Written by print2.py, shrink.py (this session's). -/
import Derived.Test.YtldbmljooafkcaaPFnFrameErrorsx0
import Derived.Test.YtldbmljooafkcaaPFnFrameErrorsx2
namespace Go.Proofs.Ytldbmljooafkcaa.PFnFrameErrors
open Go.RowKit Go.Proofs.YtldbmljooafkcaaW.PrintWords Go.Proofs.YtldbmljooafkcaaW.PrintLast Go.Proofs.YtldbmljooafkcaaW.PrintMore
open Go.Proofs.YtldbmljooafkcaaW.PrintWords renaming below_alloc → zA, blk_alloc → zF, blk_cell → zH, blk_drewN → zJ, blk_frozen → zK, pw_below_drewN → zL, gate_callee → zM
open Go.Proofs.YtldbmljooafkcaaW.PrintWords.Aside0 renaming mk → zO
open Go.Proofs.YtldbmljooafkcaaW.PrintWords.Drawn0 renaming refl → zP, step → zQ
open Option renaming bind_eq_some_iff → yE
open List renaming length_take → yI, length_drop → yJ, map_toArray → yK, map_cons → yL, map_nil → yM
open Go.World renaming drewN_drewN → yN
set_option maxHeartbeats 8000000
set_option maxRecDepth 100000
attribute [local go_sem] max2_int min2_int max_two min_two max_three min_three max_four min_four
set_option linter.unusedVariables false
set_option linter.unusedSimpArgs false

def impl_InputLength.j0 : Nat → Int → Bool → Option (Int)
  | 0, _, _ => none
  | k + 1, x0, x10 => if x10 = true then (some (-1)) else ((impl_InRange.f (wrap64 ((wrap64 (Int.tdiv x0 2)) - 2)) 0 1000).bind fun t142 => (if t142 = true then (some (wrap64 ((wrap64 (Int.tdiv x0 2)) - 2))) else (some (-1))))
def impl_InputLength.f (k : Nat) (a0 : Int) : Option (Int) := if a0 < 0 then (impl_InputLength.j0 k a0 true) else (impl_InputLength.j0 k a0 ((Int.tmod a0 2) != 0))
theorem impl_InputLength.calls (k : Nat) (a0 : Int) (r : Int) (w : World) (h : impl_InputLength.f k a0 = some r) :
    Calls Try.prog 54 #[.int .i64 a0] w fun e w' => e = .returned (.int .i64 r) ∧ Drawn0 w w' := by
  have H : (if a0 < 0 then (impl_InputLength.j0 k a0 true) else (impl_InputLength.j0 k a0 ((Int.tmod a0 2) != 0))) = some r := h
  clear h
  have HC2 := zO H
  clear H
  go_enter Try.func54, Try.ntmps54
  go_upto_region 1 with (fail)
  go_cut [10] (fun v10 wc => ∃ (kq : Nat) (x10_1 : Bool), v10 = .bool x10_1 ∧ Aside0 (impl_InputLength.j0 kq a0 x10_1 = some r) ∧ Aside0 (kq ≤ k) ∧ Drawn0 w wc)
  case first =>
    have H := HC2.out
    clear HC2
    by_cases c3 : a0 < 0
    · rw [if_pos c3] at H
      have c3b0 : decide (a0 < 0) = true := decide_eq_true c3
      clear c3
      (first | rw [c3b0] | (simp only [i64_w, i32_w]; rw [c3b0]) | skip)
      have H' := zO H
      clear H
      go_wp2
      go_meet
      case rel => exact ⟨_, (true), (by first | rfl | (simp; done) | (simp [*]; done)), H', ⟨by first | omega | exact Nat.le_refl _⟩, by repeat (first | exact zP _ | apply zQ)⟩
    · rw [if_neg c3] at H
      have c3b0 : decide (a0 < 0) = false := decide_eq_false c3
      clear c3
      (first | rw [c3b0] | (simp only [i64_w, i32_w]; rw [c3b0]) | skip)
      have H' := zO H
      clear H
      go_wp2
      go_meet
      case rel => exact ⟨_, (((Int.tmod a0 2) != 0)), (by first | rfl | (simp; done) | (simp [*]; done)), H', ⟨by first | omega | exact Nat.le_refl _⟩, by repeat (first | exact zP _ | apply zQ)⟩
  case rest =>
    clear HC2
    try clear p2
    try clear c3
    try clear c3b0
    obtain ⟨kq, x10_1, rfl, HA, HJ1, ⟨mc1, rfl⟩⟩ := hcut
    cases kq with
    | zero => exact absurd HA.out (by simp [impl_InputLength.j0])
    | succ kj1 =>
      have H := HA.out
      clear HA
      simp only [impl_InputLength.j0] at H
      by_cases c4 : x10_1 = true
      · subst c4
        have H1 : (some (-1)) = some r := by rw [if_pos rfl] at H; exact H
        clear H
        have H := H1
        clear H1
        obtain rfl := Option.some.inj H
        go_wp2
        go_ret
        exact ⟨by first | rfl | exact yP _ | (simp; done) | (simp [*]; done), by repeat (first | exact zP _ | apply zQ)⟩
      · replace c4 := Bool.eq_false_iff.mpr c4
        subst c4
        have H1 : ((impl_InRange.f (wrap64 ((wrap64 (Int.tdiv a0 2)) - 2)) 0 1000).bind fun t142 => (if t142 = true then (some (wrap64 ((wrap64 (Int.tdiv a0 2)) - 2))) else (some (-1)))) = some r := by rw [if_neg (show ¬ (false = true) by decide)] at H; exact H
        clear H
        have H := H1
        clear H1
        replace H := yE.mp H
        obtain ⟨t142, A50, H⟩ := H
        replace H : (if t142 = true then (some (wrap64 ((wrap64 (Int.tdiv a0 2)) - 2))) else (some (-1))) = some r := H
        have A5 := zO A50
        clear A50
        by_cases c6 : t142 = true
        · subst c6
          have H1 : (some (wrap64 ((wrap64 (Int.tdiv a0 2)) - 2))) = some r := by rw [if_pos rfl] at H; exact H
          clear H
          have H := H1
          clear H1
          obtain rfl := Option.some.inj H
          go_wp2_with (first | ((with_reducible refine zM (f := 101) rfl ?_); refine goesL_ (some 15) rfl rfl Try.func101 (by kernel_rfl) rfl #[.int .i64 (wrap64 ((wrap64 (Int.tdiv a0 2)) - 2)), .int .i64 0, .int .i64 1000] rfl (by (try simp only [yK, yL, yM]); first | done | rfl | (simp only [yJ, yI]; rfl)) ?_; (with_reducible refine (impl_InRange.calls (wrap64 ((wrap64 (Int.tdiv a0 2)) - 2)) 0 1000 true _ A5.out).mono ?_); rintro e w' ⟨rfl, ⟨nd, rfl⟩⟩; refine ⟨_, rfl, ?_⟩))
          go_ret
          exact ⟨by first | rfl | exact yP _ | (simp; done) | (simp [*]; done), by repeat (first | exact zP _ | apply zQ)⟩
        · replace c6 := Bool.eq_false_iff.mpr c6
          subst c6
          have H1 : (some (-1)) = some r := by rw [if_neg (show ¬ (false = true) by decide)] at H; exact H
          clear H
          have H := H1
          clear H1
          obtain rfl := Option.some.inj H
          go_wp2_with (first | ((with_reducible refine zM (f := 101) rfl ?_); refine goesL_ (some 15) rfl rfl Try.func101 (by kernel_rfl) rfl #[.int .i64 (wrap64 ((wrap64 (Int.tdiv a0 2)) - 2)), .int .i64 0, .int .i64 1000] rfl (by (try simp only [yK, yL, yM]); first | done | rfl | (simp only [yJ, yI]; rfl)) ?_; (with_reducible refine (impl_InRange.calls (wrap64 ((wrap64 (Int.tdiv a0 2)) - 2)) 0 1000 false _ A5.out).mono ?_); rintro e w' ⟨rfl, ⟨nd, rfl⟩⟩; refine ⟨_, rfl, ?_⟩))
          go_ret
          exact ⟨by first | rfl | exact yP _ | (simp; done) | (simp [*]; done), by repeat (first | exact zP _ | apply zQ)⟩

def impl_IsSymbolString.l0 : Nat → List Int → Int → Int → Option (Bool)
  | 0, _, _, _ => none
  | k + 1, x5, x6, x7 => if x7 < x6 then (if 0 ≤ x7 then (if x7 < (x5.length : Int) then (if (rd x5 x7) = 0 then (impl_IsSymbolString.l0 k x5 x6 (wrap64 (x7 + 1))) else (if (rd x5 x7) = 1 then (impl_IsSymbolString.l0 k x5 x6 (wrap64 (x7 + 1))) else (if (rd x5 x7) = 2 then (impl_IsSymbolString.l0 k x5 x6 (wrap64 (x7 + 1))) else (some false)))) else (none)) else (none)) else (some true)
def impl_IsSymbolString.f (k : Nat) (l0 : List Int) : Option (Bool) := impl_IsSymbolString.l0 k l0 (l0.length : Int) 0
theorem impl_IsSymbolString.calls (k : Nat) (A0 : Option Addr) (c0 : Nat) (l0 : List Int) (r : Bool) (w : World) (hr0 : Kd.C (Kd.int .i64) w A0 l0.length l0) (hc0 : l0.length ≤ c0) (h : impl_IsSymbolString.f k l0 = some r) :
    Calls Try.prog 108 #[.slice A0 l0.length c0] w fun e w' => e = .returned (.bool r) ∧ Drawn0 w w' := by
  have HR0 := zO hr0
  have HC0 := zO hc0
  clear hr0 hc0
  have H : (impl_IsSymbolString.l0 k l0 (l0.length : Int) 0) = some r := h
  clear h
  have H' := zO H
  clear H
  go_enter Try.func108, Try.ntmps108
  go_wp2
  go_loopg [7] k (fun kq v7 w' => ∃ (x7_1 : Int), v7 = .int .i64 x7_1 ∧ Aside0 (impl_IsSymbolString.l0 kq l0 (l0.length : Int) x7_1 = some r) ∧ Aside0 (kq ≤ k) ∧ Drawn0 w w')
  case atStart => exact ⟨(0), (by first | rfl | (simp; done) | (simp [*]; done)), H', ⟨Nat.le_refl _⟩, by repeat (first | exact zP _ | apply zQ)⟩
  case round =>
    clear H'
    try clear c1
    obtain ⟨x7_1, rfl, HA, HK1, ⟨m1, rfl⟩⟩ := hrel
    cases gk with
    | zero => exact absurd HA.out (by simp [impl_IsSymbolString.l0])
    | succ k1 =>
      have H := HA.out
      clear HA
      simp only [impl_IsSymbolString.l0] at H
      by_cases c2 : x7_1 < (l0.length : Int)
      · rw [if_pos c2] at H
        have c2b0 : decide (x7_1 < (l0.length : Int)) = true := decide_eq_true c2
        clear c2
        by_cases c3 : 0 ≤ x7_1
        · rw [if_pos c3] at H
          have c3b0 : decide (0 ≤ x7_1) = true := decide_eq_true c3
          clear c3
          by_cases c4 : x7_1 < (l0.length : Int)
          · rw [if_pos c4] at H
            have c4b0 : decide (x7_1 < (l0.length : Int)) = true := decide_eq_true c4
            clear c4
            by_cases c5 : (rd l0 x7_1) = 0
            · rw [if_pos c5] at H
              have c5b0 : ((rd l0 x7_1) == 0) = true := beq_iff_eq.mpr c5
              have c5b1 : ((rd l0 x7_1) != 0) = false := bne_eq_false_iff_eq.mpr c5
              clear c5
              have H' := zO H
              clear H
              have p143 : 0 ≤ (x7_1 : Int) := yO (by assumption)
              have q143 : x7_1 < (l0.length : Int) := yO (by assumption)
              obtain ⟨ad143, e143, hx143_0⟩ := Kd.at_int HR0.out x7_1 p143 q143
              cases e143
              replace p143 := eq_true p143
              replace q143 := eq_true q143
              go_wp2
              go_roundg k1
              case measure => have := HK1.out; omega
              case rel => exact ⟨(wrap64 (x7_1 + 1)), (by first | rfl | (simp; done) | (simp [*]; done)), H', ⟨by have := HK1.out; omega⟩, by repeat (first | exact zP _ | apply zQ)⟩
            · rw [if_neg c5] at H
              have c5b0 : ((rd l0 x7_1) == 0) = false := beq_eq_false_iff_ne.mpr c5
              have c5b1 : ((rd l0 x7_1) != 0) = true := bne_iff_ne.mpr c5
              by_cases c6 : (rd l0 x7_1) = 1
              · rw [if_pos c6] at H
                have c6b0 : ((rd l0 x7_1) == 1) = true := beq_iff_eq.mpr c6
                have c6b1 : ((rd l0 x7_1) != 1) = false := bne_eq_false_iff_eq.mpr c6
                clear c6
                have H' := zO H
                clear H
                have p143 : 0 ≤ (x7_1 : Int) := yO (by assumption)
                have q143 : x7_1 < (l0.length : Int) := yO (by assumption)
                obtain ⟨ad143, e143, hx143_0⟩ := Kd.at_int HR0.out x7_1 p143 q143
                cases e143
                replace p143 := eq_true p143
                replace q143 := eq_true q143
                go_wp2
                go_roundg k1
                case measure => have := HK1.out; omega
                case rel => exact ⟨(wrap64 (x7_1 + 1)), (by first | rfl | (simp; done) | (simp [*]; done)), H', ⟨by have := HK1.out; omega⟩, by repeat (first | exact zP _ | apply zQ)⟩
              · rw [if_neg c6] at H
                have c6b0 : ((rd l0 x7_1) == 1) = false := beq_eq_false_iff_ne.mpr c6
                have c6b1 : ((rd l0 x7_1) != 1) = true := bne_iff_ne.mpr c6
                by_cases c7 : (rd l0 x7_1) = 2
                · rw [if_pos c7] at H
                  have c7b0 : ((rd l0 x7_1) == 2) = true := beq_iff_eq.mpr c7
                  have c7b1 : ((rd l0 x7_1) != 2) = false := bne_eq_false_iff_eq.mpr c7
                  clear c7
                  have H' := zO H
                  clear H
                  have p143 : 0 ≤ (x7_1 : Int) := yO (by assumption)
                  have q143 : x7_1 < (l0.length : Int) := yO (by assumption)
                  obtain ⟨ad143, e143, hx143_0⟩ := Kd.at_int HR0.out x7_1 p143 q143
                  cases e143
                  replace p143 := eq_true p143
                  replace q143 := eq_true q143
                  go_wp2
                  go_roundg k1
                  case measure => have := HK1.out; omega
                  case rel => exact ⟨(wrap64 (x7_1 + 1)), (by first | rfl | (simp; done) | (simp [*]; done)), H', ⟨by have := HK1.out; omega⟩, by repeat (first | exact zP _ | apply zQ)⟩
                · rw [if_neg c7] at H
                  have c7b0 : ((rd l0 x7_1) == 2) = false := beq_eq_false_iff_ne.mpr c7
                  have c7b1 : ((rd l0 x7_1) != 2) = true := bne_iff_ne.mpr c7
                  obtain rfl := Option.some.inj H
                  have p143 : 0 ≤ (x7_1 : Int) := yO (by assumption)
                  have q143 : x7_1 < (l0.length : Int) := yO (by assumption)
                  obtain ⟨ad143, e143, hx143_0⟩ := Kd.at_int HR0.out x7_1 p143 q143
                  cases e143
                  replace p143 := eq_true p143
                  replace q143 := eq_true q143
                  go_wp2
                  go_ret
                  exact ⟨by first | rfl | exact yP _ | (simp; done) | (simp [*]; done), by repeat (first | exact zP _ | apply zQ)⟩
          · rw [if_neg c4] at H
            exact absurd H (by simp)
        · rw [if_neg c3] at H
          exact absurd H (by simp)
      · rw [if_neg c2] at H
        have c2b0 : decide (x7_1 < (l0.length : Int)) = false := decide_eq_false c2
        clear c2
        obtain rfl := Option.some.inj H
        go_wp2
        go_ret
        exact ⟨by first | rfl | exact yP _ | (simp; done) | (simp [*]; done), by repeat (first | exact zP _ | apply zQ)⟩

def impl_isEncoderInput.f (a0 : Int) (a1 : Int) : Option (Bool) := (impl_InRange.f a0 0 3).bind fun t144 => (if t144 = true then ((impl_InRange.f a1 0 1).bind fun t145 => (some t145)) else (some false))
theorem impl_isEncoderInput.calls (a0 : Int) (a1 : Int) (r : Bool) (w : World) (h : impl_isEncoderInput.f a0 a1 = some r) :
    Calls Try.prog 181 #[.int .i64 a0, .int .i64 a1] w fun e w' => e = .returned (.bool r) ∧ Drawn0 w w' := by
  have H : ((impl_InRange.f a0 0 3).bind fun t144 => (if t144 = true then ((impl_InRange.f a1 0 1).bind fun t145 => (some t145)) else (some false))) = some r := h
  clear h
  replace H := yE.mp H
  obtain ⟨t144, A30, H⟩ := H
  replace H : (if t144 = true then ((impl_InRange.f a1 0 1).bind fun t145 => (some t145)) else (some false)) = some r := H
  have A3 := zO A30
  clear A30
  by_cases c4 : t144 = true
  · subst c4
    have H1 : ((impl_InRange.f a1 0 1).bind fun t145 => (some t145)) = some r := by rw [if_pos rfl] at H; exact H
    clear H
    have H := H1
    clear H1
    replace H := yE.mp H
    obtain ⟨t145, A50, H⟩ := H
    replace H : (some t145) = some r := H
    have A5 := zO A50
    clear A50
    obtain rfl := Option.some.inj H
    go_enter Try.func181, Try.ntmps181
    go_wp2_with (first | ((with_reducible refine zM (f := 101) rfl ?_); refine goesL_ (some 6) rfl rfl Try.func101 (by kernel_rfl) rfl #[.int .i64 a0, .int .i64 0, .int .i64 3] rfl (by (try simp only [yK, yL, yM]); first | done | rfl | (simp only [yJ, yI]; rfl)) ?_; (with_reducible refine (impl_InRange.calls a0 0 3 true _ A3.out).mono ?_); rintro e w' ⟨rfl, ⟨nd, rfl⟩⟩; refine ⟨_, rfl, ?_⟩) | (go_at_call 101; (with_reducible refine (impl_InRange.calls a1 0 1 t145 _ A5.out).mono ?_); rintro e w' ⟨rfl, ⟨nd, rfl⟩⟩))
    go_ret
    exact ⟨by first | rfl | exact yP _ | (simp; done) | (simp [*]; done), by repeat (first | exact zP _ | apply zQ)⟩
  · replace c4 := Bool.eq_false_iff.mpr c4
    subst c4
    have H1 : (some false) = some r := by rw [if_neg (show ¬ (false = true) by decide)] at H; exact H
    clear H
    have H := H1
    clear H1
    obtain rfl := Option.some.inj H
    go_enter Try.func181, Try.ntmps181
    go_wp2_with (first | ((with_reducible refine zM (f := 101) rfl ?_); refine goesL_ (some 6) rfl rfl Try.func101 (by kernel_rfl) rfl #[.int .i64 a0, .int .i64 0, .int .i64 3] rfl (by (try simp only [yK, yL, yM]); first | done | rfl | (simp only [yJ, yI]; rfl)) ?_; (with_reducible refine (impl_InRange.calls a0 0 3 false _ A3.out).mono ?_); rintro e w' ⟨rfl, ⟨nd, rfl⟩⟩; refine ⟨_, rfl, ?_⟩))
    go_ret
    exact ⟨by first | rfl | exact yP _ | (simp; done) | (simp [*]; done), by repeat (first | exact zP _ | apply zQ)⟩

def impl_NextState.f (a0 : Int) (a1 : Int) : Option (Int) := (impl_isEncoderInput.f a0 a1).bind fun t146 => (if t146 = true then (some (Go.bits .and .i64 (wrap64 ((wrap64 (2 * a0)) + a1)) 3)) else (some 0))
theorem impl_NextState.calls (a0 : Int) (a1 : Int) (r : Int) (w : World) (h : impl_NextState.f a0 a1 = some r) :
    Calls Try.prog 153 #[.int .i64 a0, .int .i64 a1] w fun e w' => e = .returned (.int .i64 r) ∧ Drawn0 w w' := by
  have H : ((impl_isEncoderInput.f a0 a1).bind fun t146 => (if t146 = true then (some (Go.bits .and .i64 (wrap64 ((wrap64 (2 * a0)) + a1)) 3)) else (some 0))) = some r := h
  clear h
  replace H := yE.mp H
  obtain ⟨t146, A30, H⟩ := H
  replace H : (if t146 = true then (some (Go.bits .and .i64 (wrap64 ((wrap64 (2 * a0)) + a1)) 3)) else (some 0)) = some r := H
  have A3 := zO A30
  clear A30
  by_cases c4 : t146 = true
  · subst c4
    have H1 : (some (Go.bits .and .i64 (wrap64 ((wrap64 (2 * a0)) + a1)) 3)) = some r := by rw [if_pos rfl] at H; exact H
    clear H
    have H := H1
    clear H1
    obtain rfl := Option.some.inj H
    go_enter Try.func153, Try.ntmps153
    go_wp2_with (first | ((with_reducible refine zM (f := 181) rfl ?_); refine goesL_ (some 7) rfl rfl Try.func181 (by kernel_rfl) rfl #[.int .i64 a0, .int .i64 a1] rfl (by (try simp only [yK, yL, yM]); first | done | rfl | (simp only [yJ, yI]; rfl)) ?_; (with_reducible refine (impl_isEncoderInput.calls a0 a1 true _ A3.out).mono ?_); rintro e w' ⟨rfl, ⟨nd, rfl⟩⟩; refine ⟨_, rfl, ?_⟩))
    go_ret
    exact ⟨by first | rfl | exact yP _ | (simp; done) | (simp [*]; done), by repeat (first | exact zP _ | apply zQ)⟩
  · replace c4 := Bool.eq_false_iff.mpr c4
    subst c4
    have H1 : (some 0) = some r := by rw [if_neg (show ¬ (false = true) by decide)] at H; exact H
    clear H
    have H := H1
    clear H1
    obtain rfl := Option.some.inj H
    go_enter Try.func153, Try.ntmps153
    go_wp2_with (first | ((with_reducible refine zM (f := 181) rfl ?_); refine goesL_ (some 7) rfl rfl Try.func181 (by kernel_rfl) rfl #[.int .i64 a0, .int .i64 a1] rfl (by (try simp only [yK, yL, yM]); first | done | rfl | (simp only [yJ, yI]; rfl)) ?_; (with_reducible refine (impl_isEncoderInput.calls a0 a1 false _ A3.out).mono ?_); rintro e w' ⟨rfl, ⟨nd, rfl⟩⟩; refine ⟨_, rfl, ?_⟩))
    go_ret
    exact ⟨by first | rfl | exact yP _ | (simp; done) | (simp [*]; done), by repeat (first | exact zP _ | apply zQ)⟩

def impl_symbolDistance.f (a0 : Int) (a1 : Int) : Option (Int) := if a0 = 2 then (some 0) else (if a0 = a1 then (some 0) else (some 1))
theorem impl_symbolDistance.calls (a0 : Int) (a1 : Int) (r : Int) (w : World) (h : impl_symbolDistance.f a0 a1 = some r) :
    Calls Try.prog 119 #[.int .i64 a0, .int .i64 a1] w fun e w' => e = .returned (.int .i64 r) ∧ Drawn0 w w' := by
  have H : (if a0 = 2 then (some 0) else (if a0 = a1 then (some 0) else (some 1))) = some r := h
  clear h
  by_cases c3 : a0 = 2
  · rw [if_pos c3] at H
    have c3b0 : (a0 == 2) = true := beq_iff_eq.mpr c3
    have c3b1 : (a0 != 2) = false := bne_eq_false_iff_eq.mpr c3
    clear c3
    obtain rfl := Option.some.inj H
    go_enter Try.func119, Try.ntmps119
    go_wp2
    go_ret
    exact ⟨by first | rfl | exact yP _ | (simp; done) | (simp [*]; done), by repeat (first | exact zP _ | apply zQ)⟩
  · rw [if_neg c3] at H
    have c3b0 : (a0 == 2) = false := beq_eq_false_iff_ne.mpr c3
    have c3b1 : (a0 != 2) = true := bne_iff_ne.mpr c3
    by_cases c4 : a0 = a1
    · rw [if_pos c4] at H
      have c4b0 : (a0 == a1) = true := beq_iff_eq.mpr c4
      have c4b1 : (a0 != a1) = false := bne_eq_false_iff_eq.mpr c4
      clear c4
      obtain rfl := Option.some.inj H
      go_enter Try.func119, Try.ntmps119
      go_wp2
      go_ret
      exact ⟨by first | rfl | exact yP _ | (simp; done) | (simp [*]; done), by repeat (first | exact zP _ | apply zQ)⟩
    · rw [if_neg c4] at H
      have c4b0 : (a0 == a1) = false := beq_eq_false_iff_ne.mpr c4
      have c4b1 : (a0 != a1) = true := bne_iff_ne.mpr c4
      obtain rfl := Option.some.inj H
      go_enter Try.func119, Try.ntmps119
      go_wp2
      go_ret
      exact ⟨by first | rfl | exact yP _ | (simp; done) | (simp [*]; done), by repeat (first | exact zP _ | apply zQ)⟩

def impl_OutputPair.f (a0 : Int) (a1 : Int) : Option (Int × Int) := (impl_isEncoderInput.f a0 a1).bind fun t147 => (if t147 = true then (some (Go.bits .xor .i64 (Go.bits .xor .i64 a1 (Go.bits .and .i64 a0 1)) (a0 / 2), Go.bits .xor .i64 a1 (a0 / 2))) else (some (0, 0)))
theorem impl_OutputPair.calls (a0 : Int) (a1 : Int) (r1 : Int) (r2 : Int) (w : World) (h : impl_OutputPair.f a0 a1 = some (r1, r2)) :
    Calls Try.prog 155 #[.int .i64 a0, .int .i64 a1] w fun e w' => e = .returned (.tuple #[.int .i64 r1, .int .i64 r2]) ∧ Drawn0 w w' := by
  have H : ((impl_isEncoderInput.f a0 a1).bind fun t147 => (if t147 = true then (some (Go.bits .xor .i64 (Go.bits .xor .i64 a1 (Go.bits .and .i64 a0 1)) (a0 / 2), Go.bits .xor .i64 a1 (a0 / 2))) else (some (0, 0)))) = some (r1, r2) := h
  clear h
  replace H := yE.mp H
  obtain ⟨t147, A30, H⟩ := H
  replace H : (if t147 = true then (some (Go.bits .xor .i64 (Go.bits .xor .i64 a1 (Go.bits .and .i64 a0 1)) (a0 / 2), Go.bits .xor .i64 a1 (a0 / 2))) else (some (0, 0))) = some (r1, r2) := H
  have A3 := zO A30
  clear A30
  by_cases c4 : t147 = true
  · subst c4
    have H1 : (some (Go.bits .xor .i64 (Go.bits .xor .i64 a1 (Go.bits .and .i64 a0 1)) (a0 / 2), Go.bits .xor .i64 a1 (a0 / 2))) = some (r1, r2) := by rw [if_pos rfl] at H; exact H
    clear H
    have H := H1
    clear H1
    simp only [Option.some.injEq, Prod.mk.injEq] at H
    obtain ⟨rfl, rfl⟩ := H
    go_enter Try.func155, Try.ntmps155
    go_wp2_with (first | ((with_reducible refine zM (f := 181) rfl ?_); refine goesL_ (some 10) rfl rfl Try.func181 (by kernel_rfl) rfl #[.int .i64 a0, .int .i64 a1] rfl (by (try simp only [yK, yL, yM]); first | done | rfl | (simp only [yJ, yI]; rfl)) ?_; (with_reducible refine (impl_isEncoderInput.calls a0 a1 true _ A3.out).mono ?_); rintro e w' ⟨rfl, ⟨nd, rfl⟩⟩; refine ⟨_, rfl, ?_⟩))
    go_ret2
    exact ⟨by first | rfl | exact yP _ | (simp; done) | (simp [*]; done), by repeat (first | exact zP _ | apply zQ)⟩
  · replace c4 := Bool.eq_false_iff.mpr c4
    subst c4
    have H1 : (some (0, 0)) = some (r1, r2) := by rw [if_neg (show ¬ (false = true) by decide)] at H; exact H
    clear H
    have H := H1
    clear H1
    simp only [Option.some.injEq, Prod.mk.injEq] at H
    obtain ⟨rfl, rfl⟩ := H
    go_enter Try.func155, Try.ntmps155
    go_wp2_with (first | ((with_reducible refine zM (f := 181) rfl ?_); refine goesL_ (some 10) rfl rfl Try.func181 (by kernel_rfl) rfl #[.int .i64 a0, .int .i64 a1] rfl (by (try simp only [yK, yL, yM]); first | done | rfl | (simp only [yJ, yI]; rfl)) ?_; (with_reducible refine (impl_isEncoderInput.calls a0 a1 false _ A3.out).mono ?_); rintro e w' ⟨rfl, ⟨nd, rfl⟩⟩; refine ⟨_, rfl, ?_⟩))
    go_ret2
    exact ⟨by first | rfl | exact yP _ | (simp; done) | (simp [*]; done), by repeat (first | exact zP _ | apply zQ)⟩

def impl_BranchDistance.f (a0 : Int) (a1 : Int) (a2 : Int) (a3 : Int) : Option (Int) := (impl_OutputPair.f a0 a1).bind fun bt148 => ((impl_symbolDistance.f a2 bt148.1).bind fun t150 => ((impl_symbolDistance.f a3 bt148.2).bind fun t151 => (some (wrap64 (t150 + t151)))))
theorem impl_BranchDistance.calls (a0 : Int) (a1 : Int) (a2 : Int) (a3 : Int) (r : Int) (w : World) (h : impl_BranchDistance.f a0 a1 a2 a3 = some r) :
    Calls Try.prog 154 #[.int .i64 a0, .int .i64 a1, .int .i64 a2, .int .i64 a3] w fun e w' => e = .returned (.int .i64 r) ∧ Drawn0 w w' := by
  have H : ((impl_OutputPair.f a0 a1).bind fun bt148 => ((impl_symbolDistance.f a2 bt148.1).bind fun t150 => ((impl_symbolDistance.f a3 bt148.2).bind fun t151 => (some (wrap64 (t150 + t151)))))) = some r := h
  clear h
  replace H := yE.mp H
  obtain ⟨⟨t148, t149⟩, A50, H⟩ := H
  replace H : ((impl_symbolDistance.f a2 t148).bind fun t150 => ((impl_symbolDistance.f a3 t149).bind fun t151 => (some (wrap64 (t150 + t151))))) = some r := H
  have A5 := zO A50
  clear A50
  replace H := yE.mp H
  obtain ⟨t150, A60, H⟩ := H
  replace H : ((impl_symbolDistance.f a3 t149).bind fun t151 => (some (wrap64 (t150 + t151)))) = some r := H
  have A6 := zO A60
  clear A60
  replace H := yE.mp H
  obtain ⟨t151, A70, H⟩ := H
  replace H : (some (wrap64 (t150 + t151))) = some r := H
  have A7 := zO A70
  clear A70
  obtain rfl := Option.some.inj H
  go_enter Try.func154, Try.ntmps154
  go_wp2_with (first | ((with_reducible refine zM (f := 155) rfl ?_); refine goesL_ (some 14) rfl rfl Try.func155 (by kernel_rfl) rfl #[.int .i64 a0, .int .i64 a1] rfl (by (try simp only [yK, yL, yM]); first | done | rfl | (simp only [yJ, yI]; rfl)) ?_; (with_reducible refine (impl_OutputPair.calls a0 a1 t148 t149 _ A5.out).mono ?_); rintro e w' ⟨rfl, ⟨nd, rfl⟩⟩; refine ⟨_, rfl, ?_⟩) | ((with_reducible refine zM (f := 119) rfl ?_); refine goesL_ (some 19) rfl rfl Try.func119 (by kernel_rfl) rfl #[.int .i64 a2, .int .i64 t148] rfl (by (try simp only [yK, yL, yM]); first | done | rfl | (simp only [yJ, yI]; rfl)) ?_; (with_reducible refine (impl_symbolDistance.calls a2 t148 t150 _ A6.out).mono ?_); rintro e w' ⟨rfl, ⟨nd, rfl⟩⟩; refine ⟨_, rfl, ?_⟩) | ((with_reducible refine zM (f := 119) rfl ?_); refine goesL_ (some 22) rfl rfl Try.func119 (by kernel_rfl) rfl #[.int .i64 a3, .int .i64 t149] rfl (by (try simp only [yK, yL, yM]); first | done | rfl | (simp only [yJ, yI]; rfl)) ?_; (with_reducible refine (impl_symbolDistance.calls a3 t149 t151 _ A7.out).mono ?_); rintro e w' ⟨rfl, ⟨nd, rfl⟩⟩; refine ⟨_, rfl, ?_⟩))
  go_ret
  exact ⟨by first | rfl | exact yP _ | (simp; done) | (simp [*]; done), by repeat (first | exact zP _ | apply zQ)⟩

/-- Eight whole numbers as the value of the state of the decoder. -/
def svVal (s : List Int) : Value := .agg #[.int .i64 (rd s 0), .int .i64 (rd s 1), .int .i64 (rd s 2), .int .i64 (rd s 3), .int .i64 (rd s 4), .int .i64 (rd s 5), .int .i64 (rd s 6), .int .i64 (rd s 7)]
def ext1 (s : List Int) (a b : Int) (st bt : Int) (nx : List Int) : Option (List Int) :=
  (impl_NextState.f st bt).bind fun t => (impl_BranchDistance.f st bt a b).bind fun d =>
    if 0 ≤ t then if t < 4 then
      (if rd nx t < 0 then some ((nx.set t.toNat (wrap64 (rd s st + d))).set (4 + t.toNat) st)
       else if wrap64 (rd s st + d) < rd nx t then some ((nx.set t.toNat (wrap64 (rd s st + d))).set (4 + t.toNat) st) else some nx)
      else none else none
def extI (s : List Int) (a b : Int) (oz : Bool) (st : Int) : Nat → Int → List Int → Option (List Int)
  | 0, _, _ => none
  | k + 1, bt, nx => if bt < 2 then (if oz = true then (if bt = 1 then extI s a b oz st k (wrap64 (bt + 1)) nx else (ext1 s a b st bt nx).bind fun y => extI s a b oz st k (wrap64 (bt + 1)) y) else (ext1 s a b st bt nx).bind fun y => extI s a b oz st k (wrap64 (bt + 1)) y) else some nx
def extO (s : List Int) (a b : Int) (oz : Bool) : Nat → Int → List Int → Option (List Int)
  | 0, _, _ => none
  | k + 1, st, nx => if st < 4 then (if 0 ≤ st then (if rd s st < 0 then extO s a b oz k (wrap64 (st + 1)) nx else (extI s a b oz st 3 0 nx).bind fun y => extO s a b oz k (wrap64 (st + 1)) y) else none) else some nx
def impl_extendSurvivors.f (s : List Int) (a b : Int) (oz : Bool) : Option (List Int) := if s.length = 8 then extO s a b oz 5 0 [-1, -1, -1, -1, 0, 0, 0, 0] else none
theorem sv_size : (Try.prog.info? 97).map (·.size) = some 8 := by kernel_rfl
theorem sv_cell {W : World} {g : Nat} {nx : List Int} (h : W.heap[g]? = some (.cells (nums .i64 nx).toArray 97 (0, 0))) (hl : nx.length = 8) (i : Int) (h0 : 0 ≤ i) (h1 : i < 8) : W.cell? ⟨g, i.toNat, none⟩ = some (.int .i64 (rd nx i)) ∧ W.frozen? ⟨g, i.toNat, none⟩ = false := by
  refine ⟨?_, zK h _⟩
  rw [zH h _]
  have hi : i.toNat < nx.length := by omega
  simp [nums, rd, List.getD_eq_getElem?_getD, List.getElem?_eq_getElem hi]
theorem sv_set {W : World} {g : Nat} {nx : List Int} (h : W.heap[g]? = some (.cells (nums .i64 nx).toArray 97 (0, 0))) (i : Nat) (x : Int) : (W.setCell ⟨g, i, none⟩ (.int .i64 x)).heap[g]? = some (.cells (nums .i64 (nx.set i x)).toArray 97 (0, 0)) := by
  rw [blk_set h i]
  simp [nums, List.map_set]
theorem sv_new (W : World) (o : Obj) (g : Nat) (h : W.heap.size = g) : (W.alloc o).heap[g]? = some o := by
  subst h
  exact blk_new W o
theorem sv_arr (s : List Int) (h : s.length = 8) : (nums .i64 s).toArray = #[.int .i64 (rd s 0), .int .i64 (rd s 1), .int .i64 (rd s 2), .int .i64 (rd s 3), .int .i64 (rd s 4), .int .i64 (rd s 5), .int .i64 (rd s 6), .int .i64 (rd s 7)] := by
  match s, h with
  | [a, b, c, d, e, f, g, i], _ => rfl
theorem sv_at4 {W : World} {g : Nat} {nx : List Int} (h : W.heap[g]? = some (.cells (nums .i64 nx).toArray 97 (0, 0))) (hl : nx.length = 8) (i : Int) (h0 : 0 ≤ i) (h1 : i < 4) : W.cell? ⟨g, 4 + i.toNat, none⟩ = some (.int .i64 (rd nx (4 + i))) ∧ W.frozen? ⟨g, 4 + i.toNat, none⟩ = false := by
  have := sv_cell h hl (4 + i) (by omega) (by omega)
  rwa [show (4 + i).toNat = 4 + i.toNat by omega] at this
theorem impl_extendSurvivors.calls (s : List Int) (a b : Int) (oz : Bool) (r : List Int) (w : World) (h : impl_extendSurvivors.f s a b oz = some r) :
  Calls Try.prog 109 #[svVal s, .int .i64 a, .int .i64 b, .bool oz] w fun e w' => e = .returned (svVal r) ∧ r.length = 8 ∧ Below w.heap.size w w' := by
 unfold impl_extendSurvivors.f at h
 by_cases hs0 : s.length = 8
 · rw [if_pos hs0] at h
   have HS := zO hs0
   have H' := zO h
   clear hs0 h
   unfold svVal
   go_enter Try.func109, Try.ntmps109
   go_wp2
   go_loopg [10] 5 (fun kq v10 w' => ∃ (st : Int) (nx : List Int), v10 = .int .i64 st ∧ Aside0 (extO s a b oz kq st nx = some r) ∧ Aside0 (0 ≤ st) ∧ Aside0 (nx.length = 8) ∧ Aside0 (w'.heap[w.heap.size]? = some (.cells (nums .i64 s).toArray 97 (0, 0))) ∧ Aside0 (w'.heap[w.heap.size + 1]? = some (.cells (nums .i64 [0, 0, 0, 0, 0, 0, 0, 0]).toArray 97 (0, 0))) ∧ Aside0 (w'.heap[w.heap.size + 1 + 1]? = some (.cells (nums .i64 nx).toArray 97 (0, 0))) ∧ Aside0 (Below w.heap.size w w'))
   case atStart =>
    refine ⟨0, [-1, -1, -1, -1, 0, 0, 0, 0], rfl, H', ⟨by omega⟩, ⟨rfl⟩, ⟨?_⟩, ⟨?_⟩, ⟨?_⟩, ⟨?_⟩⟩
    · rw [sv_arr s HS.out]
      exact zF (zF (blk_new w _) _) _
    · refine zF ?_ _
      exact sv_new _ _ _ (by simp)
    · exact sv_new _ _ _ (by simp)
    · exact zA (zA (zA (Below.refl _ _) _) _) _
   case round =>
    clear H'
    obtain ⟨st, nx, rfl, HA, H0, HL, HB0, HB1, HB2, HB⟩ := hrel
    cases gk with
    | zero => exact absurd HA.out (by simp [extO])
    | succ k1 =>
     have H := HA.out
     clear HA
     simp only [extO] at H
     by_cases c1 : st < 4
     · rw [if_pos c1, if_pos H0.out] at H
       obtain ⟨hc0, hf0⟩ := sv_cell HB0.out HS.out st H0.out (by have := H0.out; omega)
       have H1 := zO c1
       have p1 : (0 ≤ st) = True := eq_true H0.out
       have c1b : decide (st < 4) = true := decide_eq_true c1
       replace c1 : (st < 4) = True := eq_true c1
       by_cases c2 : rd s st < 0
       · rw [if_pos c2] at H
         have H' := zO H
         clear H
         have c2b : decide (rd s st < 0) = true := decide_eq_true c2
         clear c2
         go_wp2
         go_roundg k1
         case measure => omega
         case rel => exact ⟨wrap64 (st + 1), nx, (by first | rfl | (simp; done) | (simp [*]; done)), H', ⟨by have := H0.out; have := H1.out; unfold wrap64; omega⟩, HL, HB0, HB1, HB2, HB⟩
       · rw [if_neg c2] at H
         have HC := zO H
         clear H
         have c2b : decide (rd s st < 0) = false := decide_eq_false c2
         clear c2
         go_wp2
         go_loopg [11] 3 (fun kq v11 w' => ∃ (bt : Int) (ny : List Int), v11 = .int .i64 bt ∧ Aside0 ((extI s a b oz st kq bt ny).bind (fun y => extO s a b oz k1 (wrap64 (st + 1)) y) = some r) ∧ Aside0 (ny.length = 8) ∧ Aside0 (w'.heap[w.heap.size]? = some (.cells (nums .i64 s).toArray 97 (0, 0))) ∧ Aside0 (w'.heap[w.heap.size + 1]? = some (.cells (nums .i64 [0, 0, 0, 0, 0, 0, 0, 0]).toArray 97 (0, 0))) ∧ Aside0 (w'.heap[w.heap.size + 1 + 1]? = some (.cells (nums .i64 ny).toArray 97 (0, 0))) ∧ Aside0 (Below w.heap.size w w'))
         case atStart => exact ⟨0, nx, rfl, HC, HL, HB0, HB1, HB2, HB⟩
         case round =>
          clear HC HL HB0 HB1 HB2 HB hc0 hf0 c2b
          obtain ⟨bt, ny, rfl, HA, HL, HB0, HB1, HB2, HB⟩ := hrel
          cases gk with
          | zero => exact absurd HA.out (by simp [extI])
          | succ k2 =>
           have H := HA.out
           clear HA
           simp only [extI] at H
           obtain ⟨hc0, hf0⟩ := sv_cell HB0.out HS.out st H0.out (by have := H1.out; omega)
           by_cases c3 : bt < 2
           · rw [if_pos c3] at H
             have c3b : decide (bt < 2) = true := decide_eq_true c3
             clear c3
             by_cases c4 : oz = true ∧ bt = 1
             · obtain ⟨rfl, c4⟩ := c4
               rw [if_pos rfl, if_pos c4] at H
               have c4b : (bt == 1) = true := beq_iff_eq.mpr c4
               clear c4
               have H' := zO H
               clear H
               go_wp2
               go_roundg k2
               case measure => omega
               case rel => exact ⟨wrap64 (bt + 1), ny, (by first | rfl | (simp; done) | (simp [*]; done)), H', HL, HB0, HB1, HB2, HB⟩
             · have H2 : ((ext1 s a b st bt ny).bind fun y => extI s a b oz st k2 (wrap64 (bt + 1)) y).bind (fun y => extO s a b oz k1 (wrap64 (st + 1)) y) = some r := by
                 by_cases q : oz = true
                 · rw [if_pos q, if_neg (fun q2 => c4 ⟨q, q2⟩)] at H
                   exact H
                 · rw [if_neg q] at H
                   exact H
               clear H
               have C4 : (oz && (bt == 1)) = false := by
                 cases oz with
                 | false => rfl
                 | true =>
                   have : bt ≠ 1 := fun q => c4 ⟨rfl, q⟩
                   simpa using this
               clear c4
               rw [Option.bind_assoc] at H2
               obtain ⟨nz, A0, H⟩ := yE.mp H2
               clear H2
               unfold ext1 at A0
               obtain ⟨t, A10, A0⟩ := yE.mp A0
               obtain ⟨d, A20, A0⟩ := yE.mp A0
               have A1 := zO A10
               have A2 := zO A20
               clear A10 A20
               by_cases t0 : 0 ≤ t
               · rw [if_pos t0] at A0
                 by_cases t1 : t < 4
                 · rw [if_pos t1] at A0
                   have T0 := zO t0
                   have T1 := zO t1
                   obtain ⟨hc1, hf1⟩ := sv_cell HB2.out HL.out t t0 (by omega)
                   replace t0 : (0 ≤ t) = True := eq_true t0
                   replace t1 : (t < 4) = True := eq_true t1
                   by_cases c5 : rd ny t < 0
                   · rw [if_pos c5] at A0
                     have c5b : decide (rd ny t < 0) = true := decide_eq_true c5
                     clear c5
                     obtain rfl := Option.some.inj A0
                     clear A0
                     have H' := zO H
                     clear H
                     cases oz with
                     | false =>
                      clear C4
                      obtain ⟨hc2, hf2⟩ := sv_at4 HB2.out HL.out t T0.out T1.out
                      go_wp2_with (first | (go_at_call 153; (with_reducible refine (impl_NextState.calls st bt t _ A1.out).mono ?_); rintro e w' ⟨rfl, ⟨nd, rfl⟩⟩; (try first | exact ⟨rfl, _, yN _ _ _⟩ | exact ⟨rfl, _, yQ _ _ _ _⟩)) | (go_at_call 154; (with_reducible refine (impl_BranchDistance.calls st bt a b d _ A2.out).mono ?_); rintro e w' ⟨rfl, ⟨nd, rfl⟩⟩; (try first | exact ⟨rfl, _, yN _ _ _⟩ | exact ⟨rfl, _, yQ _ _ _ _⟩)))
                      repeat (go_quiet (first | (go_at_call 153; (with_reducible refine (impl_NextState.calls st bt t _ A1.out).mono ?_); rintro e w' ⟨rfl, ⟨nd, rfl⟩⟩; (try first | exact ⟨rfl, _, yN _ _ _⟩ | exact ⟨rfl, _, yQ _ _ _ _⟩)) | (go_at_call 154; (with_reducible refine (impl_BranchDistance.calls st bt a b d _ A2.out).mono ?_); rintro e w' ⟨rfl, ⟨nd, rfl⟩⟩; (try first | exact ⟨rfl, _, yN _ _ _⟩ | exact ⟨rfl, _, yQ _ _ _ _⟩))); try go_wp2)
                      go_roundg k2
                      case measure => omega
                      case rel =>
                       refine ⟨wrap64 (bt + 1), _, (by first | rfl | (simp; done) | (simp [*]; done)), H', ⟨by simp [HL.out]⟩, ⟨?_⟩, ⟨?_⟩, ⟨?_⟩, ⟨?_⟩⟩
                       · exact blk_far (blk_far (zJ (w := wr) HB0.out _) (by show w.heap.size ≠ w.heap.size + 1 + 1; omega) _) (by show w.heap.size ≠ w.heap.size + 1 + 1; omega) _
                       · exact blk_far (blk_far (zJ (w := wr) HB1.out _) (by show w.heap.size + 1 ≠ w.heap.size + 1 + 1; omega) _) (by show w.heap.size + 1 ≠ w.heap.size + 1 + 1; omega) _
                       · exact sv_set (sv_set (zJ (w := wr) HB2.out _) _ _) _ _
                       · exact ((zL HB.out _).setCell (by show w.heap.size ≤ w.heap.size + 1 + 1; omega) _).setCell (by show w.heap.size ≤ w.heap.size + 1 + 1; omega) _
                     | true =>
                      have c6 : (bt == 1) = false := by simpa using C4
                      clear C4
                      obtain ⟨hc2, hf2⟩ := sv_at4 HB2.out HL.out t T0.out T1.out
                      go_wp2_with (first | (go_at_call 153; (with_reducible refine (impl_NextState.calls st bt t _ A1.out).mono ?_); rintro e w' ⟨rfl, ⟨nd, rfl⟩⟩; (try first | exact ⟨rfl, _, yN _ _ _⟩ | exact ⟨rfl, _, yQ _ _ _ _⟩)) | (go_at_call 154; (with_reducible refine (impl_BranchDistance.calls st bt a b d _ A2.out).mono ?_); rintro e w' ⟨rfl, ⟨nd, rfl⟩⟩; (try first | exact ⟨rfl, _, yN _ _ _⟩ | exact ⟨rfl, _, yQ _ _ _ _⟩)))
                      repeat (go_quiet (first | (go_at_call 153; (with_reducible refine (impl_NextState.calls st bt t _ A1.out).mono ?_); rintro e w' ⟨rfl, ⟨nd, rfl⟩⟩; (try first | exact ⟨rfl, _, yN _ _ _⟩ | exact ⟨rfl, _, yQ _ _ _ _⟩)) | (go_at_call 154; (with_reducible refine (impl_BranchDistance.calls st bt a b d _ A2.out).mono ?_); rintro e w' ⟨rfl, ⟨nd, rfl⟩⟩; (try first | exact ⟨rfl, _, yN _ _ _⟩ | exact ⟨rfl, _, yQ _ _ _ _⟩))); try go_wp2)
                      go_roundg k2
                      case measure => omega
                      case rel =>
                       refine ⟨wrap64 (bt + 1), _, (by first | rfl | (simp; done) | (simp [*]; done)), H', ⟨by simp [HL.out]⟩, ⟨?_⟩, ⟨?_⟩, ⟨?_⟩, ⟨?_⟩⟩
                       · exact blk_far (blk_far (zJ (w := wr) HB0.out _) (by show w.heap.size ≠ w.heap.size + 1 + 1; omega) _) (by show w.heap.size ≠ w.heap.size + 1 + 1; omega) _
                       · exact blk_far (blk_far (zJ (w := wr) HB1.out _) (by show w.heap.size + 1 ≠ w.heap.size + 1 + 1; omega) _) (by show w.heap.size + 1 ≠ w.heap.size + 1 + 1; omega) _
                       · exact sv_set (sv_set (zJ (w := wr) HB2.out _) _ _) _ _
                       · exact ((zL HB.out _).setCell (by show w.heap.size ≤ w.heap.size + 1 + 1; omega) _).setCell (by show w.heap.size ≤ w.heap.size + 1 + 1; omega) _
                   · rw [if_neg c5] at A0
                     have c5b : decide (rd ny t < 0) = false := decide_eq_false c5
                     clear c5
                     by_cases c6 : wrap64 (rd s st + d) < rd ny t
                     · rw [if_pos c6] at A0
                       have c6b : decide (wrap64 (rd s st + d) < rd ny t) = true := decide_eq_true c6
                       clear c6
                       obtain rfl := Option.some.inj A0
                       clear A0
                       have H' := zO H
                       clear H
                       cases oz with
                       | false =>
                        clear C4
                        obtain ⟨hc2, hf2⟩ := sv_at4 HB2.out HL.out t T0.out T1.out
                        go_wp2_with (first | (go_at_call 153; (with_reducible refine (impl_NextState.calls st bt t _ A1.out).mono ?_); rintro e w' ⟨rfl, ⟨nd, rfl⟩⟩; (try first | exact ⟨rfl, _, yN _ _ _⟩ | exact ⟨rfl, _, yQ _ _ _ _⟩)) | (go_at_call 154; (with_reducible refine (impl_BranchDistance.calls st bt a b d _ A2.out).mono ?_); rintro e w' ⟨rfl, ⟨nd, rfl⟩⟩; (try first | exact ⟨rfl, _, yN _ _ _⟩ | exact ⟨rfl, _, yQ _ _ _ _⟩)))
                        repeat (go_quiet (first | (go_at_call 153; (with_reducible refine (impl_NextState.calls st bt t _ A1.out).mono ?_); rintro e w' ⟨rfl, ⟨nd, rfl⟩⟩; (try first | exact ⟨rfl, _, yN _ _ _⟩ | exact ⟨rfl, _, yQ _ _ _ _⟩)) | (go_at_call 154; (with_reducible refine (impl_BranchDistance.calls st bt a b d _ A2.out).mono ?_); rintro e w' ⟨rfl, ⟨nd, rfl⟩⟩; (try first | exact ⟨rfl, _, yN _ _ _⟩ | exact ⟨rfl, _, yQ _ _ _ _⟩))); try go_wp2)
                        go_roundg k2
                        case measure => omega
                        case rel =>
                         refine ⟨wrap64 (bt + 1), _, (by first | rfl | (simp; done) | (simp [*]; done)), H', ⟨by simp [HL.out]⟩, ⟨?_⟩, ⟨?_⟩, ⟨?_⟩, ⟨?_⟩⟩
                         · exact blk_far (blk_far (zJ (w := wr) HB0.out _) (by show w.heap.size ≠ w.heap.size + 1 + 1; omega) _) (by show w.heap.size ≠ w.heap.size + 1 + 1; omega) _
                         · exact blk_far (blk_far (zJ (w := wr) HB1.out _) (by show w.heap.size + 1 ≠ w.heap.size + 1 + 1; omega) _) (by show w.heap.size + 1 ≠ w.heap.size + 1 + 1; omega) _
                         · exact sv_set (sv_set (zJ (w := wr) HB2.out _) _ _) _ _
                         · exact ((zL HB.out _).setCell (by show w.heap.size ≤ w.heap.size + 1 + 1; omega) _).setCell (by show w.heap.size ≤ w.heap.size + 1 + 1; omega) _
                       | true =>
                        have c6 : (bt == 1) = false := by simpa using C4
                        clear C4
                        obtain ⟨hc2, hf2⟩ := sv_at4 HB2.out HL.out t T0.out T1.out
                        go_wp2_with (first | (go_at_call 153; (with_reducible refine (impl_NextState.calls st bt t _ A1.out).mono ?_); rintro e w' ⟨rfl, ⟨nd, rfl⟩⟩; (try first | exact ⟨rfl, _, yN _ _ _⟩ | exact ⟨rfl, _, yQ _ _ _ _⟩)) | (go_at_call 154; (with_reducible refine (impl_BranchDistance.calls st bt a b d _ A2.out).mono ?_); rintro e w' ⟨rfl, ⟨nd, rfl⟩⟩; (try first | exact ⟨rfl, _, yN _ _ _⟩ | exact ⟨rfl, _, yQ _ _ _ _⟩)))
                        repeat (go_quiet (first | (go_at_call 153; (with_reducible refine (impl_NextState.calls st bt t _ A1.out).mono ?_); rintro e w' ⟨rfl, ⟨nd, rfl⟩⟩; (try first | exact ⟨rfl, _, yN _ _ _⟩ | exact ⟨rfl, _, yQ _ _ _ _⟩)) | (go_at_call 154; (with_reducible refine (impl_BranchDistance.calls st bt a b d _ A2.out).mono ?_); rintro e w' ⟨rfl, ⟨nd, rfl⟩⟩; (try first | exact ⟨rfl, _, yN _ _ _⟩ | exact ⟨rfl, _, yQ _ _ _ _⟩))); try go_wp2)
                        go_roundg k2
                        case measure => omega
                        case rel =>
                         refine ⟨wrap64 (bt + 1), _, (by first | rfl | (simp; done) | (simp [*]; done)), H', ⟨by simp [HL.out]⟩, ⟨?_⟩, ⟨?_⟩, ⟨?_⟩, ⟨?_⟩⟩
                         · exact blk_far (blk_far (zJ (w := wr) HB0.out _) (by show w.heap.size ≠ w.heap.size + 1 + 1; omega) _) (by show w.heap.size ≠ w.heap.size + 1 + 1; omega) _
                         · exact blk_far (blk_far (zJ (w := wr) HB1.out _) (by show w.heap.size + 1 ≠ w.heap.size + 1 + 1; omega) _) (by show w.heap.size + 1 ≠ w.heap.size + 1 + 1; omega) _
                         · exact sv_set (sv_set (zJ (w := wr) HB2.out _) _ _) _ _
                         · exact ((zL HB.out _).setCell (by show w.heap.size ≤ w.heap.size + 1 + 1; omega) _).setCell (by show w.heap.size ≤ w.heap.size + 1 + 1; omega) _
                     · rw [if_neg c6] at A0
                       have c6b : decide (wrap64 (rd s st + d) < rd ny t) = false := decide_eq_false c6
                       clear c6
                       obtain rfl := Option.some.inj A0
                       clear A0
                       have H' := zO H
                       clear H
                       cases oz with
                       | false =>
                        clear C4
                        go_wp2_with (first | (go_at_call 153; (with_reducible refine (impl_NextState.calls st bt t _ A1.out).mono ?_); rintro e w' ⟨rfl, ⟨nd, rfl⟩⟩; (try first | exact ⟨rfl, _, yN _ _ _⟩ | exact ⟨rfl, _, yQ _ _ _ _⟩)) | (go_at_call 154; (with_reducible refine (impl_BranchDistance.calls st bt a b d _ A2.out).mono ?_); rintro e w' ⟨rfl, ⟨nd, rfl⟩⟩; (try first | exact ⟨rfl, _, yN _ _ _⟩ | exact ⟨rfl, _, yQ _ _ _ _⟩)))
                        repeat (go_quiet (first | (go_at_call 153; (with_reducible refine (impl_NextState.calls st bt t _ A1.out).mono ?_); rintro e w' ⟨rfl, ⟨nd, rfl⟩⟩; (try first | exact ⟨rfl, _, yN _ _ _⟩ | exact ⟨rfl, _, yQ _ _ _ _⟩)) | (go_at_call 154; (with_reducible refine (impl_BranchDistance.calls st bt a b d _ A2.out).mono ?_); rintro e w' ⟨rfl, ⟨nd, rfl⟩⟩; (try first | exact ⟨rfl, _, yN _ _ _⟩ | exact ⟨rfl, _, yQ _ _ _ _⟩))); try go_wp2)
                        go_roundg k2
                        case measure => omega
                        case rel => exact ⟨wrap64 (bt + 1), ny, (by first | rfl | (simp; done) | (simp [*]; done)), H', HL, ⟨by repeat (first | exact HB0.out | apply zJ)⟩, ⟨by repeat (first | exact HB1.out | apply zJ)⟩, ⟨by repeat (first | exact HB2.out | apply zJ)⟩, ⟨by repeat (first | exact HB.out | apply zL)⟩⟩
                       | true =>
                        have c6 : (bt == 1) = false := by simpa using C4
                        clear C4
                        go_wp2_with (first | (go_at_call 153; (with_reducible refine (impl_NextState.calls st bt t _ A1.out).mono ?_); rintro e w' ⟨rfl, ⟨nd, rfl⟩⟩; (try first | exact ⟨rfl, _, yN _ _ _⟩ | exact ⟨rfl, _, yQ _ _ _ _⟩)) | (go_at_call 154; (with_reducible refine (impl_BranchDistance.calls st bt a b d _ A2.out).mono ?_); rintro e w' ⟨rfl, ⟨nd, rfl⟩⟩; (try first | exact ⟨rfl, _, yN _ _ _⟩ | exact ⟨rfl, _, yQ _ _ _ _⟩)))
                        repeat (go_quiet (first | (go_at_call 153; (with_reducible refine (impl_NextState.calls st bt t _ A1.out).mono ?_); rintro e w' ⟨rfl, ⟨nd, rfl⟩⟩; (try first | exact ⟨rfl, _, yN _ _ _⟩ | exact ⟨rfl, _, yQ _ _ _ _⟩)) | (go_at_call 154; (with_reducible refine (impl_BranchDistance.calls st bt a b d _ A2.out).mono ?_); rintro e w' ⟨rfl, ⟨nd, rfl⟩⟩; (try first | exact ⟨rfl, _, yN _ _ _⟩ | exact ⟨rfl, _, yQ _ _ _ _⟩))); try go_wp2)
                        go_roundg k2
                        case measure => omega
                        case rel => exact ⟨wrap64 (bt + 1), ny, (by first | rfl | (simp; done) | (simp [*]; done)), H', HL, ⟨by repeat (first | exact HB0.out | apply zJ)⟩, ⟨by repeat (first | exact HB1.out | apply zJ)⟩, ⟨by repeat (first | exact HB2.out | apply zJ)⟩, ⟨by repeat (first | exact HB.out | apply zL)⟩⟩
                 · rw [if_neg t1] at A0
                   exact absurd A0 (by simp)
               · rw [if_neg t0] at A0
                 exact absurd A0 (by simp)
           · rw [if_neg c3, Option.bind_some] at H
             have H' := zO H
             clear H
             have c3b : decide (bt < 2) = false := decide_eq_false c3
             clear c3
             go_wp2
             go_roundg k1
             case measure => omega
             case rel => exact ⟨wrap64 (st + 1), ny, (by first | rfl | (simp; done) | (simp [*]; done)), H', ⟨by have := H0.out; have := H1.out; unfold wrap64; omega⟩, HL, HB0, HB1, HB2, HB⟩
     · rw [if_neg c1] at H
       obtain rfl := Option.some.inj H
       have c1b : decide (st < 4) = false := decide_eq_false c1
       clear c1
       obtain ⟨x0, _⟩ := sv_cell HB2.out HL.out 0 (by omega) (by omega)
       obtain ⟨y0, z0⟩ := sv_cell HB1.out rfl 0 (by omega) (by omega)
       obtain ⟨x1, _⟩ := sv_cell HB2.out HL.out 1 (by omega) (by omega)
       obtain ⟨y1, z1⟩ := sv_cell HB1.out rfl 1 (by omega) (by omega)
       obtain ⟨x2, _⟩ := sv_cell HB2.out HL.out 2 (by omega) (by omega)
       obtain ⟨y2, z2⟩ := sv_cell HB1.out rfl 2 (by omega) (by omega)
       obtain ⟨x3, _⟩ := sv_cell HB2.out HL.out 3 (by omega) (by omega)
       obtain ⟨y3, z3⟩ := sv_cell HB1.out rfl 3 (by omega) (by omega)
       obtain ⟨x4, _⟩ := sv_cell HB2.out HL.out 4 (by omega) (by omega)
       obtain ⟨y4, z4⟩ := sv_cell HB1.out rfl 4 (by omega) (by omega)
       obtain ⟨x5, _⟩ := sv_cell HB2.out HL.out 5 (by omega) (by omega)
       obtain ⟨y5, z5⟩ := sv_cell HB1.out rfl 5 (by omega) (by omega)
       obtain ⟨x6, _⟩ := sv_cell HB2.out HL.out 6 (by omega) (by omega)
       obtain ⟨y6, z6⟩ := sv_cell HB1.out rfl 6 (by omega) (by omega)
       obtain ⟨x7, _⟩ := sv_cell HB2.out HL.out 7 (by omega) (by omega)
       obtain ⟨y7, z7⟩ := sv_cell HB1.out rfl 7 (by omega) (by omega)
       simp only [Int.toNat_zero, Int.toNat_one, Int.reduceToNat] at x0 y0 z0 x1 y1 z1 x2 y2 z2 x3 y3 z3 x4 y4 z4 x5 y5 z5 x6 y6 z6 x7 y7 z7
       go_wp2
       refine bodyPost_ret (results_cell_row rfl _ _ (w.heap.size + 1) 97 #[.int .i64 (rd nx 0), .int .i64 (rd nx 1), .int .i64 (rd nx 2), .int .i64 (rd nx 3), .int .i64 (rd nx 4), .int .i64 (rd nx 5), .int .i64 (rd nx 6), .int .i64 (rd nx 7)] (0, 0) _ rfl (sv_set (sv_set (sv_set (sv_set (sv_set (sv_set (sv_set (sv_set HB1.out 0 _) 1 _) 2 _) 3 _) 4 _) 5 _) 6 _) 7 _) Try.underlying97 rfl sv_size) rfl ⟨rfl, HL.out, ?_⟩
       have hle : w.heap.size ≤ w.heap.size + 1 := by omega
       exact (((((((HB.out.setCell (p := ⟨w.heap.size + 1, 0, none⟩) hle _).setCell (p := ⟨w.heap.size + 1, 1, none⟩) hle _).setCell (p := ⟨w.heap.size + 1, 2, none⟩) hle _).setCell (p := ⟨w.heap.size + 1, 3, none⟩) hle _).setCell (p := ⟨w.heap.size + 1, 4, none⟩) hle _).setCell (p := ⟨w.heap.size + 1, 5, none⟩) hle _).setCell (p := ⟨w.heap.size + 1, 6, none⟩) hle _).setCell (p := ⟨w.heap.size + 1, 7, none⟩) hle _
 · rw [if_neg hs0] at h
   exact absurd h (by simp)

end Go.Proofs.Ytldbmljooafkcaa.PFnFrameErrors
