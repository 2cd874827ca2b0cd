/- Contracts of Go functions. Conditions: the arguments read as the Lean function's. Written by print2.py, shrink.py (this session's). -/
import Derived.Test.YtldbmljooafkcaaPFnExactReceiveFramex0
import Derived.Test.YtldbmljooafkcaaPFnExactReceiveFramex1
namespace Go.Proofs.Ytldbmljooafkcaa.PFnExactReceiveFrame
open Go.RowKit Go.Proofs.YtldbmljooafkcaaW.PrintWords Go.Proofs.YtldbmljooafkcaaW.PrintLast Go.Proofs.YtldbmljooafkcaaW.PrintMore
open Go.Proofs.YtldbmljooafkcaaW.PrintWords renaming gate_callee → zM
open Go.Proofs.YtldbmljooafkcaaW.PrintWords.Aside0 renaming mk → zO
open Go.Proofs.YtldbmljooafkcaaW.PrintWords.Drawn0 renaming refl → zP, step → zQ
open Go.Proofs.YtldbmljooafkcaaW.PrintWords.Kd renaming C_alloc → zR, C_drew → zS, C_drewN → zT
open Option renaming bind_eq_some_iff → yE
open List renaming length_take → yI, length_drop → yJ, map_toArray → yK, map_cons → yL, map_nil → yM
set_option maxHeartbeats 8000000
set_option maxRecDepth 100000
attribute [local go_sem] max2_int min2_int max_two min_two max_three min_three max_four min_four
set_option linter.unusedVariables false
set_option linter.unusedSimpArgs false

def spec_Weight.l0 : Nat → List Int → Int → Int → Option (Int)
 | 0, _, _, _ => none
 | k + 1, x0, x3, x4 => if x4 < (x0.length : Int) then (if 0 ≤ x4 then (if (rd x0 x4) = 1 then (spec_Weight.l0 k x0 (wrap64 (x3 + 1)) (wrap64 (x4 + 1))) else (spec_Weight.l0 k x0 x3 (wrap64 (x4 + 1)))) else (none)) else (some x3)
def spec_Weight.f (k : Nat) (l0 : List Int) : Option (Int) := spec_Weight.l0 k l0 0 0
theorem spec_Weight.calls (k : Nat) (A0 : Option Addr) (c0 : Nat) (l0 : List Int) (r : Int) (w : World) (hr0 : Kd.C (Kd.int .i64) w A0 l0.length l0) (hc0 : l0.length ≤ c0) (h : spec_Weight.f k l0 = some r) :
  Calls Try.prog 69 #[.slice A0 l0.length c0] w fun e w' => e = .returned (.int .i64 r) ∧ Drawn0 w w' := by
 have HR0 := zO hr0
 have HC0 := zO hc0
 clear hr0 hc0
 have H : (spec_Weight.l0 k l0 0 0) = some r := h
 clear h
 have H' := zO H
 clear H
 go_enter Try.func69, Try.ntmps69
 go_wp2
 go_loopg [3, 4] k (fun kq v3 v4 w' => ∃ (x3_1 : Int) (x4_1 : Int), v3 = .int .i64 x3_1 ∧ v4 = .int .i64 x4_1 ∧ Aside0 (spec_Weight.l0 kq l0 x3_1 x4_1 = some r) ∧ Aside0 (kq ≤ k) ∧ Drawn0 w w')
 case atStart => exact ⟨(0), (0), (by first | rfl | (simp; done) | (simp [*]; done)), (by first | rfl | (simp; done) | (simp [*]; done)), H', ⟨Nat.le_refl _⟩, by repeat (first | exact zP _ | apply zQ)⟩
 case round =>
  clear H'
  obtain ⟨x3_1, x4_1, rfl, rfl, HA, HK1, ⟨m1, rfl⟩⟩ := hrel
  cases gk with
  | zero => exact absurd HA.out (by simp [spec_Weight.l0])
  | succ k1 =>
   have H := HA.out
   clear HA
   simp only [spec_Weight.l0] at H
   by_cases c2 : x4_1 < (l0.length : Int)
   ·rw [if_pos c2] at H
    have c2b0 : decide (x4_1 < (l0.length : Int)) = true := decide_eq_true c2
    clear c2
    by_cases c3 : 0 ≤ x4_1
    case neg => rw [if_neg c3] at H; exact absurd H (by simp)
    rw [if_pos c3] at H
    have c3b0 : decide (0 ≤ x4_1) = true := decide_eq_true c3
    clear c3
    by_cases c4 : (rd l0 x4_1) = 1
    ·rw [if_pos c4] at H
     have c4b0 : ((rd l0 x4_1) == 1) = true := beq_iff_eq.mpr c4
     have c4b1 : ((rd l0 x4_1) != 1) = false := bne_eq_false_iff_eq.mpr c4
     clear c4
     have H' := zO H
     clear H
     have p118 : 0 ≤ (x4_1 : Int) := yO (by assumption)
     have q118 : x4_1 < (l0.length : Int) := yO (by assumption)
     obtain ⟨ad118, e118, hx118_0⟩ := Kd.at_int HR0.out x4_1 p118 q118
     cases e118
     replace p118 := eq_true p118
     replace q118 := eq_true q118
     go_wp2
     go_roundg k1
     case measure => have := HK1.out; omega
     case rel => exact ⟨(wrap64 (x3_1 + 1)), (wrap64 (x4_1 + 1)), (by first | rfl | (simp; done) | (simp [*]; done)), (by first | rfl | (simp; done) | (simp [*]; done)), H', ⟨by have := HK1.out; omega⟩, by repeat (first | exact zP _ | apply zQ)⟩
    ·rw [if_neg c4] at H
     have c4b0 : ((rd l0 x4_1) == 1) = false := beq_eq_false_iff_ne.mpr c4
     have c4b1 : ((rd l0 x4_1) != 1) = true := bne_iff_ne.mpr c4
     have H' := zO H
     clear H
     have p118 : 0 ≤ (x4_1 : Int) := yO (by assumption)
     have q118 : x4_1 < (l0.length : Int) := yO (by assumption)
     obtain ⟨ad118, e118, hx118_0⟩ := Kd.at_int HR0.out x4_1 p118 q118
     cases e118
     replace p118 := eq_true p118
     replace q118 := eq_true q118
     go_wp2
     go_roundg k1
     case measure => have := HK1.out; omega
     case rel => exact ⟨(x3_1), (wrap64 (x4_1 + 1)), (by first | rfl | (simp; done) | (simp [*]; done)), (by first | rfl | (simp; done) | (simp [*]; done)), H', ⟨by have := HK1.out; omega⟩, by repeat (first | exact zP _ | apply zQ)⟩
   ·rw [if_neg c2] at H
    have c2b0 : decide (x4_1 < (l0.length : Int)) = false := decide_eq_false c2
    clear c2
    obtain rfl := Option.some.inj H
    go_wp2
    go_ret
    exact ⟨by first | rfl | exact yP _ | (simp; done) | (simp [*]; done), by repeat (first | exact zP _ | apply zQ)⟩

def spec_IsBitString.l0 : Nat → List Int → Int → Option (Bool)
 | 0, _, _ => none
 | k + 1, x0, x3 => if x3 < (x0.length : Int) then (if 0 ≤ x3 then ((spec_l1In.f (rd x0 x3) 0 1).bind fun t120 => (if t120 = true then (spec_IsBitString.l0 k x0 (wrap64 (x3 + 1))) else (some false))) else (none)) else (some true)
def spec_IsBitString.f (k : Nat) (l0 : List Int) : Option (Bool) := spec_IsBitString.l0 k l0 0
theorem spec_IsBitString.calls (k : Nat) (A0 : Option Addr) (c0 : Nat) (l0 : List Int) (r : Bool) (w : World) (hr0 : Kd.C (Kd.int .i64) w A0 l0.length l0) (hc0 : l0.length ≤ c0) (h : spec_IsBitString.f k l0 = some r) :
  Calls Try.prog 112 #[.slice A0 l0.length c0] w fun e w' => e = .returned (.bool r) ∧ Drawn0 w w' := by
 have HR0 := zO hr0
 have HC0 := zO hc0
 clear hr0 hc0
 have H : (spec_IsBitString.l0 k l0 0) = some r := h
 clear h
 have H' := zO H
 clear H
 go_enter Try.func112, Try.ntmps112
 go_wp2
 go_loopg [3] k (fun kq v3 w' => ∃ (x3_1 : Int), v3 = .int .i64 x3_1 ∧ Aside0 (spec_IsBitString.l0 kq l0 x3_1 = some r) ∧ Aside0 (kq ≤ k) ∧ Drawn0 w w')
 case atStart => exact ⟨(0), (by first | rfl | (simp; done) | (simp [*]; done)), H', ⟨Nat.le_refl _⟩, by repeat (first | exact zP _ | apply zQ)⟩
 case round =>
  clear H'
  try clear c1
  obtain ⟨x3_1, rfl, HA, HK1, ⟨m1, rfl⟩⟩ := hrel
  cases gk with
  | zero => exact absurd HA.out (by simp [spec_IsBitString.l0])
  | succ k1 =>
   have H := HA.out
   clear HA
   simp only [spec_IsBitString.l0] at H
   by_cases c2 : x3_1 < (l0.length : Int)
   ·rw [if_pos c2] at H
    have c2b0 : decide (x3_1 < (l0.length : Int)) = true := decide_eq_true c2
    clear c2
    by_cases c3 : 0 ≤ x3_1
    case neg => rw [if_neg c3] at H; exact absurd H (by simp)
    rw [if_pos c3] at H
    have c3b0 : decide (0 ≤ x3_1) = true := decide_eq_true c3
    clear c3
    replace H := yE.mp H
    obtain ⟨t120, A40, H⟩ := H
    replace H : (if t120 = true then (spec_IsBitString.l0 k1 l0 (wrap64 (x3_1 + 1))) else (some false)) = some r := H
    have A4 := zO A40
    clear A40
    by_cases c5 : t120 = true
    ·subst c5
     have H1 : (spec_IsBitString.l0 k1 l0 (wrap64 (x3_1 + 1))) = some r := by rw [if_pos rfl] at H; exact H
     clear H
     have H := H1
     clear H1
     have H' := zO H
     clear H
     have p119 : 0 ≤ (x3_1 : Int) := yO (by assumption)
     have q119 : x3_1 < (l0.length : Int) := yO (by assumption)
     obtain ⟨ad119, e119, hx119_0⟩ := Kd.at_int HR0.out x3_1 p119 q119
     cases e119
     replace p119 := eq_true p119
     replace q119 := eq_true q119
     go_wp2_with (first | ((with_reducible refine zM (f := 95) rfl ?_); refine goesL_ (some 14) rfl rfl Try.func95 (by kernel_rfl) rfl #[.int .i64 (rd l0 x3_1), .int .i64 0, .int .i64 1] rfl (by (try simp only [yK, yL, yM]); first | done | rfl | (simp only [yJ, yI]; rfl)) ?_; (with_reducible refine (spec_l1In.calls (rd l0 x3_1) 0 1 true _ A4.out).mono ?_); rintro e w' ⟨rfl, ⟨nd, rfl⟩⟩; refine ⟨_, rfl, ?_⟩))
     go_roundg k1
     case measure => have := HK1.out; omega
     case rel => exact ⟨(wrap64 (x3_1 + 1)), (by first | rfl | (simp; done) | (simp [*]; done)), H', ⟨by have := HK1.out; omega⟩, by repeat (first | exact zP _ | apply zQ)⟩
    ·replace c5 := Bool.eq_false_iff.mpr c5
     subst c5
     have H1 : (some false) = some r := by rw [if_neg (show ¬ (false = true) by decide)] at H; exact H
     clear H
     have H := H1
     clear H1
     obtain rfl := Option.some.inj H
     have p119 : 0 ≤ (x3_1 : Int) := yO (by assumption)
     have q119 : x3_1 < (l0.length : Int) := yO (by assumption)
     obtain ⟨ad119, e119, hx119_0⟩ := Kd.at_int HR0.out x3_1 p119 q119
     cases e119
     replace p119 := eq_true p119
     replace q119 := eq_true q119
     go_wp2_with (first | ((with_reducible refine zM (f := 95) rfl ?_); refine goesL_ (some 14) rfl rfl Try.func95 (by kernel_rfl) rfl #[.int .i64 (rd l0 x3_1), .int .i64 0, .int .i64 1] rfl (by (try simp only [yK, yL, yM]); first | done | rfl | (simp only [yJ, yI]; rfl)) ?_; (with_reducible refine (spec_l1In.calls (rd l0 x3_1) 0 1 false _ A4.out).mono ?_); rintro e w' ⟨rfl, ⟨nd, rfl⟩⟩; refine ⟨_, rfl, ?_⟩))
     go_ret
     exact ⟨by first | rfl | exact yP _ | (simp; done) | (simp [*]; done), by repeat (first | exact zP _ | apply zQ)⟩
   ·rw [if_neg c2] at H
    have c2b0 : decide (x3_1 < (l0.length : Int)) = false := decide_eq_false c2
    clear c2
    obtain rfl := Option.some.inj H
    go_wp2
    go_ret
    exact ⟨by first | rfl | exact yP _ | (simp; done) | (simp [*]; done), by repeat (first | exact zP _ | apply zQ)⟩

mutual
def spec_BitsToInt.j0 : Nat → List Int → Int → Bool → Option (Int)
 | 0, _, _, _ => none
 | k + 1, x0, x3, x12 => if x12 = true then (some 0) else (spec_BitsToInt.l0 k x0 x3 0)
def spec_BitsToInt.l0 : Nat → List Int → Int → Int → Option (Int)
 | 0, _, _, _ => none
 | k + 1, x0, x3, x4 => if x4 < (x0.length : Int) then (if 0 ≤ x4 then (spec_BitsToInt.l0 k x0 (Go.bits .or .i64 x3 (shl .i64 (rd x0 x4) x4)) (wrap64 (x4 + 1))) else (none)) else (some x3)
end
def spec_BitsToInt.f (k : Nat) (l0 : List Int) : Option (Int) := (spec_IsBitString.f k l0).bind fun t121 => (if t121 = true then (spec_BitsToInt.j0 k l0 0 (decide ((l0.length : Int) > 40))) else (spec_BitsToInt.j0 k l0 0 true))
theorem spec_BitsToInt.calls (k : Nat) (A0 : Option Addr) (c0 : Nat) (l0 : List Int) (r : Int) (w : World) (hr0 : Kd.C (Kd.int .i64) w A0 l0.length l0) (hc0 : l0.length ≤ c0) (h : spec_BitsToInt.f k l0 = some r) :
  Calls Try.prog 70 #[.slice A0 l0.length c0] w fun e w' => e = .returned (.int .i64 r) ∧ Drawn0 w w' := by
 have HR0 := zO hr0
 have HC0 := zO hc0
 clear hr0 hc0
 have H : ((spec_IsBitString.f k l0).bind fun t121 => (if t121 = true then (spec_BitsToInt.j0 k l0 0 (decide ((l0.length : Int) > 40))) else (spec_BitsToInt.j0 k l0 0 true))) = some r := h
 clear h
 have HC2 := zO H
 clear H
 go_enter Try.func70, Try.ntmps70
 go_upto_region 2 with (fail)
 go_cut [12] (fun v12 wc => ∃ (kq : Nat) (x12_1 : Bool), v12 = .bool x12_1 ∧ Aside0 (spec_BitsToInt.j0 kq l0 0 x12_1 = some r) ∧ Aside0 (kq ≤ k) ∧ Drawn0 w wc)
 case first =>
  have H := HC2.out
  clear HC2
  replace H := yE.mp H
  obtain ⟨t121, A30, H⟩ := H
  replace H : (if t121 = true then (spec_BitsToInt.j0 k l0 0 (decide ((l0.length : Int) > 40))) else (spec_BitsToInt.j0 k l0 0 true)) = some r := H
  have A3 := zO A30
  clear A30
  by_cases c4 : t121 = true
  ·subst c4
   have H1 : (spec_BitsToInt.j0 k l0 0 (decide ((l0.length : Int) > 40))) = some r := by rw [if_pos rfl] at H; exact H
   clear H
   have H := H1
   clear H1
   have H' := zO H
   clear H
   go_wp2_with (first | ((with_reducible refine zM (f := 112) rfl ?_); refine goesL_ (some 6) rfl rfl Try.func112 (by kernel_rfl) rfl #[.slice A0 l0.length c0] rfl (by (try simp only [yK, yL, yM]); first | done | rfl | (simp only [yJ, yI]; rfl)) ?_; (with_reducible refine (spec_IsBitString.calls k _ _ l0 true _ ?side1 ?side2 A3.out).mono ?_); (case side1 => repeat (first | exact HR0.out | (with_reducible refine zR ?_ _) | (with_reducible refine zT ?_ _) | (with_reducible refine zS ?_))); (case side2 => exact HC0.out); rintro e w' ⟨rfl, ⟨nd, rfl⟩⟩; refine ⟨_, rfl, ?_⟩))
   go_meet
   case rel => exact ⟨_, (decide ((l0.length : Int) > 40)), (by first | rfl | (simp; done) | (simp [*]; done)), H', ⟨by first | omega | exact Nat.le_refl _⟩, by repeat (first | exact zP _ | apply zQ)⟩
  ·replace c4 := Bool.eq_false_iff.mpr c4
   subst c4
   have H1 : (spec_BitsToInt.j0 k l0 0 true) = some r := by rw [if_neg (show ¬ (false = true) by decide)] at H; exact H
   clear H
   have H := H1
   clear H1
   have H' := zO H
   clear H
   go_wp2_with (first | ((with_reducible refine zM (f := 112) rfl ?_); refine goesL_ (some 6) rfl rfl Try.func112 (by kernel_rfl) rfl #[.slice A0 l0.length c0] rfl (by (try simp only [yK, yL, yM]); first | done | rfl | (simp only [yJ, yI]; rfl)) ?_; (with_reducible refine (spec_IsBitString.calls k _ _ l0 false _ ?side1 ?side2 A3.out).mono ?_); (case side1 => repeat (first | exact HR0.out | (with_reducible refine zR ?_ _) | (with_reducible refine zT ?_ _) | (with_reducible refine zS ?_))); (case side2 => exact HC0.out); rintro e w' ⟨rfl, ⟨nd, rfl⟩⟩; refine ⟨_, rfl, ?_⟩))
   go_meet
   case rel => exact ⟨_, (true), (by first | rfl | (simp; done) | (simp [*]; done)), H', ⟨by first | omega | exact Nat.le_refl _⟩, by repeat (first | exact zP _ | apply zQ)⟩
 case rest =>
  clear HC2
  try clear c1
  try clear p2
  try clear c4
  obtain ⟨kq, x12_1, rfl, HA, HJ1, ⟨mc1, rfl⟩⟩ := hcut
  cases kq with
  | zero => exact absurd HA.out (by simp [spec_BitsToInt.j0])
  | succ kj1 =>
   have H := HA.out
   clear HA
   simp only [spec_BitsToInt.j0] at H
   by_cases c5 : x12_1 = true
   ·subst c5
    have H1 : (some 0) = some r := by rw [if_pos rfl] at H; exact H
    clear H
    have H := H1
    clear H1
    obtain rfl := Option.some.inj H
    go_wp2
    go_ret
    exact ⟨by first | rfl | exact yP _ | (simp; done) | (simp [*]; done), by repeat (first | exact zP _ | apply zQ)⟩
   ·replace c5 := Bool.eq_false_iff.mpr c5
    subst c5
    have H1 : (spec_BitsToInt.l0 kj1 l0 0 0) = some r := by rw [if_neg (show ¬ (false = true) by decide)] at H; exact H
    clear H
    have H := H1
    clear H1
    have H' := zO H
    clear H
    go_wp2
    go_loopg [3, 4] kj1 (fun kq v3 v4 w' => ∃ (x3_2 : Int) (x4_2 : Int), v3 = .int .i64 x3_2 ∧ v4 = .int .i64 x4_2 ∧ Aside0 (spec_BitsToInt.l0 kq l0 x3_2 x4_2 = some r) ∧ Aside0 (kq ≤ kj1) ∧ Drawn0 w w')
    case atStart => exact ⟨(0), (0), (by first | rfl | (simp; done) | (simp [*]; done)), (by first | rfl | (simp; done) | (simp [*]; done)), H', ⟨Nat.le_refl _⟩, by repeat (first | exact zP _ | apply zQ)⟩
    case round =>
     clear H'
     try clear c1
     try clear p2
     try clear c4
     try clear c5
     try clear p2
     obtain ⟨x3_2, x4_2, rfl, rfl, HA, HK2, ⟨m2, rfl⟩⟩ := hrel
     cases gk with
     | zero => exact absurd HA.out (by simp [spec_BitsToInt.l0])
     | succ k2 =>
      have H := HA.out
      clear HA
      simp only [spec_BitsToInt.l0] at H
      by_cases c6 : x4_2 < (l0.length : Int)
      ·rw [if_pos c6] at H
       have c6b0 : decide (x4_2 < (l0.length : Int)) = true := decide_eq_true c6
       clear c6
       by_cases c7 : 0 ≤ x4_2
       case neg => rw [if_neg c7] at H; exact absurd H (by simp)
       rw [if_pos c7] at H
       have c7b0 : decide (0 ≤ x4_2) = true := decide_eq_true c7
       clear c7
       have c8b0 := eq_true (yO (by assumption) : 0 ≤ x4_2)
       obtain ⟨ji9, hji9⟩ : ∃ j_ : Int, (shl .i64 (rd l0 x4_2) x4_2) = j_ := ⟨_, rfl⟩
       replace H : (spec_BitsToInt.l0 k2 l0 (Go.bits .or .i64 x3_2 (ji9)) (wrap64 (x4_2 + 1))) = some r := by first | (rw [hji9] at H; exact H) | (simp only [hji9] at H ⊢; exact H)
       have hji9_ : (IntKind.i64.wrap ((rd l0 x4_2) * 2 ^ min x4_2.toNat 64)) = ji9 := hji9
       have hji9z : x4_2 ≤ 64 → (IntKind.i64.wrap ((rd l0 x4_2) * 2 ^ x4_2.toNat)) = ji9 := shl_small hji9
       have hji9y : (wrap64 ((rd l0 x4_2) * 2 ^ min x4_2.toNat 64)) = ji9 := (i64_w _).symm.trans hji9_
       have hji9x : x4_2 ≤ 64 → (wrap64 ((rd l0 x4_2) * 2 ^ x4_2.toNat)) = ji9 := fun h_ => (i64_w _).symm.trans (hji9z h_)
       have H' := zO H
       clear H
       have p122 : 0 ≤ (x4_2 : Int) := yO (by assumption)
       have q122 : x4_2 < (l0.length : Int) := yO (by assumption)
       obtain ⟨ad122, e122, hx122_0⟩ := Kd.at_int HR0.out x4_2 p122 q122
       cases e122
       replace p122 := eq_true p122
       replace q122 := eq_true q122
       go_wp2
       go_roundg k2
       case measure => have := HJ1.out; have := HK2.out; omega
       case rel => exact ⟨(Go.bits .or .i64 x3_2 (ji9)), (wrap64 (x4_2 + 1)), (by first | rfl | (simp; done) | (simp only [← hji9] <;> (first | rfl | simp)) | (simp [*]; done)), (by first | rfl | (simp; done) | (simp [*]; done)), H', ⟨by have := HJ1.out; have := HK2.out; omega⟩, by repeat (first | exact zP _ | apply zQ)⟩
      ·rw [if_neg c6] at H
       have c6b0 : decide (x4_2 < (l0.length : Int)) = false := decide_eq_false c6
       clear c6
       obtain rfl := Option.some.inj H
       go_wp2
       go_ret
       exact ⟨by first | rfl | exact yP _ | (simp; done) | (simp [*]; done), by repeat (first | exact zP _ | apply zQ)⟩

def spec_Parity.f (k : Nat) (l0 : List Int) : Option (Int) := (spec_Weight.f k l0).bind fun t123 => (some (Int.tmod t123 2))
theorem spec_Parity.calls (k : Nat) (A0 : Option Addr) (c0 : Nat) (l0 : List Int) (r : Int) (w : World) (hr0 : Kd.C (Kd.int .i64) w A0 l0.length l0) (hc0 : l0.length ≤ c0) (h : spec_Parity.f k l0 = some r) :
  Calls Try.prog 71 #[.slice A0 l0.length c0] w fun e w' => e = .returned (.int .i64 r) ∧ Drawn0 w w' := by
 have HR0 := zO hr0
 have HC0 := zO hc0
 clear hr0 hc0
 have H : ((spec_Weight.f k l0).bind fun t123 => (some (Int.tmod t123 2))) = some r := h
 clear h
 replace H := yE.mp H
 obtain ⟨t123, A20, H⟩ := H
 replace H : (some (Int.tmod t123 2)) = some r := H
 have A2 := zO A20
 clear A20
 obtain rfl := Option.some.inj H
 go_enter Try.func71, Try.ntmps71
 go_wp2_with (first | ((with_reducible refine zM (f := 69) rfl ?_); refine goesL_ (some 4) rfl rfl Try.func69 (by kernel_rfl) rfl #[.slice A0 l0.length c0] rfl (by (try simp only [yK, yL, yM]); first | done | rfl | (simp only [yJ, yI]; rfl)) ?_; (with_reducible refine (spec_Weight.calls k _ _ l0 t123 _ ?side1 ?side2 A2.out).mono ?_); (case side1 => repeat (first | exact HR0.out | (with_reducible refine zR ?_ _) | (with_reducible refine zT ?_ _) | (with_reducible refine zS ?_))); (case side2 => exact HC0.out); rintro e w' ⟨rfl, ⟨nd, rfl⟩⟩; refine ⟨_, rfl, ?_⟩))
 go_ret
 exact ⟨by first | rfl | exact yP _ | (simp; done) | (simp [*]; done), by repeat (first | exact zP _ | apply zQ)⟩

end Go.Proofs.Ytldbmljooafkcaa.PFnExactReceiveFrame
