/- Contracts of Go functions. Conditions: the arguments read as the Lean function's. Written by print2.py, shrink.py (this session's). -/
import Derived.Test.YtldbmljooafkcaaPFnExactReceiveFramex0
import Derived.Test.YtldbmljooafkcaaPFnExactReceiveFramex1
namespace Go.Proofs.Ytldbmljooafkcaa.PFnExactReceiveFrame
open Go.RowKit Go.Proofs.YtldbmljooafkcaaW.PrintWords Go.Proofs.YtldbmljooafkcaaW.PrintLast Go.Proofs.YtldbmljooafkcaaW.PrintMore
open Go.Proofs.YtldbmljooafkcaaW.PrintWords renaming below_alloc → zA, below_drew1 → zB, below_set → zC, below_size → zD, below_step → zE, blk_alloc → zF, blk_below → zG, blk_cell → zH, blk_drew → zI, blk_drewN → zJ, blk_frozen → zK, pw_below_drewN → zL, gate_callee → zM, gate_dst → zN
open Go.Proofs.YtldbmljooafkcaaW.PrintWords.Aside0 renaming mk → zO
open Go.Proofs.YtldbmljooafkcaaW.PrintWords.Drawn0 renaming refl → zP, step → zQ
open Go.Proofs.YtldbmljooafkcaaW.PrintWords.Kd renaming C_alloc → zR, C_drew → zS, C_drewN → zT, R_alloc → zU, R_drew → zV, R_drewN → zW, R_lower → yA
open Option renaming bind_eq_some_iff → yE
open List renaming length_take → yI, length_drop → yJ, map_toArray → yK, map_cons → yL, map_nil → yM
open Go.World renaming drewN_drewN → yN
set_option maxHeartbeats 8000000
set_option maxRecDepth 100000
attribute [local go_sem] max2_int min2_int max_two min_two max_three min_three max_four min_four
set_option linter.unusedVariables false
set_option linter.unusedSimpArgs false

mutual
def spec_Crc16.l0 : Nat → List Int → Int → Int → Option (Int)
 | 0, _, _, _ => none
 | k + 1, x0, x3, x4 => if x4 < (x0.length : Int) then (if 0 ≤ x4 then (spec_Crc16.l1 k x0 (Go.bits .xor .i64 x3 (wrap64 (rd x0 x4))) x4 0) else (none)) else (some (Go.bits .xor .i64 x3 65535))
def spec_Crc16.l1 : Nat → List Int → Int → Int → Int → Option (Int)
 | 0, _, _, _, _ => none
 | k + 1, x0, x3, x4, x5 => if x5 < 8 then (if (Go.bits .and .i64 x3 1) = 1 then (spec_Crc16.l1 k x0 (Go.bits .xor .i64 (x3 / 2) 33800) x4 (wrap64 (x5 + 1))) else (spec_Crc16.l1 k x0 (x3 / 2) x4 (wrap64 (x5 + 1)))) else (spec_Crc16.l0 k x0 x3 (wrap64 (x4 + 1)))
end
def spec_Crc16.f (k : Nat) (l0 : List Int) : Option (Int) := spec_Crc16.l0 k l0 65535 0
theorem spec_Crc16.calls (k : Nat) (A0 : Option Addr) (c0 : Nat) (l0 : List Int) (r : Int) (w : World) (hr0 : Kd.C (Kd.int .u8) w A0 l0.length l0) (hc0 : l0.length ≤ c0) (h : spec_Crc16.f k l0 = some r) :
  Calls Try.prog 138 #[.slice A0 l0.length c0] w fun e w' => e = .returned (.int .i64 r) ∧ Drawn0 w w' := by
 have HR0 := zO hr0
 have HC0 := zO hc0
 clear hr0 hc0
 have H : (spec_Crc16.l0 k l0 65535 0) = some r := h
 clear h
 have H' := zO H
 clear H
 go_enter Try.func138, Try.ntmps138
 go_wp2
 go_loopg [3, 4] k (fun kq v3 v4 w' => ∃ (x3_1 : Int) (x4_1 : Int), v3 = .int .i64 x3_1 ∧ v4 = .int .i64 x4_1 ∧ Aside0 (spec_Crc16.l0 kq l0 x3_1 x4_1 = some r) ∧ Aside0 (kq ≤ k) ∧ Drawn0 w w')
 case atStart => exact ⟨(65535), (0), (by first | rfl | (simp; done) | (simp [*]; done)), (by first | rfl | (simp; done) | (simp [*]; done)), H', ⟨Nat.le_refl _⟩, by repeat (first | exact zP _ | apply zQ)⟩
 case round =>
  clear H'
  try clear c1
  obtain ⟨x3_1, x4_1, rfl, rfl, HA, HK1, ⟨m1, rfl⟩⟩ := hrel
  cases gk with
  | zero => exact absurd HA.out (by simp [spec_Crc16.l0])
  | succ k1 =>
   have H := HA.out
   clear HA
   simp only [spec_Crc16.l0] at H
   by_cases c2 : x4_1 < (l0.length : Int)
   ·rw [if_pos c2] at H
    have c2b0 : decide (x4_1 < (l0.length : Int)) = true := decide_eq_true c2
    clear c2
    by_cases c3 : 0 ≤ x4_1
    case neg => rw [if_neg c3] at H; exact absurd H (by simp)
    rw [if_pos c3] at H
    have c3b0 : decide (0 ≤ x4_1) = true := decide_eq_true c3
    clear c3
    have H' := zO H
    clear H
    have p218 : 0 ≤ (x4_1 : Int) := yO (by assumption)
    have q218 : x4_1 < (l0.length : Int) := yO (by assumption)
    obtain ⟨ad218, e218, hx218_0⟩ := Kd.at_int HR0.out x4_1 p218 q218
    cases e218
    replace p218 := eq_true p218
    replace q218 := eq_true q218
    go_wp2
    go_loopg [3, 5] k1 (fun kq v3 v5 w' => ∃ (x3_2 : Int) (x5_2 : Int), v3 = .int .i64 x3_2 ∧ v5 = .int .i64 x5_2 ∧ Aside0 (spec_Crc16.l1 kq l0 x3_2 x4_1 x5_2 = some r) ∧ Aside0 (kq ≤ k1) ∧ Drawn0 w w')
    case atStart => exact ⟨(Go.bits .xor .i64 x3_1 (wrap64 (rd l0 x4_1))), (0), (by first | rfl | (simp; done) | (simp [*]; done)), (by first | rfl | (simp; done) | (simp [*]; done)), H', ⟨Nat.le_refl _⟩, by repeat (first | exact zP _ | apply zQ)⟩
    case round =>
     clear H'
     try clear c1
     try clear c2
     try clear c2b0
     try clear p2
     try clear q2
     try clear hx2
     try clear c3
     try clear c3b0
     try clear hx218_0
     try clear p218
     try clear q218
     obtain ⟨x3_2, x5_2, rfl, rfl, HA, HK2, ⟨m2, rfl⟩⟩ := hrel
     cases gk with
     | zero => exact absurd HA.out (by simp [spec_Crc16.l1])
     | succ k2 =>
      have H := HA.out
      clear HA
      simp only [spec_Crc16.l1] at H
      by_cases c4 : x5_2 < 8
      ·rw [if_pos c4] at H
       have c4b0 : decide (x5_2 < 8) = true := decide_eq_true c4
       clear c4
       by_cases c5 : (Go.bits .and .i64 x3_2 1) = 1
       ·rw [if_pos c5] at H
        have c5b0 : ((Go.bits .and .i64 x3_2 1) == 1) = true := beq_iff_eq.mpr c5
        have c5b1 : ((Go.bits .and .i64 x3_2 1) != 1) = false := bne_eq_false_iff_eq.mpr c5
        clear c5
        have H' := zO H
        clear H
        go_wp2
        go_roundg k2
        case measure => have := HK1.out; have := HK2.out; omega
        case rel => exact ⟨(Go.bits .xor .i64 (x3_2 / 2) 33800), (wrap64 (x5_2 + 1)), (by first | rfl | (simp; done) | (simp [*]; done)), (by first | rfl | (simp; done) | (simp [*]; done)), H', ⟨by have := HK1.out; have := HK2.out; omega⟩, by repeat (first | exact zP _ | apply zQ)⟩
       ·rw [if_neg c5] at H
        have c5b0 : ((Go.bits .and .i64 x3_2 1) == 1) = false := beq_eq_false_iff_ne.mpr c5
        have c5b1 : ((Go.bits .and .i64 x3_2 1) != 1) = true := bne_iff_ne.mpr c5
        have H' := zO H
        clear H
        go_wp2
        go_roundg k2
        case measure => have := HK1.out; have := HK2.out; omega
        case rel => exact ⟨(x3_2 / 2), (wrap64 (x5_2 + 1)), (by first | rfl | (simp; done) | (simp [*]; done)), (by first | rfl | (simp; done) | (simp [*]; done)), H', ⟨by have := HK1.out; have := HK2.out; omega⟩, by repeat (first | exact zP _ | apply zQ)⟩
      ·rw [if_neg c4] at H
       have c4b0 : decide (x5_2 < 8) = false := decide_eq_false c4
       clear c4
       have H' := zO H
       clear H
       go_wp2
       go_roundg k2
       case measure => have := HK1.out; have := HK2.out; omega
       case rel => exact ⟨(x3_2), (wrap64 (x4_1 + 1)), (by first | rfl | (simp; done) | (simp [*]; done)), (by first | rfl | (simp; done) | (simp [*]; done)), H', ⟨by have := HK1.out; have := HK2.out; omega⟩, by repeat (first | exact zP _ | apply zQ)⟩
   ·rw [if_neg c2] at H
    have c2b0 : decide (x4_1 < (l0.length : Int)) = false := decide_eq_false c2
    clear c2
    obtain rfl := Option.some.inj H
    go_wp2
    go_ret
    exact ⟨by first | rfl | exact yP _ | (simp; done) | (simp [*]; done), by repeat (first | exact zP _ | apply zQ)⟩

def spec_CheckCrc.f (k : Nat) (l0 : List Int) : Option (List Int × Bool) := if (wrap64 ((l0.length : Int) - 2)) < 0 then (some ((([] : List Int)), false)) else (if 0 ≤ (wrap64 ((l0.length : Int) - 2)) then (if (wrap64 ((l0.length : Int) - 2)) < (l0.length : Int) then (if 0 ≤ (wrap64 ((wrap64 ((l0.length : Int) - 2)) + 1)) then (if (wrap64 ((wrap64 ((l0.length : Int) - 2)) + 1)) < (l0.length : Int) then (if (wrap64 ((l0.length : Int) - 2)) ≤ (l0.length : Int) then ((spec_Crc16.f k (l0.take ((wrap64 ((l0.length : Int) - 2)) : Int).toNat)).bind fun t225 => (if (Go.bits .or .i64 (wrap64 (rd l0 (wrap64 ((l0.length : Int) - 2)))) (wrap64 ((wrap64 (rd l0 (wrap64 ((wrap64 ((l0.length : Int) - 2)) + 1)))) * 256))) = t225 then ((some (([] : List Int) : List Int)).bind fun y226 => (if y226.length + (l0.take ((wrap64 ((l0.length : Int) - 2)) : Int).toNat).length < 140737488355328 then (some ((y226 ++ (l0.take ((wrap64 ((l0.length : Int) - 2)) : Int).toNat)), true)) else (none))) else (some ((([] : List Int)), false)))) else (none)) else (none)) else (none)) else (none)) else (none))
theorem spec_CheckCrc.calls (k : Nat) (A0 : Option Addr) (c0 : Nat) (l0 : List Int) (r1 : List Int) (r2 : Bool) (w : World) (hr0 : Kd.C (Kd.int .u8) w A0 l0.length l0) (hc0 : l0.length ≤ c0) (h : spec_CheckCrc.f k l0 = some (r1, r2)) :
  Calls Try.prog 76 #[.slice A0 l0.length c0] w fun e w' => ∃ v0_ : Value, e = .returned (.tuple #[v0_, .bool r2]) ∧ Kd.R (Kd.int .u8) 5 w' w.heap.size (fun _ => True) v0_ r1 ∧ Below w.heap.size w w' := by
 have HR0 := zO hr0
 have HC0 := zO hc0
 clear hr0 hc0
 have HB := zO (Below.refl w.heap.size w)
 have H : (if (wrap64 ((l0.length : Int) - 2)) < 0 then (some ((([] : List Int)), false)) else (if 0 ≤ (wrap64 ((l0.length : Int) - 2)) then (if (wrap64 ((l0.length : Int) - 2)) < (l0.length : Int) then (if 0 ≤ (wrap64 ((wrap64 ((l0.length : Int) - 2)) + 1)) then (if (wrap64 ((wrap64 ((l0.length : Int) - 2)) + 1)) < (l0.length : Int) then (if (wrap64 ((l0.length : Int) - 2)) ≤ (l0.length : Int) then ((spec_Crc16.f k (l0.take ((wrap64 ((l0.length : Int) - 2)) : Int).toNat)).bind fun t225 => (if (Go.bits .or .i64 (wrap64 (rd l0 (wrap64 ((l0.length : Int) - 2)))) (wrap64 ((wrap64 (rd l0 (wrap64 ((wrap64 ((l0.length : Int) - 2)) + 1)))) * 256))) = t225 then ((some (([] : List Int) : List Int)).bind fun y226 => (if y226.length + (l0.take ((wrap64 ((l0.length : Int) - 2)) : Int).toNat).length < 140737488355328 then (some ((y226 ++ (l0.take ((wrap64 ((l0.length : Int) - 2)) : Int).toNat)), true)) else (none))) else (some ((([] : List Int)), false)))) else (none)) else (none)) else (none)) else (none)) else (none))) = some (r1, r2) := h
 clear h
 by_cases c2 : (wrap64 ((l0.length : Int) - 2)) < 0
 ·rw [if_pos c2] at H
  have c2b0 : decide ((wrap64 ((l0.length : Int) - 2)) < 0) = true := decide_eq_true c2
  clear c2
  obtain ⟨y219, hy219⟩ : ∃ y_ : List Int, y_ = (([] : List Int)) := ⟨_, rfl⟩
  replace H : (some (y219, false)) = some (r1, r2) := by first | (rw [hy219]; exact H) | exact H
  have Ny219 := zO hy219
  clear hy219
  simp only [Option.some.injEq, Prod.mk.injEq] at H
  obtain ⟨rfl, rfl⟩ := H
  go_enter Try.func76, Try.ntmps76
  go_wp2_with (first | ((with_reducible refine zN (N := 30) rfl ?_); refine Kd.R_lit (Kd.int .u8) _ 5 ?hg (N := 30) ?hd (xs := ([] : List Int)) (inner := []) (ok := fun _ => True) (okp := fun _ => True) ?hr ?hp (fun _ hk => hk) trivial (Below.refl _ _) (Nat.le_refl _) (by simp) ?_; (case hd => rfl); (case hg => rfl); (case hr => first | (go_simp; done) | (go_simp; rfl)); (case hp => exact (Reps.none _ _)); intro v220 w3 ho4 hb hg_ hnew_; clear hg_ hnew_; (first | rw [← Ny219.out] at ho4 | (simp only [Int.reduceToNat] at ho4; rw [← Ny219.out] at ho4)); have n0_ := zO (yA ho4 (zD (by repeat (first | exact HB.out | apply zA | apply zL | apply zB)))); have n1_ := zO (zE (by repeat (first | exact HB.out | apply zA | apply zL | apply zB)) hb); clear HB; have HO221 := n0_; have HB := n1_; clear n0_ n1_; clear hb ho4))
  repeat (go_quiet (first | ((with_reducible refine zN (N := 30) rfl ?_); refine Kd.R_lit (Kd.int .u8) _ 5 ?hg (N := 30) ?hd (xs := ([] : List Int)) (inner := []) (ok := fun _ => True) (okp := fun _ => True) ?hr ?hp (fun _ hk => hk) trivial (Below.refl _ _) (Nat.le_refl _) (by simp) ?_; (case hd => rfl); (case hg => rfl); (case hr => first | (go_simp; done) | (go_simp; rfl)); (case hp => exact (Reps.none _ _)); intro v220 w3 ho4 hb hg_ hnew_; clear hg_ hnew_; (first | rw [← Ny219.out] at ho4 | (simp only [Int.reduceToNat] at ho4; rw [← Ny219.out] at ho4)); have n0_ := zO (yA ho4 (zD (by repeat (first | exact HB.out | apply zA | apply zL | apply zB)))); have n1_ := zO (zE (by repeat (first | exact HB.out | apply zA | apply zL | apply zB)) hb); clear HB; have HO221 := n0_; have HB := n1_; clear n0_ n1_; clear hb ho4)); try go_wp2_with (first | ((with_reducible refine zN (N := 30) rfl ?_); refine Kd.R_lit (Kd.int .u8) _ 5 ?hg (N := 30) ?hd (xs := ([] : List Int)) (inner := []) (ok := fun _ => True) (okp := fun _ => True) ?hr ?hp (fun _ hk => hk) trivial (Below.refl _ _) (Nat.le_refl _) (by simp) ?_; (case hd => rfl); (case hg => rfl); (case hr => first | (go_simp; done) | (go_simp; rfl)); (case hp => exact (Reps.none _ _)); intro v220 w3 ho4 hb hg_ hnew_; clear hg_ hnew_; (first | rw [← Ny219.out] at ho4 | (simp only [Int.reduceToNat] at ho4; rw [← Ny219.out] at ho4)); have n0_ := zO (yA ho4 (zD (by repeat (first | exact HB.out | apply zA | apply zL | apply zB)))); have n1_ := zO (zE (by repeat (first | exact HB.out | apply zA | apply zL | apply zB)) hb); clear HB; have HO221 := n0_; have HB := n1_; clear n0_ n1_; clear hb ho4)))
  go_ret2
  exact ⟨_, by first | rfl | (simp [errW_none, errW_some] <;> rfl) | (simp [*, errW_none, errW_some] <;> rfl), by (with_reducible repeat (first | apply zU | apply zW | apply zV)); exact HO221.out, by repeat (first | exact HB.out | apply zA | apply zL | apply zB)⟩
 ·rw [if_neg c2] at H
  have c2b0 : decide ((wrap64 ((l0.length : Int) - 2)) < 0) = false := decide_eq_false c2
  clear c2
  obtain ⟨ji5, hji5⟩ : ∃ j_ : Int, (wrap64 ((l0.length : Int) - 2)) = j_ := ⟨_, rfl⟩
  replace H : (if 0 ≤ (ji5) then (if (ji5) < (l0.length : Int) then (if 0 ≤ (wrap64 ((ji5) + 1)) then (if (wrap64 ((ji5) + 1)) < (l0.length : Int) then (if (ji5) ≤ (l0.length : Int) then ((spec_Crc16.f k (l0.take ((ji5) : Int).toNat)).bind fun t225 => (if (Go.bits .or .i64 (wrap64 (rd l0 (ji5))) (wrap64 ((wrap64 (rd l0 (wrap64 ((ji5) + 1)))) * 256))) = t225 then ((some (([] : List Int) : List Int)).bind fun y226 => (if y226.length + (l0.take ((ji5) : Int).toNat).length < 140737488355328 then (some ((y226 ++ (l0.take ((ji5) : Int).toNat)), true)) else (none))) else (some ((([] : List Int)), false)))) else (none)) else (none)) else (none)) else (none)) else (none)) = some (r1, r2) := by first | (rw [hji5] at H; exact H) | (simp only [hji5] at H ⊢; exact H)
  (try rw [hji5] at c2b0)
  have hji5w : (IntKind.i64.wrap ((l0.length : Int) - 2)) = ji5 := (i64_w _).trans hji5
  by_cases c6 : 0 ≤ (ji5)
  case neg => rw [if_neg c6] at H; exact absurd H (by simp)
  rw [if_pos c6] at H
  have c6b0 : decide (0 ≤ (ji5)) = true := decide_eq_true c6
  clear c6
  by_cases c7 : (ji5) < (l0.length : Int)
  case neg => rw [if_neg c7] at H; exact absurd H (by simp)
  rw [if_pos c7] at H
  have c7b0 : decide ((ji5) < (l0.length : Int)) = true := decide_eq_true c7
  clear c7
  obtain ⟨ji8, hji8⟩ : ∃ j_ : Int, (wrap64 ((ji5) + 1)) = j_ := ⟨_, rfl⟩
  replace H : (if 0 ≤ (ji8) then (if (ji8) < (l0.length : Int) then (if (ji5) ≤ (l0.length : Int) then ((spec_Crc16.f k (l0.take ((ji5) : Int).toNat)).bind fun t225 => (if (Go.bits .or .i64 (wrap64 (rd l0 (ji5))) (wrap64 ((wrap64 (rd l0 (ji8))) * 256))) = t225 then ((some (([] : List Int) : List Int)).bind fun y226 => (if y226.length + (l0.take ((ji5) : Int).toNat).length < 140737488355328 then (some ((y226 ++ (l0.take ((ji5) : Int).toNat)), true)) else (none))) else (some ((([] : List Int)), false)))) else (none)) else (none)) else (none)) = some (r1, r2) := by first | (rw [hji8] at H; exact H) | (simp only [hji8] at H ⊢; exact H)
  have hji8w : (IntKind.i64.wrap ((ji5) + 1)) = ji8 := (i64_w _).trans hji8
  by_cases c9 : 0 ≤ (ji8)
  case neg => rw [if_neg c9] at H; exact absurd H (by simp)
  rw [if_pos c9] at H
  have c9b0 : decide (0 ≤ (ji8)) = true := decide_eq_true c9
  clear c9
  by_cases c10 : (ji8) < (l0.length : Int)
  case neg => rw [if_neg c10] at H; exact absurd H (by simp)
  rw [if_pos c10] at H
  have c10b0 : decide ((ji8) < (l0.length : Int)) = true := decide_eq_true c10
  clear c10
  have c11b0 := eq_true (yO (by assumption) : 0 ≤ (ji5))
  by_cases c12 : (ji5) ≤ (l0.length : Int)
  case neg => rw [if_neg c12] at H; exact absurd H (by simp)
  rw [if_pos c12] at H
  have c12b0 := eq_true c12
  have c12b1 : decide ((ji5) ≤ (l0.length : Int)) = true := decide_eq_true c12
  clear c12
  replace H := yE.mp H
  obtain ⟨t225, A130, H⟩ := H
  replace H : (if (Go.bits .or .i64 (wrap64 (rd l0 (ji5))) (wrap64 ((wrap64 (rd l0 (ji8))) * 256))) = t225 then ((some (([] : List Int) : List Int)).bind fun y226 => (if y226.length + (l0.take ((ji5) : Int).toNat).length < 140737488355328 then (some ((y226 ++ (l0.take ((ji5) : Int).toNat)), true)) else (none))) else (some ((([] : List Int)), false))) = some (r1, r2) := H
  have A13 := zO A130
  clear A130
  by_cases c14 : (Go.bits .or .i64 (wrap64 (rd l0 (ji5))) (wrap64 ((wrap64 (rd l0 (ji8))) * 256))) = t225
  ·rw [if_pos c14] at H
   have c14b0 : ((Go.bits .or .i64 (wrap64 (rd l0 (ji5))) (wrap64 ((wrap64 (rd l0 (ji8))) * 256))) == t225) = true := beq_iff_eq.mpr c14
   have c14b1 : ((Go.bits .or .i64 (wrap64 (rd l0 (ji5))) (wrap64 ((wrap64 (rd l0 (ji8))) * 256))) != t225) = false := bne_eq_false_iff_eq.mpr c14
   clear c14
   obtain ⟨y226, hy226⟩ : ∃ y_ : List Int, y_ = (([] : List Int)) := ⟨_, rfl⟩
   replace H : (if y226.length + (l0.take ((ji5) : Int).toNat).length < 140737488355328 then (some ((y226 ++ (l0.take ((ji5) : Int).toNat)), true)) else (none)) = some (r1, r2) := by first | (rw [hy226]; exact H) | exact H
   have Ny226 := zO hy226
   clear hy226
   have c15b0 := eq_true (yO (by assumption) : 0 ≤ (ji5))
   have c16b0 := eq_true (yO (by assumption) : (ji5) ≤ (l0.length : Int))
   by_cases c17 : y226.length + (l0.take ((ji5) : Int).toNat).length < 140737488355328
   case neg => rw [if_neg c17] at H; exact absurd H (by simp)
   rw [if_pos c17] at H
   have LMc17 := zO c17
   clear c17
   obtain ⟨y230, hy230⟩ : ∃ y_ : List Int, y_ = (y226 ++ (l0.take ((ji5) : Int).toNat)) := ⟨_, rfl⟩
   replace H : (some (y230, true)) = some (r1, r2) := by first | (rw [hy230]; exact H) | exact H
   have Ny230 := zO hy230
   clear hy230
   simp only [Option.some.injEq, Prod.mk.injEq] at H
   obtain ⟨rfl, rfl⟩ := H
   have p222 : 0 ≤ ((ji5) : Int) := yO (by assumption)
   have q222 : (ji5) < (l0.length : Int) := yO (by assumption)
   obtain ⟨ad222, e222, hx222_0⟩ := Kd.at_int HR0.out (ji5) p222 q222
   cases e222
   replace p222 := eq_true p222
   replace q222 := eq_true q222
   have p223 : 0 ≤ ((ji8) : Int) := yO (by assumption)
   have q223 : (ji8) < (l0.length : Int) := yO (by assumption)
   obtain ⟨ad223, e223, hx223_0⟩ := Kd.at_int HR0.out (ji8) p223 q223
   obtain rfl : ad222 = ad223 := (by injection e223)
   replace p223 := eq_true p223
   replace q223 := eq_true q223
   obtain ⟨i018, hi018, _, hsz18, _⟩ := info_parts info5
   obtain ⟨hcut18, hA18, hC18⟩ := print_take_of (P := Try.prog) (Value.int .u8) 0 31 5 .i64 Try.underlying31 hi018 hsz18 (some ad222) c0 l0 (ji5) (yO (by assumption)) (yO (by assumption)) HC0.out
   have HR224 := zO (Kd.C_of_reads (h1 := fun _ => rfl) (hA18 _ (Kd.reads_of_C HR0.out)))
   have HC224 := zO hC18
   clear hA18 hC18 hi018 hsz18
   go_enter Try.func76, Try.ntmps76
   go_wp2_with (first | (go_at_call 138; refine calls_of_args (args' := #[.slice (some ad222) (l0.take ((ji5) : Int).toNat).length c0]) (by have h_ := yO c12b1; rw [yI, Nat.min_eq_left (by omega)]) ?_; (with_reducible refine (spec_Crc16.calls k _ _ (l0.take ((ji5) : Int).toNat) t225 _ ?side1 ?side2 A13.out).mono ?_); (case side1 => repeat (first | exact HR224.out | (with_reducible refine zR ?_ _) | (with_reducible refine zT ?_ _) | (with_reducible refine zS ?_))); (case side2 => exact HC224.out); rintro e w' ⟨rfl, ⟨nd, rfl⟩⟩; (try first | exact ⟨rfl, _, yN _ _ _⟩ | exact ⟨rfl, _, yQ _ _ _ _⟩)) | ((with_reducible refine zN (N := 31) rfl ?_); refine Kd.R_lit (Kd.int .u8) _ 5 ?hg (N := 31) ?hd (xs := ([] : List Int)) (inner := []) (ok := fun _ => True) (okp := fun _ => True) ?hr ?hp (fun _ hk => hk) trivial (Below.refl _ _) (Nat.le_refl _) (by simp) ?_; (case hd => rfl); (case hg => rfl); (case hr => first | (go_simp; done) | (go_simp; rfl)); (case hp => exact (Reps.none _ _)); intro v227 w19 ho20 hb hg_ hnew_; clear hg_ hnew_; (first | rw [← Ny226.out] at ho20 | (simp only [Int.reduceToNat] at ho20; rw [← Ny226.out] at ho20)); have n0_ := zO (yA ho20 (zD (by repeat (first | exact HB.out | apply zA | apply zL | apply zB)))); have n1_ := zO (zE (by repeat (first | exact HB.out | apply zA | apply zL | apply zB)) hb); clear HB; have HO228 := n0_; have HB := n1_; clear n0_ n1_; clear hb ho20; obtain ⟨i021, hi021, _, hsz21, _⟩ := info_parts info5; obtain ⟨hcut21, hA21, hC21⟩ := print_take_of (P := Try.prog) (Value.int .u8) 0 31 5 .i64 Try.underlying31 hi021 hsz21 (some ad222) c0 l0 (ji5) (yO (by assumption)) (yO (by assumption)) HC0.out; have HR229 := zO (Kd.C_of_reads (h1 := fun _ => rfl) (hA21 _ (Kd.reads_of_C HR0.out))); have HC229 := zO hC21; clear hA21 hC21 hi021 hsz21) | ((with_reducible refine gate_builtin (b := .append) (xs := #[.tmp 31, .tmp 34]) rfl ?_); at_builtin; refine Kd.R_append_rows (Kd.int .u8) (w0 := w) w.heap.size rfl (.tmp 31) (.tmp 34) 31 5 (.int .u8 0) 1 rfl Try.underlying31 info5 rfl (by decide) (by omega) v227 y226 (l0.take ((ji5) : Int).toNat) _ _ _ (fun _ => True) (fun _ => False) rfl rfl ?aO ?aR (fun _ _ h => h) (fun _ h => h.elim) ?aF ?aB ?aS ?aL ?_; (case aR => first | (have h9_ := (Kd.C_below HR229.out HB.out); rw [show (l0.take ((ji5) : Int).toNat).length = (ji5).toNat from (by rw [yI]; have h_ : ((ji5) : Int) ≤ (l0.length : Int) := yO (by assumption); omega)] at h9_; exact h9_) | (rw [← show (l0.take ((ji5) : Int).toNat).length = (ji5).toNat from (by rw [yI]; have h_ : ((ji5) : Int) ≤ (l0.length : Int) := yO (by assumption); omega)]; repeat (first | exact (Kd.C_below HR229.out HB.out) | (with_reducible refine zR ?_ _) | (with_reducible refine zT ?_ _) | (with_reducible refine zS ?_))) | (repeat (first | exact (Kd.C_below HR229.out HB.out) | (with_reducible refine zR ?_ _) | (with_reducible refine zT ?_ _) | (with_reducible refine zS ?_)))); (case aB => exact (by repeat (first | exact HB.out | apply zA | apply zL | apply zB))); (case aF => exact (fun _ _ => trivial)); (case aO => exact (by (with_reducible repeat (first | apply zU | apply zW | apply zV)); exact HO228.out)); (case aS => exact (zD (by repeat (first | exact HB.out | apply zA | apply zL | apply zB)))); (case aL => have := LMc17.out; have hlx_ := (show (l0.take ((ji5) : Int).toNat).length = (ji5).toNat from (by rw [yI]; have h_ : ((ji5) : Int) ≤ (l0.length : Int) := yO (by assumption); omega)); omega); intro v231 w22 ho hb hg hat; rw [← Ny230.out] at ho; have n0_ := zO (hb); have n1_ := zO (ho); clear HB; clear HO228; have HB := n0_; have HO232 := n1_; clear n0_ n1_; clear ho hb hg hat))
   repeat (go_quiet (first | (go_at_call 138; refine calls_of_args (args' := #[.slice (some ad222) (l0.take ((ji5) : Int).toNat).length c0]) (by have h_ := yO c12b1; rw [yI, Nat.min_eq_left (by omega)]) ?_; (with_reducible refine (spec_Crc16.calls k _ _ (l0.take ((ji5) : Int).toNat) t225 _ ?side1 ?side2 A13.out).mono ?_); (case side1 => repeat (first | exact HR224.out | (with_reducible refine zR ?_ _) | (with_reducible refine zT ?_ _) | (with_reducible refine zS ?_))); (case side2 => exact HC224.out); rintro e w' ⟨rfl, ⟨nd, rfl⟩⟩; (try first | exact ⟨rfl, _, yN _ _ _⟩ | exact ⟨rfl, _, yQ _ _ _ _⟩)) | ((with_reducible refine zN (N := 31) rfl ?_); refine Kd.R_lit (Kd.int .u8) _ 5 ?hg (N := 31) ?hd (xs := ([] : List Int)) (inner := []) (ok := fun _ => True) (okp := fun _ => True) ?hr ?hp (fun _ hk => hk) trivial (Below.refl _ _) (Nat.le_refl _) (by simp) ?_; (case hd => rfl); (case hg => rfl); (case hr => first | (go_simp; done) | (go_simp; rfl)); (case hp => exact (Reps.none _ _)); intro v227 w19 ho20 hb hg_ hnew_; clear hg_ hnew_; (first | rw [← Ny226.out] at ho20 | (simp only [Int.reduceToNat] at ho20; rw [← Ny226.out] at ho20)); have n0_ := zO (yA ho20 (zD (by repeat (first | exact HB.out | apply zA | apply zL | apply zB)))); have n1_ := zO (zE (by repeat (first | exact HB.out | apply zA | apply zL | apply zB)) hb); clear HB; have HO228 := n0_; have HB := n1_; clear n0_ n1_; clear hb ho20; obtain ⟨i021, hi021, _, hsz21, _⟩ := info_parts info5; obtain ⟨hcut21, hA21, hC21⟩ := print_take_of (P := Try.prog) (Value.int .u8) 0 31 5 .i64 Try.underlying31 hi021 hsz21 (some ad222) c0 l0 (ji5) (yO (by assumption)) (yO (by assumption)) HC0.out; have HR229 := zO (Kd.C_of_reads (h1 := fun _ => rfl) (hA21 _ (Kd.reads_of_C HR0.out))); have HC229 := zO hC21; clear hA21 hC21 hi021 hsz21) | ((with_reducible refine gate_builtin (b := .append) (xs := #[.tmp 31, .tmp 34]) rfl ?_); at_builtin; refine Kd.R_append_rows (Kd.int .u8) (w0 := w) w.heap.size rfl (.tmp 31) (.tmp 34) 31 5 (.int .u8 0) 1 rfl Try.underlying31 info5 rfl (by decide) (by omega) v227 y226 (l0.take ((ji5) : Int).toNat) _ _ _ (fun _ => True) (fun _ => False) rfl rfl ?aO ?aR (fun _ _ h => h) (fun _ h => h.elim) ?aF ?aB ?aS ?aL ?_; (case aR => first | (have h9_ := (Kd.C_below HR229.out HB.out); rw [show (l0.take ((ji5) : Int).toNat).length = (ji5).toNat from (by rw [yI]; have h_ : ((ji5) : Int) ≤ (l0.length : Int) := yO (by assumption); omega)] at h9_; exact h9_) | (rw [← show (l0.take ((ji5) : Int).toNat).length = (ji5).toNat from (by rw [yI]; have h_ : ((ji5) : Int) ≤ (l0.length : Int) := yO (by assumption); omega)]; repeat (first | exact (Kd.C_below HR229.out HB.out) | (with_reducible refine zR ?_ _) | (with_reducible refine zT ?_ _) | (with_reducible refine zS ?_))) | (repeat (first | exact (Kd.C_below HR229.out HB.out) | (with_reducible refine zR ?_ _) | (with_reducible refine zT ?_ _) | (with_reducible refine zS ?_)))); (case aB => exact (by repeat (first | exact HB.out | apply zA | apply zL | apply zB))); (case aF => exact (fun _ _ => trivial)); (case aO => exact (by (with_reducible repeat (first | apply zU | apply zW | apply zV)); exact HO228.out)); (case aS => exact (zD (by repeat (first | exact HB.out | apply zA | apply zL | apply zB)))); (case aL => have := LMc17.out; have hlx_ := (show (l0.take ((ji5) : Int).toNat).length = (ji5).toNat from (by rw [yI]; have h_ : ((ji5) : Int) ≤ (l0.length : Int) := yO (by assumption); omega)); omega); intro v231 w22 ho hb hg hat; rw [← Ny230.out] at ho; have n0_ := zO (hb); have n1_ := zO (ho); clear HB; clear HO228; have HB := n0_; have HO232 := n1_; clear n0_ n1_; clear ho hb hg hat)); try go_wp2_with (first | (go_at_call 138; refine calls_of_args (args' := #[.slice (some ad222) (l0.take ((ji5) : Int).toNat).length c0]) (by have h_ := yO c12b1; rw [yI, Nat.min_eq_left (by omega)]) ?_; (with_reducible refine (spec_Crc16.calls k _ _ (l0.take ((ji5) : Int).toNat) t225 _ ?side1 ?side2 A13.out).mono ?_); (case side1 => repeat (first | exact HR224.out | (with_reducible refine zR ?_ _) | (with_reducible refine zT ?_ _) | (with_reducible refine zS ?_))); (case side2 => exact HC224.out); rintro e w' ⟨rfl, ⟨nd, rfl⟩⟩; (try first | exact ⟨rfl, _, yN _ _ _⟩ | exact ⟨rfl, _, yQ _ _ _ _⟩)) | ((with_reducible refine zN (N := 31) rfl ?_); refine Kd.R_lit (Kd.int .u8) _ 5 ?hg (N := 31) ?hd (xs := ([] : List Int)) (inner := []) (ok := fun _ => True) (okp := fun _ => True) ?hr ?hp (fun _ hk => hk) trivial (Below.refl _ _) (Nat.le_refl _) (by simp) ?_; (case hd => rfl); (case hg => rfl); (case hr => first | (go_simp; done) | (go_simp; rfl)); (case hp => exact (Reps.none _ _)); intro v227 w19 ho20 hb hg_ hnew_; clear hg_ hnew_; (first | rw [← Ny226.out] at ho20 | (simp only [Int.reduceToNat] at ho20; rw [← Ny226.out] at ho20)); have n0_ := zO (yA ho20 (zD (by repeat (first | exact HB.out | apply zA | apply zL | apply zB)))); have n1_ := zO (zE (by repeat (first | exact HB.out | apply zA | apply zL | apply zB)) hb); clear HB; have HO228 := n0_; have HB := n1_; clear n0_ n1_; clear hb ho20; obtain ⟨i021, hi021, _, hsz21, _⟩ := info_parts info5; obtain ⟨hcut21, hA21, hC21⟩ := print_take_of (P := Try.prog) (Value.int .u8) 0 31 5 .i64 Try.underlying31 hi021 hsz21 (some ad222) c0 l0 (ji5) (yO (by assumption)) (yO (by assumption)) HC0.out; have HR229 := zO (Kd.C_of_reads (h1 := fun _ => rfl) (hA21 _ (Kd.reads_of_C HR0.out))); have HC229 := zO hC21; clear hA21 hC21 hi021 hsz21) | ((with_reducible refine gate_builtin (b := .append) (xs := #[.tmp 31, .tmp 34]) rfl ?_); at_builtin; refine Kd.R_append_rows (Kd.int .u8) (w0 := w) w.heap.size rfl (.tmp 31) (.tmp 34) 31 5 (.int .u8 0) 1 rfl Try.underlying31 info5 rfl (by decide) (by omega) v227 y226 (l0.take ((ji5) : Int).toNat) _ _ _ (fun _ => True) (fun _ => False) rfl rfl ?aO ?aR (fun _ _ h => h) (fun _ h => h.elim) ?aF ?aB ?aS ?aL ?_; (case aR => first | (have h9_ := (Kd.C_below HR229.out HB.out); rw [show (l0.take ((ji5) : Int).toNat).length = (ji5).toNat from (by rw [yI]; have h_ : ((ji5) : Int) ≤ (l0.length : Int) := yO (by assumption); omega)] at h9_; exact h9_) | (rw [← show (l0.take ((ji5) : Int).toNat).length = (ji5).toNat from (by rw [yI]; have h_ : ((ji5) : Int) ≤ (l0.length : Int) := yO (by assumption); omega)]; repeat (first | exact (Kd.C_below HR229.out HB.out) | (with_reducible refine zR ?_ _) | (with_reducible refine zT ?_ _) | (with_reducible refine zS ?_))) | (repeat (first | exact (Kd.C_below HR229.out HB.out) | (with_reducible refine zR ?_ _) | (with_reducible refine zT ?_ _) | (with_reducible refine zS ?_)))); (case aB => exact (by repeat (first | exact HB.out | apply zA | apply zL | apply zB))); (case aF => exact (fun _ _ => trivial)); (case aO => exact (by (with_reducible repeat (first | apply zU | apply zW | apply zV)); exact HO228.out)); (case aS => exact (zD (by repeat (first | exact HB.out | apply zA | apply zL | apply zB)))); (case aL => have := LMc17.out; have hlx_ := (show (l0.take ((ji5) : Int).toNat).length = (ji5).toNat from (by rw [yI]; have h_ : ((ji5) : Int) ≤ (l0.length : Int) := yO (by assumption); omega)); omega); intro v231 w22 ho hb hg hat; rw [← Ny230.out] at ho; have n0_ := zO (hb); have n1_ := zO (ho); clear HB; clear HO228; have HB := n0_; have HO232 := n1_; clear n0_ n1_; clear ho hb hg hat)))
   go_ret2
   exact ⟨_, by first | rfl | (simp [errW_none, errW_some] <;> rfl) | (simp only [← hji5, ← hji8]; first | rfl | (simp [errW_none, errW_some] <;> rfl)) | (simp [*, errW_none, errW_some] <;> rfl), by (with_reducible repeat (first | apply zU | apply zW | apply zV)); exact HO232.out, by repeat (first | exact HB.out | apply zA | apply zL | apply zB)⟩
  ·rw [if_neg c14] at H
   have c14b0 : ((Go.bits .or .i64 (wrap64 (rd l0 (ji5))) (wrap64 ((wrap64 (rd l0 (ji8))) * 256))) == t225) = false := beq_eq_false_iff_ne.mpr c14
   have c14b1 : ((Go.bits .or .i64 (wrap64 (rd l0 (ji5))) (wrap64 ((wrap64 (rd l0 (ji8))) * 256))) != t225) = true := bne_iff_ne.mpr c14
   obtain ⟨y233, hy233⟩ : ∃ y_ : List Int, y_ = (([] : List Int)) := ⟨_, rfl⟩
   replace H : (some (y233, false)) = some (r1, r2) := by first | (rw [hy233]; exact H) | exact H
   have Ny233 := zO hy233
   clear hy233
   simp only [Option.some.injEq, Prod.mk.injEq] at H
   obtain ⟨rfl, rfl⟩ := H
   have p222 : 0 ≤ ((ji5) : Int) := yO (by assumption)
   have q222 : (ji5) < (l0.length : Int) := yO (by assumption)
   obtain ⟨ad222, e222, hx222_0⟩ := Kd.at_int HR0.out (ji5) p222 q222
   cases e222
   replace p222 := eq_true p222
   replace q222 := eq_true q222
   have p223 : 0 ≤ ((ji8) : Int) := yO (by assumption)
   have q223 : (ji8) < (l0.length : Int) := yO (by assumption)
   obtain ⟨ad223, e223, hx223_0⟩ := Kd.at_int HR0.out (ji8) p223 q223
   obtain rfl : ad222 = ad223 := (by injection e223)
   replace p223 := eq_true p223
   replace q223 := eq_true q223
   obtain ⟨i023, hi023, _, hsz23, _⟩ := info_parts info5
   obtain ⟨hcut23, hA23, hC23⟩ := print_take_of (P := Try.prog) (Value.int .u8) 0 31 5 .i64 Try.underlying31 hi023 hsz23 (some ad222) c0 l0 (ji5) (yO (by assumption)) (yO (by assumption)) HC0.out
   have HR224 := zO (Kd.C_of_reads (h1 := fun _ => rfl) (hA23 _ (Kd.reads_of_C HR0.out)))
   have HC224 := zO hC23
   clear hA23 hC23 hi023 hsz23
   go_enter Try.func76, Try.ntmps76
   go_wp2_with (first | (go_at_call 138; refine calls_of_args (args' := #[.slice (some ad222) (l0.take ((ji5) : Int).toNat).length c0]) (by have h_ := yO c12b1; rw [yI, Nat.min_eq_left (by omega)]) ?_; (with_reducible refine (spec_Crc16.calls k _ _ (l0.take ((ji5) : Int).toNat) t225 _ ?side1 ?side2 A13.out).mono ?_); (case side1 => repeat (first | exact HR224.out | (with_reducible refine zR ?_ _) | (with_reducible refine zT ?_ _) | (with_reducible refine zS ?_))); (case side2 => exact HC224.out); rintro e w' ⟨rfl, ⟨nd, rfl⟩⟩; (try first | exact ⟨rfl, _, yN _ _ _⟩ | exact ⟨rfl, _, yQ _ _ _ _⟩)) | ((with_reducible refine zN (N := 30) rfl ?_); refine Kd.R_lit (Kd.int .u8) _ 5 ?hg (N := 30) ?hd (xs := ([] : List Int)) (inner := []) (ok := fun _ => True) (okp := fun _ => True) ?hr ?hp (fun _ hk => hk) trivial (Below.refl _ _) (Nat.le_refl _) (by simp) ?_; (case hd => rfl); (case hg => rfl); (case hr => first | (go_simp; done) | (go_simp; rfl)); (case hp => exact (Reps.none _ _)); intro v234 w24 ho25 hb hg_ hnew_; clear hg_ hnew_; (first | rw [← Ny233.out] at ho25 | (simp only [Int.reduceToNat] at ho25; rw [← Ny233.out] at ho25)); have n0_ := zO (yA ho25 (zD (by repeat (first | exact HB.out | apply zA | apply zL | apply zB)))); have n1_ := zO (zE (by repeat (first | exact HB.out | apply zA | apply zL | apply zB)) hb); clear HB; have HO235 := n0_; have HB := n1_; clear n0_ n1_; clear hb ho25))
   repeat (go_quiet (first | (go_at_call 138; refine calls_of_args (args' := #[.slice (some ad222) (l0.take ((ji5) : Int).toNat).length c0]) (by have h_ := yO c12b1; rw [yI, Nat.min_eq_left (by omega)]) ?_; (with_reducible refine (spec_Crc16.calls k _ _ (l0.take ((ji5) : Int).toNat) t225 _ ?side1 ?side2 A13.out).mono ?_); (case side1 => repeat (first | exact HR224.out | (with_reducible refine zR ?_ _) | (with_reducible refine zT ?_ _) | (with_reducible refine zS ?_))); (case side2 => exact HC224.out); rintro e w' ⟨rfl, ⟨nd, rfl⟩⟩; (try first | exact ⟨rfl, _, yN _ _ _⟩ | exact ⟨rfl, _, yQ _ _ _ _⟩)) | ((with_reducible refine zN (N := 30) rfl ?_); refine Kd.R_lit (Kd.int .u8) _ 5 ?hg (N := 30) ?hd (xs := ([] : List Int)) (inner := []) (ok := fun _ => True) (okp := fun _ => True) ?hr ?hp (fun _ hk => hk) trivial (Below.refl _ _) (Nat.le_refl _) (by simp) ?_; (case hd => rfl); (case hg => rfl); (case hr => first | (go_simp; done) | (go_simp; rfl)); (case hp => exact (Reps.none _ _)); intro v234 w24 ho25 hb hg_ hnew_; clear hg_ hnew_; (first | rw [← Ny233.out] at ho25 | (simp only [Int.reduceToNat] at ho25; rw [← Ny233.out] at ho25)); have n0_ := zO (yA ho25 (zD (by repeat (first | exact HB.out | apply zA | apply zL | apply zB)))); have n1_ := zO (zE (by repeat (first | exact HB.out | apply zA | apply zL | apply zB)) hb); clear HB; have HO235 := n0_; have HB := n1_; clear n0_ n1_; clear hb ho25)); try go_wp2_with (first | (go_at_call 138; refine calls_of_args (args' := #[.slice (some ad222) (l0.take ((ji5) : Int).toNat).length c0]) (by have h_ := yO c12b1; rw [yI, Nat.min_eq_left (by omega)]) ?_; (with_reducible refine (spec_Crc16.calls k _ _ (l0.take ((ji5) : Int).toNat) t225 _ ?side1 ?side2 A13.out).mono ?_); (case side1 => repeat (first | exact HR224.out | (with_reducible refine zR ?_ _) | (with_reducible refine zT ?_ _) | (with_reducible refine zS ?_))); (case side2 => exact HC224.out); rintro e w' ⟨rfl, ⟨nd, rfl⟩⟩; (try first | exact ⟨rfl, _, yN _ _ _⟩ | exact ⟨rfl, _, yQ _ _ _ _⟩)) | ((with_reducible refine zN (N := 30) rfl ?_); refine Kd.R_lit (Kd.int .u8) _ 5 ?hg (N := 30) ?hd (xs := ([] : List Int)) (inner := []) (ok := fun _ => True) (okp := fun _ => True) ?hr ?hp (fun _ hk => hk) trivial (Below.refl _ _) (Nat.le_refl _) (by simp) ?_; (case hd => rfl); (case hg => rfl); (case hr => first | (go_simp; done) | (go_simp; rfl)); (case hp => exact (Reps.none _ _)); intro v234 w24 ho25 hb hg_ hnew_; clear hg_ hnew_; (first | rw [← Ny233.out] at ho25 | (simp only [Int.reduceToNat] at ho25; rw [← Ny233.out] at ho25)); have n0_ := zO (yA ho25 (zD (by repeat (first | exact HB.out | apply zA | apply zL | apply zB)))); have n1_ := zO (zE (by repeat (first | exact HB.out | apply zA | apply zL | apply zB)) hb); clear HB; have HO235 := n0_; have HB := n1_; clear n0_ n1_; clear hb ho25)))
   go_ret2
   exact ⟨_, by first | rfl | (simp [errW_none, errW_some] <;> rfl) | (simp only [← hji5, ← hji8]; first | rfl | (simp [errW_none, errW_some] <;> rfl)) | (simp [*, errW_none, errW_some] <;> rfl), by (with_reducible repeat (first | apply zU | apply zW | apply zV)); exact HO235.out, by repeat (first | exact HB.out | apply zA | apply zL | apply zB)⟩

def spec_EncodedLength.f (a0 : Int) : Option (Int) := (spec_l1In.f a0 0 1000000000000).bind fun t236 => (if t236 = true then (some (wrap64 (2 * (wrap64 (a0 + 2))))) else (some 0))
theorem spec_EncodedLength.calls (a0 : Int) (r : Int) (w : World) (h : spec_EncodedLength.f a0 = some r) :
  Calls Try.prog 111 #[.int .i64 a0] w fun e w' => e = .returned (.int .i64 r) ∧ Drawn0 w w' := by
 have H : ((spec_l1In.f a0 0 1000000000000).bind fun t236 => (if t236 = true then (some (wrap64 (2 * (wrap64 (a0 + 2))))) else (some 0))) = some r := h
 clear h
 replace H := yE.mp H
 obtain ⟨t236, A20, H⟩ := H
 replace H : (if t236 = true then (some (wrap64 (2 * (wrap64 (a0 + 2))))) else (some 0)) = some r := H
 have A2 := zO A20
 clear A20
 by_cases c3 : t236 = true
 ·subst c3
  have H1 : (some (wrap64 (2 * (wrap64 (a0 + 2))))) = some r := by rw [if_pos rfl] at H; exact H
  clear H
  have H := H1
  clear H1
  obtain rfl := Option.some.inj H
  go_enter Try.func111, Try.ntmps111
  go_wp2_with (first | ((with_reducible refine zM (f := 95) rfl ?_); refine goesL_ (some 4) rfl rfl Try.func95 (by kernel_rfl) rfl #[.int .i64 a0, .int .i64 0, .int .i64 1000000000000] rfl (by (try simp only [yK, yL, yM]); first | done | rfl | (simp only [yJ, yI]; rfl)) ?_; (with_reducible refine (spec_l1In.calls a0 0 1000000000000 true _ A2.out).mono ?_); rintro e w' ⟨rfl, ⟨nd, rfl⟩⟩; refine ⟨_, rfl, ?_⟩))
  go_ret
  exact ⟨by first | rfl | exact yP _ | (simp; done) | (simp [*]; done), by repeat (first | exact zP _ | apply zQ)⟩
 ·replace c3 := Bool.eq_false_iff.mpr c3
  subst c3
  have H1 : (some 0) = some r := by rw [if_neg (show ¬ (false = true) by decide)] at H; exact H
  clear H
  have H := H1
  clear H1
  obtain rfl := Option.some.inj H
  go_enter Try.func111, Try.ntmps111
  go_wp2_with (first | ((with_reducible refine zM (f := 95) rfl ?_); refine goesL_ (some 4) rfl rfl Try.func95 (by kernel_rfl) rfl #[.int .i64 a0, .int .i64 0, .int .i64 1000000000000] rfl (by (try simp only [yK, yL, yM]); first | done | rfl | (simp only [yJ, yI]; rfl)) ?_; (with_reducible refine (spec_l1In.calls a0 0 1000000000000 false _ A2.out).mono ?_); rintro e w' ⟨rfl, ⟨nd, rfl⟩⟩; refine ⟨_, rfl, ?_⟩))
  go_ret
  exact ⟨by first | rfl | exact yP _ | (simp; done) | (simp [*]; done), by repeat (first | exact zP _ | apply zQ)⟩

def spec_PuncturedLength.f (a0 : Int) : Option (Int) := if a0 < 0 then (some 0) else (some (wrap64 (a0 - (wrap64 (Int.tdiv a0 4)))))
theorem spec_PuncturedLength.calls (a0 : Int) (r : Int) (w : World) (h : spec_PuncturedLength.f a0 = some r) :
  Calls Try.prog 156 #[.int .i64 a0] w fun e w' => e = .returned (.int .i64 r) ∧ Drawn0 w w' := by
 have H : (if a0 < 0 then (some 0) else (some (wrap64 (a0 - (wrap64 (Int.tdiv a0 4)))))) = some r := h
 clear h
 by_cases c2 : a0 < 0
 ·rw [if_pos c2] at H
  have c2b0 : decide (a0 < 0) = true := decide_eq_true c2
  clear c2
  obtain rfl := Option.some.inj H
  go_enter Try.func156, Try.ntmps156
  go_wp2
  go_ret
  exact ⟨by first | rfl | exact yP _ | (simp; done) | (simp [*]; done), by repeat (first | exact zP _ | apply zQ)⟩
 ·rw [if_neg c2] at H
  have c2b0 : decide (a0 < 0) = false := decide_eq_false c2
  clear c2
  obtain rfl := Option.some.inj H
  go_enter Try.func156, Try.ntmps156
  go_wp2
  go_ret
  exact ⟨by first | rfl | exact yP _ | (simp; done) | (simp [*]; done), by repeat (first | exact zP _ | apply zQ)⟩

def spec_PayloadSymbols.f (a0_0 : Int) (a0_1 : Int) (a0_2 : Int) : Option (Int) := (spec_IsValidHeader.f a0_0 a0_1 a0_2).bind fun t238 => (if t238 = true then ((spec_EncodedLength.f (wrap64 (8 * (wrap64 (a0_1 + 2))))).bind fun t239 => (if a0_0 = 2 then ((spec_PuncturedLength.f t239).bind fun t240 => (some t240)) else (some t239))) else (some 0))
theorem spec_PayloadSymbols.calls (a0_0 : Int) (a0_1 : Int) (a0_2 : Int) (r : Int) (w : World) (h : spec_PayloadSymbols.f a0_0 a0_1 a0_2 = some r) :
  Calls Try.prog 120 #[.agg #[.int .i64 a0_0, .int .i64 a0_1, .int .i64 a0_2]] w fun e w' => e = .returned (.int .i64 r) ∧ Below w.heap.size w w' := by
 have hu24 := Try.underlying24
 have HB := zO (Below.refl w.heap.size w)
 have H : ((spec_IsValidHeader.f a0_0 a0_1 a0_2).bind fun t238 => (if t238 = true then ((spec_EncodedLength.f (wrap64 (8 * (wrap64 (a0_1 + 2))))).bind fun t239 => (if a0_0 = 2 then ((spec_PuncturedLength.f t239).bind fun t240 => (some t240)) else (some t239))) else (some 0))) = some r := h
 clear h
 replace H := yE.mp H
 obtain ⟨t238, A20, H⟩ := H
 replace H : (if t238 = true then ((spec_EncodedLength.f (wrap64 (8 * (wrap64 (a0_1 + 2))))).bind fun t239 => (if a0_0 = 2 then ((spec_PuncturedLength.f t239).bind fun t240 => (some t240)) else (some t239))) else (some 0)) = some r := H
 have A2 := zO A20
 clear A20
 by_cases c3 : t238 = true
 ·subst c3
  have H1 : ((spec_EncodedLength.f (wrap64 (8 * (wrap64 (a0_1 + 2))))).bind fun t239 => (if a0_0 = 2 then ((spec_PuncturedLength.f t239).bind fun t240 => (some t240)) else (some t239))) = some r := by rw [if_pos rfl] at H; exact H
  clear H
  have H := H1
  clear H1
  replace H := yE.mp H
  obtain ⟨t239, A40, H⟩ := H
  replace H : (if a0_0 = 2 then ((spec_PuncturedLength.f t239).bind fun t240 => (some t240)) else (some t239)) = some r := H
  have A4 := zO A40
  clear A40
  by_cases c5 : a0_0 = 2
  ·rw [if_pos c5] at H
   have c5b0 : (a0_0 == 2) = true := beq_iff_eq.mpr c5
   have c5b1 : (a0_0 != 2) = false := bne_eq_false_iff_eq.mpr c5
   clear c5
   replace H := yE.mp H
   obtain ⟨t240, A60, H⟩ := H
   replace H : (some t240) = some r := H
   have A6 := zO A60
   clear A60
   obtain rfl := Option.some.inj H
   go_enter Try.func120, Try.ntmps120
   go_wp2_with (first | ((with_reducible refine zN (N := 1) rfl ?_); refine box_event ?hg (N := 1) ?hd (cs := #[.int .i64 a0_0, .int .i64 a0_1, .int .i64 a0_2]) (t := 24) ?hr ?_; (case hd => rfl); (case hg => rfl); (case hr => first | (go_simp; done) | (go_simp; rfl)); intro gb237 hg w7 hbox hb; have n0_ := zO (zE (by repeat (first | exact HB.out | apply zA | apply zL | apply zB)) hb); have n1_ := zO (hbox); have n2_ := zO ((by rw [hg]; exact (zD (by repeat (first | exact HB.out | apply zA | apply zL | apply zB))) : w.heap.size ≤ gb237)); have n3_ := zO ((by rw [hg]; exact (zD (by repeat (first | exact HB.out | apply zA | apply zL | apply zB))) : w.heap.size ≤ gb237)); clear HB; have HB := n0_; have BK237 := n1_; have GW237 := n2_; have GE237 := n3_; clear n0_ n1_ n2_ n3_; clear hb hbox hg; have hcz8_0 : w7.cell? ⟨gb237, 0, none⟩ = some (.int .i64 a0_0) := (zH BK237.out 0).trans rfl; have hcz8_1 : w7.cell? ⟨gb237, 1, none⟩ = some (.int .i64 a0_1) := (zH BK237.out 1).trans rfl; have hcz8_2 : w7.cell? ⟨gb237, 2, none⟩ = some (.int .i64 a0_2) := (zH BK237.out 2).trans rfl; have hfz8_0 := zK BK237.out 0; have hfz8_1 := zK BK237.out 1; have hfz8_2 := zK BK237.out 2) | ((with_reducible refine zM (f := 64) rfl ?_); refine goesL_ (some 5) rfl rfl Try.func64 (by kernel_rfl) rfl #[.agg #[.int .i64 a0_0, .int .i64 a0_1, .int .i64 a0_2]] rfl (by (try simp only [yK, yL, yM]); first | done | rfl | (simp only [yJ, yI]; rfl)) ?_; (with_reducible refine (spec_IsValidHeader.calls a0_0 a0_1 a0_2 true _ A2.out).mono ?_); rintro e w9 ⟨rfl, hb⟩; refine ⟨_, rfl, ?_⟩; have n0_ := zO (zG (g := gb237) (o := .cells #[.int .i64 a0_0, .int .i64 a0_1, .int .i64 a0_2] 24 (0, 0)) (by (with_reducible repeat (first | refine zJ ?_ _ | refine zI ?_ | refine zF ?_ _)); exact BK237.out) hb); have n1_ := zO (zE (by repeat (first | (with_reducible first | exact HB.out | apply zA | apply zL | apply zB | refine zC ?_ GE237.out) | exact HB.out)) hb); clear BK237; clear HB; have BK237 := n0_; have HB := n1_; clear n0_ n1_; (try clear hb); (try clear hb2); (try clear hk); (try clear hi); have hcz10_0 : w9.cell? ⟨gb237, 0, none⟩ = some (.int .i64 a0_0) := (zH BK237.out 0).trans rfl; have hcz10_1 : w9.cell? ⟨gb237, 1, none⟩ = some (.int .i64 a0_1) := (zH BK237.out 1).trans rfl; have hcz10_2 : w9.cell? ⟨gb237, 2, none⟩ = some (.int .i64 a0_2) := (zH BK237.out 2).trans rfl; have hfz10_0 := zK BK237.out 0; have hfz10_1 := zK BK237.out 1; have hfz10_2 := zK BK237.out 2) | ((with_reducible refine zM (f := 111) rfl ?_); refine goesL_ (some 11) rfl rfl Try.func111 (by kernel_rfl) rfl #[.int .i64 (wrap64 (8 * (wrap64 (a0_1 + 2))))] rfl (by (try simp only [yK, yL, yM]); first | done | rfl | (simp only [yJ, yI]; rfl)) ?_; (with_reducible refine (spec_EncodedLength.calls (wrap64 (8 * (wrap64 (a0_1 + 2)))) t239 _ A4.out).mono ?_); rintro e w' ⟨rfl, ⟨nd, rfl⟩⟩; refine ⟨_, rfl, ?_⟩) | ((with_reducible refine zM (f := 156) rfl ?_); refine goesL_ (some 16) rfl rfl Try.func156 (by kernel_rfl) rfl #[.int .i64 t239] rfl (by (try simp only [yK, yL, yM]); first | done | rfl | (simp only [yJ, yI]; rfl)) ?_; (with_reducible refine (spec_PuncturedLength.calls t239 t240 _ A6.out).mono ?_); rintro e w' ⟨rfl, ⟨nd, rfl⟩⟩; refine ⟨_, rfl, ?_⟩))
   go_ret
   exact ⟨by first | rfl | exact yP _ | (simp [errW_none, errW_some] <;> rfl) | (simp [*, errW_none, errW_some] <;> rfl), by repeat (first | (with_reducible first | exact HB.out | apply zA | apply zL | apply zB | refine zC ?_ GE237.out) | exact HB.out)⟩
  ·rw [if_neg c5] at H
   have c5b0 : (a0_0 == 2) = false := beq_eq_false_iff_ne.mpr c5
   have c5b1 : (a0_0 != 2) = true := bne_iff_ne.mpr c5
   obtain rfl := Option.some.inj H
   go_enter Try.func120, Try.ntmps120
   go_wp2_with (first | ((with_reducible refine zN (N := 1) rfl ?_); refine box_event ?hg (N := 1) ?hd (cs := #[.int .i64 a0_0, .int .i64 a0_1, .int .i64 a0_2]) (t := 24) ?hr ?_; (case hd => rfl); (case hg => rfl); (case hr => first | (go_simp; done) | (go_simp; rfl)); intro gb237 hg w11 hbox hb; have n0_ := zO (zE (by repeat (first | exact HB.out | apply zA | apply zL | apply zB)) hb); have n1_ := zO (hbox); have n2_ := zO ((by rw [hg]; exact (zD (by repeat (first | exact HB.out | apply zA | apply zL | apply zB))) : w.heap.size ≤ gb237)); have n3_ := zO ((by rw [hg]; exact (zD (by repeat (first | exact HB.out | apply zA | apply zL | apply zB))) : w.heap.size ≤ gb237)); clear HB; have HB := n0_; have BK237 := n1_; have GW237 := n2_; have GE237 := n3_; clear n0_ n1_ n2_ n3_; clear hb hbox hg; have hcz12_0 : w11.cell? ⟨gb237, 0, none⟩ = some (.int .i64 a0_0) := (zH BK237.out 0).trans rfl; have hcz12_1 : w11.cell? ⟨gb237, 1, none⟩ = some (.int .i64 a0_1) := (zH BK237.out 1).trans rfl; have hcz12_2 : w11.cell? ⟨gb237, 2, none⟩ = some (.int .i64 a0_2) := (zH BK237.out 2).trans rfl; have hfz12_0 := zK BK237.out 0; have hfz12_1 := zK BK237.out 1; have hfz12_2 := zK BK237.out 2) | ((with_reducible refine zM (f := 64) rfl ?_); refine goesL_ (some 5) rfl rfl Try.func64 (by kernel_rfl) rfl #[.agg #[.int .i64 a0_0, .int .i64 a0_1, .int .i64 a0_2]] rfl (by (try simp only [yK, yL, yM]); first | done | rfl | (simp only [yJ, yI]; rfl)) ?_; (with_reducible refine (spec_IsValidHeader.calls a0_0 a0_1 a0_2 true _ A2.out).mono ?_); rintro e w13 ⟨rfl, hb⟩; refine ⟨_, rfl, ?_⟩; have n0_ := zO (zG (g := gb237) (o := .cells #[.int .i64 a0_0, .int .i64 a0_1, .int .i64 a0_2] 24 (0, 0)) (by (with_reducible repeat (first | refine zJ ?_ _ | refine zI ?_ | refine zF ?_ _)); exact BK237.out) hb); have n1_ := zO (zE (by repeat (first | (with_reducible first | exact HB.out | apply zA | apply zL | apply zB | refine zC ?_ GE237.out) | exact HB.out)) hb); clear BK237; clear HB; have BK237 := n0_; have HB := n1_; clear n0_ n1_; (try clear hb); (try clear hb2); (try clear hk); (try clear hi); have hcz14_0 : w13.cell? ⟨gb237, 0, none⟩ = some (.int .i64 a0_0) := (zH BK237.out 0).trans rfl; have hcz14_1 : w13.cell? ⟨gb237, 1, none⟩ = some (.int .i64 a0_1) := (zH BK237.out 1).trans rfl; have hcz14_2 : w13.cell? ⟨gb237, 2, none⟩ = some (.int .i64 a0_2) := (zH BK237.out 2).trans rfl; have hfz14_0 := zK BK237.out 0; have hfz14_1 := zK BK237.out 1; have hfz14_2 := zK BK237.out 2) | ((with_reducible refine zM (f := 111) rfl ?_); refine goesL_ (some 11) rfl rfl Try.func111 (by kernel_rfl) rfl #[.int .i64 (wrap64 (8 * (wrap64 (a0_1 + 2))))] rfl (by (try simp only [yK, yL, yM]); first | done | rfl | (simp only [yJ, yI]; rfl)) ?_; (with_reducible refine (spec_EncodedLength.calls (wrap64 (8 * (wrap64 (a0_1 + 2)))) t239 _ A4.out).mono ?_); rintro e w' ⟨rfl, ⟨nd, rfl⟩⟩; refine ⟨_, rfl, ?_⟩))
   go_ret
   exact ⟨by first | rfl | exact yP _ | (simp [errW_none, errW_some] <;> rfl) | (simp [*, errW_none, errW_some] <;> rfl), by repeat (first | (with_reducible first | exact HB.out | apply zA | apply zL | apply zB | refine zC ?_ GE237.out) | exact HB.out)⟩
 ·replace c3 := Bool.eq_false_iff.mpr c3
  subst c3
  have H1 : (some 0) = some r := by rw [if_neg (show ¬ (false = true) by decide)] at H; exact H
  clear H
  have H := H1
  clear H1
  obtain rfl := Option.some.inj H
  go_enter Try.func120, Try.ntmps120
  go_wp2_with (first | ((with_reducible refine zN (N := 1) rfl ?_); refine box_event ?hg (N := 1) ?hd (cs := #[.int .i64 a0_0, .int .i64 a0_1, .int .i64 a0_2]) (t := 24) ?hr ?_; (case hd => rfl); (case hg => rfl); (case hr => first | (go_simp; done) | (go_simp; rfl)); intro gb237 hg w15 hbox hb; have n0_ := zO (zE (by repeat (first | exact HB.out | apply zA | apply zL | apply zB)) hb); have n1_ := zO (hbox); have n2_ := zO ((by rw [hg]; exact (zD (by repeat (first | exact HB.out | apply zA | apply zL | apply zB))) : w.heap.size ≤ gb237)); have n3_ := zO ((by rw [hg]; exact (zD (by repeat (first | exact HB.out | apply zA | apply zL | apply zB))) : w.heap.size ≤ gb237)); clear HB; have HB := n0_; have BK237 := n1_; have GW237 := n2_; have GE237 := n3_; clear n0_ n1_ n2_ n3_; clear hb hbox hg; have hcz16_0 : w15.cell? ⟨gb237, 0, none⟩ = some (.int .i64 a0_0) := (zH BK237.out 0).trans rfl; have hcz16_1 : w15.cell? ⟨gb237, 1, none⟩ = some (.int .i64 a0_1) := (zH BK237.out 1).trans rfl; have hcz16_2 : w15.cell? ⟨gb237, 2, none⟩ = some (.int .i64 a0_2) := (zH BK237.out 2).trans rfl; have hfz16_0 := zK BK237.out 0; have hfz16_1 := zK BK237.out 1; have hfz16_2 := zK BK237.out 2) | ((with_reducible refine zM (f := 64) rfl ?_); refine goesL_ (some 5) rfl rfl Try.func64 (by kernel_rfl) rfl #[.agg #[.int .i64 a0_0, .int .i64 a0_1, .int .i64 a0_2]] rfl (by (try simp only [yK, yL, yM]); first | done | rfl | (simp only [yJ, yI]; rfl)) ?_; (with_reducible refine (spec_IsValidHeader.calls a0_0 a0_1 a0_2 false _ A2.out).mono ?_); rintro e w17 ⟨rfl, hb⟩; refine ⟨_, rfl, ?_⟩; have n0_ := zO (zG (g := gb237) (o := .cells #[.int .i64 a0_0, .int .i64 a0_1, .int .i64 a0_2] 24 (0, 0)) (by (with_reducible repeat (first | refine zJ ?_ _ | refine zI ?_ | refine zF ?_ _)); exact BK237.out) hb); have n1_ := zO (zE (by repeat (first | (with_reducible first | exact HB.out | apply zA | apply zL | apply zB | refine zC ?_ GE237.out) | exact HB.out)) hb); clear BK237; clear HB; have BK237 := n0_; have HB := n1_; clear n0_ n1_; (try clear hb); (try clear hb2); (try clear hk); (try clear hi)))
  go_ret
  exact ⟨by first | rfl | exact yP _ | (simp [errW_none, errW_some] <;> rfl) | (simp [*, errW_none, errW_some] <;> rfl), by repeat (first | (with_reducible first | exact HB.out | apply zA | apply zL | apply zB | refine zC ?_ GE237.out) | exact HB.out)⟩

def spec_l8Ok.f (a0 : Int) (a1 : Int) : Option (Bool) := (spec_l1In.f a1 1 64).bind fun t241 => (if t241 = true then ((spec_l1In.f a0 0 10000).bind fun t242 => (some t242)) else (some false))
theorem spec_l8Ok.calls (a0 : Int) (a1 : Int) (r : Bool) (w : World) (h : spec_l8Ok.f a0 a1 = some r) :
  Calls Try.prog 157 #[.int .i64 a0, .int .i64 a1] w fun e w' => e = .returned (.bool r) ∧ Drawn0 w w' := by
 have H : ((spec_l1In.f a1 1 64).bind fun t241 => (if t241 = true then ((spec_l1In.f a0 0 10000).bind fun t242 => (some t242)) else (some false))) = some r := h
 clear h
 replace H := yE.mp H
 obtain ⟨t241, A30, H⟩ := H
 replace H : (if t241 = true then ((spec_l1In.f a0 0 10000).bind fun t242 => (some t242)) else (some false)) = some r := H
 have A3 := zO A30
 clear A30
 by_cases c4 : t241 = true
 ·subst c4
  have H1 : ((spec_l1In.f a0 0 10000).bind fun t242 => (some t242)) = some r := by rw [if_pos rfl] at H; exact H
  clear H
  have H := H1
  clear H1
  replace H := yE.mp H
  obtain ⟨t242, A50, H⟩ := H
  replace H : (some t242) = some r := H
  have A5 := zO A50
  clear A50
  obtain rfl := Option.some.inj H
  go_enter Try.func157, Try.ntmps157
  go_wp2_with (first | ((with_reducible refine zM (f := 95) rfl ?_); refine goesL_ (some 6) rfl rfl Try.func95 (by kernel_rfl) rfl #[.int .i64 a1, .int .i64 1, .int .i64 64] rfl (by (try simp only [yK, yL, yM]); first | done | rfl | (simp only [yJ, yI]; rfl)) ?_; (with_reducible refine (spec_l1In.calls a1 1 64 true _ A3.out).mono ?_); rintro e w' ⟨rfl, ⟨nd, rfl⟩⟩; refine ⟨_, rfl, ?_⟩) | (go_at_call 95; (with_reducible refine (spec_l1In.calls a0 0 10000 t242 _ A5.out).mono ?_); rintro e w' ⟨rfl, ⟨nd, rfl⟩⟩))
  go_ret
  exact ⟨by first | rfl | exact yP _ | (simp; done) | (simp [*]; done), by repeat (first | exact zP _ | apply zQ)⟩
 ·replace c4 := Bool.eq_false_iff.mpr c4
  subst c4
  have H1 : (some false) = some r := by rw [if_neg (show ¬ (false = true) by decide)] at H; exact H
  clear H
  have H := H1
  clear H1
  obtain rfl := Option.some.inj H
  go_enter Try.func157, Try.ntmps157
  go_wp2_with (first | ((with_reducible refine zM (f := 95) rfl ?_); refine goesL_ (some 6) rfl rfl Try.func95 (by kernel_rfl) rfl #[.int .i64 a1, .int .i64 1, .int .i64 64] rfl (by (try simp only [yK, yL, yM]); first | done | rfl | (simp only [yJ, yI]; rfl)) ?_; (with_reducible refine (spec_l1In.calls a1 1 64 false _ A3.out).mono ?_); rintro e w' ⟨rfl, ⟨nd, rfl⟩⟩; refine ⟨_, rfl, ?_⟩))
  go_ret
  exact ⟨by first | rfl | exact yP _ | (simp; done) | (simp [*]; done), by repeat (first | exact zP _ | apply zQ)⟩

def spec_Min.f (a0 : Int) (a1 : Int) : Option (Int) := if a1 < a0 then (some a1) else (some a0)
theorem spec_Min.calls (a0 : Int) (a1 : Int) (r : Int) (w : World) (h : spec_Min.f a0 a1 = some r) :
  Calls Try.prog 66 #[.int .i64 a0, .int .i64 a1] w fun e w' => e = .returned (.int .i64 r) ∧ Drawn0 w w' := by
 have H : (if a1 < a0 then (some a1) else (some a0)) = some r := h
 clear h
 by_cases c3 : a1 < a0
 ·rw [if_pos c3] at H
  have c3b0 : decide (a1 < a0) = true := decide_eq_true c3
  clear c3
  obtain rfl := Option.some.inj H
  go_enter Try.func66, Try.ntmps66
  go_wp2
  go_ret
  exact ⟨by first | rfl | exact yP _ | (simp; done) | (simp [*]; done), by repeat (first | exact zP _ | apply zQ)⟩
 ·rw [if_neg c3] at H
  have c3b0 : decide (a1 < a0) = false := decide_eq_false c3
  clear c3
  obtain rfl := Option.some.inj H
  go_enter Try.func66, Try.ntmps66
  go_wp2
  go_ret
  exact ⟨by first | rfl | exact yP _ | (simp; done) | (simp [*]; done), by repeat (first | exact zP _ | apply zQ)⟩

def spec_InterleavedIndex.f (a0 : Int) (a1 : Int) (a2 : Int) : Option (Int) := (spec_l8Ok.f a0 a1).bind fun t243 => (if t243 = true then ((spec_l1In.f a2 0 (wrap64 (a0 - 1))).bind fun t244 => (if t244 = true then (if a1 = 0 then (none) else ((spec_Min.f (Int.tmod a2 a1) (Int.tmod a0 a1)).bind fun t245 => (some (wrap64 ((wrap64 ((wrap64 ((Int.tmod a2 a1) * (wrap64 (Int.tdiv a0 a1)))) + t245)) + (wrap64 (Int.tdiv a2 a1))))))) else (some (-1)))) else (some (-1)))
theorem spec_InterleavedIndex.calls (a0 : Int) (a1 : Int) (a2 : Int) (r : Int) (w : World) (h : spec_InterleavedIndex.f a0 a1 a2 = some r) :
  Calls Try.prog 158 #[.int .i64 a0, .int .i64 a1, .int .i64 a2] w fun e w' => e = .returned (.int .i64 r) ∧ Drawn0 w w' := by
 have H : ((spec_l8Ok.f a0 a1).bind fun t243 => (if t243 = true then ((spec_l1In.f a2 0 (wrap64 (a0 - 1))).bind fun t244 => (if t244 = true then (if a1 = 0 then (none) else ((spec_Min.f (Int.tmod a2 a1) (Int.tmod a0 a1)).bind fun t245 => (some (wrap64 ((wrap64 ((wrap64 ((Int.tmod a2 a1) * (wrap64 (Int.tdiv a0 a1)))) + t245)) + (wrap64 (Int.tdiv a2 a1))))))) else (some (-1)))) else (some (-1)))) = some r := h
 clear h
 replace H := yE.mp H
 obtain ⟨t243, A40, H⟩ := H
 replace H : (if t243 = true then ((spec_l1In.f a2 0 (wrap64 (a0 - 1))).bind fun t244 => (if t244 = true then (if a1 = 0 then (none) else ((spec_Min.f (Int.tmod a2 a1) (Int.tmod a0 a1)).bind fun t245 => (some (wrap64 ((wrap64 ((wrap64 ((Int.tmod a2 a1) * (wrap64 (Int.tdiv a0 a1)))) + t245)) + (wrap64 (Int.tdiv a2 a1))))))) else (some (-1)))) else (some (-1))) = some r := H
 have A4 := zO A40
 clear A40
 by_cases c5 : t243 = true
 ·subst c5
  have H1 : ((spec_l1In.f a2 0 (wrap64 (a0 - 1))).bind fun t244 => (if t244 = true then (if a1 = 0 then (none) else ((spec_Min.f (Int.tmod a2 a1) (Int.tmod a0 a1)).bind fun t245 => (some (wrap64 ((wrap64 ((wrap64 ((Int.tmod a2 a1) * (wrap64 (Int.tdiv a0 a1)))) + t245)) + (wrap64 (Int.tdiv a2 a1))))))) else (some (-1)))) = some r := by rw [if_pos rfl] at H; exact H
  clear H
  have H := H1
  clear H1
  replace H := yE.mp H
  obtain ⟨t244, A60, H⟩ := H
  replace H : (if t244 = true then (if a1 = 0 then (none) else ((spec_Min.f (Int.tmod a2 a1) (Int.tmod a0 a1)).bind fun t245 => (some (wrap64 ((wrap64 ((wrap64 ((Int.tmod a2 a1) * (wrap64 (Int.tdiv a0 a1)))) + t245)) + (wrap64 (Int.tdiv a2 a1))))))) else (some (-1))) = some r := H
  have A6 := zO A60
  clear A60
  by_cases c7 : t244 = true
  ·subst c7
   have H1 : (if a1 = 0 then (none) else ((spec_Min.f (Int.tmod a2 a1) (Int.tmod a0 a1)).bind fun t245 => (some (wrap64 ((wrap64 ((wrap64 ((Int.tmod a2 a1) * (wrap64 (Int.tdiv a0 a1)))) + t245)) + (wrap64 (Int.tdiv a2 a1))))))) = some r := by rw [if_pos rfl] at H; exact H
   clear H
   have H := H1
   clear H1
   by_cases c8 : a1 = 0
   ·rw [if_pos c8] at H
    exact absurd H (by simp)
   ·rw [if_neg c8] at H
    have c8b0 : (a1 == 0) = false := beq_eq_false_iff_ne.mpr c8
    have c8b1 : (a1 != 0) = true := bne_iff_ne.mpr c8
    replace H := yE.mp H
    obtain ⟨t245, A90, H⟩ := H
    replace H : (some (wrap64 ((wrap64 ((wrap64 ((Int.tmod a2 a1) * (wrap64 (Int.tdiv a0 a1)))) + t245)) + (wrap64 (Int.tdiv a2 a1))))) = some r := H
    have A9 := zO A90
    clear A90
    obtain rfl := Option.some.inj H
    go_enter Try.func158, Try.ntmps158
    go_wp2_with (first | (go_at_call 157; (with_reducible refine (spec_l8Ok.calls a0 a1 true _ A4.out).mono ?_); rintro e w' ⟨rfl, ⟨nd, rfl⟩⟩; (try first | exact ⟨rfl, _, yN _ _ _⟩ | exact ⟨rfl, _, yQ _ _ _ _⟩)) | (go_at_call 95; (with_reducible refine (spec_l1In.calls a2 0 (wrap64 (a0 - 1)) true _ A6.out).mono ?_); rintro e w' ⟨rfl, ⟨nd, rfl⟩⟩; (try first | exact ⟨rfl, _, yN _ _ _⟩ | exact ⟨rfl, _, yQ _ _ _ _⟩)) | (go_at_call 66; (with_reducible refine (spec_Min.calls (Int.tmod a2 a1) (Int.tmod a0 a1) t245 _ A9.out).mono ?_); rintro e w' ⟨rfl, ⟨nd, rfl⟩⟩; (try first | exact ⟨rfl, _, yN _ _ _⟩ | exact ⟨rfl, _, yQ _ _ _ _⟩)))
    repeat (go_quiet (first | (go_at_call 157; (with_reducible refine (spec_l8Ok.calls a0 a1 true _ A4.out).mono ?_); rintro e w' ⟨rfl, ⟨nd, rfl⟩⟩; (try first | exact ⟨rfl, _, yN _ _ _⟩ | exact ⟨rfl, _, yQ _ _ _ _⟩)) | (go_at_call 95; (with_reducible refine (spec_l1In.calls a2 0 (wrap64 (a0 - 1)) true _ A6.out).mono ?_); rintro e w' ⟨rfl, ⟨nd, rfl⟩⟩; (try first | exact ⟨rfl, _, yN _ _ _⟩ | exact ⟨rfl, _, yQ _ _ _ _⟩)) | (go_at_call 66; (with_reducible refine (spec_Min.calls (Int.tmod a2 a1) (Int.tmod a0 a1) t245 _ A9.out).mono ?_); rintro e w' ⟨rfl, ⟨nd, rfl⟩⟩; (try first | exact ⟨rfl, _, yN _ _ _⟩ | exact ⟨rfl, _, yQ _ _ _ _⟩))); try go_wp2_with (first | (go_at_call 157; (with_reducible refine (spec_l8Ok.calls a0 a1 true _ A4.out).mono ?_); rintro e w' ⟨rfl, ⟨nd, rfl⟩⟩; (try first | exact ⟨rfl, _, yN _ _ _⟩ | exact ⟨rfl, _, yQ _ _ _ _⟩)) | (go_at_call 95; (with_reducible refine (spec_l1In.calls a2 0 (wrap64 (a0 - 1)) true _ A6.out).mono ?_); rintro e w' ⟨rfl, ⟨nd, rfl⟩⟩; (try first | exact ⟨rfl, _, yN _ _ _⟩ | exact ⟨rfl, _, yQ _ _ _ _⟩)) | (go_at_call 66; (with_reducible refine (spec_Min.calls (Int.tmod a2 a1) (Int.tmod a0 a1) t245 _ A9.out).mono ?_); rintro e w' ⟨rfl, ⟨nd, rfl⟩⟩; (try first | exact ⟨rfl, _, yN _ _ _⟩ | exact ⟨rfl, _, yQ _ _ _ _⟩))))
    go_ret
    exact ⟨by first | rfl | exact yP _ | (simp; done) | (simp [*]; done), by repeat (first | exact zP _ | apply zQ)⟩
  ·replace c7 := Bool.eq_false_iff.mpr c7
   subst c7
   have H1 : (some (-1)) = some r := by rw [if_neg (show ¬ (false = true) by decide)] at H; exact H
   clear H
   have H := H1
   clear H1
   obtain rfl := Option.some.inj H
   go_enter Try.func158, Try.ntmps158
   go_wp2_with (first | (go_at_call 157; (with_reducible refine (spec_l8Ok.calls a0 a1 true _ A4.out).mono ?_); rintro e w' ⟨rfl, ⟨nd, rfl⟩⟩; (try first | exact ⟨rfl, _, yN _ _ _⟩ | exact ⟨rfl, _, yQ _ _ _ _⟩)) | (go_at_call 95; (with_reducible refine (spec_l1In.calls a2 0 (wrap64 (a0 - 1)) false _ A6.out).mono ?_); rintro e w' ⟨rfl, ⟨nd, rfl⟩⟩; (try first | exact ⟨rfl, _, yN _ _ _⟩ | exact ⟨rfl, _, yQ _ _ _ _⟩)))
   repeat (go_quiet (first | (go_at_call 157; (with_reducible refine (spec_l8Ok.calls a0 a1 true _ A4.out).mono ?_); rintro e w' ⟨rfl, ⟨nd, rfl⟩⟩; (try first | exact ⟨rfl, _, yN _ _ _⟩ | exact ⟨rfl, _, yQ _ _ _ _⟩)) | (go_at_call 95; (with_reducible refine (spec_l1In.calls a2 0 (wrap64 (a0 - 1)) false _ A6.out).mono ?_); rintro e w' ⟨rfl, ⟨nd, rfl⟩⟩; (try first | exact ⟨rfl, _, yN _ _ _⟩ | exact ⟨rfl, _, yQ _ _ _ _⟩))); try go_wp2_with (first | (go_at_call 157; (with_reducible refine (spec_l8Ok.calls a0 a1 true _ A4.out).mono ?_); rintro e w' ⟨rfl, ⟨nd, rfl⟩⟩; (try first | exact ⟨rfl, _, yN _ _ _⟩ | exact ⟨rfl, _, yQ _ _ _ _⟩)) | (go_at_call 95; (with_reducible refine (spec_l1In.calls a2 0 (wrap64 (a0 - 1)) false _ A6.out).mono ?_); rintro e w' ⟨rfl, ⟨nd, rfl⟩⟩; (try first | exact ⟨rfl, _, yN _ _ _⟩ | exact ⟨rfl, _, yQ _ _ _ _⟩))))
   go_ret
   exact ⟨by first | rfl | exact yP _ | (simp; done) | (simp [*]; done), by repeat (first | exact zP _ | apply zQ)⟩
 ·replace c5 := Bool.eq_false_iff.mpr c5
  subst c5
  have H1 : (some (-1)) = some r := by rw [if_neg (show ¬ (false = true) by decide)] at H; exact H
  clear H
  have H := H1
  clear H1
  obtain rfl := Option.some.inj H
  go_enter Try.func158, Try.ntmps158
  go_wp2_with (first | (go_at_call 157; (with_reducible refine (spec_l8Ok.calls a0 a1 false _ A4.out).mono ?_); rintro e w' ⟨rfl, ⟨nd, rfl⟩⟩; (try first | exact ⟨rfl, _, yN _ _ _⟩ | exact ⟨rfl, _, yQ _ _ _ _⟩)))
  repeat (go_quiet (first | (go_at_call 157; (with_reducible refine (spec_l8Ok.calls a0 a1 false _ A4.out).mono ?_); rintro e w' ⟨rfl, ⟨nd, rfl⟩⟩; (try first | exact ⟨rfl, _, yN _ _ _⟩ | exact ⟨rfl, _, yQ _ _ _ _⟩))); try go_wp2_with (first | (go_at_call 157; (with_reducible refine (spec_l8Ok.calls a0 a1 false _ A4.out).mono ?_); rintro e w' ⟨rfl, ⟨nd, rfl⟩⟩; (try first | exact ⟨rfl, _, yN _ _ _⟩ | exact ⟨rfl, _, yQ _ _ _ _⟩))))
  go_ret
  exact ⟨by first | rfl | exact yP _ | (simp; done) | (simp [*]; done), by repeat (first | exact zP _ | apply zQ)⟩

def spec_Deinterleave.l0 : Nat → List Int → Int → List Int → Int → Option (List Int)
 | 0, _, _, _, _ => none
 | k + 1, x0, x1, x5, x6 => if x6 < (x0.length : Int) then ((spec_InterleavedIndex.f (x0.length : Int) x1 x6).bind fun t253 => (if 0 ≤ t253 then (if t253 < (x0.length : Int) then (if 0 ≤ x6 then (if x6 < (x5.length : Int) then (spec_Deinterleave.l0 k x0 x1 (x5.set (x6 : Int).toNat (rd x0 t253)) (wrap64 (x6 + 1))) else (none)) else (none)) else (none)) else (none))) else (some x5)
def spec_Deinterleave.f (k : Nat) (l0 : List Int) (a1 : Int) : Option (List Int) := (some (([] : List Int) : List Int)).bind fun y246 => (if y246.length + l0.length < 17592186044416 then ((some (y246 ++ l0 : List Int)).bind fun y249 => ((spec_l8Ok.f (l0.length : Int) a1).bind fun t252 => (if t252 = true then (spec_Deinterleave.l0 k l0 a1 y249 0) else (some y249)))) else (none))
theorem spec_Deinterleave.calls (k : Nat) (A0 : Option Addr) (c0 : Nat) (l0 : List Int) (a1 : Int) (r : List Int) (w : World) (hr0 : Kd.C (Kd.int .i64) w A0 l0.length l0) (hc0 : l0.length ≤ c0) (h : spec_Deinterleave.f k l0 a1 = some r) :
  Calls Try.prog 121 #[.slice A0 l0.length c0, .int .i64 a1] w fun e w' => ∃ v0_ : Value, e = .returned (v0_) ∧ Kd.R (Kd.int .i64) 3 w' w.heap.size (fun _ => True) v0_ r ∧ Below w.heap.size w w' := by
 have HR0 := zO hr0
 have HC0 := zO hc0
 clear hr0 hc0
 have HB := zO (Below.refl w.heap.size w)
 have H : ((some (([] : List Int) : List Int)).bind fun y246 => (if y246.length + l0.length < 17592186044416 then ((some (y246 ++ l0 : List Int)).bind fun y249 => ((spec_l8Ok.f (l0.length : Int) a1).bind fun t252 => (if t252 = true then (spec_Deinterleave.l0 k l0 a1 y249 0) else (some y249)))) else (none))) = some r := h
 clear h
 obtain ⟨y246, hy246⟩ : ∃ y_ : List Int, y_ = (([] : List Int)) := ⟨_, rfl⟩
 replace H : (if y246.length + l0.length < 17592186044416 then ((some (y246 ++ l0 : List Int)).bind fun y249 => ((spec_l8Ok.f (l0.length : Int) a1).bind fun t252 => (if t252 = true then (spec_Deinterleave.l0 k l0 a1 y249 0) else (some y249)))) else (none)) = some r := by first | (rw [hy246]; exact H) | exact H
 have Ny246 := zO hy246
 clear hy246
 by_cases c3 : y246.length + l0.length < 17592186044416
 case neg => rw [if_neg c3] at H; exact absurd H (by simp)
 rw [if_pos c3] at H
 have LMc3 := zO c3
 clear c3
 obtain ⟨y249, hy249⟩ : ∃ y_ : List Int, y_ = (y246 ++ l0) := ⟨_, rfl⟩
 replace H : ((spec_l8Ok.f (l0.length : Int) a1).bind fun t252 => (if t252 = true then (spec_Deinterleave.l0 k l0 a1 y249 0) else (some y249))) = some r := by first | (rw [hy249]; exact H) | exact H
 have Ny249 := zO hy249
 clear hy249
 replace H := yE.mp H
 obtain ⟨t252, A40, H⟩ := H
 replace H : (if t252 = true then (spec_Deinterleave.l0 k l0 a1 y249 0) else (some y249)) = some r := H
 have A4 := zO A40
 clear A40
 by_cases c5 : t252 = true
 ·subst c5
  have H1 : (spec_Deinterleave.l0 k l0 a1 y249 0) = some r := by rw [if_pos rfl] at H; exact H
  clear H
  have H := H1
  clear H1
  have H' := zO H
  clear H
  go_enter Try.func121, Try.ntmps121
  go_wp2_with (first | ((with_reducible refine zN (N := 7) rfl ?_); refine Kd.R_lit (Kd.int .i64) _ 3 ?hg (N := 7) ?hd (xs := ([] : List Int)) (inner := []) (ok := fun _ => True) (okp := fun _ => True) ?hr ?hp (fun _ hk => hk) trivial (Below.refl _ _) (Nat.le_refl _) (by simp) ?_; (case hd => rfl); (case hg => rfl); (case hr => first | (go_simp; done) | (go_simp; rfl)); (case hp => exact (Reps.none _ _)); intro v247 w6 ho7 hb hg_ hnew_; clear hg_ hnew_; (first | rw [← Ny246.out] at ho7 | (simp only [Int.reduceToNat] at ho7; rw [← Ny246.out] at ho7)); have n0_ := zO (yA ho7 (zD (by repeat (first | exact HB.out | apply zA | apply zL | apply zB)))); have n1_ := zO (zE (by repeat (first | exact HB.out | apply zA | apply zL | apply zB)) hb); clear HB; have HO248 := n0_; have HB := n1_; clear n0_ n1_; clear hb ho7) | ((with_reducible refine gate_builtin (b := .append) (xs := #[.tmp 7, .tmp 8]) rfl ?_); at_builtin; refine Kd.R_append_rows (Kd.int .i64) (w0 := w) w.heap.size rfl (.tmp 7) (.tmp 8) 22 3 (.int .i64 0) 8 rfl Try.underlying22 info3 rfl (by decide) (by omega) v247 y246 l0 _ _ _ (fun _ => True) (fun _ => False) rfl rfl ?aO ?aR (fun _ _ h => h) (fun _ h => h.elim) ?aF ?aB ?aS ?aL ?_; (case aR => repeat (first | exact (Kd.C_below HR0.out HB.out) | (with_reducible refine zR ?_ _) | (with_reducible refine zT ?_ _) | (with_reducible refine zS ?_))); (case aB => exact (by repeat (first | exact HB.out | apply zA | apply zL | apply zB))); (case aF => exact (fun _ _ => trivial)); (case aO => exact (by (with_reducible repeat (first | apply zU | apply zW | apply zV)); exact HO248.out)); (case aS => exact (zD (by repeat (first | exact HB.out | apply zA | apply zL | apply zB)))); (case aL => have := LMc3.out; omega); intro v250 w8 ho hb hg hat; rw [← Ny249.out] at ho; have n0_ := zO (hb); have n1_ := zO (ho); clear HB; clear HO248; have HB := n0_; have HO251 := n1_; clear n0_ n1_; clear ho hb hg hat) | ((with_reducible refine zM (f := 157) rfl ?_); refine goesL_ (some 13) rfl rfl Try.func157 (by kernel_rfl) rfl #[.int .i64 (l0.length : Int), .int .i64 a1] rfl (by (try simp only [yK, yL, yM]); first | done | rfl | (simp only [yJ, yI]; rfl)) ?_; (with_reducible refine (spec_l8Ok.calls (l0.length : Int) a1 true _ A4.out).mono ?_); rintro e w' ⟨rfl, ⟨nd, rfl⟩⟩; refine ⟨_, rfl, ?_⟩))
  go_loopg [6] k (fun kq v6 w' => ∃ (x5_1 : List Int) (x6_1 : Int), v6 = .int .i64 x6_1 ∧ Aside0 (spec_Deinterleave.l0 kq l0 a1 x5_1 x6_1 = some r) ∧ Aside0 (kq ≤ k) ∧ Aside0 (Kd.R (Kd.int .i64) 3 w' w.heap.size (fun _ => True) v250 x5_1) ∧ Aside0 (Below w.heap.size w w'))
  case atStart => exact ⟨(y249), (0), (by first | rfl | (simp; done) | (simp [*]; done)), H', ⟨Nat.le_refl _⟩, ⟨by (with_reducible repeat (first | apply zU | apply zW | apply zV)); exact HO251.out⟩, ⟨by repeat (first | exact HB.out | apply zA | apply zL | apply zB)⟩⟩
  case round =>
   clear H'
   try clear c1
   try clear p2
   try clear c3
   try clear c5
   obtain ⟨x5_1, x6_1, rfl, HA, HK1, HO_5, HB⟩ := hrel
   cases gk with
   | zero => exact absurd HA.out (by simp [spec_Deinterleave.l0])
   | succ k1 =>
    have H := HA.out
    clear HA
    simp only [spec_Deinterleave.l0] at H
    by_cases c9 : x6_1 < (l0.length : Int)
    ·rw [if_pos c9] at H
     have c9b0 : decide (x6_1 < (l0.length : Int)) = true := decide_eq_true c9
     clear c9
     replace H := yE.mp H
     obtain ⟨t253, A100, H⟩ := H
     replace H : (if 0 ≤ t253 then (if t253 < (l0.length : Int) then (if 0 ≤ x6_1 then (if x6_1 < (x5_1.length : Int) then (spec_Deinterleave.l0 k1 l0 a1 (x5_1.set (x6_1 : Int).toNat (rd l0 t253)) (wrap64 (x6_1 + 1))) else (none)) else (none)) else (none)) else (none)) = some r := H
     have A10 := zO A100
     clear A100
     by_cases c11 : 0 ≤ t253
     case neg => rw [if_neg c11] at H; exact absurd H (by simp)
     rw [if_pos c11] at H
     have c11b0 : decide (0 ≤ t253) = true := decide_eq_true c11
     clear c11
     by_cases c12 : t253 < (l0.length : Int)
     case neg => rw [if_neg c12] at H; exact absurd H (by simp)
     rw [if_pos c12] at H
     have c12b0 : decide (t253 < (l0.length : Int)) = true := decide_eq_true c12
     clear c12
     by_cases c13 : 0 ≤ x6_1
     case neg => rw [if_neg c13] at H; exact absurd H (by simp)
     rw [if_pos c13] at H
     have c13b0 : decide (0 ≤ x6_1) = true := decide_eq_true c13
     clear c13
     by_cases c14 : x6_1 < (x5_1.length : Int)
     case neg => rw [if_neg c14] at H; exact absurd H (by simp)
     rw [if_pos c14] at H
     have c14b0 : decide (x6_1 < (x5_1.length : Int)) = true := decide_eq_true c14
     clear c14
     obtain ⟨y255, hy255⟩ : ∃ y_ : List Int, y_ = (x5_1.set (x6_1 : Int).toNat (rd l0 t253)) := ⟨_, rfl⟩
     replace H : (spec_Deinterleave.l0 k1 l0 a1 y255 (wrap64 (x6_1 + 1))) = some r := by first | (rw [hy255]; exact H) | exact H
     have Ny255 := zO hy255
     clear hy255
     have H' := zO H
     clear H
     go_wp2_with (first | ((with_reducible refine zM (f := 158) rfl ?_); refine goesL_ (some 29) rfl rfl Try.func158 (by kernel_rfl) rfl #[.int .i64 (l0.length : Int), .int .i64 a1, .int .i64 x6_1] rfl (by (try simp only [yK, yL, yM]); first | done | rfl | (simp only [yJ, yI]; rfl)) ?_; (with_reducible refine (spec_InterleavedIndex.calls (l0.length : Int) a1 x6_1 t253 _ A10.out).mono ?_); rintro e w' ⟨rfl, ⟨nd, rfl⟩⟩; refine ⟨_, rfl, ?_⟩; (try (rw [drewN_self wr]; generalize hq_ : World.drewN wr _ = wr; have n0_ : Aside0 (Kd.R (Kd.int .i64) 3 wr w.heap.size (fun _ => True) v250 x5_1) := ⟨by rw [← hq_]; exact (by (with_reducible repeat (first | apply zU | apply zW | apply zV)); exact HO_5.out)⟩; have n1_ : Aside0 (Below w.heap.size w wr) := ⟨by rw [← hq_]; exact (by repeat (first | exact HB.out | apply zA | apply zL | apply zB))⟩; clear HO_5 HB hq_; have HO_5 := n0_; have HB := n1_; clear n0_ n1_)); have p254 : 0 ≤ (t253 : Int) := yO (by assumption); have q254 : t253 < (l0.length : Int) := yO (by assumption); obtain ⟨ad254, e254, hx254_0⟩ := Kd.at_int HR0.out t253 p254 q254; cases e254; replace hx254_0 := (HB.out.cell (World.block_lt_of_cell? w _ hx254_0)).trans hx254_0; replace p254 := eq_true p254; replace q254 := eq_true q254; have p15 : 0 ≤ (x6_1 : Int) := yO (by assumption); have q15 : (x6_1 : Int) < ((x5_1.length : Int) : Int) := yO (by assumption); obtain ⟨go15, co15, eo15, gb15, gl15, cl15, HG15⟩ := Kd.R_form HO_5.out (by omega); (first | cases eo15 | (injection eo15 with ea_ en_ ec_; (first | subst ea_ | (injection ea_ with ea_; subst ea_)); subst ec_; clear en_)); have GB15 := zO gb15; have GG15 := zO HG15; clear gb15 gl15 HG15; obtain ⟨hx15_0, hf15_0⟩ := Kd.R_celln 0 HO_5.out (x6_1 : Int) p15 q15; replace p15 := eq_true p15; replace q15 := eq_true q15; obtain ⟨hy16_, hz16_⟩ := Kd.R_celln 0 HO_5.out (x6_1 : Int) (yO (by assumption)) (yO (by assumption)); have HP16 := Kd.R_putg HO_5.out (x6_1 : Int) (rd l0 t253)) | ((with_reducible refine gate_store (t := 3) (p := 32) rfl ?_); refine store_event (t := 3) (p := 32) (v := ?vo_w17) (w1 := (wr.setCell ⟨go15, (x6_1 : Int).toNat, none⟩ (.int .i64 (rd l0 t253)))) ?hg ?ho ?hn ?hr ?_; (case ho => rfl); (case hg => rfl); (case hn => rfl); (case hr => first | (go_simp; done) | (go_simp; rfl)); intro w17 hw; have hg : wr.grownBy w17 (some go15) := (by rw [hw]; exact HP16.2); have hp_ : Kd.R (Kd.int .i64) 3 w17 w.heap.size (fun _ => True) (.slice (some ⟨go15, 0, none⟩) x5_1.length co15) y255 := (by rw [hw, Ny255.out]; exact HP16.1); clear HP16; have n0_ := zO (hp_); have n1_ := zO ((by rw [hw]; exact zC (HB.out) GB15.out : Below w.heap.size w w17)); clear HO_5; clear HB; have HO_5 := n0_; have HB := n1_; clear n0_ n1_; clear hg hw hp_))
     go_roundg k1
     case measure => have := HK1.out; omega
     case rel => exact ⟨(y255), (wrap64 (x6_1 + 1)), (by first | rfl | (simp; done) | (simp [*]; done)), H', ⟨by have := HK1.out; omega⟩, ⟨by (with_reducible repeat (first | apply zU | apply zW | apply zV)); exact HO_5.out⟩, ⟨by repeat (first | exact HB.out | apply zA | apply zL | apply zB)⟩⟩
    ·rw [if_neg c9] at H
     have c9b0 : decide (x6_1 < (l0.length : Int)) = false := decide_eq_false c9
     clear c9
     obtain rfl := Option.some.inj H
     go_wp2
     go_ret
     exact ⟨_, by first | rfl | (simp [errW_none, errW_some] <;> rfl) | (simp [*, errW_none, errW_some] <;> rfl), by (with_reducible repeat (first | apply zU | apply zW | apply zV)); exact HO_5.out, by repeat (first | exact HB.out | apply zA | apply zL | apply zB)⟩
 ·replace c5 := Bool.eq_false_iff.mpr c5
  subst c5
  have H1 : (some y249) = some r := by rw [if_neg (show ¬ (false = true) by decide)] at H; exact H
  clear H
  have H := H1
  clear H1
  obtain rfl := Option.some.inj H
  go_enter Try.func121, Try.ntmps121
  go_wp2_with (first | ((with_reducible refine zN (N := 7) rfl ?_); refine Kd.R_lit (Kd.int .i64) _ 3 ?hg (N := 7) ?hd (xs := ([] : List Int)) (inner := []) (ok := fun _ => True) (okp := fun _ => True) ?hr ?hp (fun _ hk => hk) trivial (Below.refl _ _) (Nat.le_refl _) (by simp) ?_; (case hd => rfl); (case hg => rfl); (case hr => first | (go_simp; done) | (go_simp; rfl)); (case hp => exact (Reps.none _ _)); intro v247 w18 ho19 hb hg_ hnew_; clear hg_ hnew_; (first | rw [← Ny246.out] at ho19 | (simp only [Int.reduceToNat] at ho19; rw [← Ny246.out] at ho19)); have n0_ := zO (yA ho19 (zD (by repeat (first | exact HB.out | apply zA | apply zL | apply zB)))); have n1_ := zO (zE (by repeat (first | exact HB.out | apply zA | apply zL | apply zB)) hb); clear HB; have HO248 := n0_; have HB := n1_; clear n0_ n1_; clear hb ho19) | ((with_reducible refine gate_builtin (b := .append) (xs := #[.tmp 7, .tmp 8]) rfl ?_); at_builtin; refine Kd.R_append_rows (Kd.int .i64) (w0 := w) w.heap.size rfl (.tmp 7) (.tmp 8) 22 3 (.int .i64 0) 8 rfl Try.underlying22 info3 rfl (by decide) (by omega) v247 y246 l0 _ _ _ (fun _ => True) (fun _ => False) rfl rfl ?aO ?aR (fun _ _ h => h) (fun _ h => h.elim) ?aF ?aB ?aS ?aL ?_; (case aR => repeat (first | exact (Kd.C_below HR0.out HB.out) | (with_reducible refine zR ?_ _) | (with_reducible refine zT ?_ _) | (with_reducible refine zS ?_))); (case aB => exact (by repeat (first | exact HB.out | apply zA | apply zL | apply zB))); (case aF => exact (fun _ _ => trivial)); (case aO => exact (by (with_reducible repeat (first | apply zU | apply zW | apply zV)); exact HO248.out)); (case aS => exact (zD (by repeat (first | exact HB.out | apply zA | apply zL | apply zB)))); (case aL => have := LMc3.out; omega); intro v250 w20 ho hb hg hat; rw [← Ny249.out] at ho; have n0_ := zO (hb); have n1_ := zO (ho); clear HB; clear HO248; have HB := n0_; have HO251 := n1_; clear n0_ n1_; clear ho hb hg hat) | ((with_reducible refine zM (f := 157) rfl ?_); refine goesL_ (some 13) rfl rfl Try.func157 (by kernel_rfl) rfl #[.int .i64 (l0.length : Int), .int .i64 a1] rfl (by (try simp only [yK, yL, yM]); first | done | rfl | (simp only [yJ, yI]; rfl)) ?_; (with_reducible refine (spec_l8Ok.calls (l0.length : Int) a1 false _ A4.out).mono ?_); rintro e w' ⟨rfl, ⟨nd, rfl⟩⟩; refine ⟨_, rfl, ?_⟩))
  go_ret
  exact ⟨_, by first | rfl | (simp [errW_none, errW_some] <;> rfl) | (simp [*, errW_none, errW_some] <;> rfl), by (with_reducible repeat (first | apply zU | apply zW | apply zV)); exact HO251.out, by repeat (first | exact HB.out | apply zA | apply zL | apply zB)⟩

end Go.Proofs.Ytldbmljooafkcaa.PFnExactReceiveFrame
