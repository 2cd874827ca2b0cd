/- Contracts of Go functions. Conditions: the arguments read as the Lean function's. Written by print2.py, shrink.py (this session's). -/
import Derived.Test.YtldbmljooafkcaaPFnFrameErrorsx0
import Derived.Test.YtldbmljooafkcaaPFnFrameErrorsx12
namespace Go.Proofs.Ytldbmljooafkcaa.PFnFrameErrors
open Go.RowKit Go.Proofs.YtldbmljooafkcaaW.PrintWords Go.Proofs.YtldbmljooafkcaaW.PrintLast Go.Proofs.YtldbmljooafkcaaW.PrintMore
open Go.Proofs.YtldbmljooafkcaaW.PrintWords renaming below_alloc → zA, below_drew1 → zB, below_set → zC, below_size → zD, below_step → zE, blk_alloc → zF, blk_below → zG, blk_cell → zH, blk_drew → zI, blk_drewN → zJ, blk_frozen → zK, pw_below_drewN → zL, gate_callee → zM, gate_dst → zN
open Go.Proofs.YtldbmljooafkcaaW.PrintWords.Aside0 renaming mk → zO
open Go.Proofs.YtldbmljooafkcaaW.PrintWords.Drawn0 renaming refl → zP, step → zQ
open Go.Proofs.YtldbmljooafkcaaW.PrintWords.Kd renaming C_alloc → zR, C_drew → zS, C_drewN → zT, R_alloc → zU, R_drew → zV, R_drewN → zW, R_reads' → zX, R_lower → yA
open Option renaming bind_eq_some_iff → yE
open List renaming setIfInBounds_toArray → yF, set_cons_zero → yG, set_cons_succ → yH, length_take → yI, length_drop → yJ, map_toArray → yK, map_cons → yL, map_nil → yM
set_option maxHeartbeats 8000000
set_option maxRecDepth 100000
attribute [local go_sem] max2_int min2_int max_two min_two max_three min_three max_four min_four
set_option linter.unusedVariables false
set_option linter.unusedSimpArgs false

def spec_Puncture.l0 : Nat → List Int → List Int → Int → Option (List Int)
 | 0, _, _, _ => none
 | k + 1, x0, x3, x4 => if x4 < (x0.length : Int) then (if (Int.tmod x4 4) = 3 then (spec_Puncture.l0 k x0 x3 (wrap64 (x4 + 1))) else (if 0 ≤ x4 then (if x3.length < 17592186044416 then (spec_Puncture.l0 k x0 (x3 ++ [rd x0 x4]) (wrap64 (x4 + 1))) else (none)) else (none))) else (some x3)
def spec_Puncture.f (k : Nat) (l0 : List Int) : Option (List Int) := spec_Puncture.l0 k l0 (([] : List Int)) 0
theorem spec_Puncture.calls (k : Nat) (A0 : Option Addr) (c0 : Nat) (l0 : List Int) (r : List Int) (w : World) (hr0 : Kd.C (Kd.int .i64) w A0 l0.length l0) (hc0 : l0.length ≤ c0) (h : spec_Puncture.f k l0 = some r) :
  Calls Try.prog 183 #[.slice A0 l0.length c0] w fun e w' => ∃ v0_ : Value, e = .returned (v0_) ∧ Kd.R (Kd.int .i64) 3 w' w.heap.size (fun _ => True) v0_ r ∧ Below w.heap.size w w' := by
 have HR0 := zO hr0
 have HC0 := zO hc0
 clear hr0 hc0
 have HB := zO (Below.refl w.heap.size w)
 have H : (spec_Puncture.l0 k l0 (([] : List Int)) 0) = some r := h
 clear h
 obtain ⟨y508, hy508⟩ : ∃ y_ : List Int, y_ = (([] : List Int)) := ⟨_, rfl⟩
 replace H : (spec_Puncture.l0 k l0 y508 0) = some r := by first | (rw [hy508]; exact H) | exact H
 have Ny508 := zO hy508
 clear hy508
 have H' := zO H
 clear H
 go_enter Try.func183, Try.ntmps183
 go_wp2_with (first | ((with_reducible refine zN (N := 5) rfl ?_); refine Kd.R_lit (Kd.int .i64) _ 3 ?hg (N := 5) ?hd (xs := ([] : List Int)) (inner := []) (ok := fun _ => True) (okp := fun _ => True) ?hr ?hp (fun _ hk => hk) trivial (Below.refl _ _) (Nat.le_refl _) (by simp) ?_; (case hd => rfl); (case hg => rfl); (case hr => first | (go_simp; done) | (go_simp; rfl)); (case hp => exact (Reps.none _ _)); intro v509 w2 ho3 hb hg_ hnew_; clear hg_ hnew_; (first | rw [← Ny508.out] at ho3 | (simp only [Int.reduceToNat] at ho3; rw [← Ny508.out] at ho3)); have n0_ := zO (yA ho3 (zD (by repeat (first | exact HB.out | apply zA | apply zL | apply zB)))); have n1_ := zO (zE (by repeat (first | exact HB.out | apply zA | apply zL | apply zB)) hb); clear HB; have HO510 := n0_; have HB := n1_; clear n0_ n1_; clear hb ho3))
 go_loopg [3, 4] k (fun kq v3 v4 w' => ∃ (x3_1 : List Int) (x4_1 : Int), v4 = .int .i64 x4_1 ∧ Aside0 (spec_Puncture.l0 kq l0 x3_1 x4_1 = some r) ∧ Aside0 (kq ≤ k) ∧ Aside0 (Kd.R (Kd.int .i64) 3 w' w.heap.size (fun _ => True) v3 x3_1) ∧ Aside0 (Below w.heap.size w w'))
 case atStart => exact ⟨(y508), (0), (by first | rfl | (simp; done) | (simp [*]; done)), H', ⟨Nat.le_refl _⟩, ⟨by (with_reducible repeat (first | apply zU | apply zW | apply zV)); exact HO510.out⟩, ⟨by repeat (first | exact HB.out | apply zA | apply zL | apply zB)⟩⟩
 case round =>
  clear H'
  try clear c1
  try clear p2
  obtain ⟨x3_1, x4_1, rfl, HA, HK1, HO_3, HB⟩ := hrel
  cases gk with
  | zero => exact absurd HA.out (by simp [spec_Puncture.l0])
  | succ k1 =>
   have H := HA.out
   clear HA
   simp only [spec_Puncture.l0] at H
   by_cases c4 : x4_1 < (l0.length : Int)
   ·rw [if_pos c4] at H
    have c4b0 : decide (x4_1 < (l0.length : Int)) = true := decide_eq_true c4
    clear c4
    by_cases c5 : (Int.tmod x4_1 4) = 3
    ·rw [if_pos c5] at H
     have c5b0 : ((Int.tmod x4_1 4) == 3) = true := beq_iff_eq.mpr c5
     have c5b1 : ((Int.tmod x4_1 4) != 3) = false := bne_eq_false_iff_eq.mpr c5
     clear c5
     have H' := zO H
     clear H
     go_wp2
     go_roundg k1
     case measure => have := HK1.out; omega
     case rel => exact ⟨(x3_1), (wrap64 (x4_1 + 1)), (by first | rfl | (simp; done) | (simp [*]; done)), H', ⟨by have := HK1.out; omega⟩, ⟨by (with_reducible repeat (first | apply zU | apply zW | apply zV)); exact HO_3.out⟩, ⟨by repeat (first | exact HB.out | apply zA | apply zL | apply zB)⟩⟩
    ·rw [if_neg c5] at H
     have c5b0 : ((Int.tmod x4_1 4) == 3) = false := beq_eq_false_iff_ne.mpr c5
     have c5b1 : ((Int.tmod x4_1 4) != 3) = true := bne_iff_ne.mpr c5
     by_cases c6 : 0 ≤ x4_1
     case neg => rw [if_neg c6] at H; exact absurd H (by simp)
     rw [if_pos c6] at H
     have c6b0 : decide (0 ≤ x4_1) = true := decide_eq_true c6
     clear c6
     by_cases c7 : x3_1.length < 17592186044416
     case neg => rw [if_neg c7] at H; exact absurd H (by simp)
     rw [if_pos c7] at H
     have LMc7 := zO c7
     clear c7
     obtain ⟨y512, hy512⟩ : ∃ y_ : List Int, y_ = (x3_1 ++ [rd l0 x4_1]) := ⟨_, rfl⟩
     replace H : (spec_Puncture.l0 k1 l0 y512 (wrap64 (x4_1 + 1))) = some r := by first | (rw [hy512]; exact H) | exact H
     have Ny512 := zO hy512
     clear hy512
     have H' := zO H
     clear H
     have p511 : 0 ≤ (x4_1 : Int) := yO (by assumption)
     have q511 : x4_1 < (l0.length : Int) := yO (by assumption)
     obtain ⟨ad511, e511, hx511_0⟩ := Kd.at_int HR0.out x4_1 p511 q511
     cases e511
     replace hx511_0 := (HB.out.cell (World.block_lt_of_cell? w _ hx511_0)).trans hx511_0
     replace p511 := eq_true p511
     replace q511 := eq_true q511
     go_wp2_with (first | ((with_reducible refine gate_builtin (b := .append) (xs := #[.tmp 15, .tmp 20]) rfl ?_); at_builtin; refine Kd.R_append (Kd.int .i64) (w0 := w) w.heap.size rfl (.tmp 15) (.tmp 20) 22 3 (.int .i64 0) 8 rfl Try.underlying22 info3 rfl (by decide) (by omega) u3 x3_1 (rd l0 x4_1) [.int .i64 (rd l0 x4_1)] (fun _ => True) (fun _ => False) rfl rfl ?aP (fun _ hk => hk.elim) ?aF ?aO ?aB ?aS ?aL ?_; (case aP => exact rfl); (case aB => exact (by repeat (first | exact HB.out | apply zA | apply zL | apply zB))); (case aF => exact (fun _ _ => trivial)); (case aO => exact (by (with_reducible repeat (first | apply zU | apply zW | apply zV)); exact HO_3.out)); (case aS => exact (zD (by repeat (first | exact HB.out | apply zA | apply zL | apply zB)))); (case aL => have := LMc7.out; omega); intro v513 w8 ho hb hg hat; rw [← Ny512.out] at ho; have n0_ := zO (hb); have n1_ := zO (ho); clear HB; clear HO_3; have HB := n0_; have HO514 := n1_; clear n0_ n1_; clear ho hb hg hat))
     go_roundg k1
     case measure => have := HK1.out; omega
     case rel => exact ⟨(y512), (wrap64 (x4_1 + 1)), (by first | rfl | (simp; done) | (simp [*]; done)), H', ⟨by have := HK1.out; omega⟩, ⟨by (with_reducible repeat (first | apply zU | apply zW | apply zV)); exact HO514.out⟩, ⟨by repeat (first | exact HB.out | apply zA | apply zL | apply zB)⟩⟩
   ·rw [if_neg c4] at H
    have c4b0 : decide (x4_1 < (l0.length : Int)) = false := decide_eq_false c4
    clear c4
    obtain rfl := Option.some.inj H
    go_wp2
    go_ret
    exact ⟨_, by first | rfl | (simp [errW_none, errW_some] <;> rfl) | (simp [*, errW_none, errW_some] <;> rfl), by (with_reducible repeat (first | apply zU | apply zW | apply zV)); exact HO_3.out, by repeat (first | exact HB.out | apply zA | apply zL | apply zB)⟩

def spec_Weight.l0 : Nat → List Int → Int → Int → Option (Int)
 | 0, _, _, _ => none
 | k + 1, x0, x3, x4 => if x4 < (x0.length : Int) then (if 0 ≤ x4 then (if (rd x0 x4) = 1 then (spec_Weight.l0 k x0 (wrap64 (x3 + 1)) (wrap64 (x4 + 1))) else (spec_Weight.l0 k x0 x3 (wrap64 (x4 + 1)))) else (none)) else (some x3)
def spec_Weight.f (k : Nat) (l0 : List Int) : Option (Int) := spec_Weight.l0 k l0 0 0
theorem spec_Weight.calls (k : Nat) (A0 : Option Addr) (c0 : Nat) (l0 : List Int) (r : Int) (w : World) (hr0 : Kd.C (Kd.int .i64) w A0 l0.length l0) (hc0 : l0.length ≤ c0) (h : spec_Weight.f k l0 = some r) :
  Calls Try.prog 69 #[.slice A0 l0.length c0] w fun e w' => e = .returned (.int .i64 r) ∧ Drawn0 w w' := by
 have HR0 := zO hr0
 have HC0 := zO hc0
 clear hr0 hc0
 have H : (spec_Weight.l0 k l0 0 0) = some r := h
 clear h
 have H' := zO H
 clear H
 go_enter Try.func69, Try.ntmps69
 go_wp2
 go_loopg [3, 4] k (fun kq v3 v4 w' => ∃ (x3_1 : Int) (x4_1 : Int), v3 = .int .i64 x3_1 ∧ v4 = .int .i64 x4_1 ∧ Aside0 (spec_Weight.l0 kq l0 x3_1 x4_1 = some r) ∧ Aside0 (kq ≤ k) ∧ Drawn0 w w')
 case atStart => exact ⟨(0), (0), (by first | rfl | (simp; done) | (simp [*]; done)), (by first | rfl | (simp; done) | (simp [*]; done)), H', ⟨Nat.le_refl _⟩, by repeat (first | exact zP _ | apply zQ)⟩
 case round =>
  clear H'
  obtain ⟨x3_1, x4_1, rfl, rfl, HA, HK1, ⟨m1, rfl⟩⟩ := hrel
  cases gk with
  | zero => exact absurd HA.out (by simp [spec_Weight.l0])
  | succ k1 =>
   have H := HA.out
   clear HA
   simp only [spec_Weight.l0] at H
   by_cases c2 : x4_1 < (l0.length : Int)
   ·rw [if_pos c2] at H
    have c2b0 : decide (x4_1 < (l0.length : Int)) = true := decide_eq_true c2
    clear c2
    by_cases c3 : 0 ≤ x4_1
    case neg => rw [if_neg c3] at H; exact absurd H (by simp)
    rw [if_pos c3] at H
    have c3b0 : decide (0 ≤ x4_1) = true := decide_eq_true c3
    clear c3
    by_cases c4 : (rd l0 x4_1) = 1
    ·rw [if_pos c4] at H
     have c4b0 : ((rd l0 x4_1) == 1) = true := beq_iff_eq.mpr c4
     have c4b1 : ((rd l0 x4_1) != 1) = false := bne_eq_false_iff_eq.mpr c4
     clear c4
     have H' := zO H
     clear H
     have p515 : 0 ≤ (x4_1 : Int) := yO (by assumption)
     have q515 : x4_1 < (l0.length : Int) := yO (by assumption)
     obtain ⟨ad515, e515, hx515_0⟩ := Kd.at_int HR0.out x4_1 p515 q515
     cases e515
     replace p515 := eq_true p515
     replace q515 := eq_true q515
     go_wp2
     go_roundg k1
     case measure => have := HK1.out; omega
     case rel => exact ⟨(wrap64 (x3_1 + 1)), (wrap64 (x4_1 + 1)), (by first | rfl | (simp; done) | (simp [*]; done)), (by first | rfl | (simp; done) | (simp [*]; done)), H', ⟨by have := HK1.out; omega⟩, by repeat (first | exact zP _ | apply zQ)⟩
    ·rw [if_neg c4] at H
     have c4b0 : ((rd l0 x4_1) == 1) = false := beq_eq_false_iff_ne.mpr c4
     have c4b1 : ((rd l0 x4_1) != 1) = true := bne_iff_ne.mpr c4
     have H' := zO H
     clear H
     have p515 : 0 ≤ (x4_1 : Int) := yO (by assumption)
     have q515 : x4_1 < (l0.length : Int) := yO (by assumption)
     obtain ⟨ad515, e515, hx515_0⟩ := Kd.at_int HR0.out x4_1 p515 q515
     cases e515
     replace p515 := eq_true p515
     replace q515 := eq_true q515
     go_wp2
     go_roundg k1
     case measure => have := HK1.out; omega
     case rel => exact ⟨(x3_1), (wrap64 (x4_1 + 1)), (by first | rfl | (simp; done) | (simp [*]; done)), (by first | rfl | (simp; done) | (simp [*]; done)), H', ⟨by have := HK1.out; omega⟩, by repeat (first | exact zP _ | apply zQ)⟩
   ·rw [if_neg c2] at H
    have c2b0 : decide (x4_1 < (l0.length : Int)) = false := decide_eq_false c2
    clear c2
    obtain rfl := Option.some.inj H
    go_wp2
    go_ret
    exact ⟨by first | rfl | exact yP _ | (simp; done) | (simp [*]; done), by repeat (first | exact zP _ | apply zQ)⟩

def spec_Parity.f (k : Nat) (l0 : List Int) : Option (Int) := (spec_Weight.f k l0).bind fun t516 => (some (Int.tmod t516 2))
theorem spec_Parity.calls (k : Nat) (A0 : Option Addr) (c0 : Nat) (l0 : List Int) (r : Int) (w : World) (hr0 : Kd.C (Kd.int .i64) w A0 l0.length l0) (hc0 : l0.length ≤ c0) (h : spec_Parity.f k l0 = some r) :
  Calls Try.prog 71 #[.slice A0 l0.length c0] w fun e w' => e = .returned (.int .i64 r) ∧ Drawn0 w w' := by
 have HR0 := zO hr0
 have HC0 := zO hc0
 clear hr0 hc0
 have H : ((spec_Weight.f k l0).bind fun t516 => (some (Int.tmod t516 2))) = some r := h
 clear h
 replace H := yE.mp H
 obtain ⟨t516, A20, H⟩ := H
 replace H : (some (Int.tmod t516 2)) = some r := H
 have A2 := zO A20
 clear A20
 obtain rfl := Option.some.inj H
 go_enter Try.func71, Try.ntmps71
 go_wp2_with (first | ((with_reducible refine zM (f := 69) rfl ?_); refine goesL_ (some 4) rfl rfl Try.func69 (by kernel_rfl) rfl #[.slice A0 l0.length c0] rfl (by (try simp only [yK, yL, yM]); first | done | rfl | (simp only [yJ, yI]; rfl)) ?_; (with_reducible refine (spec_Weight.calls k _ _ l0 t516 _ ?side1 ?side2 A2.out).mono ?_); (case side1 => repeat (first | exact HR0.out | (with_reducible refine zR ?_ _) | (with_reducible refine zT ?_ _) | (with_reducible refine zS ?_))); (case side2 => exact HC0.out); rintro e w' ⟨rfl, ⟨nd, rfl⟩⟩; refine ⟨_, rfl, ?_⟩))
 go_ret
 exact ⟨by first | rfl | exact yP _ | (simp; done) | (simp [*]; done), by repeat (first | exact zP _ | apply zQ)⟩

mutual
def spec_IntToBits.j0 : Nat → Int → Int → List Int → Bool → Option (List Int)
 | 0, _, _, _, _ => none
 | k + 1, x0, x1, x5, x14 => if x14 = true then (some x5) else (spec_IntToBits.l0 k x0 x1 x5 0)
def spec_IntToBits.l0 : Nat → Int → Int → List Int → Int → Option (List Int)
 | 0, _, _, _, _ => none
 | k + 1, x0, x1, x5, x6 => if x6 < x1 then (if 0 ≤ x6 then (if x5.length < 17592186044416 then (spec_IntToBits.l0 k x0 x1 (x5 ++ [Go.bits .and .i64 (shr .i64 x0 x6) 1]) (wrap64 (x6 + 1))) else (none)) else (none)) else (some x5)
end
def spec_IntToBits.f (k : Nat) (a0 : Int) (a1 : Int) : Option (List Int) := (some (([] : List Int) : List Int)).bind fun y517 => (if a0 < 0 then (spec_IntToBits.j0 k a0 a1 y517 true) else ((spec_l1In.f a1 0 40).bind fun t520 => (spec_IntToBits.j0 k a0 a1 y517 (!t520))))
theorem spec_IntToBits.calls (k : Nat) (a0 : Int) (a1 : Int) (r : List Int) (w : World) (h : spec_IntToBits.f k a0 a1 = some r) :
  Calls Try.prog 193 #[.int .i64 a0, .int .i64 a1] w fun e w' => ∃ v0_ : Value, e = .returned (v0_) ∧ Kd.R (Kd.int .i64) 3 w' w.heap.size (fun _ => True) v0_ r ∧ Below w.heap.size w w' := by
 have HB := zO (Below.refl w.heap.size w)
 have H : ((some (([] : List Int) : List Int)).bind fun y517 => (if a0 < 0 then (spec_IntToBits.j0 k a0 a1 y517 true) else ((spec_l1In.f a1 0 40).bind fun t520 => (spec_IntToBits.j0 k a0 a1 y517 (!t520))))) = some r := h
 clear h
 obtain ⟨y517, hy517⟩ : ∃ y_ : List Int, y_ = (([] : List Int)) := ⟨_, rfl⟩
 replace H : (if a0 < 0 then (spec_IntToBits.j0 k a0 a1 y517 true) else ((spec_l1In.f a1 0 40).bind fun t520 => (spec_IntToBits.j0 k a0 a1 y517 (!t520)))) = some r := by first | (rw [hy517]; exact H) | exact H
 have Ny517 := zO hy517
 clear hy517
 have HC3 := zO H
 clear H
 go_enter Try.func193, Try.ntmps193
 go_upto_region 2 with (first | ((with_reducible refine zN (N := 7) rfl ?_); refine Kd.R_lit (Kd.int .i64) _ 3 ?hg (N := 7) ?hd (xs := ([] : List Int)) (inner := []) (ok := fun _ => True) (okp := fun _ => True) ?hr ?hp (fun _ hk => hk) trivial (Below.refl _ _) (Nat.le_refl _) (by simp) ?_; (case hd => rfl); (case hg => rfl); (case hr => first | (go_simp; done) | (go_simp; rfl)); (case hp => exact (Reps.none _ _)); intro v518 w4 ho5 hb hg_ hnew_; clear hg_ hnew_; (first | rw [← Ny517.out] at ho5 | (simp only [Int.reduceToNat] at ho5; rw [← Ny517.out] at ho5)); have n0_ := zO (yA ho5 (zD (by repeat (first | exact HB.out | apply zA | apply zL | apply zB)))); have n1_ := zO (zE (by repeat (first | exact HB.out | apply zA | apply zL | apply zB)) hb); clear HB; have HO519 := n0_; have HB := n1_; clear n0_ n1_; clear hb ho5))
 (try simp only [Act.put, yF, yG, yH])
 go_cut [14] (fun v14 wc => ∃ (kq : Nat) (x14_2 : Bool), v14 = .bool x14_2 ∧ Aside0 (spec_IntToBits.j0 kq a0 a1 y517 x14_2 = some r) ∧ Aside0 (kq ≤ k) ∧ Aside0 (Kd.R (Kd.int .i64) 3 wc w.heap.size (fun _ => True) v518 y517) ∧ Aside0 (Below w.heap.size w wc))
 case first =>
  have H := HC3.out
  clear HC3
  by_cases c6 : a0 < 0
  ·rw [if_pos c6] at H
   have c6b0 : decide (a0 < 0) = true := decide_eq_true c6
   clear c6
   (first | rw [c6b0] | (simp only [i64_w, i32_w]; rw [c6b0]) | skip)
   have H' := zO H
   clear H
   go_wp2
   go_meet
   case rel => exact ⟨_, (true), (by first | rfl | (simp; done) | (simp [*]; done)), H', ⟨by first | omega | exact Nat.le_refl _⟩, ⟨by (with_reducible repeat (first | apply zU | apply zW | apply zV)); exact HO519.out⟩, ⟨by repeat (first | exact HB.out | apply zA | apply zL | apply zB)⟩⟩
  ·rw [if_neg c6] at H
   have c6b0 : decide (a0 < 0) = false := decide_eq_false c6
   clear c6
   (first | rw [c6b0] | (simp only [i64_w, i32_w]; rw [c6b0]) | skip)
   replace H := yE.mp H
   obtain ⟨t520, A70, H⟩ := H
   replace H : (spec_IntToBits.j0 k a0 a1 y517 (!t520)) = some r := H
   have A7 := zO A70
   clear A70
   have H' := zO H
   clear H
   go_wp2_with (first | (go_at_call 95; (with_reducible refine (spec_l1In.calls a1 0 40 t520 _ A7.out).mono ?_); rintro e w' ⟨rfl, ⟨nd, rfl⟩⟩))
   go_meet
   case rel => exact ⟨_, (!t520), (by first | rfl | (simp; done) | (simp [*]; done)), H', ⟨by first | omega | exact Nat.le_refl _⟩, ⟨by (with_reducible repeat (first | apply zU | apply zW | apply zV)); exact HO519.out⟩, ⟨by repeat (first | exact HB.out | apply zA | apply zL | apply zB)⟩⟩
 case rest =>
  clear HC3
  try clear c1
  try clear p2
  try clear c6
  try clear c6b0
  obtain ⟨kq, x14_2, rfl, HA, HJ2, HO_5, HB⟩ := hcut
  cases kq with
  | zero => exact absurd HA.out (by simp [spec_IntToBits.j0])
  | succ kj2 =>
   have H := HA.out
   clear HA
   simp only [spec_IntToBits.j0] at H
   by_cases c8 : x14_2 = true
   ·subst c8
    have H1 : (some y517) = some r := by rw [if_pos rfl] at H; exact H
    clear H
    have H := H1
    clear H1
    obtain rfl := Option.some.inj H
    go_wp2
    go_ret
    exact ⟨_, by first | rfl | (simp [errW_none, errW_some] <;> rfl) | (simp [*, errW_none, errW_some] <;> rfl), by (with_reducible repeat (first | apply zU | apply zW | apply zV)); exact HO_5.out, by repeat (first | exact HB.out | apply zA | apply zL | apply zB)⟩
   ·replace c8 := Bool.eq_false_iff.mpr c8
    subst c8
    have H1 : (spec_IntToBits.l0 kj2 a0 a1 y517 0) = some r := by rw [if_neg (show ¬ (false = true) by decide)] at H; exact H
    clear H
    have H := H1
    clear H1
    have H' := zO H
    clear H
    go_wp2
    go_loopg [5, 6] kj2 (fun kq v5 v6 w' => ∃ (x5_2 : List Int) (x6_2 : Int), v6 = .int .i64 x6_2 ∧ Aside0 (spec_IntToBits.l0 kq a0 a1 x5_2 x6_2 = some r) ∧ Aside0 (kq ≤ kj2) ∧ Aside0 (Kd.R (Kd.int .i64) 3 w' w.heap.size (fun _ => True) v5 x5_2) ∧ Aside0 (Below w.heap.size w w'))
    case atStart => exact ⟨(y517), (0), (by first | rfl | (simp; done) | (simp [*]; done)), H', ⟨Nat.le_refl _⟩, ⟨by (with_reducible repeat (first | apply zU | apply zW | apply zV)); exact HO_5.out⟩, ⟨by repeat (first | exact HB.out | apply zA | apply zL | apply zB)⟩⟩
    case round =>
     clear H'
     try clear c1
     try clear p2
     try clear c6
     try clear c6b0
     try clear c8
     try clear p2
     obtain ⟨x5_2, x6_2, rfl, HA, HK2, HO_5, HB⟩ := hrel
     cases gk with
     | zero => exact absurd HA.out (by simp [spec_IntToBits.l0])
     | succ k2 =>
      have H := HA.out
      clear HA
      simp only [spec_IntToBits.l0] at H
      by_cases c9 : x6_2 < a1
      ·rw [if_pos c9] at H
       have c9b0 : decide (x6_2 < a1) = true := decide_eq_true c9
       clear c9
       by_cases c10 : 0 ≤ x6_2
       case neg => rw [if_neg c10] at H; exact absurd H (by simp)
       rw [if_pos c10] at H
       have c10b0 := eq_true c10
       have c10b1 : decide (0 ≤ x6_2) = true := decide_eq_true c10
       clear c10
       obtain ⟨ji11, hji11⟩ : ∃ j_ : Int, (shr .i64 a0 x6_2) = j_ := ⟨_, rfl⟩
       replace H : (if x5_2.length < 17592186044416 then (spec_IntToBits.l0 k2 a0 a1 (x5_2 ++ [Go.bits .and .i64 (ji11) 1]) (wrap64 (x6_2 + 1))) else (none)) = some r := by first | (rw [hji11] at H; exact H) | (simp only [hji11] at H ⊢; exact H)
       have hji11_ : (a0 / 2 ^ min x6_2.toNat 64) = ji11 := hji11
       have hji11z : x6_2 ≤ 64 → (a0 / 2 ^ x6_2.toNat) = ji11 := shr_small hji11
       by_cases c12 : x5_2.length < 17592186044416
       case neg => rw [if_neg c12] at H; exact absurd H (by simp)
       rw [if_pos c12] at H
       have LMc12 := zO c12
       clear c12
       obtain ⟨y521, hy521⟩ : ∃ y_ : List Int, y_ = (x5_2 ++ [Go.bits .and .i64 (ji11) 1]) := ⟨_, rfl⟩
       replace H : (spec_IntToBits.l0 k2 a0 a1 y521 (wrap64 (x6_2 + 1))) = some r := by first | (rw [hy521]; exact H) | exact H
       have Ny521 := zO hy521
       clear hy521
       have H' := zO H
       clear H
       go_wp2_with (first | ((with_reducible refine gate_builtin (b := .append) (xs := #[.tmp 21, .tmp 26]) rfl ?_); at_builtin; refine Kd.R_append (Kd.int .i64) (w0 := w) w.heap.size rfl (.tmp 21) (.tmp 26) 22 3 (.int .i64 0) 8 rfl Try.underlying22 info3 rfl (by decide) (by omega) u5 x5_2 (Go.bits .and .i64 (ji11) 1) [.int .i64 (Go.bits .and .i64 (ji11) 1)] (fun _ => True) (fun _ => False) rfl rfl ?aP (fun _ hk => hk.elim) ?aF ?aO ?aB ?aS ?aL ?_; (case aP => exact rfl); (case aB => exact (by repeat (first | exact HB.out | apply zA | apply zL | apply zB))); (case aF => exact (fun _ _ => trivial)); (case aO => exact (by (with_reducible repeat (first | apply zU | apply zW | apply zV)); exact HO_5.out)); (case aS => exact (zD (by repeat (first | exact HB.out | apply zA | apply zL | apply zB)))); (case aL => have := LMc12.out; omega); intro v522 w13 ho hb hg hat; rw [← Ny521.out] at ho; have n0_ := zO (hb); have n1_ := zO (ho); clear HB; clear HO_5; have HB := n0_; have HO523 := n1_; clear n0_ n1_; clear ho hb hg hat))
       go_roundg k2
       case measure => have := HJ2.out; have := HK2.out; omega
       case rel => exact ⟨(y521), (wrap64 (x6_2 + 1)), (by first | rfl | (simp; done) | (simp [*]; done)), H', ⟨by have := HJ2.out; have := HK2.out; omega⟩, ⟨by (with_reducible repeat (first | apply zU | apply zW | apply zV)); exact HO523.out⟩, ⟨by repeat (first | exact HB.out | apply zA | apply zL | apply zB)⟩⟩
      ·rw [if_neg c9] at H
       have c9b0 : decide (x6_2 < a1) = false := decide_eq_false c9
       clear c9
       obtain rfl := Option.some.inj H
       go_wp2
       go_ret
       exact ⟨_, by first | rfl | (simp [errW_none, errW_some] <;> rfl) | (simp [*, errW_none, errW_some] <;> rfl), by (with_reducible repeat (first | apply zU | apply zW | apply zV)); exact HO_5.out, by repeat (first | exact HB.out | apply zA | apply zL | apply zB)⟩

def spec_EncodeHeader.f (k : Nat) (a0_0 : Int) (a0_1 : Int) (a0_2 : Int) : Option (List Int) := (spec_IsValidHeader.f a0_0 a0_1 a0_2).bind fun t525 => (if t525 = true then ((spec_IntToBits.f k a0_0 2).bind fun t529 => ((spec_IntToBits.f k a0_1 8).bind fun t532 => (if t529.length + t532.length < 17592186044416 then ((some (t529 ++ t532 : List Int)).bind fun y535 => ((spec_IntToBits.f k a0_2 7).bind fun t538 => (if y535.length + t538.length < 17592186044416 then ((some (y535 ++ t538 : List Int)).bind fun y541 => ((spec_Parity.f k y541).bind fun t544 => (if y541.length < 17592186044416 then ((some (y541 ++ [t544] : List Int)).bind fun y545 => ((some (([] : List Int) : List Int)).bind fun y548 => (if y548.length + y545.length < 17592186044416 then ((some (y548 ++ y545 : List Int)).bind fun y551 => (if y551.length + y545.length < 17592186044416 then ((some (y551 ++ y545 : List Int)).bind fun y554 => (if y554.length + y545.length < 17592186044416 then (some (y554 ++ y545)) else (none))) else (none))) else (none)))) else (none)))) else (none)))) else (none)))) else (some (([] : List Int))))
def spec_EncodeHeader.T3 : Bool × List (List Nat × List Nat) := (true, [([], []), ([0], [0]), ([1], [1]), ([], []), ([3], [3]), ([4, 2], [4]), ([2, 5, 5], [2, 5]), ([], []), ([7], [7]), ([8, 6], [8]), ([6, 9, 9], [6, 9]), ([10, 10, 0, 1, 2, 3, 4, 5, 6, 7, 8, 9, 10], [10])])
def spec_EncodeHeader.B3 : List Nat := [0, 1, 3, 0, 8, 31, 63, 0, 128, 511, 1023, 2047]
theorem spec_EncodeHeader.tab3 : rtab .any (opsOf Try.f184 3) = spec_EncodeHeader.T3 := by kernel_rfl
theorem spec_EncodeHeader.bits3 : waitsOk spec_EncodeHeader.T3.2 spec_EncodeHeader.B3 = true := by kernel_rfl
theorem spec_EncodeHeader.calls (k : Nat) (a0_0 : Int) (a0_1 : Int) (a0_2 : Int) (r : List Int) (w : World) (h : spec_EncodeHeader.f k a0_0 a0_1 a0_2 = some r) :
  Calls Try.prog 184 #[.agg #[.int .i64 a0_0, .int .i64 a0_1, .int .i64 a0_2]] w fun e w' => ∃ v0_ : Value, e = .returned (v0_) ∧ Kd.R (Kd.int .i64) 3 w' w.heap.size (fun _ => True) v0_ r ∧ Below w.heap.size w w' := by
 have hu24 := Try.underlying24
 have HB := zO (Below.refl w.heap.size w)
 have H : ((spec_IsValidHeader.f a0_0 a0_1 a0_2).bind fun t525 => (if t525 = true then ((spec_IntToBits.f k a0_0 2).bind fun t529 => ((spec_IntToBits.f k a0_1 8).bind fun t532 => (if t529.length + t532.length < 17592186044416 then ((some (t529 ++ t532 : List Int)).bind fun y535 => ((spec_IntToBits.f k a0_2 7).bind fun t538 => (if y535.length + t538.length < 17592186044416 then ((some (y535 ++ t538 : List Int)).bind fun y541 => ((spec_Parity.f k y541).bind fun t544 => (if y541.length < 17592186044416 then ((some (y541 ++ [t544] : List Int)).bind fun y545 => ((some (([] : List Int) : List Int)).bind fun y548 => (if y548.length + y545.length < 17592186044416 then ((some (y548 ++ y545 : List Int)).bind fun y551 => (if y551.length + y545.length < 17592186044416 then ((some (y551 ++ y545 : List Int)).bind fun y554 => (if y554.length + y545.length < 17592186044416 then (some (y554 ++ y545)) else (none))) else (none))) else (none)))) else (none)))) else (none)))) else (none)))) else (some (([] : List Int))))) = some r := h
 clear h
 replace H := yE.mp H
 obtain ⟨t525, A20, H⟩ := H
 replace H : (if t525 = true then ((spec_IntToBits.f k a0_0 2).bind fun t529 => ((spec_IntToBits.f k a0_1 8).bind fun t532 => (if t529.length + t532.length < 17592186044416 then ((some (t529 ++ t532 : List Int)).bind fun y535 => ((spec_IntToBits.f k a0_2 7).bind fun t538 => (if y535.length + t538.length < 17592186044416 then ((some (y535 ++ t538 : List Int)).bind fun y541 => ((spec_Parity.f k y541).bind fun t544 => (if y541.length < 17592186044416 then ((some (y541 ++ [t544] : List Int)).bind fun y545 => ((some (([] : List Int) : List Int)).bind fun y548 => (if y548.length + y545.length < 17592186044416 then ((some (y548 ++ y545 : List Int)).bind fun y551 => (if y551.length + y545.length < 17592186044416 then ((some (y551 ++ y545 : List Int)).bind fun y554 => (if y554.length + y545.length < 17592186044416 then (some (y554 ++ y545)) else (none))) else (none))) else (none)))) else (none)))) else (none)))) else (none)))) else (some (([] : List Int)))) = some r := H
 have A2 := zO A20
 clear A20
 by_cases c3 : t525 = true
 ·subst c3
  have H1 : ((spec_IntToBits.f k a0_0 2).bind fun t529 => ((spec_IntToBits.f k a0_1 8).bind fun t532 => (if t529.length + t532.length < 17592186044416 then ((some (t529 ++ t532 : List Int)).bind fun y535 => ((spec_IntToBits.f k a0_2 7).bind fun t538 => (if y535.length + t538.length < 17592186044416 then ((some (y535 ++ t538 : List Int)).bind fun y541 => ((spec_Parity.f k y541).bind fun t544 => (if y541.length < 17592186044416 then ((some (y541 ++ [t544] : List Int)).bind fun y545 => ((some (([] : List Int) : List Int)).bind fun y548 => (if y548.length + y545.length < 17592186044416 then ((some (y548 ++ y545 : List Int)).bind fun y551 => (if y551.length + y545.length < 17592186044416 then ((some (y551 ++ y545 : List Int)).bind fun y554 => (if y554.length + y545.length < 17592186044416 then (some (y554 ++ y545)) else (none))) else (none))) else (none)))) else (none)))) else (none)))) else (none)))) = some r := by rw [if_pos rfl] at H; exact H
  clear H
  have H := H1
  clear H1
  replace H := yE.mp H
  obtain ⟨t529, A40, H⟩ := H
  replace H : ((spec_IntToBits.f k a0_1 8).bind fun t532 => (if t529.length + t532.length < 17592186044416 then ((some (t529 ++ t532 : List Int)).bind fun y535 => ((spec_IntToBits.f k a0_2 7).bind fun t538 => (if y535.length + t538.length < 17592186044416 then ((some (y535 ++ t538 : List Int)).bind fun y541 => ((spec_Parity.f k y541).bind fun t544 => (if y541.length < 17592186044416 then ((some (y541 ++ [t544] : List Int)).bind fun y545 => ((some (([] : List Int) : List Int)).bind fun y548 => (if y548.length + y545.length < 17592186044416 then ((some (y548 ++ y545 : List Int)).bind fun y551 => (if y551.length + y545.length < 17592186044416 then ((some (y551 ++ y545 : List Int)).bind fun y554 => (if y554.length + y545.length < 17592186044416 then (some (y554 ++ y545)) else (none))) else (none))) else (none)))) else (none)))) else (none)))) else (none))) = some r := H
  have A4 := zO A40
  clear A40
  replace H := yE.mp H
  obtain ⟨t532, A50, H⟩ := H
  replace H : (if t529.length + t532.length < 17592186044416 then ((some (t529 ++ t532 : List Int)).bind fun y535 => ((spec_IntToBits.f k a0_2 7).bind fun t538 => (if y535.length + t538.length < 17592186044416 then ((some (y535 ++ t538 : List Int)).bind fun y541 => ((spec_Parity.f k y541).bind fun t544 => (if y541.length < 17592186044416 then ((some (y541 ++ [t544] : List Int)).bind fun y545 => ((some (([] : List Int) : List Int)).bind fun y548 => (if y548.length + y545.length < 17592186044416 then ((some (y548 ++ y545 : List Int)).bind fun y551 => (if y551.length + y545.length < 17592186044416 then ((some (y551 ++ y545 : List Int)).bind fun y554 => (if y554.length + y545.length < 17592186044416 then (some (y554 ++ y545)) else (none))) else (none))) else (none)))) else (none)))) else (none)))) else (none)) = some r := H
  have A5 := zO A50
  clear A50
  by_cases c6 : t529.length + t532.length < 17592186044416
  case neg => rw [if_neg c6] at H; exact absurd H (by simp)
  rw [if_pos c6] at H
  have LMc6 := zO c6
  clear c6
  obtain ⟨y535, hy535⟩ : ∃ y_ : List Int, y_ = (t529 ++ t532) := ⟨_, rfl⟩
  replace H : ((spec_IntToBits.f k a0_2 7).bind fun t538 => (if y535.length + t538.length < 17592186044416 then ((some (y535 ++ t538 : List Int)).bind fun y541 => ((spec_Parity.f k y541).bind fun t544 => (if y541.length < 17592186044416 then ((some (y541 ++ [t544] : List Int)).bind fun y545 => ((some (([] : List Int) : List Int)).bind fun y548 => (if y548.length + y545.length < 17592186044416 then ((some (y548 ++ y545 : List Int)).bind fun y551 => (if y551.length + y545.length < 17592186044416 then ((some (y551 ++ y545 : List Int)).bind fun y554 => (if y554.length + y545.length < 17592186044416 then (some (y554 ++ y545)) else (none))) else (none))) else (none)))) else (none)))) else (none))) = some r := by first | (rw [hy535]; exact H) | exact H
  have Ny535 := zO hy535
  clear hy535
  replace H := yE.mp H
  obtain ⟨t538, A70, H⟩ := H
  replace H : (if y535.length + t538.length < 17592186044416 then ((some (y535 ++ t538 : List Int)).bind fun y541 => ((spec_Parity.f k y541).bind fun t544 => (if y541.length < 17592186044416 then ((some (y541 ++ [t544] : List Int)).bind fun y545 => ((some (([] : List Int) : List Int)).bind fun y548 => (if y548.length + y545.length < 17592186044416 then ((some (y548 ++ y545 : List Int)).bind fun y551 => (if y551.length + y545.length < 17592186044416 then ((some (y551 ++ y545 : List Int)).bind fun y554 => (if y554.length + y545.length < 17592186044416 then (some (y554 ++ y545)) else (none))) else (none))) else (none)))) else (none)))) else (none)) = some r := H
  have A7 := zO A70
  clear A70
  by_cases c8 : y535.length + t538.length < 17592186044416
  case neg => rw [if_neg c8] at H; exact absurd H (by simp)
  rw [if_pos c8] at H
  have LMc8 := zO c8
  clear c8
  obtain ⟨y541, hy541⟩ : ∃ y_ : List Int, y_ = (y535 ++ t538) := ⟨_, rfl⟩
  replace H : ((spec_Parity.f k y541).bind fun t544 => (if y541.length < 17592186044416 then ((some (y541 ++ [t544] : List Int)).bind fun y545 => ((some (([] : List Int) : List Int)).bind fun y548 => (if y548.length + y545.length < 17592186044416 then ((some (y548 ++ y545 : List Int)).bind fun y551 => (if y551.length + y545.length < 17592186044416 then ((some (y551 ++ y545 : List Int)).bind fun y554 => (if y554.length + y545.length < 17592186044416 then (some (y554 ++ y545)) else (none))) else (none))) else (none)))) else (none))) = some r := by first | (rw [hy541]; exact H) | exact H
  have Ny541 := zO hy541
  clear hy541
  replace H := yE.mp H
  obtain ⟨t544, A90, H⟩ := H
  replace H : (if y541.length < 17592186044416 then ((some (y541 ++ [t544] : List Int)).bind fun y545 => ((some (([] : List Int) : List Int)).bind fun y548 => (if y548.length + y545.length < 17592186044416 then ((some (y548 ++ y545 : List Int)).bind fun y551 => (if y551.length + y545.length < 17592186044416 then ((some (y551 ++ y545 : List Int)).bind fun y554 => (if y554.length + y545.length < 17592186044416 then (some (y554 ++ y545)) else (none))) else (none))) else (none)))) else (none)) = some r := H
  have A9 := zO A90
  clear A90
  by_cases c10 : y541.length < 17592186044416
  case neg => rw [if_neg c10] at H; exact absurd H (by simp)
  rw [if_pos c10] at H
  have LMc10 := zO c10
  clear c10
  obtain ⟨y545, hy545⟩ : ∃ y_ : List Int, y_ = (y541 ++ [t544]) := ⟨_, rfl⟩
  replace H : ((some (([] : List Int) : List Int)).bind fun y548 => (if y548.length + y545.length < 17592186044416 then ((some (y548 ++ y545 : List Int)).bind fun y551 => (if y551.length + y545.length < 17592186044416 then ((some (y551 ++ y545 : List Int)).bind fun y554 => (if y554.length + y545.length < 17592186044416 then (some (y554 ++ y545)) else (none))) else (none))) else (none))) = some r := by first | (rw [hy545]; exact H) | exact H
  have Ny545 := zO hy545
  clear hy545
  obtain ⟨y548, hy548⟩ : ∃ y_ : List Int, y_ = (([] : List Int)) := ⟨_, rfl⟩
  replace H : (if y548.length + y545.length < 17592186044416 then ((some (y548 ++ y545 : List Int)).bind fun y551 => (if y551.length + y545.length < 17592186044416 then ((some (y551 ++ y545 : List Int)).bind fun y554 => (if y554.length + y545.length < 17592186044416 then (some (y554 ++ y545)) else (none))) else (none))) else (none)) = some r := by first | (rw [hy548]; exact H) | exact H
  have Ny548 := zO hy548
  clear hy548
  by_cases c11 : y548.length + y545.length < 17592186044416
  case neg => rw [if_neg c11] at H; exact absurd H (by simp)
  rw [if_pos c11] at H
  have LMc11 := zO c11
  clear c11
  obtain ⟨y551, hy551⟩ : ∃ y_ : List Int, y_ = (y548 ++ y545) := ⟨_, rfl⟩
  replace H : (if y551.length + y545.length < 17592186044416 then ((some (y551 ++ y545 : List Int)).bind fun y554 => (if y554.length + y545.length < 17592186044416 then (some (y554 ++ y545)) else (none))) else (none)) = some r := by first | (rw [hy551]; exact H) | exact H
  have Ny551 := zO hy551
  clear hy551
  by_cases c12 : y551.length + y545.length < 17592186044416
  case neg => rw [if_neg c12] at H; exact absurd H (by simp)
  rw [if_pos c12] at H
  have LMc12 := zO c12
  clear c12
  obtain ⟨y554, hy554⟩ : ∃ y_ : List Int, y_ = (y551 ++ y545) := ⟨_, rfl⟩
  replace H : (if y554.length + y545.length < 17592186044416 then (some (y554 ++ y545)) else (none)) = some r := by first | (rw [hy554]; exact H) | exact H
  have Ny554 := zO hy554
  clear hy554
  by_cases c13 : y554.length + y545.length < 17592186044416
  case neg => rw [if_neg c13] at H; exact absurd H (by simp)
  rw [if_pos c13] at H
  have LMc13 := zO c13
  clear c13
  obtain ⟨y557, hy557⟩ : ∃ y_ : List Int, y_ = (y554 ++ y545) := ⟨_, rfl⟩
  replace H : (some y557) = some r := by first | (rw [hy557]; exact H) | exact H
  have Ny557 := zO hy557
  clear hy557
  obtain rfl := Option.some.inj H
  go_enter Try.func184, Try.ntmps184
  try go_wp2_with (first | ((with_reducible refine zN (N := 1) rfl ?_); refine box_event ?hg (N := 1) ?hd (cs := #[.int .i64 a0_0, .int .i64 a0_1, .int .i64 a0_2]) (t := 24) ?hr ?_; (case hd => rfl); (case hg => rfl); (case hr => first | (go_simp; done) | (go_simp; rfl)); intro gb524 hg w14 hbox hb; have n0_ := zO (zE (by repeat (first | exact HB.out | apply zA | apply zL | apply zB)) hb); have n1_ := zO (hbox); have n2_ := zO ((by rw [hg]; exact (zD (by repeat (first | exact HB.out | apply zA | apply zL | apply zB))) : w.heap.size ≤ gb524)); have n3_ := zO ((by rw [hg]; exact (zD (by repeat (first | exact HB.out | apply zA | apply zL | apply zB))) : w.heap.size ≤ gb524)); clear HB; have HB := n0_; have BK524 := n1_; have GW524 := n2_; have GE524 := n3_; clear n0_ n1_ n2_ n3_; clear hb hbox hg; have hcz15_0 : w14.cell? ⟨gb524, 0, none⟩ = some (.int .i64 a0_0) := (zH BK524.out 0).trans rfl; have hcz15_1 : w14.cell? ⟨gb524, 1, none⟩ = some (.int .i64 a0_1) := (zH BK524.out 1).trans rfl; have hcz15_2 : w14.cell? ⟨gb524, 2, none⟩ = some (.int .i64 a0_2) := (zH BK524.out 2).trans rfl; have hfz15_0 := zK BK524.out 0; have hfz15_1 := zK BK524.out 1; have hfz15_2 := zK BK524.out 2) | ((with_reducible refine zM (f := 64) rfl ?_); refine goesL_ (some 5) rfl rfl Try.func64 (by kernel_rfl) rfl #[.agg #[.int .i64 a0_0, .int .i64 a0_1, .int .i64 a0_2]] rfl (by (try simp only [yK, yL, yM]); first | done | rfl | (simp only [yJ, yI]; rfl)) ?_; (with_reducible refine (spec_IsValidHeader.calls a0_0 a0_1 a0_2 true _ A2.out).mono ?_); rintro e w16 ⟨rfl, hb⟩; refine ⟨_, rfl, ?_⟩; have n0_ := zO (zG (g := gb524) (o := .cells #[.int .i64 a0_0, .int .i64 a0_1, .int .i64 a0_2] 24 (0, 0)) (by (with_reducible repeat (first | refine zJ ?_ _ | refine zI ?_ | refine zF ?_ _)); exact BK524.out) hb); have n1_ := zO (zE (by repeat (first | (with_reducible first | exact HB.out | apply zA | apply zL | apply zB | refine zC ?_ GE524.out) | exact HB.out)) hb); clear BK524; clear HB; have BK524 := n0_; have HB := n1_; clear n0_ n1_; (try clear hb); (try clear hb2); (try clear hk); (try clear hi)))
  have n0_ := zO (zI BK524.out)
  have n1_ := zO (zB HB.out)
  clear BK524
  clear HB
  have BK524 := n0_
  have HB := n1_
  clear n0_ n1_
  refine start_ (n := 12) (S := fun w' => w'.cell? ⟨gb524, 0, none⟩ = some (.int .i64 a0_0) ∧ w'.cell? ⟨gb524, 1, none⟩ = some (.int .i64 a0_1) ∧ w'.cell? ⟨gb524, 2, none⟩ = some (.int .i64 a0_2)) (ds := []) #[false, false, false, false, false, false, false, false, false, false, false, false] (by kernel_rfl) rfl rfl ⟨(zH BK524.out 0).trans rfl, (zH BK524.out 1).trans rfl, (zH BK524.out 2).trans rfl⟩ (fun hHeld => ?_); refine with_tabW spec_EncodeHeader.tab3 spec_EncodeHeader.bits3 (fun HT_ HW_ => ?_)
  generalize w16.drew = w17 at BK524 HB hHeld ⊢
  refine pure_ (i := 0) (N := some 8) (v := ?_) (a' := ?_) #[true, false, false, false, false, false, false, false, false, false, false, false] rfl rfl (any_of HT_.out (by kernel_rfl)) (fun _ _ _ h => h) (Or.inl ⟨by rfl, ?_⟩) ?_ ?_; rotate_left
  ·intro w'; go_simp; with_reducible rfl
  rotate_left
  ·simp only [Act.put, yF, yG, yH, i64_w, i32_w]; rfl
  refine pure_ (i := 3) (N := some 11) (v := ?_) (a' := ?_) #[true, false, false, true, false, false, false, false, false, false, false, false] rfl rfl (any_of HT_.out (by kernel_rfl)) (fun _ _ _ h => h) (Or.inl ⟨by rfl, ?_⟩) ?_ ?_; rotate_left
  ·intro w'; go_simp; with_reducible rfl
  rotate_left
  ·simp only [Act.put, yF, yG, yH, i64_w, i32_w]; rfl
  refine pure_ (i := 7) (N := some 15) (v := ?_) (a' := ?_) #[true, false, false, true, false, false, false, true, false, false, false, false] rfl rfl (any_of HT_.out (by kernel_rfl)) (fun _ _ _ h => h) (Or.inl ⟨by rfl, ?_⟩) ?_ ?_; rotate_left
  ·intro w'; go_simp; with_reducible rfl
  rotate_left
  ·simp only [Act.put, yF, yG, yH, i64_w, i32_w]; rfl
  refine take_ (i := 1) (N := some 9) (v := ?_) (a' := ?_) #[true, true, false, true, false, false, false, true, false, false, false, false] rfl rfl (take_ofW HT_.out HW_.out (by kernel_rfl)) (fun _ _ _ h => h) (Or.inl ⟨by rfl, ?_⟩) hHeld ?_ ?_; rotate_left
  ·rintro w' ⟨s0, s1, s2⟩; go_simp; with_reducible rfl
  rotate_left
  ·simp only [Act.put, yF, yG, yH, i64_w, i32_w]; rfl
  refine take_ (i := 4) (N := some 12) (v := ?_) (a' := ?_) #[true, true, false, true, true, false, false, true, false, false, false, false] rfl rfl (take_ofW HT_.out HW_.out (by kernel_rfl)) (fun _ _ _ h => h) (Or.inl ⟨by rfl, ?_⟩) hHeld ?_ ?_; rotate_left
  ·rintro w' ⟨s0, s1, s2⟩; go_simp; with_reducible rfl
  rotate_left
  ·simp only [Act.put, yF, yG, yH, i64_w, i32_w]; rfl
  refine take_ (i := 8) (N := some 16) (v := ?_) (a' := ?_) #[true, true, false, true, true, false, false, true, true, false, false, false] rfl rfl (take_ofW HT_.out HW_.out (by kernel_rfl)) (fun _ _ _ h => h) (Or.inl ⟨by rfl, ?_⟩) hHeld ?_ ?_; rotate_left
  ·rintro w' ⟨s0, s1, s2⟩; go_simp; with_reducible rfl
  rotate_left
  ·simp only [Act.put, yF, yG, yH, i64_w, i32_w]; rfl
  refine one_ (i := 2) (N := some 10) #[true, true, true, true, true, false, false, true, true, false, false, false] rfl rfl (one_of HT_.out (by kernel_rfl)) (by decide) (fun K hK => ?_)
  refine goes_ Try.func193 (by kernel_rfl) rfl #[.int .i64 a0_0, .int .i64 2] (by rfl) rfl rfl (by (try simp only [yK, yL, yM]); first | done | rfl | (simp only [yJ, yI]; rfl)) ?_
  with_reducible refine (spec_IntToBits.calls k a0_0 2 t529 _ A4.out).mono ?_
  rintro e w18 ⟨v530, rfl, ho0, hb⟩
  refine ⟨_, rfl, ?_⟩
  have n0_ := zO (yA ho0 (zD (by repeat (first | (with_reducible first | exact HB.out | apply zA | apply zL | apply zB | refine zC ?_ GE524.out) | exact HB.out))))
  have n1_ := zO (zG (g := gb524) (o := .cells #[.int .i64 a0_0, .int .i64 a0_1, .int .i64 a0_2] 24 (0, 0)) (by (with_reducible repeat (first | refine zJ ?_ _ | refine zI ?_ | refine zF ?_ _)); exact BK524.out) hb)
  have n2_ := zO (zE (by repeat (first | (with_reducible first | exact HB.out | apply zA | apply zL | apply zB | refine zC ?_ GE524.out) | exact HB.out)) hb)
  clear BK524
  clear HB
  have HO531 := n0_
  have BK524 := n1_
  have HB := n2_
  clear n0_ n1_ n2_
  (try clear hb)
  (try clear hb2)
  (try clear hk)
  (try clear hi)
  (try clear ho0)
  refine hK.out _ _ ⟨(zH BK524.out 0).trans rfl, (zH BK524.out 1).trans rfl, (zH BK524.out 2).trans rfl⟩ (fun hHeld => ?_)
  clear hK K
  refine norm_ (a' := ?_) ?_ ?_; rotate_left
  ·show Act.put _ (some 10) _ = _; simp only [Act.put, yF, yG, yH, i64_w, i32_w]; rfl
  refine one_ (i := 5) (N := some 13) #[true, true, true, true, true, true, false, true, true, false, false, false] rfl rfl (one_of HT_.out (by kernel_rfl)) (by decide) (fun K hK => ?_)
  refine goes_ Try.func193 (by kernel_rfl) rfl #[.int .i64 a0_1, .int .i64 8] (by rfl) rfl rfl (by (try simp only [yK, yL, yM]); first | done | rfl | (simp only [yJ, yI]; rfl)) ?_
  with_reducible refine (spec_IntToBits.calls k a0_1 8 t532 _ A5.out).mono ?_
  rintro e w19 ⟨v533, rfl, ho0, hb⟩
  refine ⟨_, rfl, ?_⟩
  have n0_ := zO (Kd.R_elder' (by (with_reducible repeat (first | apply zU | apply zW | apply zV)); exact HO531.out) (Kd.R_base ho0) hb)
  have n1_ := zO (yA (Kd.R_new' ho0 (Kd.R_lt (by (with_reducible repeat (first | apply zU | apply zW | apply zV)); exact HO531.out))) (zD (by repeat (first | (with_reducible first | exact HB.out | apply zA | apply zL | apply zB | refine zC ?_ GE524.out) | exact HB.out))))
  have n2_ := zO (zG (g := gb524) (o := .cells #[.int .i64 a0_0, .int .i64 a0_1, .int .i64 a0_2] 24 (0, 0)) (by (with_reducible repeat (first | refine zJ ?_ _ | refine zI ?_ | refine zF ?_ _)); exact BK524.out) hb)
  have n3_ := zO (zE (by repeat (first | (with_reducible first | exact HB.out | apply zA | apply zL | apply zB | refine zC ?_ GE524.out) | exact HB.out)) hb)
  clear HO531
  clear BK524
  clear HB
  have HO531 := n0_
  have HO534 := n1_
  have BK524 := n2_
  have HB := n3_
  clear n0_ n1_ n2_ n3_
  (try clear hb)
  (try clear hb2)
  (try clear hk)
  (try clear hi)
  (try clear ho0)
  obtain ⟨Ao21, co21, eo21⟩ := Kd.R_slice HO534.out
  (first | subst eo21 | (injection eo21 with f1_ f2_ f3_; have f4_ := f1_.symm; have f5_ := f3_.symm; clear f1_ f2_ f3_; subst f4_; subst f5_))
  refine hK.out _ _ ⟨(zH BK524.out 0).trans rfl, (zH BK524.out 1).trans rfl, (zH BK524.out 2).trans rfl⟩ (fun hHeld => ?_)
  clear hK K
  refine norm_ (a' := ?_) ?_ ?_; rotate_left
  ·show Act.put _ (some 13) _ = _; simp only [Act.put, yF, yG, yH, i64_w, i32_w]; rfl
  refine one_ (i := 6) (N := some 14) #[true, true, true, true, true, true, true, true, true, false, false, false] rfl rfl (one_of HT_.out (by kernel_rfl)) (by decide) (fun K hK => ?_)
  refine Kd.R_append_rows_step (Kd.int .i64) (w0 := w) w.heap.size (by rfl) (.tmp 10) (.tmp 13) 22 3 (.int .i64 0) 8 rfl Try.underlying22 info3 rfl (by decide) (by omega) v530 t529 t532 _ _ _ (fun k_ => some k_ ≠ (.slice Ao21 t532.length co21 : Value).ownBlock) (fun _ => False) rfl rfl ?aO ?aR (fun _ _ h => h) (fun _ h => h.elim) ?aF ?aB ?aS ?aL ?_
  (case aR => repeat (first | exact (zX HO534.out).2.2 | (with_reducible refine zR ?_ _) | (with_reducible refine zT ?_ _) | (with_reducible refine zS ?_)))
  (case aB => exact (by repeat (first | (with_reducible first | exact HB.out | apply zA | apply zL | apply zB | refine zC ?_ GE524.out) | exact HB.out)))
  (case aF => exact (fun k_ hk => Kd.fresh' (Kd.R_lt (by (with_reducible repeat (first | apply zU | apply zW | apply zV)); exact HO534.out)) k_ hk))
  (case aO => exact (by (with_reducible repeat (first | apply zU | apply zW | apply zV)); exact Kd.R_mono HO531.out (fun _ hk => hk.2)))
  (case aS => exact (zD (by repeat (first | (with_reducible first | exact HB.out | apply zA | apply zL | apply zB | refine zC ?_ GE524.out) | exact HB.out))))
  (case aL => have := LMc6.out; omega)
  intro v536 w20 ho hb hg hat
  rw [← Ny535.out] at ho
  have n0_ := zO (blk_grown (g := gb524) (o := .cells #[.int .i64 a0_0, .int .i64 a0_1, .int .i64 a0_2] 24 (0, 0)) (by (with_reducible repeat (first | refine zJ ?_ _ | refine zI ?_ | refine zF ?_ _)); exact BK524.out) hg (Kd.R_ne HO531.out BK524.out (by decide)))
  have n1_ := zO (Kd.R_after (ok := (fun _ => True)) (by (with_reducible repeat (first | apply zU | apply zW | apply zV)); exact HO534.out) hg hat)
  have n2_ := zO (hb)
  have n3_ := zO (ho)
  clear BK524
  clear HO534
  clear HB
  clear HO531
  have BK524 := n0_
  have HO534 := n1_
  have HB := n2_
  have HO537 := n3_
  clear n0_ n1_ n2_ n3_
  clear ho hb hg hat
  refine hK.out _ _ ⟨(zH BK524.out 0).trans rfl, (zH BK524.out 1).trans rfl, (zH BK524.out 2).trans rfl⟩ (fun hHeld => ?_)
  clear hK K
  refine norm_ (a' := ?_) ?_ ?_; rotate_left
  ·show Act.put _ (some 14) _ = _; simp only [Act.put, yF, yG, yH, i64_w, i32_w]; rfl
  refine one_ (i := 9) (N := some 17) #[true, true, true, true, true, true, true, true, true, true, false, false] rfl rfl (one_of HT_.out (by kernel_rfl)) (by decide) (fun K hK => ?_)
  refine goes_ Try.func193 (by kernel_rfl) rfl #[.int .i64 a0_2, .int .i64 7] (by rfl) rfl rfl (by (try simp only [yK, yL, yM]); first | done | rfl | (simp only [yJ, yI]; rfl)) ?_
  with_reducible refine (spec_IntToBits.calls k a0_2 7 t538 _ A7.out).mono ?_
  rintro e w22 ⟨v539, rfl, ho0, hb⟩
  refine ⟨_, rfl, ?_⟩
  have n0_ := zO (Kd.R_elder' (by (with_reducible repeat (first | apply zU | apply zW | apply zV)); exact HO534.out) (Kd.R_base ho0) hb)
  have n1_ := zO (Kd.R_elder' (by (with_reducible repeat (first | apply zU | apply zW | apply zV)); exact HO537.out) (Kd.R_base ho0) hb)
  have n2_ := zO (yA (Kd.R_new' (Kd.R_new' ho0 (Kd.R_lt (by (with_reducible repeat (first | apply zU | apply zW | apply zV)); exact HO534.out))) (Kd.R_lt (by (with_reducible repeat (first | apply zU | apply zW | apply zV)); exact HO537.out))) (zD (by repeat (first | (with_reducible first | exact HB.out | apply zA | apply zL | apply zB | refine zC ?_ GE524.out) | exact HB.out))))
  have n3_ := zO (zG (g := gb524) (o := .cells #[.int .i64 a0_0, .int .i64 a0_1, .int .i64 a0_2] 24 (0, 0)) (by (with_reducible repeat (first | refine zJ ?_ _ | refine zI ?_ | refine zF ?_ _)); exact BK524.out) hb)
  have n4_ := zO (zE (by repeat (first | (with_reducible first | exact HB.out | apply zA | apply zL | apply zB | refine zC ?_ GE524.out) | exact HB.out)) hb)
  clear HO534
  clear HO537
  clear BK524
  clear HB
  have HO534 := n0_
  have HO537 := n1_
  have HO540 := n2_
  have BK524 := n3_
  have HB := n4_
  clear n0_ n1_ n2_ n3_ n4_
  (try clear hb)
  (try clear hb2)
  (try clear hk)
  (try clear hi)
  (try clear ho0)
  obtain ⟨Ao24, co24, eo24⟩ := Kd.R_slice HO540.out
  (first | subst eo24 | (injection eo24 with f1_ f2_ f3_; have f4_ := f1_.symm; have f5_ := f3_.symm; clear f1_ f2_ f3_; subst f4_; subst f5_))
  refine hK.out _ _ ⟨(zH BK524.out 0).trans rfl, (zH BK524.out 1).trans rfl, (zH BK524.out 2).trans rfl⟩ (fun hHeld => ?_)
  clear hK K
  refine norm_ (a' := ?_) ?_ ?_; rotate_left
  ·show Act.put _ (some 17) _ = _; simp only [Act.put, yF, yG, yH, i64_w, i32_w]; rfl
  refine one_ (i := 10) (N := some 18) #[true, true, true, true, true, true, true, true, true, true, true, false] rfl rfl (one_of HT_.out (by kernel_rfl)) (by decide) (fun K hK => ?_)
  refine Kd.R_append_rows_step (Kd.int .i64) (w0 := w) w.heap.size (by rfl) (.tmp 14) (.tmp 17) 22 3 (.int .i64 0) 8 rfl Try.underlying22 info3 rfl (by decide) (by omega) v536 y535 t538 _ _ _ (fun k_ => some k_ ≠ (.slice Ao21 t532.length co21 : Value).ownBlock ∧ some k_ ≠ (.slice Ao24 t538.length co24 : Value).ownBlock) (fun _ => False) rfl rfl ?aO ?aR (fun _ _ h => h) (fun _ h => h.elim) ?aF ?aB ?aS ?aL ?_
  (case aR => repeat (first | exact (zX HO540.out).2.2 | (with_reducible refine zR ?_ _) | (with_reducible refine zT ?_ _) | (with_reducible refine zS ?_)))
  (case aB => exact (by repeat (first | (with_reducible first | exact HB.out | apply zA | apply zL | apply zB | refine zC ?_ GE524.out) | exact HB.out)))
  (case aF => exact (fun k_ hk => ⟨Kd.fresh' (Kd.R_lt (by (with_reducible repeat (first | apply zU | apply zW | apply zV)); exact HO534.out)) k_ hk, Kd.fresh' (Kd.R_lt (by (with_reducible repeat (first | apply zU | apply zW | apply zV)); exact HO540.out)) k_ hk⟩))
  (case aO => exact (by (with_reducible repeat (first | apply zU | apply zW | apply zV)); exact HO537.out))
  (case aS => exact (zD (by repeat (first | (with_reducible first | exact HB.out | apply zA | apply zL | apply zB | refine zC ?_ GE524.out) | exact HB.out))))
  (case aL => have := LMc8.out; omega)
  intro v542 w23 ho hb hg hat
  rw [← Ny541.out] at ho
  have n0_ := zO (blk_grown (g := gb524) (o := .cells #[.int .i64 a0_0, .int .i64 a0_1, .int .i64 a0_2] 24 (0, 0)) (by (with_reducible repeat (first | refine zJ ?_ _ | refine zI ?_ | refine zF ?_ _)); exact BK524.out) hg (Kd.R_ne HO537.out BK524.out (by decide)))
  have n1_ := zO (Kd.R_after (ok := (fun k_ => some k_ ≠ (.slice Ao24 t538.length co24 : Value).ownBlock)) (by (with_reducible repeat (first | apply zU | apply zW | apply zV)); exact Kd.R_mono HO534.out (fun _ hk => ⟨hk.2, hk.1.2⟩)) hg hat)
  have n2_ := zO (Kd.R_after (ok := (fun k_ => some k_ ≠ (.slice Ao21 t532.length co21 : Value).ownBlock)) (by (with_reducible repeat (first | apply zU | apply zW | apply zV)); exact Kd.R_mono HO540.out (fun _ hk => ⟨hk.1.2, hk.2⟩)) hg hat)
  have n3_ := zO (hb)
  have n4_ := zO (ho)
  clear BK524
  clear HO534
  clear HO540
  clear HB
  clear HO537
  have BK524 := n0_
  have HO534 := n1_
  have HO540 := n2_
  have HB := n3_
  have HO543 := n4_
  clear n0_ n1_ n2_ n3_ n4_
  clear ho hb hg hat
  refine hK.out _ _ ⟨(zH BK524.out 0).trans rfl, (zH BK524.out 1).trans rfl, (zH BK524.out 2).trans rfl⟩ (fun hHeld => ?_)
  clear hK K
  refine norm_ (a' := ?_) ?_ ?_; rotate_left
  ·show Act.put _ (some 18) _ = _; simp only [Act.put, yF, yG, yH, i64_w, i32_w]; rfl
  refine pure_ (i := 11) (N := some 3) (v := ?_) (a' := ?_) #[true, true, true, true, true, true, true, true, true, true, true, true] rfl rfl (any_of HT_.out (by kernel_rfl)) (fun _ _ _ h => h) (Or.inl ⟨by rfl, ?_⟩) ?_ ?_; rotate_left
  ·intro w'; go_simp; with_reducible rfl
  rotate_left
  ·simp only [Act.put, yF, yG, yH, i64_w, i32_w]; rfl
  refine done_ (done_of HT_.out (by kernel_rfl)) ?_
  obtain ⟨Ao25, co25, eo25⟩ := Kd.R_slice HO543.out
  subst eo25
  try go_wp2_with (first | ((with_reducible refine zM (f := 71) rfl ?_); refine goesL_ (some 21) rfl rfl Try.func71 (by kernel_rfl) rfl #[.slice Ao25 y541.length co25] rfl (by (try simp only [yK, yL, yM]); first | done | rfl | (simp only [yJ, yI]; rfl)) ?_; (with_reducible refine (spec_Parity.calls k _ _ y541 t544 _ ?side1 ?side2 A9.out).mono ?_); (case side1 => repeat (first | exact (zX HO543.out).2.2 | (with_reducible refine zR ?_ _) | (with_reducible refine zT ?_ _) | (with_reducible refine zS ?_))); (case side2 => exact (zX HO543.out).2.1); rintro e w' ⟨rfl, ⟨nd, rfl⟩⟩; refine ⟨_, rfl, ?_⟩) | ((with_reducible refine gate_builtin (b := .append) (xs := #[.tmp 19, .tmp 22]) rfl ?_); at_builtin; refine Kd.R_append (Kd.int .i64) (w0 := w) w.heap.size rfl (.tmp 19) (.tmp 22) 22 3 (.int .i64 0) 8 rfl Try.underlying22 info3 rfl (by decide) (by omega) (.slice Ao25 y541.length co25) y541 t544 [.int .i64 t544] (fun k_ => some k_ ≠ (.slice Ao21 t532.length co21 : Value).ownBlock ∧ some k_ ≠ (.slice Ao24 t538.length co24 : Value).ownBlock) (fun _ => False) rfl rfl ?aP (fun _ hk => hk.elim) ?aF ?aO ?aB ?aS ?aL ?_; (case aP => exact rfl); (case aB => exact (by repeat (first | (with_reducible first | exact HB.out | apply zA | apply zL | apply zB | refine zC ?_ GE524.out) | exact HB.out))); (case aF => exact (fun k_ hk => ⟨Kd.fresh' (Kd.R_lt (by (with_reducible repeat (first | apply zU | apply zW | apply zV)); exact HO534.out)) k_ hk, Kd.fresh' (Kd.R_lt (by (with_reducible repeat (first | apply zU | apply zW | apply zV)); exact HO540.out)) k_ hk⟩)); (case aO => exact (by (with_reducible repeat (first | apply zU | apply zW | apply zV)); exact HO543.out)); (case aS => exact (zD (by repeat (first | (with_reducible first | exact HB.out | apply zA | apply zL | apply zB | refine zC ?_ GE524.out) | exact HB.out)))); (case aL => have := LMc10.out; omega); intro v546 w26 ho hb hg hat; rw [← Ny545.out] at ho; have n0_ := zO (blk_grown (g := gb524) (o := .cells #[.int .i64 a0_0, .int .i64 a0_1, .int .i64 a0_2] 24 (0, 0)) (by (with_reducible repeat (first | refine zJ ?_ _ | refine zI ?_ | refine zF ?_ _)); exact BK524.out) hg (Kd.R_ne HO543.out BK524.out (by decide))); have n1_ := zO (Kd.R_after (ok := (fun k_ => some k_ ≠ (.slice Ao24 t538.length co24 : Value).ownBlock)) (by (with_reducible repeat (first | apply zU | apply zW | apply zV)); exact HO534.out) hg hat); have n2_ := zO (Kd.R_after (ok := (fun k_ => some k_ ≠ (.slice Ao21 t532.length co21 : Value).ownBlock)) (by (with_reducible repeat (first | apply zU | apply zW | apply zV)); exact HO540.out) hg hat); have n3_ := zO (hb); have n4_ := zO (ho); clear BK524; clear HO534; clear HO540; clear HB; clear HO543; have BK524 := n0_; have HO534 := n1_; have HO540 := n2_; have HB := n3_; have HO547 := n4_; clear n0_ n1_ n2_ n3_ n4_; clear ho hb hg hat) | ((with_reducible refine zN (N := 24) rfl ?_); refine Kd.R_lit (Kd.int .i64) _ 3 ?hg (N := 24) ?hd (xs := ([] : List Int)) (inner := []) (ok := fun _ => True) (okp := fun _ => True) ?hr ?hp (fun _ hk => hk) trivial (Below.refl _ _) (Nat.le_refl _) (by simp) ?_; (case hd => rfl); (case hg => rfl); (case hr => first | (go_simp; done) | (go_simp; rfl)); (case hp => exact (Reps.none _ _)); intro v549 w27 ho28 hb hg_ hnew_; clear hg_ hnew_; (first | rw [← Ny548.out] at ho28 | (simp only [Int.reduceToNat] at ho28; rw [← Ny548.out] at ho28)); have n0_ := zO (Kd.R_elder' (by (with_reducible repeat (first | apply zU | apply zW | apply zV)); exact HO534.out) (Kd.R_base ho28) hb); have n1_ := zO (Kd.R_elder' (by (with_reducible repeat (first | apply zU | apply zW | apply zV)); exact HO540.out) (Kd.R_base ho28) hb); have n2_ := zO (Kd.R_elder' (by (with_reducible repeat (first | apply zU | apply zW | apply zV)); exact HO547.out) (Kd.R_base ho28) hb); have n3_ := zO (yA (Kd.R_new' (Kd.R_new' (Kd.R_new' ho28 (Kd.R_lt (by (with_reducible repeat (first | apply zU | apply zW | apply zV)); exact HO534.out))) (Kd.R_lt (by (with_reducible repeat (first | apply zU | apply zW | apply zV)); exact HO540.out))) (Kd.R_lt (by (with_reducible repeat (first | apply zU | apply zW | apply zV)); exact HO547.out))) (zD (by repeat (first | (with_reducible first | exact HB.out | apply zA | apply zL | apply zB | refine zC ?_ GE524.out) | exact HB.out)))); have n4_ := zO (zG (g := gb524) (o := .cells #[.int .i64 a0_0, .int .i64 a0_1, .int .i64 a0_2] 24 (0, 0)) (by (with_reducible repeat (first | refine zJ ?_ _ | refine zI ?_ | refine zF ?_ _)); exact BK524.out) hb); have n5_ := zO (zE (by repeat (first | (with_reducible first | exact HB.out | apply zA | apply zL | apply zB | refine zC ?_ GE524.out) | exact HB.out)) hb); clear HO534; clear HO540; clear HO547; clear BK524; clear HB; have HO534 := n0_; have HO540 := n1_; have HO547 := n2_; have HO550 := n3_; have BK524 := n4_; have HB := n5_; clear n0_ n1_ n2_ n3_ n4_ n5_; clear hb ho28; obtain ⟨Ao30, co30, eo30⟩ := Kd.R_slice HO547.out; subst eo30) | ((with_reducible refine gate_builtin (b := .append) (xs := #[.tmp 24, .tmp 25]) rfl ?_); at_builtin; refine Kd.R_append_rows (Kd.int .i64) (w0 := w) w.heap.size rfl (.tmp 24) (.tmp 25) 22 3 (.int .i64 0) 8 rfl Try.underlying22 info3 rfl (by decide) (by omega) v549 y548 y545 _ _ _ (fun k_ => some k_ ≠ (.slice Ao21 t532.length co21 : Value).ownBlock ∧ some k_ ≠ (.slice Ao24 t538.length co24 : Value).ownBlock ∧ some k_ ≠ (.slice Ao30 y545.length co30 : Value).ownBlock) (fun _ => False) rfl rfl ?aO ?aR (fun _ _ h => h) (fun _ h => h.elim) ?aF ?aB ?aS ?aL ?_; (case aR => repeat (first | exact (zX HO547.out).2.2 | (with_reducible refine zR ?_ _) | (with_reducible refine zT ?_ _) | (with_reducible refine zS ?_))); (case aB => exact (by repeat (first | (with_reducible first | exact HB.out | apply zA | apply zL | apply zB | refine zC ?_ GE524.out) | exact HB.out))); (case aF => exact (fun k_ hk => ⟨Kd.fresh' (Kd.R_lt (by (with_reducible repeat (first | apply zU | apply zW | apply zV)); exact HO534.out)) k_ hk, Kd.fresh' (Kd.R_lt (by (with_reducible repeat (first | apply zU | apply zW | apply zV)); exact HO540.out)) k_ hk, Kd.fresh' (Kd.R_lt (by (with_reducible repeat (first | apply zU | apply zW | apply zV)); exact HO547.out)) k_ hk⟩)); (case aO => exact (by (with_reducible repeat (first | apply zU | apply zW | apply zV)); exact Kd.R_mono HO550.out (fun _ hk => ⟨hk.1.1.2, ⟨hk.1.2, hk.2⟩⟩))); (case aS => exact (zD (by repeat (first | (with_reducible first | exact HB.out | apply zA | apply zL | apply zB | refine zC ?_ GE524.out) | exact HB.out)))); (case aL => have := LMc11.out; omega); intro v552 w29 ho hb hg hat; rw [← Ny551.out] at ho; have n0_ := zO (blk_grown (g := gb524) (o := .cells #[.int .i64 a0_0, .int .i64 a0_1, .int .i64 a0_2] 24 (0, 0)) (by (with_reducible repeat (first | refine zJ ?_ _ | refine zI ?_ | refine zF ?_ _)); exact BK524.out) hg (Kd.R_ne HO550.out BK524.out (by decide))); have n1_ := zO (Kd.R_after (ok := (fun k_ => some k_ ≠ (.slice Ao24 t538.length co24 : Value).ownBlock ∧ some k_ ≠ (.slice Ao30 y545.length co30 : Value).ownBlock)) (by (with_reducible repeat (first | apply zU | apply zW | apply zV)); exact HO534.out) hg hat); have n2_ := zO (Kd.R_after (ok := (fun k_ => some k_ ≠ (.slice Ao21 t532.length co21 : Value).ownBlock ∧ some k_ ≠ (.slice Ao30 y545.length co30 : Value).ownBlock)) (by (with_reducible repeat (first | apply zU | apply zW | apply zV)); exact HO540.out) hg hat); have n3_ := zO (Kd.R_after (ok := (fun k_ => some k_ ≠ (.slice Ao21 t532.length co21 : Value).ownBlock ∧ some k_ ≠ (.slice Ao24 t538.length co24 : Value).ownBlock)) (by (with_reducible repeat (first | apply zU | apply zW | apply zV)); exact HO547.out) hg hat); have n4_ := zO (hb); have n5_ := zO (ho); clear BK524; clear HO534; clear HO540; clear HO547; clear HB; clear HO550; have BK524 := n0_; have HO534 := n1_; have HO540 := n2_; have HO547 := n3_; have HB := n4_; have HO553 := n5_; clear n0_ n1_ n2_ n3_ n4_ n5_; clear ho hb hg hat) | ((with_reducible refine gate_builtin (b := .append) (xs := #[.tmp 26, .tmp 27]) rfl ?_); at_builtin; refine Kd.R_append_rows (Kd.int .i64) (w0 := w) w.heap.size rfl (.tmp 26) (.tmp 27) 22 3 (.int .i64 0) 8 rfl Try.underlying22 info3 rfl (by decide) (by omega) v552 y551 y545 _ _ _ (fun k_ => some k_ ≠ (.slice Ao21 t532.length co21 : Value).ownBlock ∧ some k_ ≠ (.slice Ao24 t538.length co24 : Value).ownBlock ∧ some k_ ≠ (.slice Ao30 y545.length co30 : Value).ownBlock) (fun _ => False) rfl rfl ?aO ?aR (fun _ _ h => h) (fun _ h => h.elim) ?aF ?aB ?aS ?aL ?_; (case aR => repeat (first | exact (zX HO547.out).2.2 | (with_reducible refine zR ?_ _) | (with_reducible refine zT ?_ _) | (with_reducible refine zS ?_))); (case aB => exact (by repeat (first | (with_reducible first | exact HB.out | apply zA | apply zL | apply zB | refine zC ?_ GE524.out) | exact HB.out))); (case aF => exact (fun k_ hk => ⟨Kd.fresh' (Kd.R_lt (by (with_reducible repeat (first | apply zU | apply zW | apply zV)); exact HO534.out)) k_ hk, Kd.fresh' (Kd.R_lt (by (with_reducible repeat (first | apply zU | apply zW | apply zV)); exact HO540.out)) k_ hk, Kd.fresh' (Kd.R_lt (by (with_reducible repeat (first | apply zU | apply zW | apply zV)); exact HO547.out)) k_ hk⟩)); (case aO => exact (by (with_reducible repeat (first | apply zU | apply zW | apply zV)); exact HO553.out)); (case aS => exact (zD (by repeat (first | (with_reducible first | exact HB.out | apply zA | apply zL | apply zB | refine zC ?_ GE524.out) | exact HB.out)))); (case aL => have := LMc12.out; omega); intro v555 w31 ho hb hg hat; rw [← Ny554.out] at ho; have n0_ := zO (blk_grown (g := gb524) (o := .cells #[.int .i64 a0_0, .int .i64 a0_1, .int .i64 a0_2] 24 (0, 0)) (by (with_reducible repeat (first | refine zJ ?_ _ | refine zI ?_ | refine zF ?_ _)); exact BK524.out) hg (Kd.R_ne HO553.out BK524.out (by decide))); have n1_ := zO (Kd.R_after (ok := (fun k_ => some k_ ≠ (.slice Ao24 t538.length co24 : Value).ownBlock ∧ some k_ ≠ (.slice Ao30 y545.length co30 : Value).ownBlock)) (by (with_reducible repeat (first | apply zU | apply zW | apply zV)); exact HO534.out) hg hat); have n2_ := zO (Kd.R_after (ok := (fun k_ => some k_ ≠ (.slice Ao21 t532.length co21 : Value).ownBlock ∧ some k_ ≠ (.slice Ao30 y545.length co30 : Value).ownBlock)) (by (with_reducible repeat (first | apply zU | apply zW | apply zV)); exact HO540.out) hg hat); have n3_ := zO (Kd.R_after (ok := (fun k_ => some k_ ≠ (.slice Ao21 t532.length co21 : Value).ownBlock ∧ some k_ ≠ (.slice Ao24 t538.length co24 : Value).ownBlock)) (by (with_reducible repeat (first | apply zU | apply zW | apply zV)); exact HO547.out) hg hat); have n4_ := zO (hb); have n5_ := zO (ho); clear BK524; clear HO534; clear HO540; clear HO547; clear HB; clear HO553; have BK524 := n0_; have HO534 := n1_; have HO540 := n2_; have HO547 := n3_; have HB := n4_; have HO556 := n5_; clear n0_ n1_ n2_ n3_ n4_ n5_; clear ho hb hg hat) | ((with_reducible refine gate_builtin (b := .append) (xs := #[.tmp 28, .tmp 29]) rfl ?_); at_builtin; refine Kd.R_append_rows (Kd.int .i64) (w0 := w) w.heap.size rfl (.tmp 28) (.tmp 29) 22 3 (.int .i64 0) 8 rfl Try.underlying22 info3 rfl (by decide) (by omega) v555 y554 y545 _ _ _ (fun k_ => some k_ ≠ (.slice Ao21 t532.length co21 : Value).ownBlock ∧ some k_ ≠ (.slice Ao24 t538.length co24 : Value).ownBlock ∧ some k_ ≠ (.slice Ao30 y545.length co30 : Value).ownBlock) (fun _ => False) rfl rfl ?aO ?aR (fun _ _ h => h) (fun _ h => h.elim) ?aF ?aB ?aS ?aL ?_; (case aR => repeat (first | exact (zX HO547.out).2.2 | (with_reducible refine zR ?_ _) | (with_reducible refine zT ?_ _) | (with_reducible refine zS ?_))); (case aB => exact (by repeat (first | (with_reducible first | exact HB.out | apply zA | apply zL | apply zB | refine zC ?_ GE524.out) | exact HB.out))); (case aF => exact (fun k_ hk => ⟨Kd.fresh' (Kd.R_lt (by (with_reducible repeat (first | apply zU | apply zW | apply zV)); exact HO534.out)) k_ hk, Kd.fresh' (Kd.R_lt (by (with_reducible repeat (first | apply zU | apply zW | apply zV)); exact HO540.out)) k_ hk, Kd.fresh' (Kd.R_lt (by (with_reducible repeat (first | apply zU | apply zW | apply zV)); exact HO547.out)) k_ hk⟩)); (case aO => exact (by (with_reducible repeat (first | apply zU | apply zW | apply zV)); exact HO556.out)); (case aS => exact (zD (by repeat (first | (with_reducible first | exact HB.out | apply zA | apply zL | apply zB | refine zC ?_ GE524.out) | exact HB.out)))); (case aL => have := LMc13.out; omega); intro v558 w32 ho hb hg hat; rw [← Ny557.out] at ho; have n0_ := zO (blk_grown (g := gb524) (o := .cells #[.int .i64 a0_0, .int .i64 a0_1, .int .i64 a0_2] 24 (0, 0)) (by (with_reducible repeat (first | refine zJ ?_ _ | refine zI ?_ | refine zF ?_ _)); exact BK524.out) hg (Kd.R_ne HO556.out BK524.out (by decide))); have n1_ := zO (Kd.R_after (ok := (fun k_ => some k_ ≠ (.slice Ao24 t538.length co24 : Value).ownBlock ∧ some k_ ≠ (.slice Ao30 y545.length co30 : Value).ownBlock)) (by (with_reducible repeat (first | apply zU | apply zW | apply zV)); exact HO534.out) hg hat); have n2_ := zO (Kd.R_after (ok := (fun k_ => some k_ ≠ (.slice Ao21 t532.length co21 : Value).ownBlock ∧ some k_ ≠ (.slice Ao30 y545.length co30 : Value).ownBlock)) (by (with_reducible repeat (first | apply zU | apply zW | apply zV)); exact HO540.out) hg hat); have n3_ := zO (Kd.R_after (ok := (fun k_ => some k_ ≠ (.slice Ao21 t532.length co21 : Value).ownBlock ∧ some k_ ≠ (.slice Ao24 t538.length co24 : Value).ownBlock)) (by (with_reducible repeat (first | apply zU | apply zW | apply zV)); exact HO547.out) hg hat); have n4_ := zO (hb); have n5_ := zO (ho); clear BK524; clear HO534; clear HO540; clear HO547; clear HB; clear HO556; have BK524 := n0_; have HO534 := n1_; have HO540 := n2_; have HO547 := n3_; have HB := n4_; have HO559 := n5_; clear n0_ n1_ n2_ n3_ n4_ n5_; clear ho hb hg hat))
  go_ret
  exact ⟨_, by first | rfl | (simp [errW_none, errW_some] <;> rfl) | (simp [*, errW_none, errW_some] <;> rfl), by (with_reducible repeat (first | apply zU | apply zW | apply zV)); exact Kd.R_mono HO559.out (fun _ hk => trivial), by repeat (first | (with_reducible first | exact HB.out | apply zA | apply zL | apply zB | refine zC ?_ GE524.out) | exact HB.out)⟩
 ·replace c3 := Bool.eq_false_iff.mpr c3
  subst c3
  have H1 : (some (([] : List Int))) = some r := by rw [if_neg (show ¬ (false = true) by decide)] at H; exact H
  clear H
  have H := H1
  clear H1
  obtain ⟨y526, hy526⟩ : ∃ y_ : List Int, y_ = (([] : List Int)) := ⟨_, rfl⟩
  replace H : (some y526) = some r := by first | (rw [hy526]; exact H) | exact H
  have Ny526 := zO hy526
  clear hy526
  obtain rfl := Option.some.inj H
  go_enter Try.func184, Try.ntmps184
  go_wp2_with (first | ((with_reducible refine zN (N := 1) rfl ?_); refine box_event ?hg (N := 1) ?hd (cs := #[.int .i64 a0_0, .int .i64 a0_1, .int .i64 a0_2]) (t := 24) ?hr ?_; (case hd => rfl); (case hg => rfl); (case hr => first | (go_simp; done) | (go_simp; rfl)); intro gb524 hg w33 hbox hb; have n0_ := zO (zE (by repeat (first | exact HB.out | apply zA | apply zL | apply zB)) hb); have n1_ := zO (hbox); have n2_ := zO ((by rw [hg]; exact (zD (by repeat (first | exact HB.out | apply zA | apply zL | apply zB))) : w.heap.size ≤ gb524)); have n3_ := zO ((by rw [hg]; exact (zD (by repeat (first | exact HB.out | apply zA | apply zL | apply zB))) : w.heap.size ≤ gb524)); clear HB; have HB := n0_; have BK524 := n1_; have GW524 := n2_; have GE524 := n3_; clear n0_ n1_ n2_ n3_; clear hb hbox hg; have hcz34_0 : w33.cell? ⟨gb524, 0, none⟩ = some (.int .i64 a0_0) := (zH BK524.out 0).trans rfl; have hcz34_1 : w33.cell? ⟨gb524, 1, none⟩ = some (.int .i64 a0_1) := (zH BK524.out 1).trans rfl; have hcz34_2 : w33.cell? ⟨gb524, 2, none⟩ = some (.int .i64 a0_2) := (zH BK524.out 2).trans rfl; have hfz34_0 := zK BK524.out 0; have hfz34_1 := zK BK524.out 1; have hfz34_2 := zK BK524.out 2) | ((with_reducible refine zM (f := 64) rfl ?_); refine goesL_ (some 5) rfl rfl Try.func64 (by kernel_rfl) rfl #[.agg #[.int .i64 a0_0, .int .i64 a0_1, .int .i64 a0_2]] rfl (by (try simp only [yK, yL, yM]); first | done | rfl | (simp only [yJ, yI]; rfl)) ?_; (with_reducible refine (spec_IsValidHeader.calls a0_0 a0_1 a0_2 false _ A2.out).mono ?_); rintro e w35 ⟨rfl, hb⟩; refine ⟨_, rfl, ?_⟩; have n0_ := zO (zG (g := gb524) (o := .cells #[.int .i64 a0_0, .int .i64 a0_1, .int .i64 a0_2] 24 (0, 0)) (by (with_reducible repeat (first | refine zJ ?_ _ | refine zI ?_ | refine zF ?_ _)); exact BK524.out) hb); have n1_ := zO (zE (by repeat (first | (with_reducible first | exact HB.out | apply zA | apply zL | apply zB | refine zC ?_ GE524.out) | exact HB.out)) hb); clear BK524; clear HB; have BK524 := n0_; have HB := n1_; clear n0_ n1_; (try clear hb); (try clear hb2); (try clear hk); (try clear hi)) | ((with_reducible refine zN (N := 7) rfl ?_); refine Kd.R_lit (Kd.int .i64) _ 3 ?hg (N := 7) ?hd (xs := ([] : List Int)) (inner := []) (ok := fun _ => True) (okp := fun _ => True) ?hr ?hp (fun _ hk => hk) trivial (Below.refl _ _) (Nat.le_refl _) (by simp) ?_; (case hd => rfl); (case hg => rfl); (case hr => first | (go_simp; done) | (go_simp; rfl)); (case hp => exact (Reps.none _ _)); intro v527 w36 ho37 hb hg_ hnew_; clear hg_ hnew_; (first | rw [← Ny526.out] at ho37 | (simp only [Int.reduceToNat] at ho37; rw [← Ny526.out] at ho37)); have n0_ := zO (yA ho37 (zD (by repeat (first | (with_reducible first | exact HB.out | apply zA | apply zL | apply zB | refine zC ?_ GE524.out) | exact HB.out)))); have n1_ := zO (zG (g := gb524) (o := .cells #[.int .i64 a0_0, .int .i64 a0_1, .int .i64 a0_2] 24 (0, 0)) (by (with_reducible repeat (first | refine zJ ?_ _ | refine zI ?_ | refine zF ?_ _)); exact BK524.out) hb); have n2_ := zO (zE (by repeat (first | (with_reducible first | exact HB.out | apply zA | apply zL | apply zB | refine zC ?_ GE524.out) | exact HB.out)) hb); clear BK524; clear HB; have HO528 := n0_; have BK524 := n1_; have HB := n2_; clear n0_ n1_ n2_; clear hb ho37))
  go_ret
  exact ⟨_, by first | rfl | (simp [errW_none, errW_some] <;> rfl) | (simp [*, errW_none, errW_some] <;> rfl), by (with_reducible repeat (first | apply zU | apply zW | apply zV)); exact HO528.out, by repeat (first | (with_reducible first | exact HB.out | apply zA | apply zL | apply zB | refine zC ?_ GE524.out) | exact HB.out)⟩

def spec_l8Ok.f (a0 : Int) (a1 : Int) : Option (Bool) := (spec_l1In.f a1 1 64).bind fun t560 => (if t560 = true then ((spec_l1In.f a0 0 10000).bind fun t561 => (some t561)) else (some false))
theorem spec_l8Ok.calls (a0 : Int) (a1 : Int) (r : Bool) (w : World) (h : spec_l8Ok.f a0 a1 = some r) :
  Calls Try.prog 157 #[.int .i64 a0, .int .i64 a1] w fun e w' => e = .returned (.bool r) ∧ Drawn0 w w' := by
 have H : ((spec_l1In.f a1 1 64).bind fun t560 => (if t560 = true then ((spec_l1In.f a0 0 10000).bind fun t561 => (some t561)) else (some false))) = some r := h
 clear h
 replace H := yE.mp H
 obtain ⟨t560, A30, H⟩ := H
 replace H : (if t560 = true then ((spec_l1In.f a0 0 10000).bind fun t561 => (some t561)) else (some false)) = some r := H
 have A3 := zO A30
 clear A30
 by_cases c4 : t560 = true
 ·subst c4
  have H1 : ((spec_l1In.f a0 0 10000).bind fun t561 => (some t561)) = some r := by rw [if_pos rfl] at H; exact H
  clear H
  have H := H1
  clear H1
  replace H := yE.mp H
  obtain ⟨t561, A50, H⟩ := H
  replace H : (some t561) = some r := H
  have A5 := zO A50
  clear A50
  obtain rfl := Option.some.inj H
  go_enter Try.func157, Try.ntmps157
  go_wp2_with (first | ((with_reducible refine zM (f := 95) rfl ?_); refine goesL_ (some 6) rfl rfl Try.func95 (by kernel_rfl) rfl #[.int .i64 a1, .int .i64 1, .int .i64 64] rfl (by (try simp only [yK, yL, yM]); first | done | rfl | (simp only [yJ, yI]; rfl)) ?_; (with_reducible refine (spec_l1In.calls a1 1 64 true _ A3.out).mono ?_); rintro e w' ⟨rfl, ⟨nd, rfl⟩⟩; refine ⟨_, rfl, ?_⟩) | (go_at_call 95; (with_reducible refine (spec_l1In.calls a0 0 10000 t561 _ A5.out).mono ?_); rintro e w' ⟨rfl, ⟨nd, rfl⟩⟩))
  go_ret
  exact ⟨by first | rfl | exact yP _ | (simp; done) | (simp [*]; done), by repeat (first | exact zP _ | apply zQ)⟩
 ·replace c4 := Bool.eq_false_iff.mpr c4
  subst c4
  have H1 : (some false) = some r := by rw [if_neg (show ¬ (false = true) by decide)] at H; exact H
  clear H
  have H := H1
  clear H1
  obtain rfl := Option.some.inj H
  go_enter Try.func157, Try.ntmps157
  go_wp2_with (first | ((with_reducible refine zM (f := 95) rfl ?_); refine goesL_ (some 6) rfl rfl Try.func95 (by kernel_rfl) rfl #[.int .i64 a1, .int .i64 1, .int .i64 64] rfl (by (try simp only [yK, yL, yM]); first | done | rfl | (simp only [yJ, yI]; rfl)) ?_; (with_reducible refine (spec_l1In.calls a1 1 64 false _ A3.out).mono ?_); rintro e w' ⟨rfl, ⟨nd, rfl⟩⟩; refine ⟨_, rfl, ?_⟩))
  go_ret
  exact ⟨by first | rfl | exact yP _ | (simp; done) | (simp [*]; done), by repeat (first | exact zP _ | apply zQ)⟩

def spec_Min.f (a0 : Int) (a1 : Int) : Option (Int) := if a1 < a0 then (some a1) else (some a0)
theorem spec_Min.calls (a0 : Int) (a1 : Int) (r : Int) (w : World) (h : spec_Min.f a0 a1 = some r) :
  Calls Try.prog 66 #[.int .i64 a0, .int .i64 a1] w fun e w' => e = .returned (.int .i64 r) ∧ Drawn0 w w' := by
 have H : (if a1 < a0 then (some a1) else (some a0)) = some r := h
 clear h
 by_cases c3 : a1 < a0
 ·rw [if_pos c3] at H
  have c3b0 : decide (a1 < a0) = true := decide_eq_true c3
  clear c3
  obtain rfl := Option.some.inj H
  go_enter Try.func66, Try.ntmps66
  go_wp2
  go_ret
  exact ⟨by first | rfl | exact yP _ | (simp; done) | (simp [*]; done), by repeat (first | exact zP _ | apply zQ)⟩
 ·rw [if_neg c3] at H
  have c3b0 : decide (a1 < a0) = false := decide_eq_false c3
  clear c3
  obtain rfl := Option.some.inj H
  go_enter Try.func66, Try.ntmps66
  go_wp2
  go_ret
  exact ⟨by first | rfl | exact yP _ | (simp; done) | (simp [*]; done), by repeat (first | exact zP _ | apply zQ)⟩

end Go.Proofs.Ytldbmljooafkcaa.PFnFrameErrors
