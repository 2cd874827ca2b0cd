/- Contracts of Go functions. Conditions: the arguments read as the Lean function's. Written by print2.py, shrink.py (this session's). -/
import Derived.Test.YtldbmljooafkcaaPFnExactReceiveFramex0
import Derived.Test.YtldbmljooafkcaaPFnExactReceiveFramex1
import Derived.Test.YtldbmljooafkcaaPFnExactReceiveFramex2
namespace Go.Proofs.Ytldbmljooafkcaa.PFnExactReceiveFrame
open Go.RowKit Go.Proofs.YtldbmljooafkcaaW.PrintWords Go.Proofs.YtldbmljooafkcaaW.PrintLast Go.Proofs.YtldbmljooafkcaaW.PrintMore
open Go.Proofs.YtldbmljooafkcaaW.PrintWords renaming below_alloc → zA, below_drew1 → zB, below_set → zC, below_size → zD, below_step → zE, blk_alloc → zF, blk_below → zG, blk_cell → zH, blk_drew → zI, blk_drewN → zJ, blk_frozen → zK, pw_below_drewN → zL, gate_callee → zM, gate_dst → zN
open Go.Proofs.YtldbmljooafkcaaW.PrintWords.Aside0 renaming mk → zO
open Go.Proofs.YtldbmljooafkcaaW.PrintWords.Kd renaming C_alloc → zR, C_drew → zS, C_drewN → zT, R_alloc → zU, R_drew → zV, R_drewN → zW, R_reads' → zX, R_below → zY, R_far → zZ, R_lower → yA
open Option renaming bind_eq_some_iff → yE
open List renaming setIfInBounds_toArray → yF, set_cons_zero → yG, set_cons_succ → yH, length_take → yI, length_drop → yJ, map_toArray → yK, map_cons → yL, map_nil → yM
set_option maxHeartbeats 8000000
set_option maxRecDepth 100000
attribute [local go_sem] max2_int min2_int max_two min_two max_three min_three max_four min_four
set_option linter.unusedVariables false
set_option linter.unusedSimpArgs false

def spec_DecodeHeader.l0 : Nat → List Int → List Int → Int → Option (Int × Int × Int × Bool)
 | 0, _, _, _ => none
 | k + 1, x0, x4, x5 => if x5 < 18 then (if 0 ≤ x5 then (if x5 < (x0.length : Int) then (if 0 ≤ (wrap64 (x5 + 18)) then (if (wrap64 (x5 + 18)) < (x0.length : Int) then (if 0 ≤ (wrap64 (x5 + 36)) then (if (wrap64 (x5 + 36)) < (x0.length : Int) then ((spec_Weight.f k (([rd x0 x5, rd x0 (wrap64 (x5 + 18)), rd x0 (wrap64 (x5 + 36))] : List Int))).bind fun t134 => (if t134 ≥ 2 then (if x4.length < 17592186044416 then (spec_DecodeHeader.l0 k x0 (x4 ++ [1]) (wrap64 (x5 + 1))) else (none)) else (if x4.length < 17592186044416 then (spec_DecodeHeader.l0 k x0 (x4 ++ [0]) (wrap64 (x5 + 1))) else (none)))) else (none)) else (none)) else (none)) else (none)) else (none)) else (none)) else (if 2 ≤ (x4.length : Int) then ((spec_BitsToInt.f k (x4.take 2)).bind fun t145 => (if 2 ≤ 10 then (if 10 ≤ (x4.length : Int) then ((spec_BitsToInt.f k ((x4.take 10).drop 2)).bind fun t150 => (if 10 ≤ 17 then (if 17 ≤ (x4.length : Int) then ((spec_BitsToInt.f k ((x4.take 17).drop 10)).bind fun t155 => ((spec_Parity.f k x4).bind fun t157 => (if t157 = 0 then ((spec_IsValidHeader.f t145 t150 t155).bind fun t158 => (if t158 = true then (some (t145, t150, t155, true)) else (some (0, 0, 0, false)))) else (some (0, 0, 0, false))))) else (none)) else (none))) else (none)) else (none))) else (none))
def spec_DecodeHeader.f (k : Nat) (l0 : List Int) : Option (Int × Int × Int × Bool) := if (l0.length : Int) = 54 then (spec_DecodeHeader.l0 k l0 (([] : List Int)) 0) else (some (0, 0, 0, false))
def spec_DecodeHeader.T7 : Bool × List (List Nat × List Nat) := (true, [([], []), ([], []), ([0, 1], [0, 1]), ([2], [2]), ([], []), ([], []), ([5], [5]), ([4, 6], [4, 6]), ([7], [7]), ([], []), ([], []), ([10], [10]), ([9, 11], [9, 11]), ([12], [12]), ([3, 8, 13], [3, 8, 13]), ([14], [14]), ([15], [15])])
def spec_DecodeHeader.B7 : List Nat := [0, 0, 3, 7, 0, 0, 32, 112, 240, 0, 0, 1024, 3584, 7680, 16383, 32767, 65535]
theorem spec_DecodeHeader.tab7 : rtab .any (opsOf Try.f14 7) = spec_DecodeHeader.T7 := by kernel_rfl
theorem spec_DecodeHeader.bits7 : waitsOk spec_DecodeHeader.T7.2 spec_DecodeHeader.B7 = true := by kernel_rfl
def spec_DecodeHeader.T10 : Bool × List (List Nat × List Nat) := (true, [([], []), ([0], [0]), ([1], [1]), ([], []), ([3], [3]), ([4, 2], [4]), ([], []), ([6], [6]), ([7, 5], [7]), ([2, 5, 8], [2, 5, 8]), ([], []), ([10, 9, 8, 0, 1, 2, 3, 4, 5, 6, 7, 8, 9, 10], [9, 10])])
def spec_DecodeHeader.B10 : List Nat := [0, 1, 3, 0, 8, 31, 0, 64, 255, 511, 0, 2047]
theorem spec_DecodeHeader.tab10 : rtab .any (opsOf Try.f14 10) = spec_DecodeHeader.T10 := by kernel_rfl
theorem spec_DecodeHeader.bits10 : waitsOk spec_DecodeHeader.T10.2 spec_DecodeHeader.B10 = true := by kernel_rfl
theorem spec_DecodeHeader.calls (k : Nat) (A0 : Option Addr) (c0 : Nat) (l0 : List Int) (r1 : Int) (r2 : Int) (r3 : Int) (r4 : Bool) (w : World) (hr0 : Kd.C (Kd.int .i64) w A0 l0.length l0) (hc0 : l0.length ≤ c0) (h : spec_DecodeHeader.f k l0 = some (r1, r2, r3, r4)) :
  Calls Try.prog 14 #[.slice A0 l0.length c0] w fun e w' => e = .returned (.tuple #[.agg #[.int .i64 r1, .int .i64 r2, .int .i64 r3], .bool r4]) ∧ Below w.heap.size w w' := by
 have hu24 := Try.underlying24
 have HR0 := zO hr0
 have HC0 := zO hc0
 clear hr0 hc0
 have HB := zO (Below.refl w.heap.size w)
 have H : (if (l0.length : Int) = 54 then (spec_DecodeHeader.l0 k l0 (([] : List Int)) 0) else (some (0, 0, 0, false))) = some (r1, r2, r3, r4) := h
 clear h
 by_cases c2 : (l0.length : Int) = 54
 ·rw [if_pos c2] at H
  have c2b0 : ((l0.length : Int) == 54) = true := beq_iff_eq.mpr c2
  have c2b1 : ((l0.length : Int) != 54) = false := bne_eq_false_iff_eq.mpr c2
  clear c2
  obtain ⟨y125, hy125⟩ : ∃ y_ : List Int, y_ = (([] : List Int)) := ⟨_, rfl⟩
  replace H : (spec_DecodeHeader.l0 k l0 y125 0) = some (r1, r2, r3, r4) := by first | (rw [hy125]; exact H) | exact H
  have Ny125 := zO hy125
  clear hy125
  have H' := zO H
  clear H
  go_enter Try.func14, Try.ntmps14
  go_wp2_with (first | ((with_reducible refine zN (N := 2) rfl ?_); refine box_event ?hg (N := 2) ?hd (cs := #[.int .i64 0, .int .i64 0, .int .i64 0]) (t := 24) ?hr ?_; (case hd => rfl); (case hg => rfl); (case hr => first | (go_simp; done) | (go_simp; rfl)); intro gb124 hg w3 hbox hb; have n0_ := zO (zE (by repeat (first | exact HB.out | apply zA | apply zL | apply zB)) hb); have n1_ := zO (hbox); have n2_ := zO ((by rw [hg]; exact (zD (by repeat (first | exact HB.out | apply zA | apply zL | apply zB))) : w.heap.size ≤ gb124)); have n3_ := zO ((by rw [hg]; exact (zD (by repeat (first | exact HB.out | apply zA | apply zL | apply zB))) : w.heap.size ≤ gb124)); clear HB; have HB := n0_; have BK124 := n1_; have GW124 := n2_; have GE124 := n3_; clear n0_ n1_ n2_ n3_; clear hb hbox hg) | ((with_reducible refine zN (N := 11) rfl ?_); refine Kd.R_lit (Kd.int .i64) _ 3 ?hg (N := 11) ?hd (xs := ([] : List Int)) (inner := []) (ok := fun _ => True) (okp := fun _ => True) ?hr ?hp (fun _ hk => hk) trivial (Below.refl _ _) (Nat.le_refl _) (by simp) ?_; (case hd => rfl); (case hg => rfl); (case hr => first | (go_simp; done) | (go_simp; rfl)); (case hp => exact (Reps.none _ _)); intro v126 w4 ho5 hb hg_ hnew_; clear hg_ hnew_; (first | rw [← Ny125.out] at ho5 | (simp only [Int.reduceToNat] at ho5; rw [← Ny125.out] at ho5)); have n0_ := zO (yA ho5 (zD (by repeat (first | (with_reducible first | exact HB.out | apply zA | apply zL | apply zB | refine zC ?_ GE124.out) | exact HB.out)))); have n1_ := zO (zG (g := gb124) (o := .cells #[.int .i64 0, .int .i64 0, .int .i64 0] 24 (0, 0)) (by (with_reducible repeat (first | refine zJ ?_ _ | refine zI ?_ | refine zF ?_ _)); exact BK124.out) hb); have n2_ := zO (zE (by repeat (first | (with_reducible first | exact HB.out | apply zA | apply zL | apply zB | refine zC ?_ GE124.out) | exact HB.out)) hb); clear BK124; clear HB; have HO127 := n0_; have BK124 := n1_; have HB := n2_; clear n0_ n1_ n2_; clear hb ho5))
  go_loopg [4, 5] k (fun kq v4 v5 w' => ∃ (x4_1 : List Int) (x5_1 : Int), v5 = .int .i64 x5_1 ∧ Aside0 (spec_DecodeHeader.l0 kq l0 x4_1 x5_1 = some (r1, r2, r3, r4)) ∧ Aside0 (kq ≤ k) ∧ Aside0 (Kd.R (Kd.int .i64) 3 w' w.heap.size (fun _ => True) v4 x4_1) ∧ Aside0 (w'.heap[gb124]? = some (.cells #[.int .i64 0, .int .i64 0, .int .i64 0] 24 (0, 0))) ∧ Aside0 (Below w.heap.size w w'))
  case atStart => exact ⟨(y125), (0), (by first | rfl | (simp; done) | (simp [*]; done)), H', ⟨Nat.le_refl _⟩, ⟨by (with_reducible repeat (first | apply zU | apply zW | apply zV)); exact HO127.out⟩, ⟨by (with_reducible repeat (first | refine zJ ?_ _ | refine zI ?_ | refine zF ?_ _)); exact BK124.out⟩, ⟨by repeat (first | (with_reducible first | exact HB.out | apply zA | apply zL | apply zB | refine zC ?_ GE124.out) | exact HB.out)⟩⟩
  case round =>
   clear H'
   try clear c1
   try clear c2
   try clear c2b0
   try clear c2b1
   try clear p2
   obtain ⟨x4_1, x5_1, rfl, HA, HK1, HO_4, BK124, HB⟩ := hrel
   cases gk with
   | zero => exact absurd HA.out (by simp [spec_DecodeHeader.l0])
   | succ k1 =>
    have H := HA.out
    clear HA
    simp only [spec_DecodeHeader.l0] at H
    by_cases c6 : x5_1 < 18
    ·rw [if_pos c6] at H
     have c6b0 : decide (x5_1 < 18) = true := decide_eq_true c6
     clear c6
     by_cases c7 : 0 ≤ x5_1
     case neg => rw [if_neg c7] at H; exact absurd H (by simp)
     rw [if_pos c7] at H
     have c7b0 : decide (0 ≤ x5_1) = true := decide_eq_true c7
     clear c7
     by_cases c8 : x5_1 < (l0.length : Int)
     case neg => rw [if_neg c8] at H; exact absurd H (by simp)
     rw [if_pos c8] at H
     have c8b0 : decide (x5_1 < (l0.length : Int)) = true := decide_eq_true c8
     clear c8
     obtain ⟨ji9, hji9⟩ : ∃ j_ : Int, (wrap64 (x5_1 + 18)) = j_ := ⟨_, rfl⟩
     replace H : (if 0 ≤ (ji9) then (if (ji9) < (l0.length : Int) then (if 0 ≤ (wrap64 (x5_1 + 36)) then (if (wrap64 (x5_1 + 36)) < (l0.length : Int) then ((spec_Weight.f k1 (([rd l0 x5_1, rd l0 (ji9), rd l0 (wrap64 (x5_1 + 36))] : List Int))).bind fun t134 => (if t134 ≥ 2 then (if x4_1.length < 17592186044416 then (spec_DecodeHeader.l0 k1 l0 (x4_1 ++ [1]) (wrap64 (x5_1 + 1))) else (none)) else (if x4_1.length < 17592186044416 then (spec_DecodeHeader.l0 k1 l0 (x4_1 ++ [0]) (wrap64 (x5_1 + 1))) else (none)))) else (none)) else (none)) else (none)) else (none)) = some (r1, r2, r3, r4) := by first | (rw [hji9] at H; exact H) | (simp only [hji9] at H ⊢; exact H)
     have hji9w : (IntKind.i64.wrap (x5_1 + 18)) = ji9 := (i64_w _).trans hji9
     by_cases c10 : 0 ≤ (ji9)
     case neg => rw [if_neg c10] at H; exact absurd H (by simp)
     rw [if_pos c10] at H
     have c10b0 : decide (0 ≤ (ji9)) = true := decide_eq_true c10
     clear c10
     by_cases c11 : (ji9) < (l0.length : Int)
     case neg => rw [if_neg c11] at H; exact absurd H (by simp)
     rw [if_pos c11] at H
     have c11b0 : decide ((ji9) < (l0.length : Int)) = true := decide_eq_true c11
     clear c11
     obtain ⟨ji12, hji12⟩ : ∃ j_ : Int, (wrap64 (x5_1 + 36)) = j_ := ⟨_, rfl⟩
     replace H : (if 0 ≤ (ji12) then (if (ji12) < (l0.length : Int) then ((spec_Weight.f k1 (([rd l0 x5_1, rd l0 (ji9), rd l0 (ji12)] : List Int))).bind fun t134 => (if t134 ≥ 2 then (if x4_1.length < 17592186044416 then (spec_DecodeHeader.l0 k1 l0 (x4_1 ++ [1]) (wrap64 (x5_1 + 1))) else (none)) else (if x4_1.length < 17592186044416 then (spec_DecodeHeader.l0 k1 l0 (x4_1 ++ [0]) (wrap64 (x5_1 + 1))) else (none)))) else (none)) else (none)) = some (r1, r2, r3, r4) := by first | (rw [hji12] at H; exact H) | (simp only [hji12] at H ⊢; exact H)
     have hji12w : (IntKind.i64.wrap (x5_1 + 36)) = ji12 := (i64_w _).trans hji12
     by_cases c13 : 0 ≤ (ji12)
     case neg => rw [if_neg c13] at H; exact absurd H (by simp)
     rw [if_pos c13] at H
     have c13b0 : decide (0 ≤ (ji12)) = true := decide_eq_true c13
     clear c13
     by_cases c14 : (ji12) < (l0.length : Int)
     case neg => rw [if_neg c14] at H; exact absurd H (by simp)
     rw [if_pos c14] at H
     have c14b0 : decide ((ji12) < (l0.length : Int)) = true := decide_eq_true c14
     clear c14
     obtain ⟨y131, hy131⟩ : ∃ y_ : List Int, y_ = (([rd l0 x5_1, rd l0 (ji9), rd l0 (ji12)] : List Int)) := ⟨_, rfl⟩
     replace H : ((spec_Weight.f k1 y131).bind fun t134 => (if t134 ≥ 2 then (if x4_1.length < 17592186044416 then (spec_DecodeHeader.l0 k1 l0 (x4_1 ++ [1]) (wrap64 (x5_1 + 1))) else (none)) else (if x4_1.length < 17592186044416 then (spec_DecodeHeader.l0 k1 l0 (x4_1 ++ [0]) (wrap64 (x5_1 + 1))) else (none)))) = some (r1, r2, r3, r4) := by first | (rw [hy131]; exact H) | exact H
     have Ny131 := zO hy131
     clear hy131
     replace H := yE.mp H
     obtain ⟨t134, A150, H⟩ := H
     replace H : (if t134 ≥ 2 then (if x4_1.length < 17592186044416 then (spec_DecodeHeader.l0 k1 l0 (x4_1 ++ [1]) (wrap64 (x5_1 + 1))) else (none)) else (if x4_1.length < 17592186044416 then (spec_DecodeHeader.l0 k1 l0 (x4_1 ++ [0]) (wrap64 (x5_1 + 1))) else (none))) = some (r1, r2, r3, r4) := H
     have A15 := zO A150
     clear A150
     have HH_ := zO H
     clear H
     try go_wp2
     have n0_ := zO (zV HO_4.out)
     have n1_ := zO (zI BK124.out)
     have n2_ := zO (zB HB.out)
     clear HO_4
     clear BK124
     clear HB
     have HO_4 := n0_
     have BK124 := n1_
     have HB := n2_
     clear n0_ n1_ n2_
     have p128 : 0 ≤ (x5_1 : Int) := yO (by assumption)
     have q128 : x5_1 < (l0.length : Int) := yO (by assumption)
     obtain ⟨ad128, e128, hx128_0⟩ := Kd.at_int HR0.out x5_1 p128 q128
     have hw128_0 := hx128_0
     cases e128
     replace hx128_0 := (HB.out.cell (World.block_lt_of_cell? w _ hx128_0)).trans hx128_0
     replace p128 := eq_true p128
     replace q128 := eq_true q128
     have p129 : 0 ≤ ((ji9) : Int) := yO (by assumption)
     have q129 : (ji9) < (l0.length : Int) := yO (by assumption)
     obtain ⟨ad129, e129, hx129_0⟩ := Kd.at_int HR0.out (ji9) p129 q129
     have hw129_0 := hx129_0
     obtain rfl : ad128 = ad129 := (by injection e129)
     replace hx129_0 := (HB.out.cell (World.block_lt_of_cell? w _ hx129_0)).trans hx129_0
     replace p129 := eq_true p129
     replace q129 := eq_true q129
     have p130 : 0 ≤ ((ji12) : Int) := yO (by assumption)
     have q130 : (ji12) < (l0.length : Int) := yO (by assumption)
     obtain ⟨ad130, e130, hx130_0⟩ := Kd.at_int HR0.out (ji12) p130 q130
     have hw130_0 := hx130_0
     obtain rfl : ad128 = ad130 := (by injection e130)
     replace hx130_0 := (HB.out.cell (World.block_lt_of_cell? w _ hx130_0)).trans hx130_0
     replace p130 := eq_true p130
     replace q130 := eq_true q130
     refine start_ (n := 17) (S := fun w' => w'.cell? (ad128.add (x5_1).toNat) = some (.int .i64 (rd l0 x5_1)) ∧ w'.cell? (ad128.add ((ji9)).toNat) = some (.int .i64 (rd l0 (ji9))) ∧ w'.cell? (ad128.add ((ji12)).toNat) = some (.int .i64 (rd l0 (ji12)))) (ds := []) #[false, false, false, false, false, false, false, false, false, false, false, false, false, false, false, false, false] (by kernel_rfl) rfl rfl ⟨((HB.out.cell (World.block_lt_of_cell? w _ hw128_0)).trans hw128_0), ((HB.out.cell (World.block_lt_of_cell? w _ hw129_0)).trans hw129_0), ((HB.out.cell (World.block_lt_of_cell? w _ hw130_0)).trans hw130_0)⟩ (fun hHeld => ?_); refine with_tabW spec_DecodeHeader.tab7 spec_DecodeHeader.bits7 (fun HT_ HW_ => ?_)
     generalize wr.drew = w18 at HO_4 BK124 HB hx128_0 hx129_0 hx130_0 hHeld ⊢
     refine pure_ (i := 0) (N := some 16) (v := ?_) (a' := ?_) #[true, false, false, false, false, false, false, false, false, false, false, false, false, false, false, false, false] rfl rfl (any_of HT_.out (by kernel_rfl)) (fun _ _ _ h => h) (Or.inl ⟨by rfl, ?_⟩) ?_ ?_; rotate_left
     ·intro w'; go_simp; with_reducible rfl
     rotate_left
     ·simp only [Act.put, yF, yG, yH, i64_w, i32_w]; rfl
     refine pure_ (i := 1) (N := some 17) (v := ?_) (a' := ?_) #[true, true, false, false, false, false, false, false, false, false, false, false, false, false, false, false, false] rfl rfl (any_of HT_.out (by kernel_rfl)) (fun _ _ _ h => h) (Or.inl ⟨by rfl, ?_⟩) ?_ ?_; rotate_left
     ·intro w'; go_simp; with_reducible rfl
     rotate_left
     ·simp only [Act.put, yF, yG, yH, i64_w, i32_w]; rfl
     refine pure_ (i := 2) (N := some 18) (v := ?_) (a' := ?_) #[true, true, true, false, false, false, false, false, false, false, false, false, false, false, false, false, false] rfl rfl (any_of HT_.out (by kernel_rfl)) (fun _ _ _ h => h) (Or.inl ⟨by rfl, ?_⟩) ?_ ?_; rotate_left
     ·intro w'; go_simp; with_reducible rfl
     rotate_left
     ·simp only [Act.put, yF, yG, yH, i64_w, i32_w]; rfl
     refine pure_ (i := 4) (N := some 20) (v := ?_) (a' := ?_) #[true, true, true, false, true, false, false, false, false, false, false, false, false, false, false, false, false] rfl rfl (any_of HT_.out (by kernel_rfl)) (fun _ _ _ h => h) (Or.inl ⟨by rfl, ?_⟩) ?_ ?_; rotate_left
     ·intro w'; go_simp; with_reducible rfl
     rotate_left
     ·simp only [Act.put, yF, yG, yH, i64_w, i32_w]; rfl
     refine pure_ (i := 5) (N := some 21) (v := ?_) (a' := ?_) #[true, true, true, false, true, true, false, false, false, false, false, false, false, false, false, false, false] rfl rfl (any_of HT_.out (by kernel_rfl)) (fun _ _ _ h => h) (Or.inl ⟨by rfl, ?_⟩) ?_ ?_; rotate_left
     ·intro w'; go_simp; with_reducible rfl
     rotate_left
     ·simp only [Act.put, yF, yG, yH, i64_w, i32_w]; rfl
     refine pure_ (i := 6) (N := some 22) (v := ?_) (a' := ?_) #[true, true, true, false, true, true, true, false, false, false, false, false, false, false, false, false, false] rfl rfl (any_of HT_.out (by kernel_rfl)) (fun _ _ _ h => h) (Or.inl ⟨by rfl, ?_⟩) ?_ ?_; rotate_left
     ·intro w'; go_simp; with_reducible rfl
     rotate_left
     ·simp only [Act.put, yF, yG, yH, i64_w, i32_w]; rfl
     refine pure_ (i := 7) (N := some 23) (v := ?_) (a' := ?_) #[true, true, true, false, true, true, true, true, false, false, false, false, false, false, false, false, false] rfl rfl (any_of HT_.out (by kernel_rfl)) (fun _ _ _ h => h) (Or.inl ⟨by rfl, ?_⟩) ?_ ?_; rotate_left
     ·intro w'; go_simp; with_reducible rfl
     rotate_left
     ·simp only [Act.put, yF, yG, yH, i64_w, i32_w]; rfl
     refine pure_ (i := 9) (N := some 25) (v := ?_) (a' := ?_) #[true, true, true, false, true, true, true, true, false, true, false, false, false, false, false, false, false] rfl rfl (any_of HT_.out (by kernel_rfl)) (fun _ _ _ h => h) (Or.inl ⟨by rfl, ?_⟩) ?_ ?_; rotate_left
     ·intro w'; go_simp; with_reducible rfl
     rotate_left
     ·simp only [Act.put, yF, yG, yH, i64_w, i32_w]; rfl
     refine pure_ (i := 10) (N := some 26) (v := ?_) (a' := ?_) #[true, true, true, false, true, true, true, true, false, true, true, false, false, false, false, false, false] rfl rfl (any_of HT_.out (by kernel_rfl)) (fun _ _ _ h => h) (Or.inl ⟨by rfl, ?_⟩) ?_ ?_; rotate_left
     ·intro w'; go_simp; with_reducible rfl
     rotate_left
     ·simp only [Act.put, yF, yG, yH, i64_w, i32_w]; rfl
     refine pure_ (i := 11) (N := some 27) (v := ?_) (a' := ?_) #[true, true, true, false, true, true, true, true, false, true, true, true, false, false, false, false, false] rfl rfl (any_of HT_.out (by kernel_rfl)) (fun _ _ _ h => h) (Or.inl ⟨by rfl, ?_⟩) ?_ ?_; rotate_left
     ·intro w'; go_simp; with_reducible rfl
     rotate_left
     ·simp only [Act.put, yF, yG, yH, i64_w, i32_w]; rfl
     refine pure_ (i := 12) (N := some 28) (v := ?_) (a' := ?_) #[true, true, true, false, true, true, true, true, false, true, true, true, true, false, false, false, false] rfl rfl (any_of HT_.out (by kernel_rfl)) (fun _ _ _ h => h) (Or.inl ⟨by rfl, ?_⟩) ?_ ?_; rotate_left
     ·intro w'; go_simp; with_reducible rfl
     rotate_left
     ·simp only [Act.put, yF, yG, yH, i64_w, i32_w]; rfl
     refine take_ (i := 3) (N := some 19) (v := ?_) (a' := ?_) #[true, true, true, true, true, true, true, true, false, true, true, true, true, false, false, false, false] rfl rfl (take_ofW HT_.out HW_.out (by kernel_rfl)) (fun _ _ _ h => h) (Or.inl ⟨by rfl, ?_⟩) hHeld ?_ ?_; rotate_left
     ·rintro w' ⟨s0, s1, s2⟩; go_simp; with_reducible rfl
     rotate_left
     ·simp only [Act.put, yF, yG, yH, i64_w, i32_w]; rfl
     refine take_ (i := 8) (N := some 24) (v := ?_) (a' := ?_) #[true, true, true, true, true, true, true, true, true, true, true, true, true, false, false, false, false] rfl rfl (take_ofW HT_.out HW_.out (by kernel_rfl)) (fun _ _ _ h => h) (Or.inl ⟨by rfl, ?_⟩) hHeld ?_ ?_; rotate_left
     ·rintro w' ⟨s0, s1, s2⟩; go_simp; with_reducible rfl
     rotate_left
     ·simp only [Act.put, yF, yG, yH, i64_w, i32_w]; rfl
     refine take_ (i := 13) (N := some 29) (v := ?_) (a' := ?_) #[true, true, true, true, true, true, true, true, true, true, true, true, true, true, false, false, false] rfl rfl (take_ofW HT_.out HW_.out (by kernel_rfl)) (fun _ _ _ h => h) (Or.inl ⟨by rfl, ?_⟩) hHeld ?_ ?_; rotate_left
     ·rintro w' ⟨s0, s1, s2⟩; go_simp; with_reducible rfl
     rotate_left
     ·simp only [Act.put, yF, yG, yH, i64_w, i32_w]; rfl
     refine one_ (i := 14) (N := some 30) #[true, true, true, true, true, true, true, true, true, true, true, true, true, true, true, false, false] rfl rfl (one_of HT_.out (by kernel_rfl)) (by decide) (fun K hK => ?_)
     refine Kd.R_lit_step (Kd.int .i64) _ 3 ?hg (N := 30) ?hd (xs := ([rd l0 x5_1, rd l0 (ji9), rd l0 (ji12)] : List Int)) (inner := [.int .i64 (rd l0 x5_1), .int .i64 (rd l0 (ji9)), .int .i64 (rd l0 (ji12))]) (ok := fun _ => True) (okp := fun _ => True) ?hr ?hp (fun _ hk => hk) trivial (Below.refl _ _) (Nat.le_refl _) (by simp) ?_; (case hd => rfl); (case hg => rfl); (case hr => first | (go_simp; done) | (go_simp; rfl)); (case hp => exact (Reps.one (show Kd.M (Kd.int .i64) _ _ _ (rd l0 x5_1) [.int .i64 (rd l0 x5_1)] from rfl) (Reps.one (show Kd.M (Kd.int .i64) _ _ _ (rd l0 (ji9)) [.int .i64 (rd l0 (ji9))] from rfl) (Reps.one (show Kd.M (Kd.int .i64) _ _ _ (rd l0 (ji12)) [.int .i64 (rd l0 (ji12))] from rfl) (Reps.none _ _)))))
     intro v132 w19 ho20 hb hg_ hnew_
     clear hg_ hnew_
     (first | rw [← Ny131.out] at ho20 | (simp only [Int.reduceToNat] at ho20; rw [← Ny131.out] at ho20))
     have n0_ := zO (Kd.R_elder' (by (with_reducible repeat (first | apply zU | apply zW | apply zV)); exact HO_4.out) (Kd.R_base ho20) hb)
     have n1_ := zO (yA (Kd.R_new' ho20 (Kd.R_lt (by (with_reducible repeat (first | apply zU | apply zW | apply zV)); exact HO_4.out))) (zD (by repeat (first | (with_reducible first | exact HB.out | apply zA | apply zL | apply zB | refine zC ?_ GE124.out) | exact HB.out))))
     have n2_ := zO (zG (g := gb124) (o := .cells #[.int .i64 0, .int .i64 0, .int .i64 0] 24 (0, 0)) (by (with_reducible repeat (first | refine zJ ?_ _ | refine zI ?_ | refine zF ?_ _)); exact BK124.out) hb)
     have n3_ := zO (zE (by repeat (first | (with_reducible first | exact HB.out | apply zA | apply zL | apply zB | refine zC ?_ GE124.out) | exact HB.out)) hb)
     clear HO_4
     clear BK124
     clear HB
     have HO_4 := n0_
     have HO133 := n1_
     have BK124 := n2_
     have HB := n3_
     clear n0_ n1_ n2_ n3_
     clear hb ho20
     obtain ⟨Ao21, co21, eo21⟩ := Kd.R_slice HO133.out
     (first | subst eo21 | (injection eo21 with f1_ f2_ f3_; have f4_ := f1_.symm; have f5_ := f3_.symm; clear f1_ f2_ f3_; subst f4_; subst f5_))
     refine hK.out _ _ ⟨((HB.out.cell (World.block_lt_of_cell? w _ hw128_0)).trans hw128_0), ((HB.out.cell (World.block_lt_of_cell? w _ hw129_0)).trans hw129_0), ((HB.out.cell (World.block_lt_of_cell? w _ hw130_0)).trans hw130_0)⟩ (fun hHeld => ?_)
     clear hK K
     refine norm_ (a' := ?_) ?_ ?_; rotate_left
     ·show Act.put _ (some 30) _ = _; simp only [Act.put, yF, yG, yH, i64_w, i32_w]; rfl
     refine one_ (i := 15) (N := some 31) #[true, true, true, true, true, true, true, true, true, true, true, true, true, true, true, true, false] rfl rfl (one_of HT_.out (by kernel_rfl)) (by decide) (fun K hK => ?_)
     refine goes_ Try.func69 (by kernel_rfl) rfl #[.slice Ao21 y131.length co21] (by rfl) rfl rfl (by (try simp only [yK, yL, yM]); first | done | rfl | (simp only [yJ, yI]; rfl)) ?_
     with_reducible refine (spec_Weight.calls k1 _ _ y131 t134 _ ?side1 ?side2 A15.out).mono ?_
     (case side1 => repeat (first | exact (zX HO133.out).2.2 | (with_reducible refine zR ?_ _) | (with_reducible refine zT ?_ _) | (with_reducible refine zS ?_)))
     (case side2 => exact (zX HO133.out).2.1)
     rintro e w' ⟨rfl, ⟨nd, rfl⟩⟩
     refine ⟨_, rfl, ?_⟩
     refine hK.out _ _ ⟨((HB.out.cell (World.block_lt_of_cell? w _ hw128_0)).trans hw128_0), ((HB.out.cell (World.block_lt_of_cell? w _ hw129_0)).trans hw129_0), ((HB.out.cell (World.block_lt_of_cell? w _ hw130_0)).trans hw130_0)⟩ (fun hHeld => ?_)
     clear hK K
     refine norm_ (a' := ?_) ?_ ?_; rotate_left
     ·show Act.put _ (some 31) _ = _; simp only [Act.put, yF, yG, yH, i64_w, i32_w]; rfl
     refine pure_ (i := 16) (N := some 32) (v := ?_) (a' := ?_) #[true, true, true, true, true, true, true, true, true, true, true, true, true, true, true, true, true] rfl rfl (any_of HT_.out (by kernel_rfl)) (fun _ _ _ h => h) (Or.inl ⟨by rfl, ?_⟩) ?_ ?_; rotate_left
     ·intro w'; go_simp; with_reducible rfl
     rotate_left
     ·simp only [Act.put, yF, yG, yH, i64_w, i32_w]; rfl
     refine done_ (done_of HT_.out (by kernel_rfl)) ?_
     have H := HH_.out
     clear HH_
     by_cases c16 : t134 ≥ 2
     ·rw [if_pos c16] at H
      have c16b0 : decide (2 ≤ t134) = true := decide_eq_true c16
      (first | rw [c16b0] | skip)
      clear c16
      by_cases c17 : x4_1.length < 17592186044416
      case neg => rw [if_neg c17] at H; exact absurd H (by simp)
      rw [if_pos c17] at H
      have LMc17 := zO c17
      clear c17
      obtain ⟨y135, hy135⟩ : ∃ y_ : List Int, y_ = (x4_1 ++ [1]) := ⟨_, rfl⟩
      replace H : (spec_DecodeHeader.l0 k1 l0 y135 (wrap64 (x5_1 + 1))) = some (r1, r2, r3, r4) := by first | (rw [hy135]; exact H) | exact H
      have Ny135 := zO hy135
      clear hy135
      have H' := zO H
      clear H
      try go_wp2_with (first | ((with_reducible refine gate_builtin (b := .append) (xs := #[.tmp 33, .tmp 34]) rfl ?_); at_builtin; refine Kd.R_append (Kd.int .i64) (w0 := w) w.heap.size rfl (.tmp 33) (.tmp 34) 22 3 (.int .i64 0) 8 rfl Try.underlying22 info3 rfl (by decide) (by omega) u4 x4_1 1 [.int .i64 1] (fun k_ => some k_ ≠ (.slice Ao21 y131.length co21 : Value).ownBlock) (fun _ => False) rfl rfl ?aP (fun _ hk => hk.elim) ?aF ?aO ?aB ?aS ?aL ?_; (case aP => exact rfl); (case aB => exact (by repeat (first | (with_reducible first | exact HB.out | apply zA | apply zL | apply zB | refine zC ?_ GE124.out) | exact HB.out))); (case aF => exact (fun k_ hk => Kd.fresh' (Kd.R_lt (by (with_reducible repeat (first | apply zU | apply zW | apply zV)); exact HO133.out)) k_ hk)); (case aO => ((with_reducible repeat (first | apply zU | apply zW | apply zV)); exact Kd.R_mono HO_4.out (fun _ hk => hk.2))); (case aS => exact (zD (by repeat (first | (with_reducible first | exact HB.out | apply zA | apply zL | apply zB | refine zC ?_ GE124.out) | exact HB.out)))); (case aL => have := LMc17.out; omega); intro v136 w22 ho hb hg hat; rw [← Ny135.out] at ho; have n0_ := zO (blk_grown (g := gb124) (o := .cells #[.int .i64 0, .int .i64 0, .int .i64 0] 24 (0, 0)) (by (with_reducible repeat (first | refine zJ ?_ _ | refine zI ?_ | refine zF ?_ _)); exact BK124.out) hg (Kd.R_ne HO_4.out BK124.out (by decide))); have n1_ := zO (Kd.R_after (ok := (fun _ => True)) (by (with_reducible repeat (first | apply zU | apply zW | apply zV)); exact HO133.out) hg hat); have n2_ := zO (hb); have n3_ := zO (ho); clear BK124; clear HO133; clear HB; clear HO_4; have BK124 := n0_; have HO133 := n1_; have HB := n2_; have HO137 := n3_; clear n0_ n1_ n2_ n3_; clear ho hb hg hat))
      go_roundg k1
      case measure => have := HK1.out; omega
      case rel => exact ⟨(y135), (wrap64 (x5_1 + 1)), (by first | rfl | (simp; done) | (simp [*]; done)), H', ⟨by have := HK1.out; omega⟩, ⟨by (with_reducible repeat (first | apply zU | apply zW | apply zV)); exact Kd.R_mono HO137.out (fun _ hk => trivial)⟩, ⟨by (with_reducible repeat (first | refine zJ ?_ _ | refine zI ?_ | refine zF ?_ _)); exact BK124.out⟩, ⟨by repeat (first | (with_reducible first | exact HB.out | apply zA | apply zL | apply zB | refine zC ?_ GE124.out) | exact HB.out)⟩⟩
     ·rw [if_neg c16] at H
      have c16b0 : decide (2 ≤ t134) = false := decide_eq_false c16
      (first | rw [c16b0] | skip)
      clear c16
      by_cases c23 : x4_1.length < 17592186044416
      case neg => rw [if_neg c23] at H; exact absurd H (by simp)
      rw [if_pos c23] at H
      have LMc23 := zO c23
      clear c23
      obtain ⟨y138, hy138⟩ : ∃ y_ : List Int, y_ = (x4_1 ++ [0]) := ⟨_, rfl⟩
      replace H : (spec_DecodeHeader.l0 k1 l0 y138 (wrap64 (x5_1 + 1))) = some (r1, r2, r3, r4) := by first | (rw [hy138]; exact H) | exact H
      have Ny138 := zO hy138
      clear hy138
      have H' := zO H
      clear H
      try go_wp2_with (first | ((with_reducible refine gate_builtin (b := .append) (xs := #[.tmp 36, .tmp 37]) rfl ?_); at_builtin; refine Kd.R_append (Kd.int .i64) (w0 := w) w.heap.size rfl (.tmp 36) (.tmp 37) 22 3 (.int .i64 0) 8 rfl Try.underlying22 info3 rfl (by decide) (by omega) u4 x4_1 0 [.int .i64 0] (fun k_ => some k_ ≠ (.slice Ao21 y131.length co21 : Value).ownBlock) (fun _ => False) rfl rfl ?aP (fun _ hk => hk.elim) ?aF ?aO ?aB ?aS ?aL ?_; (case aP => exact rfl); (case aB => exact (by repeat (first | (with_reducible first | exact HB.out | apply zA | apply zL | apply zB | refine zC ?_ GE124.out) | exact HB.out))); (case aF => exact (fun k_ hk => Kd.fresh' (Kd.R_lt (by (with_reducible repeat (first | apply zU | apply zW | apply zV)); exact HO133.out)) k_ hk)); (case aO => ((with_reducible repeat (first | apply zU | apply zW | apply zV)); exact Kd.R_mono HO_4.out (fun _ hk => hk.2))); (case aS => exact (zD (by repeat (first | (with_reducible first | exact HB.out | apply zA | apply zL | apply zB | refine zC ?_ GE124.out) | exact HB.out)))); (case aL => have := LMc23.out; omega); intro v139 w28 ho hb hg hat; rw [← Ny138.out] at ho; have n0_ := zO (blk_grown (g := gb124) (o := .cells #[.int .i64 0, .int .i64 0, .int .i64 0] 24 (0, 0)) (by (with_reducible repeat (first | refine zJ ?_ _ | refine zI ?_ | refine zF ?_ _)); exact BK124.out) hg (Kd.R_ne HO_4.out BK124.out (by decide))); have n1_ := zO (Kd.R_after (ok := (fun _ => True)) (by (with_reducible repeat (first | apply zU | apply zW | apply zV)); exact HO133.out) hg hat); have n2_ := zO (hb); have n3_ := zO (ho); clear BK124; clear HO133; clear HB; clear HO_4; have BK124 := n0_; have HO133 := n1_; have HB := n2_; have HO140 := n3_; clear n0_ n1_ n2_ n3_; clear ho hb hg hat))
      go_roundg k1
      case measure => have := HK1.out; omega
      case rel => exact ⟨(y138), (wrap64 (x5_1 + 1)), (by first | rfl | (simp; done) | (simp [*]; done)), H', ⟨by have := HK1.out; omega⟩, ⟨by (with_reducible repeat (first | apply zU | apply zW | apply zV)); exact Kd.R_mono HO140.out (fun _ hk => trivial)⟩, ⟨by (with_reducible repeat (first | refine zJ ?_ _ | refine zI ?_ | refine zF ?_ _)); exact BK124.out⟩, ⟨by repeat (first | (with_reducible first | exact HB.out | apply zA | apply zL | apply zB | refine zC ?_ GE124.out) | exact HB.out)⟩⟩
    ·rw [if_neg c6] at H
     have c6b0 : decide (x5_1 < 18) = false := decide_eq_false c6
     clear c6
     by_cases c29 : 2 ≤ (x4_1.length : Int)
     case neg => rw [if_neg c29] at H; exact absurd H (by simp)
     rw [if_pos c29] at H
     have c29b0 := eq_true c29
     have c29b1 : decide (2 ≤ (x4_1.length : Int)) = true := decide_eq_true c29
     clear c29
     obtain ⟨y141, hy141⟩ : ∃ y_ : List Int, y_ = (x4_1.take 2) := ⟨_, rfl⟩
     replace H : ((spec_BitsToInt.f k1 y141).bind fun t145 => (if 2 ≤ 10 then (if 10 ≤ (x4_1.length : Int) then ((spec_BitsToInt.f k1 ((x4_1.take 10).drop 2)).bind fun t150 => (if 10 ≤ 17 then (if 17 ≤ (x4_1.length : Int) then ((spec_BitsToInt.f k1 ((x4_1.take 17).drop 10)).bind fun t155 => ((spec_Parity.f k1 x4_1).bind fun t157 => (if t157 = 0 then ((spec_IsValidHeader.f t145 t150 t155).bind fun t158 => (if t158 = true then (some (t145, t150, t155, true)) else (some (0, 0, 0, false)))) else (some (0, 0, 0, false))))) else (none)) else (none))) else (none)) else (none))) = some (r1, r2, r3, r4) := by first | (rw [hy141]; exact H) | exact H
     have Ny141 := zO hy141
     clear hy141
     replace H := yE.mp H
     obtain ⟨t145, A300, H⟩ := H
     replace H : (if 2 ≤ 10 then (if 10 ≤ (x4_1.length : Int) then ((spec_BitsToInt.f k1 ((x4_1.take 10).drop 2)).bind fun t150 => (if 10 ≤ 17 then (if 17 ≤ (x4_1.length : Int) then ((spec_BitsToInt.f k1 ((x4_1.take 17).drop 10)).bind fun t155 => ((spec_Parity.f k1 x4_1).bind fun t157 => (if t157 = 0 then ((spec_IsValidHeader.f t145 t150 t155).bind fun t158 => (if t158 = true then (some (t145, t150, t155, true)) else (some (0, 0, 0, false)))) else (some (0, 0, 0, false))))) else (none)) else (none))) else (none)) else (none)) = some (r1, r2, r3, r4) := H
     have A30 := zO A300
     clear A300
     by_cases c31 : 2 ≤ 10
     case neg => rw [if_neg c31] at H; exact absurd H (by simp)
     rw [if_pos c31] at H
     have c31b0 := eq_true c31
     have c31b1 : decide (2 ≤ 10) = true := decide_eq_true c31
     clear c31
     by_cases c32 : 10 ≤ (x4_1.length : Int)
     case neg => rw [if_neg c32] at H; exact absurd H (by simp)
     rw [if_pos c32] at H
     have c32b0 := eq_true c32
     have c32b1 : decide (10 ≤ (x4_1.length : Int)) = true := decide_eq_true c32
     clear c32
     obtain ⟨y146, hy146⟩ : ∃ y_ : List Int, y_ = ((x4_1.take 10).drop 2) := ⟨_, rfl⟩
     replace H : ((spec_BitsToInt.f k1 y146).bind fun t150 => (if 10 ≤ 17 then (if 17 ≤ (x4_1.length : Int) then ((spec_BitsToInt.f k1 ((x4_1.take 17).drop 10)).bind fun t155 => ((spec_Parity.f k1 x4_1).bind fun t157 => (if t157 = 0 then ((spec_IsValidHeader.f t145 t150 t155).bind fun t158 => (if t158 = true then (some (t145, t150, t155, true)) else (some (0, 0, 0, false)))) else (some (0, 0, 0, false))))) else (none)) else (none))) = some (r1, r2, r3, r4) := by first | (rw [hy146]; exact H) | exact H
     have Ny146 := zO hy146
     clear hy146
     replace H := yE.mp H
     obtain ⟨t150, A330, H⟩ := H
     replace H : (if 10 ≤ 17 then (if 17 ≤ (x4_1.length : Int) then ((spec_BitsToInt.f k1 ((x4_1.take 17).drop 10)).bind fun t155 => ((spec_Parity.f k1 x4_1).bind fun t157 => (if t157 = 0 then ((spec_IsValidHeader.f t145 t150 t155).bind fun t158 => (if t158 = true then (some (t145, t150, t155, true)) else (some (0, 0, 0, false)))) else (some (0, 0, 0, false))))) else (none)) else (none)) = some (r1, r2, r3, r4) := H
     have A33 := zO A330
     clear A330
     by_cases c34 : 10 ≤ 17
     case neg => rw [if_neg c34] at H; exact absurd H (by simp)
     rw [if_pos c34] at H
     have c34b0 := eq_true c34
     have c34b1 : decide (10 ≤ 17) = true := decide_eq_true c34
     clear c34
     by_cases c35 : 17 ≤ (x4_1.length : Int)
     case neg => rw [if_neg c35] at H; exact absurd H (by simp)
     rw [if_pos c35] at H
     have c35b0 := eq_true c35
     have c35b1 : decide (17 ≤ (x4_1.length : Int)) = true := decide_eq_true c35
     clear c35
     obtain ⟨y151, hy151⟩ : ∃ y_ : List Int, y_ = ((x4_1.take 17).drop 10) := ⟨_, rfl⟩
     replace H : ((spec_BitsToInt.f k1 y151).bind fun t155 => ((spec_Parity.f k1 x4_1).bind fun t157 => (if t157 = 0 then ((spec_IsValidHeader.f t145 t150 t155).bind fun t158 => (if t158 = true then (some (t145, t150, t155, true)) else (some (0, 0, 0, false)))) else (some (0, 0, 0, false))))) = some (r1, r2, r3, r4) := by first | (rw [hy151]; exact H) | exact H
     have Ny151 := zO hy151
     clear hy151
     replace H := yE.mp H
     obtain ⟨t155, A360, H⟩ := H
     replace H : ((spec_Parity.f k1 x4_1).bind fun t157 => (if t157 = 0 then ((spec_IsValidHeader.f t145 t150 t155).bind fun t158 => (if t158 = true then (some (t145, t150, t155, true)) else (some (0, 0, 0, false)))) else (some (0, 0, 0, false)))) = some (r1, r2, r3, r4) := H
     have A36 := zO A360
     clear A360
     replace H := yE.mp H
     obtain ⟨t157, A370, H⟩ := H
     replace H : (if t157 = 0 then ((spec_IsValidHeader.f t145 t150 t155).bind fun t158 => (if t158 = true then (some (t145, t150, t155, true)) else (some (0, 0, 0, false)))) else (some (0, 0, 0, false))) = some (r1, r2, r3, r4) := H
     have A37 := zO A370
     clear A370
     have HH_ := zO H
     clear H
     try go_wp2
     have n0_ := zO (zV HO_4.out)
     have n1_ := zO (zI BK124.out)
     have n2_ := zO (zB HB.out)
     clear HO_4
     clear BK124
     clear HB
     have HO_4 := n0_
     have BK124 := n1_
     have HB := n2_
     clear n0_ n1_ n2_
     obtain ⟨Ao43, co43, eo43⟩ := Kd.R_slice HO_4.out
     (first | subst eo43 | (injection eo43 with f1_ f2_ f3_; have f4_ := f1_.symm; have f5_ := f3_.symm; clear f1_ f2_ f3_; subst f4_; subst f5_))
     have q42 : (2 : Int) ≤ ((x4_1.length : Int) : Int) := yO (by assumption)
     obtain ⟨i042, hi042, _, hsz42, _⟩ := info_parts info3
     have hroom42 : x4_1.length ≤ co43 := (zX HO_4.out).2.1
     have hC42 : Kd.C (Kd.int .i64) _ Ao43 x4_1.length x4_1 := (zX HO_4.out).2.2
     have hcut42 := cut_to (P := Try.prog) 22 3 .i64 Try.underlying22 hi042 Ao43 x4_1.length co43 2 (by omega) q42 hroom42
     have hr42 := Kd.C_take (m := 2) hC42 (by omega)
     have hy42 : y141.length = (2 : Int).toNat := (by rw [Ny141.out, yI]; omega)
     rw [← Ny141.out] at hr42
     rw [← hy42] at hcut42
     have HR144 := zO hr42
     have HC144 := zO (show y141.length ≤ co43 from by omega)
     clear hr42 hC42 hroom42 hi042 hsz42
     have KY42 := zO hy42
     clear hy42
     have KL42 := zO (show 2 ≤ x4_1.length from by omega)
     replace q42 := eq_true q42
     have q44 : (10 : Int) ≤ ((x4_1.length : Int) : Int) := yO (by assumption)
     obtain ⟨i044, hi044, _, hsz44, _⟩ := info_parts info3
     have hroom44 : x4_1.length ≤ co43 := (zX HO_4.out).2.1
     have hC44 : Kd.C (Kd.int .i64) _ Ao43 x4_1.length x4_1 := (zX HO_4.out).2.2
     have ql44 : (2 : Int) ≤ (10 : Int) := (by omega)
     have hcut44 := cut_mid (P := Try.prog) 22 3 .i64 .i64 Try.underlying22 hi044 1 hsz44 Ao43 x4_1.length co43 2 10 (by omega) ql44 q44 hroom44
     have hr44 := Kd.C_mid (lo := (2 : Int).toNat) (hi := (10 : Int).toNat) (c := co43) hC44 (by omega) (by omega) hroom44
     obtain ⟨A44, hA44⟩ : ∃ A1, A1 = (if co43 = (2 : Int).toNat then Ao43 else (Ao43 : Option Addr).map (·.add ((2 : Int).toNat * 1))) := ⟨_, rfl⟩
     obtain ⟨c44, hc44⟩ : ∃ c1, c1 = co43 - (2 : Int).toNat := ⟨_, rfl⟩
     have hy44 : y146.length = (10 : Int).toNat - (2 : Int).toNat := (by rw [Ny146.out, yJ, yI] <;> omega)
     rw [show ((x4_1).take (10 : Int).toNat).drop (2 : Int).toNat = y146 from Ny146.out.symm] at hr44
     replace hr44 : Kd.C (Kd.int .i64) _ A44 y146.length y146 := (by rw [hA44]; exact hr44)
     rw [← hy44, ← hA44, ← hc44] at hcut44
     have HR149 := zO hr44
     have HC149 := zO (show y146.length ≤ c44 from by rw [hy44, hc44]; exact Nat.sub_le_sub_right (Nat.le_trans (by omega) hroom44) _)
     clear hr44 hC44 hroom44 hi044 hsz44 hc44
     have KY44 := zO hy44
     have KA44 := zO hA44
     clear hy44 hA44
     have KL44 := zO (show 10 ≤ x4_1.length from by omega)
     have KM44 := zO (show 2 ≤ 10 from by omega)
     replace q44 := eq_true q44
     have q45 : (17 : Int) ≤ ((x4_1.length : Int) : Int) := yO (by assumption)
     obtain ⟨i045, hi045, _, hsz45, _⟩ := info_parts info3
     have hroom45 : x4_1.length ≤ co43 := (zX HO_4.out).2.1
     have hC45 : Kd.C (Kd.int .i64) _ Ao43 x4_1.length x4_1 := (zX HO_4.out).2.2
     have ql45 : (10 : Int) ≤ (17 : Int) := (by omega)
     have hcut45 := cut_mid (P := Try.prog) 22 3 .i64 .i64 Try.underlying22 hi045 1 hsz45 Ao43 x4_1.length co43 10 17 (by omega) ql45 q45 hroom45
     have hr45 := Kd.C_mid (lo := (10 : Int).toNat) (hi := (17 : Int).toNat) (c := co43) hC45 (by omega) (by omega) hroom45
     obtain ⟨A45, hA45⟩ : ∃ A1, A1 = (if co43 = (10 : Int).toNat then Ao43 else (Ao43 : Option Addr).map (·.add ((10 : Int).toNat * 1))) := ⟨_, rfl⟩
     obtain ⟨c45, hc45⟩ : ∃ c1, c1 = co43 - (10 : Int).toNat := ⟨_, rfl⟩
     have hy45 : y151.length = (17 : Int).toNat - (10 : Int).toNat := (by rw [Ny151.out, yJ, yI] <;> omega)
     rw [show ((x4_1).take (17 : Int).toNat).drop (10 : Int).toNat = y151 from Ny151.out.symm] at hr45
     replace hr45 : Kd.C (Kd.int .i64) _ A45 y151.length y151 := (by rw [hA45]; exact hr45)
     rw [← hy45, ← hA45, ← hc45] at hcut45
     have HR154 := zO hr45
     have HC154 := zO (show y151.length ≤ c45 from by rw [hy45, hc45]; exact Nat.sub_le_sub_right (Nat.le_trans (by omega) hroom45) _)
     clear hr45 hC45 hroom45 hi045 hsz45 hc45
     have KY45 := zO hy45
     have KA45 := zO hA45
     clear hy45 hA45
     have KL45 := zO (show 17 ≤ x4_1.length from by omega)
     have KM45 := zO (show 10 ≤ 17 from by omega)
     replace q45 := eq_true q45
     refine start_ (n := 12) (S := fun w' => True) (ds := []) #[false, false, false, false, false, false, false, false, false, false, false, false] (by kernel_rfl) rfl rfl trivial (fun hHeld => ?_); refine with_tabW spec_DecodeHeader.tab10 spec_DecodeHeader.bits10 (fun HT_ HW_ => ?_)
     generalize wr.drew = w41 at HO_4 BK124 HB HR144 HR149 HR154 hHeld ⊢
     refine pure_ (i := 0) (N := some 39) (v := ?_) (a' := ?_) #[true, false, false, false, false, false, false, false, false, false, false, false] rfl rfl (any_of HT_.out (by kernel_rfl)) (fun _ _ _ h => h) (Or.inl ⟨by rfl, ?_⟩) ?_ ?_; rotate_left
     ·intro w'; go_simp; with_reducible rfl
     rotate_left
     ·simp only [Act.put, yF, yG, yH, i64_w, i32_w]; rfl
     refine pure_ (i := 1) (N := some 40) (v := ?_) (a' := ?_) #[true, true, false, false, false, false, false, false, false, false, false, false] rfl rfl (any_of HT_.out (by kernel_rfl)) (fun _ _ _ h => h) (Or.inl ⟨by rfl, ?_⟩) ?_ ?_; rotate_left
     ·intro w'; go_simp; with_reducible rfl
     rotate_left
     ·simp only [Act.put, yF, yG, yH, i64_w, i32_w]; rfl
     refine pure_ (i := 3) (N := some 42) (v := ?_) (a' := ?_) #[true, true, false, true, false, false, false, false, false, false, false, false] rfl rfl (any_of HT_.out (by kernel_rfl)) (fun _ _ _ h => h) (Or.inl ⟨by rfl, ?_⟩) ?_ ?_; rotate_left
     ·intro w'; go_simp; with_reducible rfl
     rotate_left
     ·simp only [Act.put, yF, yG, yH, i64_w, i32_w]; rfl
     refine pure_ (i := 4) (N := some 43) (v := ?_) (a' := ?_) #[true, true, false, true, true, false, false, false, false, false, false, false] rfl rfl (any_of HT_.out (by kernel_rfl)) (fun _ _ _ h => h) (Or.inl ⟨by rfl, ?_⟩) ?_ ?_; rotate_left
     ·intro w'; go_simp; with_reducible rfl
     rotate_left
     ·simp only [Act.put, yF, yG, yH, i64_w, i32_w]; rfl
     refine pure_ (i := 6) (N := some 45) (v := ?_) (a' := ?_) #[true, true, false, true, true, false, true, false, false, false, false, false] rfl rfl (any_of HT_.out (by kernel_rfl)) (fun _ _ _ h => h) (Or.inl ⟨by rfl, ?_⟩) ?_ ?_; rotate_left
     ·intro w'; go_simp; with_reducible rfl
     rotate_left
     ·simp only [Act.put, yF, yG, yH, i64_w, i32_w]; rfl
     refine pure_ (i := 7) (N := some 46) (v := ?_) (a' := ?_) #[true, true, false, true, true, false, true, true, false, false, false, false] rfl rfl (any_of HT_.out (by kernel_rfl)) (fun _ _ _ h => h) (Or.inl ⟨by rfl, ?_⟩) ?_ ?_; rotate_left
     ·intro w'; go_simp; with_reducible rfl
     rotate_left
     ·simp only [Act.put, yF, yG, yH, i64_w, i32_w]; rfl
     refine join_ (σ := Nat) 1 #[true, true, true, true, true, true, true, true, true, true, true, false] (fun s_ => [(41, .int .i64 t145), (44, .int .i64 t150), (47, .int .i64 t155), (6, .pointer (some ⟨s_, 0, none⟩)), (48, .agg #[.int .i64 t145, .int .i64 t150, .int .i64 t155])]) (fun s_ w' => (Kd.R (Kd.int .i64) 3 w' w.heap.size (fun _ => True) (.slice Ao43 x4_1.length co43) x4_1) ∧ (w'.heap[gb124]? = some (.cells #[.int .i64 0, .int .i64 0, .int .i64 0] 24 (0, 0))) ∧ (w'.heap[s_]? = some (.cells #[.int .i64 0, .int .i64 0, .int .i64 0] 24 (0, 0))) ∧ (w.heap.size ≤ s_) ∧ (w.heap.size ≤ s_) ∧ (gb124 ≠ s_) ∧ (s_ ≠ gb124) ∧ (Below w.heap.size w w')) ?_ ?_; rotate_left
     ·intro hCont
      refine two_ (i := 2) (j := 10) (Ni := some 41) (Nj := some 6) #[true, true, true, true, true, false, true, true, false, false, false, false] #[true, true, false, true, true, false, true, true, false, false, true, false] rfl rfl rfl rfl (two_of HT_.out (by kernel_rfl)) (by decide) (by decide) (fun K hK => ?_) (fun K hK => ?_)
      ·skip
       refine goes_ Try.func70 (by kernel_rfl) rfl #[.slice Ao43 y141.length co43] (by rfl) rfl rfl (by (try simp only [yK, yL, yM]); first | done | rfl | (simp only [yJ, yI]; rfl)) ?_
       with_reducible refine (spec_BitsToInt.calls k1 _ _ y141 t145 _ ?side1 ?side2 A30.out).mono ?_
       (case side1 => repeat (first | exact (by repeat (first | (with_reducible exact HR144.out) | (with_reducible refine zR ?_ _) | (with_reducible refine zT ?_ _) | (with_reducible refine zS ?_) | exact HR144.out)) | (with_reducible refine zR ?_ _) | (with_reducible refine zT ?_ _) | (with_reducible refine zS ?_)))
       (case side2 => exact HC144.out)
       rintro e w' ⟨rfl, ⟨nd, rfl⟩⟩
       refine ⟨_, rfl, ?_⟩
       refine hK.out _ _ trivial (fun hHeld => ?_)
       clear hK K
       refine norm_ (a' := ?_) ?_ ?_; rotate_left
       ·show Act.put _ (some 41) _ = _; simp only [Act.put, yF, yG, yH, i64_w, i32_w]; rfl
       refine two_ (i := 5) (j := 10) (Ni := some 44) (Nj := some 6) #[true, true, true, true, true, true, true, true, false, false, false, false] #[true, true, true, true, true, false, true, true, false, false, true, false] rfl rfl rfl rfl (two_of HT_.out (by kernel_rfl)) (by decide) (by decide) (fun K hK => ?_) (fun K hK => ?_)
       ·skip
        refine goes_ Try.func70 (by kernel_rfl) rfl #[.slice A44 y146.length c44] (by rfl) rfl rfl (by (try simp only [yK, yL, yM]); first | done | rfl | (simp only [yJ, yI]; rfl)) ?_
        with_reducible refine (spec_BitsToInt.calls k1 _ _ y146 t150 _ ?side1 ?side2 A33.out).mono ?_
        (case side1 => repeat (first | exact (by repeat (first | (with_reducible exact HR149.out) | (with_reducible refine zR ?_ _) | (with_reducible refine zT ?_ _) | (with_reducible refine zS ?_) | exact HR149.out)) | (with_reducible refine zR ?_ _) | (with_reducible refine zT ?_ _) | (with_reducible refine zS ?_)))
        (case side2 => exact HC149.out)
        rintro e w' ⟨rfl, ⟨nd, rfl⟩⟩
        refine ⟨_, rfl, ?_⟩
        refine hK.out _ _ trivial (fun hHeld => ?_)
        clear hK K
        refine norm_ (a' := ?_) ?_ ?_; rotate_left
        ·show Act.put _ (some 44) _ = _; simp only [Act.put, yF, yG, yH, i64_w, i32_w]; rfl
        refine two_ (i := 8) (j := 10) (Ni := some 47) (Nj := some 6) #[true, true, true, true, true, true, true, true, true, false, false, false] #[true, true, true, true, true, true, true, true, false, false, true, false] rfl rfl rfl rfl (two_of HT_.out (by kernel_rfl)) (by decide) (by decide) (fun K hK => ?_) (fun K hK => ?_)
        ·skip
         refine goes_ Try.func70 (by kernel_rfl) rfl #[.slice A45 y151.length c45] (by rfl) rfl rfl (by (try simp only [yK, yL, yM]); first | done | rfl | (simp only [yJ, yI]; rfl)) ?_
         with_reducible refine (spec_BitsToInt.calls k1 _ _ y151 t155 _ ?side1 ?side2 A36.out).mono ?_
         (case side1 => repeat (first | exact (by repeat (first | (with_reducible exact HR154.out) | (with_reducible refine zR ?_ _) | (with_reducible refine zT ?_ _) | (with_reducible refine zS ?_) | exact HR154.out)) | (with_reducible refine zR ?_ _) | (with_reducible refine zT ?_ _) | (with_reducible refine zS ?_)))
         (case side2 => exact HC154.out)
         rintro e w' ⟨rfl, ⟨nd, rfl⟩⟩
         refine ⟨_, rfl, ?_⟩
         refine hK.out _ _ trivial (fun hHeld => ?_)
         clear hK K
         refine norm_ (a' := ?_) ?_ ?_; rotate_left
         ·show Act.put _ (some 47) _ = _; simp only [Act.put, yF, yG, yH, i64_w, i32_w]; rfl
         refine pure_ (i := 9) (N := some 48) (v := ?_) (a' := ?_) #[true, true, true, true, true, true, true, true, true, true, false, false] rfl rfl (any_of HT_.out (by kernel_rfl)) (fun _ _ _ h => h) (Or.inl ⟨by rfl, ?_⟩) ?_ ?_; rotate_left
         ·intro w'; go_simp; with_reducible rfl
         rotate_left
         ·simp only [Act.put, yF, yG, yH, i64_w, i32_w]; rfl
         refine one_ (i := 10) (N := some 6) #[true, true, true, true, true, true, true, true, true, true, true, false] rfl rfl (one_of HT_.out (by kernel_rfl)) (by decide) (fun K hK => ?_)
         refine box_step ?hg (N := 6) ?hd (cs := #[.int .i64 0, .int .i64 0, .int .i64 0]) (t := 24) ?hr ?_; (case hd => rfl); (case hg => rfl); (case hr => first | (go_simp; done) | (go_simp; rfl))
         intro gb156 hg w46 hbox hb
         have n0_ := zO (zY (by (with_reducible repeat (first | apply zU | apply zW | apply zV)); exact HO_4.out) hb)
         have n1_ := zO (zG (g := gb124) (o := .cells #[.int .i64 0, .int .i64 0, .int .i64 0] 24 (0, 0)) (by (with_reducible repeat (first | refine zJ ?_ _ | refine zI ?_ | refine zF ?_ _)); exact BK124.out) hb)
         have n2_ := zO (Kd.C_below (by repeat (first | (with_reducible exact HR144.out) | (with_reducible refine zR ?_ _) | (with_reducible refine zT ?_ _) | (with_reducible refine zS ?_) | exact HR144.out)) hb)
         have n3_ := zO (Kd.C_below (by repeat (first | (with_reducible exact HR149.out) | (with_reducible refine zR ?_ _) | (with_reducible refine zT ?_ _) | (with_reducible refine zS ?_) | exact HR149.out)) hb)
         have n4_ := zO (Kd.C_below (by repeat (first | (with_reducible exact HR154.out) | (with_reducible refine zR ?_ _) | (with_reducible refine zT ?_ _) | (with_reducible refine zS ?_) | exact HR154.out)) hb)
         have n5_ := zO (zE (by repeat (first | (with_reducible first | exact HB.out | apply zA | apply zL | apply zB | refine zC ?_ GE124.out) | exact HB.out)) hb)
         have n6_ := zO (hbox)
         have n7_ := zO ((by rw [hg]; exact (zD (by repeat (first | (with_reducible first | exact HB.out | apply zA | apply zL | apply zB | refine zC ?_ GE124.out) | exact HB.out))) : w.heap.size ≤ gb156))
         have n8_ := zO ((by rw [hg]; exact (zD (by repeat (first | (with_reducible first | exact HB.out | apply zA | apply zL | apply zB | refine zC ?_ GE124.out) | exact HB.out))) : w.heap.size ≤ gb156))
         have n9_ := zO ((by rw [hg]; exact Nat.ne_of_lt (blk_lt (g := gb124) (o := .cells #[.int .i64 0, .int .i64 0, .int .i64 0] 24 (0, 0)) (by (with_reducible repeat (first | refine zJ ?_ _ | refine zI ?_ | refine zF ?_ _)); exact BK124.out)) : gb124 ≠ gb156))
         have n10_ := zO ((by rw [hg]; exact Nat.ne_of_gt (blk_lt (g := gb124) (o := .cells #[.int .i64 0, .int .i64 0, .int .i64 0] 24 (0, 0)) (by (with_reducible repeat (first | refine zJ ?_ _ | refine zI ?_ | refine zF ?_ _)); exact BK124.out)) : gb156 ≠ gb124))
         clear HO_4
         clear BK124
         clear HR144
         clear HR149
         clear HR154
         clear HB
         have HO_4 := n0_
         have BK124 := n1_
         have HR144 := n2_
         have HR149 := n3_
         have HR154 := n4_
         have HB := n5_
         have BK156 := n6_
         have GW156 := n7_
         have GE156 := n8_
         have NB124_156 := n9_
         have NB156_124 := n10_
         clear n0_ n1_ n2_ n3_ n4_ n5_ n6_ n7_ n8_ n9_ n10_
         clear hb hbox hg
         refine hK.out _ _ trivial (fun hHeld => ?_)
         clear hK K
         refine norm_ (a' := ?_) ?_ ?_; rotate_left
         ·show Act.put _ (some 6) _ = _; simp only [Act.put, yF, yG, yH, i64_w, i32_w]; rfl
         exact norm_ (by simp only [putAll, Act.put, yF, yG, yH]) (hCont (gb156) _ ⟨(by (with_reducible repeat (first | apply zU | apply zW | apply zV)); exact HO_4.out), (by (with_reducible repeat (first | refine zJ ?_ _ | refine zI ?_ | refine zF ?_ _)); exact BK124.out), (by (with_reducible repeat (first | refine zJ ?_ _ | refine zI ?_ | refine zF ?_ _)); exact BK156.out), GW156.out, GE156.out, NB124_156.out, NB156_124.out, (by repeat (first | (with_reducible first | exact HB.out | apply zA | apply zL | apply zB | refine zC ?_ GE124.out | refine zC ?_ GE156.out) | exact HB.out))⟩)
        ·skip
         refine box_step ?hg (N := 6) ?hd (cs := #[.int .i64 0, .int .i64 0, .int .i64 0]) (t := 24) ?hr ?_; (case hd => rfl); (case hg => rfl); (case hr => first | (go_simp; done) | (go_simp; rfl))
         intro gb156 hg w46 hbox hb
         have n0_ := zO (zY (by (with_reducible repeat (first | apply zU | apply zW | apply zV)); exact HO_4.out) hb)
         have n1_ := zO (zG (g := gb124) (o := .cells #[.int .i64 0, .int .i64 0, .int .i64 0] 24 (0, 0)) (by (with_reducible repeat (first | refine zJ ?_ _ | refine zI ?_ | refine zF ?_ _)); exact BK124.out) hb)
         have n2_ := zO (Kd.C_below (by repeat (first | (with_reducible exact HR144.out) | (with_reducible refine zR ?_ _) | (with_reducible refine zT ?_ _) | (with_reducible refine zS ?_) | exact HR144.out)) hb)
         have n3_ := zO (Kd.C_below (by repeat (first | (with_reducible exact HR149.out) | (with_reducible refine zR ?_ _) | (with_reducible refine zT ?_ _) | (with_reducible refine zS ?_) | exact HR149.out)) hb)
         have n4_ := zO (Kd.C_below (by repeat (first | (with_reducible exact HR154.out) | (with_reducible refine zR ?_ _) | (with_reducible refine zT ?_ _) | (with_reducible refine zS ?_) | exact HR154.out)) hb)
         have n5_ := zO (zE (by repeat (first | (with_reducible first | exact HB.out | apply zA | apply zL | apply zB | refine zC ?_ GE124.out) | exact HB.out)) hb)
         have n6_ := zO (hbox)
         have n7_ := zO ((by rw [hg]; exact (zD (by repeat (first | (with_reducible first | exact HB.out | apply zA | apply zL | apply zB | refine zC ?_ GE124.out) | exact HB.out))) : w.heap.size ≤ gb156))
         have n8_ := zO ((by rw [hg]; exact (zD (by repeat (first | (with_reducible first | exact HB.out | apply zA | apply zL | apply zB | refine zC ?_ GE124.out) | exact HB.out))) : w.heap.size ≤ gb156))
         have n9_ := zO ((by rw [hg]; exact Nat.ne_of_lt (blk_lt (g := gb124) (o := .cells #[.int .i64 0, .int .i64 0, .int .i64 0] 24 (0, 0)) (by (with_reducible repeat (first | refine zJ ?_ _ | refine zI ?_ | refine zF ?_ _)); exact BK124.out)) : gb124 ≠ gb156))
         have n10_ := zO ((by rw [hg]; exact Nat.ne_of_gt (blk_lt (g := gb124) (o := .cells #[.int .i64 0, .int .i64 0, .int .i64 0] 24 (0, 0)) (by (with_reducible repeat (first | refine zJ ?_ _ | refine zI ?_ | refine zF ?_ _)); exact BK124.out)) : gb156 ≠ gb124))
         clear HO_4
         clear BK124
         clear HR144
         clear HR149
         clear HR154
         clear HB
         have HO_4 := n0_
         have BK124 := n1_
         have HR144 := n2_
         have HR149 := n3_
         have HR154 := n4_
         have HB := n5_
         have BK156 := n6_
         have GW156 := n7_
         have GE156 := n8_
         have NB124_156 := n9_
         have NB156_124 := n10_
         clear n0_ n1_ n2_ n3_ n4_ n5_ n6_ n7_ n8_ n9_ n10_
         clear hb hbox hg
         refine hK.out _ _ trivial (fun hHeld => ?_)
         clear hK K
         refine norm_ (a' := ?_) ?_ ?_; rotate_left
         ·show Act.put _ (some 6) _ = _; simp only [Act.put, yF, yG, yH, i64_w, i32_w]; rfl
         refine one_ (i := 8) (N := some 47) #[true, true, true, true, true, true, true, true, true, false, true, false] rfl rfl (one_of HT_.out (by kernel_rfl)) (by decide) (fun K hK => ?_)
         refine goes_ Try.func70 (by kernel_rfl) rfl #[.slice A45 y151.length c45] (by rfl) rfl rfl (by (try simp only [yK, yL, yM]); first | done | rfl | (simp only [yJ, yI]; rfl)) ?_
         with_reducible refine (spec_BitsToInt.calls k1 _ _ y151 t155 _ ?side1 ?side2 A36.out).mono ?_
         (case side1 => repeat (first | exact (by repeat (first | (with_reducible exact HR154.out) | (with_reducible refine zR ?_ _) | (with_reducible refine zT ?_ _) | (with_reducible refine zS ?_) | exact HR154.out)) | (with_reducible refine zR ?_ _) | (with_reducible refine zT ?_ _) | (with_reducible refine zS ?_)))
         (case side2 => exact HC154.out)
         rintro e w' ⟨rfl, ⟨nd, rfl⟩⟩
         refine ⟨_, rfl, ?_⟩
         refine hK.out _ _ trivial (fun hHeld => ?_)
         clear hK K
         refine norm_ (a' := ?_) ?_ ?_; rotate_left
         ·show Act.put _ (some 47) _ = _; simp only [Act.put, yF, yG, yH, i64_w, i32_w]; rfl
         refine pure_ (i := 9) (N := some 48) (v := ?_) (a' := ?_) #[true, true, true, true, true, true, true, true, true, true, true, false] rfl rfl (any_of HT_.out (by kernel_rfl)) (fun _ _ _ h => h) (Or.inl ⟨by rfl, ?_⟩) ?_ ?_; rotate_left
         ·intro w'; go_simp; with_reducible rfl
         rotate_left
         ·simp only [Act.put, yF, yG, yH, i64_w, i32_w]; rfl
         exact norm_ (by simp only [putAll, Act.put, yF, yG, yH]) (hCont (gb156) _ ⟨(by (with_reducible repeat (first | apply zU | apply zW | apply zV)); exact HO_4.out), (by (with_reducible repeat (first | refine zJ ?_ _ | refine zI ?_ | refine zF ?_ _)); exact BK124.out), (by (with_reducible repeat (first | refine zJ ?_ _ | refine zI ?_ | refine zF ?_ _)); exact BK156.out), GW156.out, GE156.out, NB124_156.out, NB156_124.out, (by repeat (first | (with_reducible first | exact HB.out | apply zA | apply zL | apply zB | refine zC ?_ GE124.out | refine zC ?_ GE156.out) | exact HB.out))⟩)
       ·skip
        refine box_step ?hg (N := 6) ?hd (cs := #[.int .i64 0, .int .i64 0, .int .i64 0]) (t := 24) ?hr ?_; (case hd => rfl); (case hg => rfl); (case hr => first | (go_simp; done) | (go_simp; rfl))
        intro gb156 hg w46 hbox hb
        have n0_ := zO (zY (by (with_reducible repeat (first | apply zU | apply zW | apply zV)); exact HO_4.out) hb)
        have n1_ := zO (zG (g := gb124) (o := .cells #[.int .i64 0, .int .i64 0, .int .i64 0] 24 (0, 0)) (by (with_reducible repeat (first | refine zJ ?_ _ | refine zI ?_ | refine zF ?_ _)); exact BK124.out) hb)
        have n2_ := zO (Kd.C_below (by repeat (first | (with_reducible exact HR144.out) | (with_reducible refine zR ?_ _) | (with_reducible refine zT ?_ _) | (with_reducible refine zS ?_) | exact HR144.out)) hb)
        have n3_ := zO (Kd.C_below (by repeat (first | (with_reducible exact HR149.out) | (with_reducible refine zR ?_ _) | (with_reducible refine zT ?_ _) | (with_reducible refine zS ?_) | exact HR149.out)) hb)
        have n4_ := zO (Kd.C_below (by repeat (first | (with_reducible exact HR154.out) | (with_reducible refine zR ?_ _) | (with_reducible refine zT ?_ _) | (with_reducible refine zS ?_) | exact HR154.out)) hb)
        have n5_ := zO (zE (by repeat (first | (with_reducible first | exact HB.out | apply zA | apply zL | apply zB | refine zC ?_ GE124.out) | exact HB.out)) hb)
        have n6_ := zO (hbox)
        have n7_ := zO ((by rw [hg]; exact (zD (by repeat (first | (with_reducible first | exact HB.out | apply zA | apply zL | apply zB | refine zC ?_ GE124.out) | exact HB.out))) : w.heap.size ≤ gb156))
        have n8_ := zO ((by rw [hg]; exact (zD (by repeat (first | (with_reducible first | exact HB.out | apply zA | apply zL | apply zB | refine zC ?_ GE124.out) | exact HB.out))) : w.heap.size ≤ gb156))
        have n9_ := zO ((by rw [hg]; exact Nat.ne_of_lt (blk_lt (g := gb124) (o := .cells #[.int .i64 0, .int .i64 0, .int .i64 0] 24 (0, 0)) (by (with_reducible repeat (first | refine zJ ?_ _ | refine zI ?_ | refine zF ?_ _)); exact BK124.out)) : gb124 ≠ gb156))
        have n10_ := zO ((by rw [hg]; exact Nat.ne_of_gt (blk_lt (g := gb124) (o := .cells #[.int .i64 0, .int .i64 0, .int .i64 0] 24 (0, 0)) (by (with_reducible repeat (first | refine zJ ?_ _ | refine zI ?_ | refine zF ?_ _)); exact BK124.out)) : gb156 ≠ gb124))
        clear HO_4
        clear BK124
        clear HR144
        clear HR149
        clear HR154
        clear HB
        have HO_4 := n0_
        have BK124 := n1_
        have HR144 := n2_
        have HR149 := n3_
        have HR154 := n4_
        have HB := n5_
        have BK156 := n6_
        have GW156 := n7_
        have GE156 := n8_
        have NB124_156 := n9_
        have NB156_124 := n10_
        clear n0_ n1_ n2_ n3_ n4_ n5_ n6_ n7_ n8_ n9_ n10_
        clear hb hbox hg
        refine hK.out _ _ trivial (fun hHeld => ?_)
        clear hK K
        refine norm_ (a' := ?_) ?_ ?_; rotate_left
        ·show Act.put _ (some 6) _ = _; simp only [Act.put, yF, yG, yH, i64_w, i32_w]; rfl
        refine one_ (i := 5) (N := some 44) #[true, true, true, true, true, true, true, true, false, false, true, false] rfl rfl (one_of HT_.out (by kernel_rfl)) (by decide) (fun K hK => ?_)
        refine goes_ Try.func70 (by kernel_rfl) rfl #[.slice A44 y146.length c44] (by rfl) rfl rfl (by (try simp only [yK, yL, yM]); first | done | rfl | (simp only [yJ, yI]; rfl)) ?_
        with_reducible refine (spec_BitsToInt.calls k1 _ _ y146 t150 _ ?side1 ?side2 A33.out).mono ?_
        (case side1 => repeat (first | exact (by repeat (first | (with_reducible exact HR149.out) | (with_reducible refine zR ?_ _) | (with_reducible refine zT ?_ _) | (with_reducible refine zS ?_) | exact HR149.out)) | (with_reducible refine zR ?_ _) | (with_reducible refine zT ?_ _) | (with_reducible refine zS ?_)))
        (case side2 => exact HC149.out)
        rintro e w' ⟨rfl, ⟨nd, rfl⟩⟩
        refine ⟨_, rfl, ?_⟩
        refine hK.out _ _ trivial (fun hHeld => ?_)
        clear hK K
        refine norm_ (a' := ?_) ?_ ?_; rotate_left
        ·show Act.put _ (some 44) _ = _; simp only [Act.put, yF, yG, yH, i64_w, i32_w]; rfl
        refine one_ (i := 8) (N := some 47) #[true, true, true, true, true, true, true, true, true, false, true, false] rfl rfl (one_of HT_.out (by kernel_rfl)) (by decide) (fun K hK => ?_)
        refine goes_ Try.func70 (by kernel_rfl) rfl #[.slice A45 y151.length c45] (by rfl) rfl rfl (by (try simp only [yK, yL, yM]); first | done | rfl | (simp only [yJ, yI]; rfl)) ?_
        with_reducible refine (spec_BitsToInt.calls k1 _ _ y151 t155 _ ?side1 ?side2 A36.out).mono ?_
        (case side1 => repeat (first | exact (by repeat (first | (with_reducible exact HR154.out) | (with_reducible refine zR ?_ _) | (with_reducible refine zT ?_ _) | (with_reducible refine zS ?_) | exact HR154.out)) | (with_reducible refine zR ?_ _) | (with_reducible refine zT ?_ _) | (with_reducible refine zS ?_)))
        (case side2 => exact HC154.out)
        rintro e w' ⟨rfl, ⟨nd, rfl⟩⟩
        refine ⟨_, rfl, ?_⟩
        refine hK.out _ _ trivial (fun hHeld => ?_)
        clear hK K
        refine norm_ (a' := ?_) ?_ ?_; rotate_left
        ·show Act.put _ (some 47) _ = _; simp only [Act.put, yF, yG, yH, i64_w, i32_w]; rfl
        refine pure_ (i := 9) (N := some 48) (v := ?_) (a' := ?_) #[true, true, true, true, true, true, true, true, true, true, true, false] rfl rfl (any_of HT_.out (by kernel_rfl)) (fun _ _ _ h => h) (Or.inl ⟨by rfl, ?_⟩) ?_ ?_; rotate_left
        ·intro w'; go_simp; with_reducible rfl
        rotate_left
        ·simp only [Act.put, yF, yG, yH, i64_w, i32_w]; rfl
        exact norm_ (by simp only [putAll, Act.put, yF, yG, yH]) (hCont (gb156) _ ⟨(by (with_reducible repeat (first | apply zU | apply zW | apply zV)); exact HO_4.out), (by (with_reducible repeat (first | refine zJ ?_ _ | refine zI ?_ | refine zF ?_ _)); exact BK124.out), (by (with_reducible repeat (first | refine zJ ?_ _ | refine zI ?_ | refine zF ?_ _)); exact BK156.out), GW156.out, GE156.out, NB124_156.out, NB156_124.out, (by repeat (first | (with_reducible first | exact HB.out | apply zA | apply zL | apply zB | refine zC ?_ GE124.out | refine zC ?_ GE156.out) | exact HB.out))⟩)
      ·skip
       refine box_step ?hg (N := 6) ?hd (cs := #[.int .i64 0, .int .i64 0, .int .i64 0]) (t := 24) ?hr ?_; (case hd => rfl); (case hg => rfl); (case hr => first | (go_simp; done) | (go_simp; rfl))
       intro gb156 hg w46 hbox hb
       have n0_ := zO (zY (by (with_reducible repeat (first | apply zU | apply zW | apply zV)); exact HO_4.out) hb)
       have n1_ := zO (zG (g := gb124) (o := .cells #[.int .i64 0, .int .i64 0, .int .i64 0] 24 (0, 0)) (by (with_reducible repeat (first | refine zJ ?_ _ | refine zI ?_ | refine zF ?_ _)); exact BK124.out) hb)
       have n2_ := zO (Kd.C_below (by repeat (first | (with_reducible exact HR144.out) | (with_reducible refine zR ?_ _) | (with_reducible refine zT ?_ _) | (with_reducible refine zS ?_) | exact HR144.out)) hb)
       have n3_ := zO (Kd.C_below (by repeat (first | (with_reducible exact HR149.out) | (with_reducible refine zR ?_ _) | (with_reducible refine zT ?_ _) | (with_reducible refine zS ?_) | exact HR149.out)) hb)
       have n4_ := zO (Kd.C_below (by repeat (first | (with_reducible exact HR154.out) | (with_reducible refine zR ?_ _) | (with_reducible refine zT ?_ _) | (with_reducible refine zS ?_) | exact HR154.out)) hb)
       have n5_ := zO (zE (by repeat (first | (with_reducible first | exact HB.out | apply zA | apply zL | apply zB | refine zC ?_ GE124.out) | exact HB.out)) hb)
       have n6_ := zO (hbox)
       have n7_ := zO ((by rw [hg]; exact (zD (by repeat (first | (with_reducible first | exact HB.out | apply zA | apply zL | apply zB | refine zC ?_ GE124.out) | exact HB.out))) : w.heap.size ≤ gb156))
       have n8_ := zO ((by rw [hg]; exact (zD (by repeat (first | (with_reducible first | exact HB.out | apply zA | apply zL | apply zB | refine zC ?_ GE124.out) | exact HB.out))) : w.heap.size ≤ gb156))
       have n9_ := zO ((by rw [hg]; exact Nat.ne_of_lt (blk_lt (g := gb124) (o := .cells #[.int .i64 0, .int .i64 0, .int .i64 0] 24 (0, 0)) (by (with_reducible repeat (first | refine zJ ?_ _ | refine zI ?_ | refine zF ?_ _)); exact BK124.out)) : gb124 ≠ gb156))
       have n10_ := zO ((by rw [hg]; exact Nat.ne_of_gt (blk_lt (g := gb124) (o := .cells #[.int .i64 0, .int .i64 0, .int .i64 0] 24 (0, 0)) (by (with_reducible repeat (first | refine zJ ?_ _ | refine zI ?_ | refine zF ?_ _)); exact BK124.out)) : gb156 ≠ gb124))
       clear HO_4
       clear BK124
       clear HR144
       clear HR149
       clear HR154
       clear HB
       have HO_4 := n0_
       have BK124 := n1_
       have HR144 := n2_
       have HR149 := n3_
       have HR154 := n4_
       have HB := n5_
       have BK156 := n6_
       have GW156 := n7_
       have GE156 := n8_
       have NB124_156 := n9_
       have NB156_124 := n10_
       clear n0_ n1_ n2_ n3_ n4_ n5_ n6_ n7_ n8_ n9_ n10_
       clear hb hbox hg
       refine hK.out _ _ trivial (fun hHeld => ?_)
       clear hK K
       refine norm_ (a' := ?_) ?_ ?_; rotate_left
       ·show Act.put _ (some 6) _ = _; simp only [Act.put, yF, yG, yH, i64_w, i32_w]; rfl
       refine one_ (i := 2) (N := some 41) #[true, true, true, true, true, false, true, true, false, false, true, false] rfl rfl (one_of HT_.out (by kernel_rfl)) (by decide) (fun K hK => ?_)
       refine goes_ Try.func70 (by kernel_rfl) rfl #[.slice Ao43 y141.length co43] (by rfl) rfl rfl (by (try simp only [yK, yL, yM]); first | done | rfl | (simp only [yJ, yI]; rfl)) ?_
       with_reducible refine (spec_BitsToInt.calls k1 _ _ y141 t145 _ ?side1 ?side2 A30.out).mono ?_
       (case side1 => repeat (first | exact (by repeat (first | (with_reducible exact HR144.out) | (with_reducible refine zR ?_ _) | (with_reducible refine zT ?_ _) | (with_reducible refine zS ?_) | exact HR144.out)) | (with_reducible refine zR ?_ _) | (with_reducible refine zT ?_ _) | (with_reducible refine zS ?_)))
       (case side2 => exact HC144.out)
       rintro e w' ⟨rfl, ⟨nd, rfl⟩⟩
       refine ⟨_, rfl, ?_⟩
       refine hK.out _ _ trivial (fun hHeld => ?_)
       clear hK K
       refine norm_ (a' := ?_) ?_ ?_; rotate_left
       ·show Act.put _ (some 41) _ = _; simp only [Act.put, yF, yG, yH, i64_w, i32_w]; rfl
       refine one_ (i := 5) (N := some 44) #[true, true, true, true, true, true, true, true, false, false, true, false] rfl rfl (one_of HT_.out (by kernel_rfl)) (by decide) (fun K hK => ?_)
       refine goes_ Try.func70 (by kernel_rfl) rfl #[.slice A44 y146.length c44] (by rfl) rfl rfl (by (try simp only [yK, yL, yM]); first | done | rfl | (simp only [yJ, yI]; rfl)) ?_
       with_reducible refine (spec_BitsToInt.calls k1 _ _ y146 t150 _ ?side1 ?side2 A33.out).mono ?_
       (case side1 => repeat (first | exact (by repeat (first | (with_reducible exact HR149.out) | (with_reducible refine zR ?_ _) | (with_reducible refine zT ?_ _) | (with_reducible refine zS ?_) | exact HR149.out)) | (with_reducible refine zR ?_ _) | (with_reducible refine zT ?_ _) | (with_reducible refine zS ?_)))
       (case side2 => exact HC149.out)
       rintro e w' ⟨rfl, ⟨nd, rfl⟩⟩
       refine ⟨_, rfl, ?_⟩
       refine hK.out _ _ trivial (fun hHeld => ?_)
       clear hK K
       refine norm_ (a' := ?_) ?_ ?_; rotate_left
       ·show Act.put _ (some 44) _ = _; simp only [Act.put, yF, yG, yH, i64_w, i32_w]; rfl
       refine one_ (i := 8) (N := some 47) #[true, true, true, true, true, true, true, true, true, false, true, false] rfl rfl (one_of HT_.out (by kernel_rfl)) (by decide) (fun K hK => ?_)
       refine goes_ Try.func70 (by kernel_rfl) rfl #[.slice A45 y151.length c45] (by rfl) rfl rfl (by (try simp only [yK, yL, yM]); first | done | rfl | (simp only [yJ, yI]; rfl)) ?_
       with_reducible refine (spec_BitsToInt.calls k1 _ _ y151 t155 _ ?side1 ?side2 A36.out).mono ?_
       (case side1 => repeat (first | exact (by repeat (first | (with_reducible exact HR154.out) | (with_reducible refine zR ?_ _) | (with_reducible refine zT ?_ _) | (with_reducible refine zS ?_) | exact HR154.out)) | (with_reducible refine zR ?_ _) | (with_reducible refine zT ?_ _) | (with_reducible refine zS ?_)))
       (case side2 => exact HC154.out)
       rintro e w' ⟨rfl, ⟨nd, rfl⟩⟩
       refine ⟨_, rfl, ?_⟩
       refine hK.out _ _ trivial (fun hHeld => ?_)
       clear hK K
       refine norm_ (a' := ?_) ?_ ?_; rotate_left
       ·show Act.put _ (some 47) _ = _; simp only [Act.put, yF, yG, yH, i64_w, i32_w]; rfl
       refine pure_ (i := 9) (N := some 48) (v := ?_) (a' := ?_) #[true, true, true, true, true, true, true, true, true, true, true, false] rfl rfl (any_of HT_.out (by kernel_rfl)) (fun _ _ _ h => h) (Or.inl ⟨by rfl, ?_⟩) ?_ ?_; rotate_left
       ·intro w'; go_simp; with_reducible rfl
       rotate_left
       ·simp only [Act.put, yF, yG, yH, i64_w, i32_w]; rfl
       exact norm_ (by simp only [putAll, Act.put, yF, yG, yH]) (hCont (gb156) _ ⟨(by (with_reducible repeat (first | apply zU | apply zW | apply zV)); exact HO_4.out), (by (with_reducible repeat (first | refine zJ ?_ _ | refine zI ?_ | refine zF ?_ _)); exact BK124.out), (by (with_reducible repeat (first | refine zJ ?_ _ | refine zI ?_ | refine zF ?_ _)); exact BK156.out), GW156.out, GE156.out, NB124_156.out, NB156_124.out, (by repeat (first | (with_reducible first | exact HB.out | apply zA | apply zL | apply zB | refine zC ?_ GE124.out | refine zC ?_ GE156.out) | exact HB.out))⟩)
     rintro gb156 w47 ⟨h0_, h1_, h2_, h3_, h4_, h5_, h6_, h7_⟩
     have n0_ : Aside0 (Kd.R (Kd.int .i64) 3 w47 w.heap.size (fun _ => True) (.slice Ao43 x4_1.length co43) x4_1) := ⟨h0_⟩
     have n1_ : Aside0 (w47.heap[gb124]? = some (.cells #[.int .i64 0, .int .i64 0, .int .i64 0] 24 (0, 0))) := ⟨h1_⟩
     have n2_ : Aside0 (w47.heap[gb156]? = some (.cells #[.int .i64 0, .int .i64 0, .int .i64 0] 24 (0, 0))) := ⟨h2_⟩
     have n3_ : Aside0 (w.heap.size ≤ gb156) := ⟨h3_⟩
     have n4_ : Aside0 (w.heap.size ≤ gb156) := ⟨h4_⟩
     have n5_ : Aside0 (gb124 ≠ gb156) := ⟨h5_⟩
     have n6_ : Aside0 (gb156 ≠ gb124) := ⟨h6_⟩
     have n7_ : Aside0 (Below w.heap.size w w47) := ⟨h7_⟩
     clear HO_4
     clear BK124
     clear HB
     clear h0_ h1_ h2_ h3_ h4_ h5_ h6_ h7_
     have HO_4 := n0_
     have BK124 := n1_
     have BK156 := n2_
     have GW156 := n3_
     have GE156 := n4_
     have NB124_156 := n5_
     have NB156_124 := n6_
     have HB := n7_
     clear n0_ n1_ n2_ n3_ n4_ n5_ n6_ n7_
     have hHeld := trivial
     refine norm_ (a' := ?_) ?_ ?_; rotate_left
     ·simp only [putAll, Act.put, yF, yG, yH]
      rfl
     refine one_ (i := 11) (N := none) #[true, true, true, true, true, true, true, true, true, true, true, true] rfl rfl (one_of HT_.out (by kernel_rfl)) (by decide) (fun K hK => ?_)
     have hs48 : w47.cell? ⟨gb156, 0, none⟩ = some (.int .i64 0) := (zH BK156.out 0).trans rfl
     have hfs48 := zK BK156.out 0
     have hns48_0 := NB124_156.out
     have hms48_0 := NB156_124.out
     have hs49 : w47.cell? ⟨gb156, 1, none⟩ = some (.int .i64 0) := (zH BK156.out 1).trans rfl
     have hfs49 := zK BK156.out 1
     have hns49_0 := NB124_156.out
     have hms49_0 := NB156_124.out
     have hs50 : w47.cell? ⟨gb156, 2, none⟩ = some (.int .i64 0) := (zH BK156.out 2).trans rfl
     have hfs50 := zK BK156.out 2
     have hns50_0 := NB124_156.out
     have hms50_0 := NB156_124.out
     refine skip_ (w1 := ?_) (by rfl) rfl ?_ ?_; rotate_left
     ·go_simp
      rfl
     refine hK.out _ _ trivial (fun hHeld => ?_)
     clear hK K
     refine done_ (done_of HT_.out (by kernel_rfl)) ?_
     have H := HH_.out
     clear HH_
     by_cases c38 : t157 = 0
     ·rw [if_pos c38] at H
      have c38b0 : (t157 == 0) = true := beq_iff_eq.mpr c38
      have c38b1 : (t157 != 0) = false := bne_eq_false_iff_eq.mpr c38
      clear c38
      replace H := yE.mp H
      obtain ⟨t158, A390, H⟩ := H
      replace H : (if t158 = true then (some (t145, t150, t155, true)) else (some (0, 0, 0, false))) = some (r1, r2, r3, r4) := H
      have A39 := zO A390
      clear A390
      have HH_ := zO H
      clear H
      have H := HH_.out
      clear HH_
      by_cases c40 : t158 = true
      ·subst c40
       have H1 : (some (t145, t150, t155, true)) = some (r1, r2, r3, r4) := by rw [if_pos rfl] at H; exact H
       clear H
       have H := H1
       clear H1
       simp only [Option.some.injEq, Prod.mk.injEq] at H
       obtain ⟨rfl, rfl, rfl, rfl⟩ := H
       try go_wp2_with (first | ((with_reducible refine zM (f := 71) rfl ?_); refine goesL_ (some 50) rfl rfl Try.func71 (by kernel_rfl) rfl #[.slice Ao43 x4_1.length co43] rfl (by (try simp only [yK, yL, yM]); first | done | rfl | (simp only [yJ, yI]; rfl)) ?_; (with_reducible refine (spec_Parity.calls k1 _ _ x4_1 t157 _ ?side1 ?side2 A37.out).mono ?_); (case side1 => refine (zX (e := 3) (base := w.heap.size) (ok := fun k_ => True) (n := x4_1.length) (c := co43) ?_).2.2; exact (by (with_reducible repeat (first | apply zU | apply zW | apply zV)); exact (Kd.R_mono (zZ (p := ⟨gb156, 2, none⟩) (zZ (p := ⟨gb156, 1, none⟩) (zZ (p := ⟨gb156, 0, none⟩) (Kd.R_types HO_4.out BK156.out (by decide)) (fun _ hk => hk.2) (.int .i64 t145)) (fun _ hk => hk.2) (.int .i64 t150)) (fun _ hk => hk.2) (.int .i64 t155)) (fun _ h_ => h_.1)))); (case side2 => exact (zX HO_4.out).2.1); rintro e w' ⟨rfl, ⟨nd, rfl⟩⟩; refine ⟨_, rfl, ?_⟩; have hnb51 := NB156_124.out; have hnc51 := NB124_156.out; have hcz52_0 : w47.cell? ⟨gb156, 0, none⟩ = some (.int .i64 0) := (zH BK156.out 0).trans rfl; have hcz52_1 : w47.cell? ⟨gb156, 1, none⟩ = some (.int .i64 0) := (zH BK156.out 1).trans rfl; have hcz52_2 : w47.cell? ⟨gb156, 2, none⟩ = some (.int .i64 0) := (zH BK156.out 2).trans rfl; have hfz52_0 := zK BK156.out 0; have hfz52_1 := zK BK156.out 1; have hfz52_2 := zK BK156.out 2) | (go_at_call 64; (with_reducible refine (spec_IsValidHeader.calls t145 t150 t155 true _ A39.out).mono ?_); rintro e w53 ⟨rfl, hb⟩; have n0_ := zO (zY (by (with_reducible repeat (first | apply zU | apply zW | apply zV)); exact (Kd.R_mono (zZ (p := ⟨gb156, 2, none⟩) (zZ (p := ⟨gb156, 1, none⟩) (zZ (p := ⟨gb156, 0, none⟩) (Kd.R_types HO_4.out BK156.out (by decide)) (fun _ hk => hk.2) (.int .i64 t145)) (fun _ hk => hk.2) (.int .i64 t150)) (fun _ hk => hk.2) (.int .i64 t155)) (fun _ h_ => h_.1))) hb); have n1_ := zO (zG (g := gb124) (o := .cells #[.int .i64 0, .int .i64 0, .int .i64 0] 24 (0, 0)) (by (with_reducible repeat (first | refine zJ ?_ _ | refine zI ?_ | refine zF ?_ _)); refine blk_far ?_ NB124_156.out _; (with_reducible repeat (first | refine zJ ?_ _ | refine zI ?_ | refine zF ?_ _)); refine blk_far ?_ NB124_156.out _; (with_reducible repeat (first | refine zJ ?_ _ | refine zI ?_ | refine zF ?_ _)); refine blk_far ?_ NB124_156.out _; (with_reducible repeat (first | refine zJ ?_ _ | refine zI ?_ | refine zF ?_ _)); exact BK124.out) hb); have n2_ := zO (zG (g := gb156) (o := .cells #[.int .i64 t145, .int .i64 t150, .int .i64 t155] 24 (0, 0)) (by (with_reducible repeat (first | refine zJ ?_ _ | refine zI ?_ | refine zF ?_ _)); refine blk_put (cs := #[.int .i64 t145, .int .i64 t150, .int .i64 0]) ?_ 2 _ rfl; (with_reducible repeat (first | refine zJ ?_ _ | refine zI ?_ | refine zF ?_ _)); refine blk_put (cs := #[.int .i64 t145, .int .i64 0, .int .i64 0]) ?_ 1 _ rfl; (with_reducible repeat (first | refine zJ ?_ _ | refine zI ?_ | refine zF ?_ _)); refine blk_put (cs := #[.int .i64 0, .int .i64 0, .int .i64 0]) ?_ 0 _ rfl; (with_reducible repeat (first | refine zJ ?_ _ | refine zI ?_ | refine zF ?_ _)); exact BK156.out) hb); have n3_ := zO (zE (by repeat (first | (with_reducible first | exact HB.out | apply zA | apply zL | apply zB | refine zC ?_ GE124.out | refine zC ?_ GE156.out) | exact HB.out)) hb); clear HO_4; clear BK124; clear BK156; clear HB; have HO_4 := n0_; have BK124 := n1_; have BK156 := n2_; have HB := n3_; clear n0_ n1_ n2_ n3_; (try clear hb); (try clear hb2); (try clear hk); (try clear hi); have hcz54_0 : w53.cell? ⟨gb156, 0, none⟩ = some (.int .i64 t145) := (zH BK156.out 0).trans rfl; have hcz54_1 : w53.cell? ⟨gb156, 1, none⟩ = some (.int .i64 t150) := (zH BK156.out 1).trans rfl; have hcz54_2 : w53.cell? ⟨gb156, 2, none⟩ = some (.int .i64 t155) := (zH BK156.out 2).trans rfl; have hfz54_0 := zK BK156.out 0; have hfz54_1 := zK BK156.out 1; have hfz54_2 := zK BK156.out 2; have hcz55_0 : w53.cell? ⟨gb124, 0, none⟩ = some (.int .i64 0) := (zH BK124.out 0).trans rfl; have hcz55_1 : w53.cell? ⟨gb124, 1, none⟩ = some (.int .i64 0) := (zH BK124.out 1).trans rfl; have hcz55_2 : w53.cell? ⟨gb124, 2, none⟩ = some (.int .i64 0) := (zH BK124.out 2).trans rfl; have hfz55_0 := zK BK124.out 0; have hfz55_1 := zK BK124.out 1; have hfz55_2 := zK BK124.out 2))
       refine bodyPost_ret (results_ct rfl _ _ gb124 24 #[.int .i64 t145, .int .i64 t150, .int .i64 t155] (0, 0) _ rfl (by (with_reducible repeat (first | refine zJ ?_ _ | refine zI ?_ | refine zF ?_ _)); refine blk_put (cs := #[.int .i64 t145, .int .i64 t150, .int .i64 0]) ?_ 2 _ rfl; (with_reducible repeat (first | refine zJ ?_ _ | refine zI ?_ | refine zF ?_ _)); refine blk_put (cs := #[.int .i64 t145, .int .i64 0, .int .i64 0]) ?_ 1 _ rfl; (with_reducible repeat (first | refine zJ ?_ _ | refine zI ?_ | refine zF ?_ _)); refine blk_put (cs := #[.int .i64 0, .int .i64 0, .int .i64 0]) ?_ 0 _ rfl; (with_reducible repeat (first | refine zJ ?_ _ | refine zI ?_ | refine zF ?_ _)); exact BK124.out) Try.underlying24 rfl (by kernel_rfl)) rfl ?_
       exact ⟨by first | rfl | exact yP _ | (simp [errW_none, errW_some] <;> rfl) | (simp [*, errW_none, errW_some] <;> rfl), by repeat (first | (with_reducible first | exact HB.out | apply zA | apply zL | apply zB | refine zC ?_ GE124.out | refine zC ?_ GE156.out) | exact HB.out)⟩
      ·replace c40 := Bool.eq_false_iff.mpr c40
       subst c40
       have H1 : (some (0, 0, 0, false)) = some (r1, r2, r3, r4) := by rw [if_neg (show ¬ (false = true) by decide)] at H; exact H
       clear H
       have H := H1
       clear H1
       simp only [Option.some.injEq, Prod.mk.injEq] at H
       obtain ⟨rfl, rfl, rfl, rfl⟩ := H
       try go_wp2_with (first | ((with_reducible refine zM (f := 71) rfl ?_); refine goesL_ (some 50) rfl rfl Try.func71 (by kernel_rfl) rfl #[.slice Ao43 x4_1.length co43] rfl (by (try simp only [yK, yL, yM]); first | done | rfl | (simp only [yJ, yI]; rfl)) ?_; (with_reducible refine (spec_Parity.calls k1 _ _ x4_1 t157 _ ?side1 ?side2 A37.out).mono ?_); (case side1 => refine (zX (e := 3) (base := w.heap.size) (ok := fun k_ => True) (n := x4_1.length) (c := co43) ?_).2.2; exact (by (with_reducible repeat (first | apply zU | apply zW | apply zV)); exact (Kd.R_mono (zZ (p := ⟨gb156, 2, none⟩) (zZ (p := ⟨gb156, 1, none⟩) (zZ (p := ⟨gb156, 0, none⟩) (Kd.R_types HO_4.out BK156.out (by decide)) (fun _ hk => hk.2) (.int .i64 t145)) (fun _ hk => hk.2) (.int .i64 t150)) (fun _ hk => hk.2) (.int .i64 t155)) (fun _ h_ => h_.1)))); (case side2 => exact (zX HO_4.out).2.1); rintro e w' ⟨rfl, ⟨nd, rfl⟩⟩; refine ⟨_, rfl, ?_⟩; have hnb66 := NB156_124.out; have hnc66 := NB124_156.out; have hcz67_0 : w47.cell? ⟨gb156, 0, none⟩ = some (.int .i64 0) := (zH BK156.out 0).trans rfl; have hcz67_1 : w47.cell? ⟨gb156, 1, none⟩ = some (.int .i64 0) := (zH BK156.out 1).trans rfl; have hcz67_2 : w47.cell? ⟨gb156, 2, none⟩ = some (.int .i64 0) := (zH BK156.out 2).trans rfl; have hfz67_0 := zK BK156.out 0; have hfz67_1 := zK BK156.out 1; have hfz67_2 := zK BK156.out 2) | (go_at_call 64; (with_reducible refine (spec_IsValidHeader.calls t145 t150 t155 false _ A39.out).mono ?_); rintro e w68 ⟨rfl, hb⟩; have n0_ := zO (zY (by (with_reducible repeat (first | apply zU | apply zW | apply zV)); exact (Kd.R_mono (zZ (p := ⟨gb156, 2, none⟩) (zZ (p := ⟨gb156, 1, none⟩) (zZ (p := ⟨gb156, 0, none⟩) (Kd.R_types HO_4.out BK156.out (by decide)) (fun _ hk => hk.2) (.int .i64 t145)) (fun _ hk => hk.2) (.int .i64 t150)) (fun _ hk => hk.2) (.int .i64 t155)) (fun _ h_ => h_.1))) hb); have n1_ := zO (zG (g := gb124) (o := .cells #[.int .i64 0, .int .i64 0, .int .i64 0] 24 (0, 0)) (by (with_reducible repeat (first | refine zJ ?_ _ | refine zI ?_ | refine zF ?_ _)); refine blk_far ?_ NB124_156.out _; (with_reducible repeat (first | refine zJ ?_ _ | refine zI ?_ | refine zF ?_ _)); refine blk_far ?_ NB124_156.out _; (with_reducible repeat (first | refine zJ ?_ _ | refine zI ?_ | refine zF ?_ _)); refine blk_far ?_ NB124_156.out _; (with_reducible repeat (first | refine zJ ?_ _ | refine zI ?_ | refine zF ?_ _)); exact BK124.out) hb); have n2_ := zO (zG (g := gb156) (o := .cells #[.int .i64 t145, .int .i64 t150, .int .i64 t155] 24 (0, 0)) (by (with_reducible repeat (first | refine zJ ?_ _ | refine zI ?_ | refine zF ?_ _)); refine blk_put (cs := #[.int .i64 t145, .int .i64 t150, .int .i64 0]) ?_ 2 _ rfl; (with_reducible repeat (first | refine zJ ?_ _ | refine zI ?_ | refine zF ?_ _)); refine blk_put (cs := #[.int .i64 t145, .int .i64 0, .int .i64 0]) ?_ 1 _ rfl; (with_reducible repeat (first | refine zJ ?_ _ | refine zI ?_ | refine zF ?_ _)); refine blk_put (cs := #[.int .i64 0, .int .i64 0, .int .i64 0]) ?_ 0 _ rfl; (with_reducible repeat (first | refine zJ ?_ _ | refine zI ?_ | refine zF ?_ _)); exact BK156.out) hb); have n3_ := zO (zE (by repeat (first | (with_reducible first | exact HB.out | apply zA | apply zL | apply zB | refine zC ?_ GE124.out | refine zC ?_ GE156.out) | exact HB.out)) hb); clear HO_4; clear BK124; clear BK156; clear HB; have HO_4 := n0_; have BK124 := n1_; have BK156 := n2_; have HB := n3_; clear n0_ n1_ n2_ n3_; (try clear hb); (try clear hb2); (try clear hk); (try clear hi); have hcz69_0 : w68.cell? ⟨gb124, 0, none⟩ = some (.int .i64 0) := (zH BK124.out 0).trans rfl; have hcz69_1 : w68.cell? ⟨gb124, 1, none⟩ = some (.int .i64 0) := (zH BK124.out 1).trans rfl; have hcz69_2 : w68.cell? ⟨gb124, 2, none⟩ = some (.int .i64 0) := (zH BK124.out 2).trans rfl; have hfz69_0 := zK BK124.out 0; have hfz69_1 := zK BK124.out 1; have hfz69_2 := zK BK124.out 2))
       refine bodyPost_ret (results_ct rfl _ _ gb124 24 #[.int .i64 0, .int .i64 0, .int .i64 0] (0, 0) _ rfl (by (with_reducible repeat (first | refine zJ ?_ _ | refine zI ?_ | refine zF ?_ _)); refine blk_put (cs := #[.int .i64 0, .int .i64 0, .int .i64 0]) ?_ 2 _ rfl; (with_reducible repeat (first | refine zJ ?_ _ | refine zI ?_ | refine zF ?_ _)); refine blk_put (cs := #[.int .i64 0, .int .i64 0, .int .i64 0]) ?_ 1 _ rfl; (with_reducible repeat (first | refine zJ ?_ _ | refine zI ?_ | refine zF ?_ _)); refine blk_put (cs := #[.int .i64 0, .int .i64 0, .int .i64 0]) ?_ 0 _ rfl; (with_reducible repeat (first | refine zJ ?_ _ | refine zI ?_ | refine zF ?_ _)); exact BK124.out) Try.underlying24 rfl (by kernel_rfl)) rfl ?_
       exact ⟨by first | rfl | exact yP _ | (simp [errW_none, errW_some] <;> rfl) | (simp [*, errW_none, errW_some] <;> rfl), by repeat (first | (with_reducible first | exact HB.out | apply zA | apply zL | apply zB | refine zC ?_ GE124.out | refine zC ?_ GE156.out) | exact HB.out)⟩
     ·rw [if_neg c38] at H
      have c38b0 : (t157 == 0) = false := beq_eq_false_iff_ne.mpr c38
      have c38b1 : (t157 != 0) = true := bne_iff_ne.mpr c38
      simp only [Option.some.injEq, Prod.mk.injEq] at H
      obtain ⟨rfl, rfl, rfl, rfl⟩ := H
      try go_wp2_with (first | ((with_reducible refine zM (f := 71) rfl ?_); refine goesL_ (some 50) rfl rfl Try.func71 (by kernel_rfl) rfl #[.slice Ao43 x4_1.length co43] rfl (by (try simp only [yK, yL, yM]); first | done | rfl | (simp only [yJ, yI]; rfl)) ?_; (with_reducible refine (spec_Parity.calls k1 _ _ x4_1 t157 _ ?side1 ?side2 A37.out).mono ?_); (case side1 => refine (zX (e := 3) (base := w.heap.size) (ok := fun k_ => True) (n := x4_1.length) (c := co43) ?_).2.2; exact (by (with_reducible repeat (first | apply zU | apply zW | apply zV)); exact (Kd.R_mono (zZ (p := ⟨gb156, 2, none⟩) (zZ (p := ⟨gb156, 1, none⟩) (zZ (p := ⟨gb156, 0, none⟩) (Kd.R_types HO_4.out BK156.out (by decide)) (fun _ hk => hk.2) (.int .i64 t145)) (fun _ hk => hk.2) (.int .i64 t150)) (fun _ hk => hk.2) (.int .i64 t155)) (fun _ h_ => h_.1)))); (case side2 => exact (zX HO_4.out).2.1); rintro e w' ⟨rfl, ⟨nd, rfl⟩⟩; refine ⟨_, rfl, ?_⟩; have hnb80 := NB124_156.out; have hnc80 := NB156_124.out; have hcz81_0 : w47.cell? ⟨gb124, 0, none⟩ = some (.int .i64 0) := (zH BK124.out 0).trans rfl; have hcz81_1 : w47.cell? ⟨gb124, 1, none⟩ = some (.int .i64 0) := (zH BK124.out 1).trans rfl; have hcz81_2 : w47.cell? ⟨gb124, 2, none⟩ = some (.int .i64 0) := (zH BK124.out 2).trans rfl; have hfz81_0 := zK BK124.out 0; have hfz81_1 := zK BK124.out 1; have hfz81_2 := zK BK124.out 2))
      refine bodyPost_ret (results_ct rfl _ _ gb124 24 #[.int .i64 0, .int .i64 0, .int .i64 0] (0, 0) _ rfl (by (with_reducible repeat (first | refine zJ ?_ _ | refine zI ?_ | refine zF ?_ _)); refine blk_put (cs := #[.int .i64 0, .int .i64 0, .int .i64 0]) ?_ 2 _ rfl; (with_reducible repeat (first | refine zJ ?_ _ | refine zI ?_ | refine zF ?_ _)); refine blk_put (cs := #[.int .i64 0, .int .i64 0, .int .i64 0]) ?_ 1 _ rfl; (with_reducible repeat (first | refine zJ ?_ _ | refine zI ?_ | refine zF ?_ _)); refine blk_put (cs := #[.int .i64 0, .int .i64 0, .int .i64 0]) ?_ 0 _ rfl; (with_reducible repeat (first | refine zJ ?_ _ | refine zI ?_ | refine zF ?_ _)); refine blk_far ?_ NB124_156.out _; (with_reducible repeat (first | refine zJ ?_ _ | refine zI ?_ | refine zF ?_ _)); refine blk_far ?_ NB124_156.out _; (with_reducible repeat (first | refine zJ ?_ _ | refine zI ?_ | refine zF ?_ _)); refine blk_far ?_ NB124_156.out _; (with_reducible repeat (first | refine zJ ?_ _ | refine zI ?_ | refine zF ?_ _)); exact BK124.out) Try.underlying24 rfl (by kernel_rfl)) rfl ?_
      exact ⟨by first | rfl | exact yP _ | (simp [errW_none, errW_some] <;> rfl) | (simp [*, errW_none, errW_some] <;> rfl), by repeat (first | (with_reducible first | exact HB.out | apply zA | apply zL | apply zB | refine zC ?_ GE124.out | refine zC ?_ GE156.out) | exact HB.out)⟩
 ·rw [if_neg c2] at H
  have c2b0 : ((l0.length : Int) == 54) = false := beq_eq_false_iff_ne.mpr c2
  have c2b1 : ((l0.length : Int) != 54) = true := bne_iff_ne.mpr c2
  simp only [Option.some.injEq, Prod.mk.injEq] at H
  obtain ⟨rfl, rfl, rfl, rfl⟩ := H
  go_enter Try.func14, Try.ntmps14
  go_wp2_with (first | ((with_reducible refine zN (N := 2) rfl ?_); refine box_event ?hg (N := 2) ?hd (cs := #[.int .i64 0, .int .i64 0, .int .i64 0]) (t := 24) ?hr ?_; (case hd => rfl); (case hg => rfl); (case hr => first | (go_simp; done) | (go_simp; rfl)); intro gb124 hg w82 hbox hb; have n0_ := zO (zE (by repeat (first | exact HB.out | apply zA | apply zL | apply zB)) hb); have n1_ := zO (hbox); have n2_ := zO ((by rw [hg]; exact (zD (by repeat (first | exact HB.out | apply zA | apply zL | apply zB))) : w.heap.size ≤ gb124)); have n3_ := zO ((by rw [hg]; exact (zD (by repeat (first | exact HB.out | apply zA | apply zL | apply zB))) : w.heap.size ≤ gb124)); clear HB; have HB := n0_; have BK124 := n1_; have GW124 := n2_; have GE124 := n3_; clear n0_ n1_ n2_ n3_; clear hb hbox hg; have hcz83_0 : w82.cell? ⟨gb124, 0, none⟩ = some (.int .i64 0) := (zH BK124.out 0).trans rfl; have hcz83_1 : w82.cell? ⟨gb124, 1, none⟩ = some (.int .i64 0) := (zH BK124.out 1).trans rfl; have hcz83_2 : w82.cell? ⟨gb124, 2, none⟩ = some (.int .i64 0) := (zH BK124.out 2).trans rfl; have hfz83_0 := zK BK124.out 0; have hfz83_1 := zK BK124.out 1; have hfz83_2 := zK BK124.out 2))
  refine bodyPost_ret (results_ct rfl _ _ gb124 24 #[.int .i64 0, .int .i64 0, .int .i64 0] (0, 0) _ rfl (by (with_reducible repeat (first | refine zJ ?_ _ | refine zI ?_ | refine zF ?_ _)); refine blk_put (cs := #[.int .i64 0, .int .i64 0, .int .i64 0]) ?_ 2 _ rfl; (with_reducible repeat (first | refine zJ ?_ _ | refine zI ?_ | refine zF ?_ _)); refine blk_put (cs := #[.int .i64 0, .int .i64 0, .int .i64 0]) ?_ 1 _ rfl; (with_reducible repeat (first | refine zJ ?_ _ | refine zI ?_ | refine zF ?_ _)); refine blk_put (cs := #[.int .i64 0, .int .i64 0, .int .i64 0]) ?_ 0 _ rfl; (with_reducible repeat (first | refine zJ ?_ _ | refine zI ?_ | refine zF ?_ _)); exact BK124.out) Try.underlying24 rfl (by kernel_rfl)) rfl ?_
  exact ⟨by first | rfl | exact yP _ | (simp [errW_none, errW_some] <;> rfl) | (simp [*, errW_none, errW_some] <;> rfl), by repeat (first | (with_reducible first | exact HB.out | apply zA | apply zL | apply zB | refine zC ?_ GE124.out) | exact HB.out)⟩

end Go.Proofs.Ytldbmljooafkcaa.PFnExactReceiveFrame
