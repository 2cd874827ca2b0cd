/- Contracts of Go functions. Conditions: the arguments read as the Lean function's. Written by print2.py, shrink.py (this session's). -/
import Derived.Test.YtldbmljooafkcaaPFnFrameErrorsx0
import Derived.Test.YtldbmljooafkcaaPFnFrameErrorsx2
namespace Go.Proofs.Ytldbmljooafkcaa.PFnFrameErrors
open Go.RowKit Go.Proofs.YtldbmljooafkcaaW.PrintWords Go.Proofs.YtldbmljooafkcaaW.PrintLast Go.Proofs.YtldbmljooafkcaaW.PrintMore
open Go.Proofs.YtldbmljooafkcaaW.PrintWords renaming below_alloc → zA, below_drew1 → zB, below_set → zC, below_size → zD, below_step → zE, blk_alloc → zF, blk_below → zG, blk_cell → zH, blk_drew → zI, blk_drewN → zJ, blk_frozen → zK, pw_below_drewN → zL, gate_callee → zM, gate_dst → zN
open Go.Proofs.YtldbmljooafkcaaW.PrintWords.Aside0 renaming mk → zO
open Go.Proofs.YtldbmljooafkcaaW.PrintWords.Kd renaming C_alloc → zR, C_drew → zS, C_drewN → zT, R_alloc → zU, R_drew → zV, R_drewN → zW, R_reads' → zX, R_below → zY, R_far → zZ, R_lower → yA
open Option renaming bind_eq_some_iff → yE
open List renaming setIfInBounds_toArray → yF, set_cons_zero → yG, set_cons_succ → yH, length_take → yI, length_drop → yJ, map_toArray → yK, map_cons → yL, map_nil → yM
set_option maxHeartbeats 8000000
set_option maxRecDepth 100000
attribute [local go_sem] max2_int min2_int max_two min_two max_three min_three max_four min_four
set_option linter.unusedVariables false
set_option linter.unusedSimpArgs false

def impl_DecodeHeader.l0 : Nat → List Int → List Int → Int → Int → Option (Int × Int × Int × Bool)
 | 0, _, _, _, _ => none
 | k + 1, x0, x4, x14, x15 => if x15 < x14 then (if 0 ≤ x15 then (if x15 < (x0.length : Int) then (if 0 ≤ (wrap64 (x15 + 18)) then (if (wrap64 (x15 + 18)) < (x0.length : Int) then (if 0 ≤ (wrap64 (x15 + 36)) then (if (wrap64 (x15 + 36)) < (x0.length : Int) then ((impl_Weight.f k (([rd x0 x15, rd x0 (wrap64 (x15 + 18)), rd x0 (wrap64 (x15 + 36))] : List Int))).bind fun t122 => (if t122 ≥ 2 then (if x15 < (x4.length : Int) then (impl_DecodeHeader.l0 k x0 (x4.set (x15 : Int).toNat 1) x14 (wrap64 (x15 + 1))) else (none)) else (impl_DecodeHeader.l0 k x0 x4 x14 (wrap64 (x15 + 1))))) else (none)) else (none)) else (none)) else (none)) else (none)) else (none)) else (if 2 ≤ (x4.length : Int) then ((impl_BitsToInt.f k (x4.take 2)).bind fun t128 => (if 2 ≤ 10 then (if 10 ≤ (x4.length : Int) then ((impl_BitsToInt.f k ((x4.take 10).drop 2)).bind fun t133 => (if 10 ≤ 17 then (if 17 ≤ (x4.length : Int) then ((impl_BitsToInt.f k ((x4.take 17).drop 10)).bind fun t138 => ((impl_Parity.f k x4).bind fun t140 => (if t140 = 0 then ((impl_IsValidHeader.f t128 t133 t138).bind fun t141 => (if t141 = true then (some (t128, t133, t138, true)) else (some (0, 0, 0, false)))) else (some (0, 0, 0, false))))) else (none)) else (none))) else (none)) else (none))) else (none))
def impl_DecodeHeader.f (k : Nat) (l0 : List Int) : Option (Int × Int × Int × Bool) := if (l0.length : Int) = 54 then (if 18 ≤ 35184372088832 then ((some (List.replicate 18 0 : List Int)).bind fun y113 => (impl_DecodeHeader.l0 k l0 y113 (y113.length : Int) 0)) else (none)) else (some (0, 0, 0, false))
def impl_DecodeHeader.T7 : Bool × List (List Nat × List Nat) := (true, [([], []), ([], []), ([0, 1], [0, 1]), ([2], [2]), ([], []), ([], []), ([5], [5]), ([4, 6], [4, 6]), ([7], [7]), ([], []), ([], []), ([10], [10]), ([9, 11], [9, 11]), ([12], [12]), ([3, 8, 13], [3, 8, 13]), ([14, 0, 1, 2, 3, 4, 5, 6, 7, 8, 9, 10, 11, 12, 13, 14], [14])])
def impl_DecodeHeader.B7 : List Nat := [0, 0, 3, 7, 0, 0, 32, 112, 240, 0, 0, 1024, 3584, 7680, 16383, 32767]
theorem impl_DecodeHeader.tab7 : rtab .any (opsOf Try.f16 7) = impl_DecodeHeader.T7 := by kernel_rfl
theorem impl_DecodeHeader.bits7 : waitsOk impl_DecodeHeader.T7.2 impl_DecodeHeader.B7 = true := by kernel_rfl
def impl_DecodeHeader.T11 : Bool × List (List Nat × List Nat) := (true, [([], []), ([0], [0]), ([1], [1]), ([], []), ([3], [3]), ([4, 2], [4]), ([], []), ([6], [6]), ([7, 5], [7]), ([2, 5, 8], [2, 5, 8]), ([], []), ([10, 9, 8, 0, 1, 2, 3, 4, 5, 6, 7, 8, 9, 10], [9, 10])])
def impl_DecodeHeader.B11 : List Nat := [0, 1, 3, 0, 8, 31, 0, 64, 255, 511, 0, 2047]
theorem impl_DecodeHeader.tab11 : rtab .any (opsOf Try.f16 11) = impl_DecodeHeader.T11 := by kernel_rfl
theorem impl_DecodeHeader.bits11 : waitsOk impl_DecodeHeader.T11.2 impl_DecodeHeader.B11 = true := by kernel_rfl
theorem impl_DecodeHeader.calls (k : Nat) (A0 : Option Addr) (c0 : Nat) (l0 : List Int) (r1 : Int) (r2 : Int) (r3 : Int) (r4 : Bool) (w : World) (hr0 : Kd.C (Kd.int .i64) w A0 l0.length l0) (hc0 : l0.length ≤ c0) (h : impl_DecodeHeader.f k l0 = some (r1, r2, r3, r4)) :
  Calls Try.prog 16 #[.slice A0 l0.length c0] w fun e w' => e = .returned (.tuple #[.agg #[.int .i64 r1, .int .i64 r2, .int .i64 r3], .bool r4]) ∧ Below w.heap.size w w' := by
 have hu24 := Try.underlying24
 have HR0 := zO hr0
 have HC0 := zO hc0
 clear hr0 hc0
 have HB := zO (Below.refl w.heap.size w)
 have H : (if (l0.length : Int) = 54 then (if 18 ≤ 35184372088832 then ((some (List.replicate 18 0 : List Int)).bind fun y113 => (impl_DecodeHeader.l0 k l0 y113 (y113.length : Int) 0)) else (none)) else (some (0, 0, 0, false))) = some (r1, r2, r3, r4) := h
 clear h
 by_cases c2 : (l0.length : Int) = 54
 ·rw [if_pos c2] at H
  have c2b0 : ((l0.length : Int) == 54) = true := beq_iff_eq.mpr c2
  have c2b1 : ((l0.length : Int) != 54) = false := bne_eq_false_iff_eq.mpr c2
  clear c2
  by_cases c3 : 18 ≤ 35184372088832
  case neg => rw [if_neg c3] at H; exact absurd H (by simp)
  rw [if_pos c3] at H
  have c3b0 := eq_true c3
  have c3b1 : decide (18 ≤ 35184372088832) = true := decide_eq_true c3
  clear c3
  obtain ⟨y113, hy113⟩ : ∃ y_ : List Int, y_ = (List.replicate 18 0) := ⟨_, rfl⟩
  replace H : (impl_DecodeHeader.l0 k l0 y113 (y113.length : Int) 0) = some (r1, r2, r3, r4) := by first | (rw [hy113]; exact H) | exact H
  have Ny113 := zO hy113
  clear hy113
  have H' := zO H
  clear H
  go_enter Try.func16, Try.ntmps16
  go_wp2_with (first | ((with_reducible refine zN (N := 2) rfl ?_); refine box_event ?hg (N := 2) ?hd (cs := #[.int .i64 0, .int .i64 0, .int .i64 0]) (t := 24) ?hr ?_; (case hd => rfl); (case hg => rfl); (case hr => first | (go_simp; done) | (go_simp; rfl)); intro gb112 hg w4 hbox hb; have n0_ := zO (zE (by repeat (first | exact HB.out | apply zA | apply zL | apply zB)) hb); have n1_ := zO (hbox); have n2_ := zO ((by rw [hg]; exact (zD (by repeat (first | exact HB.out | apply zA | apply zL | apply zB))) : w.heap.size ≤ gb112)); have n3_ := zO ((by rw [hg]; exact (zD (by repeat (first | exact HB.out | apply zA | apply zL | apply zB))) : w.heap.size ≤ gb112)); clear HB; have HB := n0_; have BK112 := n1_; have GW112 := n2_; have GE112 := n3_; clear n0_ n1_ n2_ n3_; clear hb hbox hg) | ((with_reducible refine zN (N := 12) rfl ?_); refine Kd.R_make (Kd.int .i64) _ 3 rfl (N := 12) rfl 22 _ _ rfl 18 rfl rfl Try.underlying22 (.int .i64 0) 8 info3 rfl (by decide) (by omega) 0 (ok := fun _ => True) (okp := fun _ => True) rfl (fun _ hk => hk) trivial (by omega) (by omega) (Below.refl _ _) (Nat.le_refl _) ?_; intro v114 w5 ho6 hb hg_ hnew_; clear hg_ hnew_; (first | rw [← Ny113.out] at ho6 | (simp only [Int.reduceToNat] at ho6; rw [← Ny113.out] at ho6)); have n0_ := zO (yA ho6 (zD (by repeat (first | (with_reducible first | exact HB.out | apply zA | apply zL | apply zB | refine zC ?_ GE112.out) | exact HB.out)))); have n1_ := zO (zG (g := gb112) (o := .cells #[.int .i64 0, .int .i64 0, .int .i64 0] 24 (0, 0)) (by (with_reducible repeat (first | refine zJ ?_ _ | refine zI ?_ | refine zF ?_ _)); exact BK112.out) hb); have n2_ := zO (zE (by repeat (first | (with_reducible first | exact HB.out | apply zA | apply zL | apply zB | refine zC ?_ GE112.out) | exact HB.out)) hb); clear BK112; clear HB; have HO115 := n0_; have BK112 := n1_; have HB := n2_; clear n0_ n1_ n2_; clear hb ho6; obtain ⟨Ao7, co7, eo7⟩ := Kd.R_slice HO115.out; subst eo7))
  go_loopg [15] k (fun kq v15 w' => ∃ (x4_1 : List Int) (x15_1 : Int), v15 = .int .i64 x15_1 ∧ Aside0 (impl_DecodeHeader.l0 kq l0 x4_1 (y113.length : Int) x15_1 = some (r1, r2, r3, r4)) ∧ Aside0 (kq ≤ k) ∧ Aside0 (Kd.R (Kd.int .i64) 3 w' w.heap.size (fun _ => True) (.slice Ao7 y113.length co7) x4_1) ∧ Aside0 (w'.heap[gb112]? = some (.cells #[.int .i64 0, .int .i64 0, .int .i64 0] 24 (0, 0))) ∧ Aside0 (Below w.heap.size w w'))
  case atStart => exact ⟨(y113), (0), (by first | rfl | (simp; done) | (simp [*]; done)), H', ⟨Nat.le_refl _⟩, ⟨by (with_reducible repeat (first | apply zU | apply zW | apply zV)); exact HO115.out⟩, ⟨by (with_reducible repeat (first | refine zJ ?_ _ | refine zI ?_ | refine zF ?_ _)); exact BK112.out⟩, ⟨by repeat (first | (with_reducible first | exact HB.out | apply zA | apply zL | apply zB | refine zC ?_ GE112.out) | exact HB.out)⟩⟩
  case round =>
   clear H'
   try clear c1
   try clear c2
   try clear c2b0
   try clear c2b1
   try clear p2
   try clear c3
   try clear c3b0
   try clear c3b1
   obtain ⟨x4_1, x15_1, rfl, HA, HK1, HO_4, BK112, HB⟩ := hrel
   have hl4_1 := (zX HO_4.out).1
   rw [hl4_1] at HO_4
   (try simp only [hl4_1])
   (try simp only [hl4_1] at BK112)
   cases gk with
   | zero => exact absurd HA.out (by simp [impl_DecodeHeader.l0])
   | succ k1 =>
    have H := HA.out
    clear HA
    simp only [impl_DecodeHeader.l0] at H
    by_cases c8 : x15_1 < (y113.length : Int)
    ·rw [if_pos c8] at H
     have c8b0 : decide (x15_1 < (y113.length : Int)) = true := decide_eq_true c8
     clear c8
     by_cases c9 : 0 ≤ x15_1
     case neg => rw [if_neg c9] at H; exact absurd H (by simp)
     rw [if_pos c9] at H
     have c9b0 : decide (0 ≤ x15_1) = true := decide_eq_true c9
     clear c9
     by_cases c10 : x15_1 < (l0.length : Int)
     case neg => rw [if_neg c10] at H; exact absurd H (by simp)
     rw [if_pos c10] at H
     have c10b0 : decide (x15_1 < (l0.length : Int)) = true := decide_eq_true c10
     clear c10
     obtain ⟨ji11, hji11⟩ : ∃ j_ : Int, (wrap64 (x15_1 + 18)) = j_ := ⟨_, rfl⟩
     replace H : (if 0 ≤ (ji11) then (if (ji11) < (l0.length : Int) then (if 0 ≤ (wrap64 (x15_1 + 36)) then (if (wrap64 (x15_1 + 36)) < (l0.length : Int) then ((impl_Weight.f k1 (([rd l0 x15_1, rd l0 (ji11), rd l0 (wrap64 (x15_1 + 36))] : List Int))).bind fun t122 => (if t122 ≥ 2 then (if x15_1 < (x4_1.length : Int) then (impl_DecodeHeader.l0 k1 l0 (x4_1.set (x15_1 : Int).toNat 1) (y113.length : Int) (wrap64 (x15_1 + 1))) else (none)) else (impl_DecodeHeader.l0 k1 l0 x4_1 (y113.length : Int) (wrap64 (x15_1 + 1))))) else (none)) else (none)) else (none)) else (none)) = some (r1, r2, r3, r4) := by first | (rw [hji11] at H; exact H) | (simp only [hji11] at H ⊢; exact H)
     have hji11w : (IntKind.i64.wrap (x15_1 + 18)) = ji11 := (i64_w _).trans hji11
     by_cases c12 : 0 ≤ (ji11)
     case neg => rw [if_neg c12] at H; exact absurd H (by simp)
     rw [if_pos c12] at H
     have c12b0 : decide (0 ≤ (ji11)) = true := decide_eq_true c12
     clear c12
     by_cases c13 : (ji11) < (l0.length : Int)
     case neg => rw [if_neg c13] at H; exact absurd H (by simp)
     rw [if_pos c13] at H
     have c13b0 : decide ((ji11) < (l0.length : Int)) = true := decide_eq_true c13
     clear c13
     obtain ⟨ji14, hji14⟩ : ∃ j_ : Int, (wrap64 (x15_1 + 36)) = j_ := ⟨_, rfl⟩
     replace H : (if 0 ≤ (ji14) then (if (ji14) < (l0.length : Int) then ((impl_Weight.f k1 (([rd l0 x15_1, rd l0 (ji11), rd l0 (ji14)] : List Int))).bind fun t122 => (if t122 ≥ 2 then (if x15_1 < (x4_1.length : Int) then (impl_DecodeHeader.l0 k1 l0 (x4_1.set (x15_1 : Int).toNat 1) (y113.length : Int) (wrap64 (x15_1 + 1))) else (none)) else (impl_DecodeHeader.l0 k1 l0 x4_1 (y113.length : Int) (wrap64 (x15_1 + 1))))) else (none)) else (none)) = some (r1, r2, r3, r4) := by first | (rw [hji14] at H; exact H) | (simp only [hji14] at H ⊢; exact H)
     have hji14w : (IntKind.i64.wrap (x15_1 + 36)) = ji14 := (i64_w _).trans hji14
     by_cases c15 : 0 ≤ (ji14)
     case neg => rw [if_neg c15] at H; exact absurd H (by simp)
     rw [if_pos c15] at H
     have c15b0 : decide (0 ≤ (ji14)) = true := decide_eq_true c15
     clear c15
     by_cases c16 : (ji14) < (l0.length : Int)
     case neg => rw [if_neg c16] at H; exact absurd H (by simp)
     rw [if_pos c16] at H
     have c16b0 : decide ((ji14) < (l0.length : Int)) = true := decide_eq_true c16
     clear c16
     obtain ⟨y119, hy119⟩ : ∃ y_ : List Int, y_ = (([rd l0 x15_1, rd l0 (ji11), rd l0 (ji14)] : List Int)) := ⟨_, rfl⟩
     replace H : ((impl_Weight.f k1 y119).bind fun t122 => (if t122 ≥ 2 then (if x15_1 < (x4_1.length : Int) then (impl_DecodeHeader.l0 k1 l0 (x4_1.set (x15_1 : Int).toNat 1) (y113.length : Int) (wrap64 (x15_1 + 1))) else (none)) else (impl_DecodeHeader.l0 k1 l0 x4_1 (y113.length : Int) (wrap64 (x15_1 + 1))))) = some (r1, r2, r3, r4) := by first | (rw [hy119]; exact H) | exact H
     have Ny119 := zO hy119
     clear hy119
     replace H := yE.mp H
     obtain ⟨t122, A170, H⟩ := H
     replace H : (if t122 ≥ 2 then (if x15_1 < (x4_1.length : Int) then (impl_DecodeHeader.l0 k1 l0 (x4_1.set (x15_1 : Int).toNat 1) (y113.length : Int) (wrap64 (x15_1 + 1))) else (none)) else (impl_DecodeHeader.l0 k1 l0 x4_1 (y113.length : Int) (wrap64 (x15_1 + 1)))) = some (r1, r2, r3, r4) := H
     have A17 := zO A170
     clear A170
     have HH_ := zO H
     clear H
     (try rw [hl4_1] at c8b0)
     try go_wp2
     have n0_ := zO (zV HO_4.out)
     have n1_ := zO (zI BK112.out)
     have n2_ := zO (zB HB.out)
     clear HO_4
     clear BK112
     clear HB
     have HO_4 := n0_
     have BK112 := n1_
     have HB := n2_
     clear n0_ n1_ n2_
     have p116 : 0 ≤ (x15_1 : Int) := yO (by assumption)
     have q116 : x15_1 < (l0.length : Int) := yO (by assumption)
     obtain ⟨ad116, e116, hx116_0⟩ := Kd.at_int HR0.out x15_1 p116 q116
     have hw116_0 := hx116_0
     cases e116
     replace hx116_0 := (HB.out.cell (World.block_lt_of_cell? w _ hx116_0)).trans hx116_0
     replace p116 := eq_true p116
     replace q116 := eq_true q116
     have p117 : 0 ≤ ((ji11) : Int) := yO (by assumption)
     have q117 : (ji11) < (l0.length : Int) := yO (by assumption)
     obtain ⟨ad117, e117, hx117_0⟩ := Kd.at_int HR0.out (ji11) p117 q117
     have hw117_0 := hx117_0
     obtain rfl : ad116 = ad117 := (by injection e117)
     replace hx117_0 := (HB.out.cell (World.block_lt_of_cell? w _ hx117_0)).trans hx117_0
     replace p117 := eq_true p117
     replace q117 := eq_true q117
     have p118 : 0 ≤ ((ji14) : Int) := yO (by assumption)
     have q118 : (ji14) < (l0.length : Int) := yO (by assumption)
     obtain ⟨ad118, e118, hx118_0⟩ := Kd.at_int HR0.out (ji14) p118 q118
     have hw118_0 := hx118_0
     obtain rfl : ad116 = ad118 := (by injection e118)
     replace hx118_0 := (HB.out.cell (World.block_lt_of_cell? w _ hx118_0)).trans hx118_0
     replace p118 := eq_true p118
     replace q118 := eq_true q118
     refine start_ (n := 16) (S := fun w' => w'.cell? (ad116.add (x15_1).toNat) = some (.int .i64 (rd l0 x15_1)) ∧ w'.cell? (ad116.add ((ji11)).toNat) = some (.int .i64 (rd l0 (ji11))) ∧ w'.cell? (ad116.add ((ji14)).toNat) = some (.int .i64 (rd l0 (ji14)))) (ds := []) #[false, false, false, false, false, false, false, false, false, false, false, false, false, false, false, false] (by kernel_rfl) rfl rfl ⟨((HB.out.cell (World.block_lt_of_cell? w _ hw116_0)).trans hw116_0), ((HB.out.cell (World.block_lt_of_cell? w _ hw117_0)).trans hw117_0), ((HB.out.cell (World.block_lt_of_cell? w _ hw118_0)).trans hw118_0)⟩ (fun hHeld => ?_); refine with_tabW impl_DecodeHeader.tab7 impl_DecodeHeader.bits7 (fun HT_ HW_ => ?_)
     generalize wr.drew = w21 at HO_4 BK112 HB hx116_0 hx117_0 hx118_0 hHeld ⊢
     refine pure_ (i := 0) (N := some 18) (v := ?_) (a' := ?_) #[true, false, false, false, false, false, false, false, false, false, false, false, false, false, false, false] rfl rfl (any_of HT_.out (by kernel_rfl)) (fun _ _ _ h => h) (Or.inl ⟨by rfl, ?_⟩) ?_ ?_; rotate_left
     ·intro w'; go_simp; with_reducible rfl
     rotate_left
     ·simp only [Act.put, yF, yG, yH, i64_w, i32_w]; rfl
     refine pure_ (i := 1) (N := some 19) (v := ?_) (a' := ?_) #[true, true, false, false, false, false, false, false, false, false, false, false, false, false, false, false] rfl rfl (any_of HT_.out (by kernel_rfl)) (fun _ _ _ h => h) (Or.inl ⟨by rfl, ?_⟩) ?_ ?_; rotate_left
     ·intro w'; go_simp; with_reducible rfl
     rotate_left
     ·simp only [Act.put, yF, yG, yH, i64_w, i32_w]; rfl
     refine pure_ (i := 2) (N := some 20) (v := ?_) (a' := ?_) #[true, true, true, false, false, false, false, false, false, false, false, false, false, false, false, false] rfl rfl (any_of HT_.out (by kernel_rfl)) (fun _ _ _ h => h) (Or.inl ⟨by rfl, ?_⟩) ?_ ?_; rotate_left
     ·intro w'; go_simp; with_reducible rfl
     rotate_left
     ·simp only [Act.put, yF, yG, yH, i64_w, i32_w]; rfl
     refine pure_ (i := 4) (N := some 22) (v := ?_) (a' := ?_) #[true, true, true, false, true, false, false, false, false, false, false, false, false, false, false, false] rfl rfl (any_of HT_.out (by kernel_rfl)) (fun _ _ _ h => h) (Or.inl ⟨by rfl, ?_⟩) ?_ ?_; rotate_left
     ·intro w'; go_simp; with_reducible rfl
     rotate_left
     ·simp only [Act.put, yF, yG, yH, i64_w, i32_w]; rfl
     refine pure_ (i := 5) (N := some 23) (v := ?_) (a' := ?_) #[true, true, true, false, true, true, false, false, false, false, false, false, false, false, false, false] rfl rfl (any_of HT_.out (by kernel_rfl)) (fun _ _ _ h => h) (Or.inl ⟨by rfl, ?_⟩) ?_ ?_; rotate_left
     ·intro w'; go_simp; with_reducible rfl
     rotate_left
     ·simp only [Act.put, yF, yG, yH, i64_w, i32_w]; rfl
     refine pure_ (i := 6) (N := some 24) (v := ?_) (a' := ?_) #[true, true, true, false, true, true, true, false, false, false, false, false, false, false, false, false] rfl rfl (any_of HT_.out (by kernel_rfl)) (fun _ _ _ h => h) (Or.inl ⟨by rfl, ?_⟩) ?_ ?_; rotate_left
     ·intro w'; go_simp; with_reducible rfl
     rotate_left
     ·simp only [Act.put, yF, yG, yH, i64_w, i32_w]; rfl
     refine pure_ (i := 7) (N := some 25) (v := ?_) (a' := ?_) #[true, true, true, false, true, true, true, true, false, false, false, false, false, false, false, false] rfl rfl (any_of HT_.out (by kernel_rfl)) (fun _ _ _ h => h) (Or.inl ⟨by rfl, ?_⟩) ?_ ?_; rotate_left
     ·intro w'; go_simp; with_reducible rfl
     rotate_left
     ·simp only [Act.put, yF, yG, yH, i64_w, i32_w]; rfl
     refine pure_ (i := 9) (N := some 27) (v := ?_) (a' := ?_) #[true, true, true, false, true, true, true, true, false, true, false, false, false, false, false, false] rfl rfl (any_of HT_.out (by kernel_rfl)) (fun _ _ _ h => h) (Or.inl ⟨by rfl, ?_⟩) ?_ ?_; rotate_left
     ·intro w'; go_simp; with_reducible rfl
     rotate_left
     ·simp only [Act.put, yF, yG, yH, i64_w, i32_w]; rfl
     refine pure_ (i := 10) (N := some 28) (v := ?_) (a' := ?_) #[true, true, true, false, true, true, true, true, false, true, true, false, false, false, false, false] rfl rfl (any_of HT_.out (by kernel_rfl)) (fun _ _ _ h => h) (Or.inl ⟨by rfl, ?_⟩) ?_ ?_; rotate_left
     ·intro w'; go_simp; with_reducible rfl
     rotate_left
     ·simp only [Act.put, yF, yG, yH, i64_w, i32_w]; rfl
     refine pure_ (i := 11) (N := some 29) (v := ?_) (a' := ?_) #[true, true, true, false, true, true, true, true, false, true, true, true, false, false, false, false] rfl rfl (any_of HT_.out (by kernel_rfl)) (fun _ _ _ h => h) (Or.inl ⟨by rfl, ?_⟩) ?_ ?_; rotate_left
     ·intro w'; go_simp; with_reducible rfl
     rotate_left
     ·simp only [Act.put, yF, yG, yH, i64_w, i32_w]; rfl
     refine pure_ (i := 12) (N := some 30) (v := ?_) (a' := ?_) #[true, true, true, false, true, true, true, true, false, true, true, true, true, false, false, false] rfl rfl (any_of HT_.out (by kernel_rfl)) (fun _ _ _ h => h) (Or.inl ⟨by rfl, ?_⟩) ?_ ?_; rotate_left
     ·intro w'; go_simp; with_reducible rfl
     rotate_left
     ·simp only [Act.put, yF, yG, yH, i64_w, i32_w]; rfl
     refine take_ (i := 3) (N := some 21) (v := ?_) (a' := ?_) #[true, true, true, true, true, true, true, true, false, true, true, true, true, false, false, false] rfl rfl (take_ofW HT_.out HW_.out (by kernel_rfl)) (fun _ _ _ h => h) (Or.inl ⟨by rfl, ?_⟩) hHeld ?_ ?_; rotate_left
     ·rintro w' ⟨s0, s1, s2⟩; go_simp; with_reducible rfl
     rotate_left
     ·simp only [Act.put, yF, yG, yH, i64_w, i32_w]; rfl
     refine take_ (i := 8) (N := some 26) (v := ?_) (a' := ?_) #[true, true, true, true, true, true, true, true, true, true, true, true, true, false, false, false] rfl rfl (take_ofW HT_.out HW_.out (by kernel_rfl)) (fun _ _ _ h => h) (Or.inl ⟨by rfl, ?_⟩) hHeld ?_ ?_; rotate_left
     ·rintro w' ⟨s0, s1, s2⟩; go_simp; with_reducible rfl
     rotate_left
     ·simp only [Act.put, yF, yG, yH, i64_w, i32_w]; rfl
     refine take_ (i := 13) (N := some 31) (v := ?_) (a' := ?_) #[true, true, true, true, true, true, true, true, true, true, true, true, true, true, false, false] rfl rfl (take_ofW HT_.out HW_.out (by kernel_rfl)) (fun _ _ _ h => h) (Or.inl ⟨by rfl, ?_⟩) hHeld ?_ ?_; rotate_left
     ·rintro w' ⟨s0, s1, s2⟩; go_simp; with_reducible rfl
     rotate_left
     ·simp only [Act.put, yF, yG, yH, i64_w, i32_w]; rfl
     refine one_ (i := 14) (N := some 32) #[true, true, true, true, true, true, true, true, true, true, true, true, true, true, true, false] rfl rfl (one_of HT_.out (by kernel_rfl)) (by decide) (fun K hK => ?_)
     refine Kd.R_lit_step (Kd.int .i64) _ 3 ?hg (N := 32) ?hd (xs := ([rd l0 x15_1, rd l0 (ji11), rd l0 (ji14)] : List Int)) (inner := [.int .i64 (rd l0 x15_1), .int .i64 (rd l0 (ji11)), .int .i64 (rd l0 (ji14))]) (ok := fun _ => True) (okp := fun _ => True) ?hr ?hp (fun _ hk => hk) trivial (Below.refl _ _) (Nat.le_refl _) (by simp) ?_; (case hd => rfl); (case hg => rfl); (case hr => first | (go_simp; done) | (go_simp; rfl)); (case hp => exact (Reps.one (show Kd.M (Kd.int .i64) _ _ _ (rd l0 x15_1) [.int .i64 (rd l0 x15_1)] from rfl) (Reps.one (show Kd.M (Kd.int .i64) _ _ _ (rd l0 (ji11)) [.int .i64 (rd l0 (ji11))] from rfl) (Reps.one (show Kd.M (Kd.int .i64) _ _ _ (rd l0 (ji14)) [.int .i64 (rd l0 (ji14))] from rfl) (Reps.none _ _)))))
     intro v120 w22 ho23 hb hg_ hnew_
     clear hg_ hnew_
     (first | rw [← Ny119.out] at ho23 | (simp only [Int.reduceToNat] at ho23; rw [← Ny119.out] at ho23))
     have n0_ := zO (Kd.R_elder' (by (with_reducible repeat (first | apply zU | apply zW | apply zV)); exact HO_4.out) (Kd.R_base ho23) hb)
     have n1_ := zO (yA (Kd.R_new' ho23 (Kd.R_lt (by (with_reducible repeat (first | apply zU | apply zW | apply zV)); exact HO_4.out))) (zD (by repeat (first | (with_reducible first | exact HB.out | apply zA | apply zL | apply zB | refine zC ?_ GE112.out) | exact HB.out))))
     have n2_ := zO (zG (g := gb112) (o := .cells #[.int .i64 0, .int .i64 0, .int .i64 0] 24 (0, 0)) (by (with_reducible repeat (first | refine zJ ?_ _ | refine zI ?_ | refine zF ?_ _)); exact BK112.out) hb)
     have n3_ := zO (zE (by repeat (first | (with_reducible first | exact HB.out | apply zA | apply zL | apply zB | refine zC ?_ GE112.out) | exact HB.out)) hb)
     clear HO_4
     clear BK112
     clear HB
     have HO_4 := n0_
     have HO121 := n1_
     have BK112 := n2_
     have HB := n3_
     clear n0_ n1_ n2_ n3_
     clear hb ho23
     refine hK.out _ _ ⟨((HB.out.cell (World.block_lt_of_cell? w _ hw116_0)).trans hw116_0), ((HB.out.cell (World.block_lt_of_cell? w _ hw117_0)).trans hw117_0), ((HB.out.cell (World.block_lt_of_cell? w _ hw118_0)).trans hw118_0)⟩ (fun hHeld => ?_)
     clear hK K
     refine norm_ (a' := ?_) ?_ ?_; rotate_left
     ·show Act.put _ (some 32) _ = _; simp only [Act.put, yF, yG, yH, i64_w, i32_w]; rfl
     refine pure_ (i := 15) (N := some 6) (v := ?_) (a' := ?_) #[true, true, true, true, true, true, true, true, true, true, true, true, true, true, true, true] rfl rfl (any_of HT_.out (by kernel_rfl)) (fun _ _ _ h => h) (Or.inl ⟨by rfl, ?_⟩) ?_ ?_; rotate_left
     ·intro w'; go_simp; with_reducible rfl
     rotate_left
     ·simp only [Act.put, yF, yG, yH, i64_w, i32_w]; rfl
     refine done_ (done_of HT_.out (by kernel_rfl)) ?_
     have H := HH_.out
     clear HH_
     by_cases c18 : t122 ≥ 2
     ·rw [if_pos c18] at H
      have c18b0 : decide (2 ≤ t122) = true := decide_eq_true c18
      (first | rw [c18b0] | skip)
      clear c18
      by_cases c19 : x15_1 < (x4_1.length : Int)
      case neg => rw [if_neg c19] at H; exact absurd H (by simp)
      rw [if_pos c19] at H
      have c19b0 : decide (x15_1 < (x4_1.length : Int)) = true := decide_eq_true c19
      clear c19
      obtain ⟨y123, hy123⟩ : ∃ y_ : List Int, y_ = (x4_1.set (x15_1 : Int).toNat 1) := ⟨_, rfl⟩
      replace H : (impl_DecodeHeader.l0 k1 l0 y123 (y113.length : Int) (wrap64 (x15_1 + 1))) = some (r1, r2, r3, r4) := by first | (rw [hy123]; exact H) | exact H
      have Ny123 := zO hy123
      clear hy123
      have H' := zO H
      clear H
      obtain ⟨Ao24, co24, eo24⟩ := Kd.R_slice HO121.out
      subst eo24
      try go_wp2_with (first | ((with_reducible refine zM (f := 72) rfl ?_); refine goesL_ (some 34) rfl rfl Try.func72 (by kernel_rfl) rfl #[.slice Ao24 y119.length co24] rfl (by (try simp only [yK, yL, yM]); first | done | rfl | (simp only [yJ, yI]; rfl)) ?_; (with_reducible refine (impl_Weight.calls k1 _ _ y119 t122 _ ?side1 ?side2 A17.out).mono ?_); (case side1 => repeat (first | exact (zX HO121.out).2.2 | (with_reducible refine zR ?_ _) | (with_reducible refine zT ?_ _) | (with_reducible refine zS ?_))); (case side2 => exact (zX HO121.out).2.1); rintro e w' ⟨rfl, ⟨nd, rfl⟩⟩; refine ⟨_, rfl, ?_⟩; (try (rw [drewN_self w22]; generalize hq_ : World.drewN w22 _ = w22; have n0_ : Aside0 (Kd.R (Kd.int .i64) 3 w22 w.heap.size (fun k_ => True ∧ some k_ ≠ (.slice Ao7 x4_1.length co7 : Value).ownBlock) (.slice Ao24 y119.length co24) y119) := ⟨by rw [← hq_]; exact (by (with_reducible repeat (first | apply zU | apply zW | apply zV)); exact Kd.R_mono HO121.out (fun _ hk => ⟨trivial, hk.2⟩))⟩; have n1_ : Aside0 (Kd.R (Kd.int .i64) 3 w22 w.heap.size (fun k_ => True ∧ some k_ ≠ (.slice Ao24 y119.length co24 : Value).ownBlock) (.slice Ao7 x4_1.length co7) x4_1) := ⟨by rw [← hq_]; exact (by (with_reducible repeat (first | apply zU | apply zW | apply zV)); exact Kd.R_mono HO_4.out (fun _ hk => ⟨trivial, hk.2⟩))⟩; have n2_ : Aside0 (w22.heap[gb112]? = some (.cells #[.int .i64 0, .int .i64 0, .int .i64 0] 24 (0, 0))) := ⟨by rw [← hq_]; exact (by (with_reducible repeat (first | refine zJ ?_ _ | refine zI ?_ | refine zF ?_ _)); exact BK112.out)⟩; have n3_ : Aside0 (Below w.heap.size w w22) := ⟨by rw [← hq_]; exact (by repeat (first | (with_reducible first | exact HB.out | apply zA | apply zL | apply zB | refine zC ?_ GE112.out) | exact HB.out))⟩; clear HO121 HO_4 BK112 HB hq_; have HO121 := n0_; have HO_4 := n1_; have BK112 := n2_; have HB := n3_; clear n0_ n1_ n2_ n3_)); have p20 : 0 ≤ (x15_1 : Int) := yO (by assumption); have q20 : (x15_1 : Int) < ((x4_1.length : Int) : Int) := yO (by assumption); obtain ⟨go20, co20, eo20, gb20, gl20, cl20, HG20⟩ := Kd.R_form HO_4.out (by omega); (first | cases eo20 | (injection eo20 with ea_ en_ ec_; (first | subst ea_ | (injection ea_ with ea_; subst ea_)); subst ec_; clear en_)); have GB20 := zO gb20; have GG20 := zO HG20; clear gb20 gl20 HG20; obtain ⟨hx20_0, hf20_0⟩ := Kd.R_celln 0 HO_4.out (x15_1 : Int) p20 q20; replace p20 := eq_true p20; replace q20 := eq_true q20; have n_ := zO (Kd.R_mono (ok' := (fun k_ => some k_ ≠ (.slice Ao24 y119.length co24 : Value).ownBlock)) HO_4.out (fun k_ hk => hk.2)); clear HO_4; have HO_4 := n_; clear n_; obtain ⟨hy25_, hz25_⟩ := Kd.R_celln 0 HO_4.out (x15_1 : Int) (yO (by assumption)) (yO (by assumption)); have HP25 := Kd.R_putg HO_4.out (x15_1 : Int) 1) | ((with_reducible refine gate_store (t := 3) (p := 38) rfl ?_); refine store_event (t := 3) (p := 38) (v := ?vo_w26) (w1 := (w22.setCell ⟨go20, (x15_1 : Int).toNat, none⟩ (.int .i64 1))) ?hg ?ho ?hn ?hr ?_; (case ho => rfl); (case hg => rfl); (case hn => rfl); (case hr => first | (go_simp; done) | (go_simp; rfl)); intro w26 hw; have hg : w22.grownBy w26 (some go20) := (by rw [hw]; exact HP25.2); have hp_ : Kd.R (Kd.int .i64) 3 w26 w.heap.size (fun k_ => some k_ ≠ (.slice Ao24 y119.length co24 : Value).ownBlock) (.slice (some ⟨go20, 0, none⟩) x4_1.length co7) y123 := (by rw [hw, Ny123.out]; exact HP25.1); clear HP25; have n0_ := zO (hp_); have n1_ := zO (blk_grown (g := gb112) (o := .cells #[.int .i64 0, .int .i64 0, .int .i64 0] 24 (0, 0)) (by (with_reducible repeat (first | refine zJ ?_ _ | refine zI ?_ | refine zF ?_ _)); exact BK112.out) hg (Kd.R_ne HO_4.out BK112.out (by decide))); have n2_ := zO (Kd.R_after (v := (.slice (some ⟨go20, 0, none⟩) x4_1.length co7)) (v1 := (.slice (some ⟨go20, 0, none⟩) x4_1.length co7)) (ok := (fun _ => True)) (by (with_reducible repeat (first | apply zU | apply zW | apply zV)); exact HO121.out) hg (.inl rfl)); have n3_ := zO ((by rw [hw]; exact zC (HB.out) GB20.out : Below w.heap.size w w26)); clear HO_4; clear BK112; clear HO121; clear HB; have HO_4 := n0_; have BK112 := n1_; have HO121 := n2_; have HB := n3_; clear n0_ n1_ n2_ n3_; clear hg hw hp_))
      (try simp only [← hl4_1])
      go_roundg k1
      case measure => have := HK1.out; omega
      case rel => exact ⟨(y123), (wrap64 (x15_1 + 1)), (by first | rfl | (simp; done) | (simp [*]; done)), H', ⟨by have := HK1.out; omega⟩, ⟨by (try simp only [hl4_1]); (with_reducible repeat (first | apply zU | apply zW | apply zV)); exact Kd.R_mono HO_4.out (fun _ hk => trivial)⟩, ⟨by (try simp only [hl4_1]); (with_reducible repeat (first | refine zJ ?_ _ | refine zI ?_ | refine zF ?_ _)); exact BK112.out⟩, ⟨by repeat (first | (with_reducible first | exact HB.out | apply zA | apply zL | apply zB | refine zC ?_ GE112.out) | exact HB.out)⟩⟩
     ·rw [if_neg c18] at H
      have c18b0 : decide (2 ≤ t122) = false := decide_eq_false c18
      (first | rw [c18b0] | skip)
      clear c18
      (try rw [hl4_1] at c8b0)
      have H' := zO H
      clear H
      obtain ⟨Ao30, co30, eo30⟩ := Kd.R_slice HO121.out
      subst eo30
      try go_wp2_with (first | ((with_reducible refine zM (f := 72) rfl ?_); refine goesL_ (some 34) rfl rfl Try.func72 (by kernel_rfl) rfl #[.slice Ao30 y119.length co30] rfl (by (try simp only [yK, yL, yM]); first | done | rfl | (simp only [yJ, yI]; rfl)) ?_; (with_reducible refine (impl_Weight.calls k1 _ _ y119 t122 _ ?side1 ?side2 A17.out).mono ?_); (case side1 => repeat (first | exact (zX HO121.out).2.2 | (with_reducible refine zR ?_ _) | (with_reducible refine zT ?_ _) | (with_reducible refine zS ?_))); (case side2 => exact (zX HO121.out).2.1); rintro e w' ⟨rfl, ⟨nd, rfl⟩⟩; refine ⟨_, rfl, ?_⟩))
      (try simp only [← hl4_1])
      go_roundg k1
      case measure => have := HK1.out; omega
      case rel => exact ⟨(x4_1), (wrap64 (x15_1 + 1)), (by first | rfl | (simp; done) | (simp [*]; done)), H', ⟨by have := HK1.out; omega⟩, ⟨by (try simp only [hl4_1]); (with_reducible repeat (first | apply zU | apply zW | apply zV)); exact Kd.R_mono HO_4.out (fun _ hk => trivial)⟩, ⟨by (try simp only [hl4_1]); (with_reducible repeat (first | refine zJ ?_ _ | refine zI ?_ | refine zF ?_ _)); exact BK112.out⟩, ⟨by repeat (first | (with_reducible first | exact HB.out | apply zA | apply zL | apply zB | refine zC ?_ GE112.out) | exact HB.out)⟩⟩
    ·rw [if_neg c8] at H
     have c8b0 : decide (x15_1 < (y113.length : Int)) = false := decide_eq_false c8
     clear c8
     (try rw [hl4_1] at c8b0)
     by_cases c31 : 2 ≤ (x4_1.length : Int)
     case neg => rw [if_neg c31] at H; exact absurd H (by simp)
     rw [if_pos c31] at H
     have c31b0 := eq_true c31
     have c31b1 : decide (2 ≤ (x4_1.length : Int)) = true := decide_eq_true c31
     clear c31
     obtain ⟨y124, hy124⟩ : ∃ y_ : List Int, y_ = (x4_1.take 2) := ⟨_, rfl⟩
     replace H : ((impl_BitsToInt.f k1 y124).bind fun t128 => (if 2 ≤ 10 then (if 10 ≤ (x4_1.length : Int) then ((impl_BitsToInt.f k1 ((x4_1.take 10).drop 2)).bind fun t133 => (if 10 ≤ 17 then (if 17 ≤ (x4_1.length : Int) then ((impl_BitsToInt.f k1 ((x4_1.take 17).drop 10)).bind fun t138 => ((impl_Parity.f k1 x4_1).bind fun t140 => (if t140 = 0 then ((impl_IsValidHeader.f t128 t133 t138).bind fun t141 => (if t141 = true then (some (t128, t133, t138, true)) else (some (0, 0, 0, false)))) else (some (0, 0, 0, false))))) else (none)) else (none))) else (none)) else (none))) = some (r1, r2, r3, r4) := by first | (rw [hy124]; exact H) | exact H
     have Ny124 := zO hy124
     clear hy124
     replace H := yE.mp H
     obtain ⟨t128, A320, H⟩ := H
     replace H : (if 2 ≤ 10 then (if 10 ≤ (x4_1.length : Int) then ((impl_BitsToInt.f k1 ((x4_1.take 10).drop 2)).bind fun t133 => (if 10 ≤ 17 then (if 17 ≤ (x4_1.length : Int) then ((impl_BitsToInt.f k1 ((x4_1.take 17).drop 10)).bind fun t138 => ((impl_Parity.f k1 x4_1).bind fun t140 => (if t140 = 0 then ((impl_IsValidHeader.f t128 t133 t138).bind fun t141 => (if t141 = true then (some (t128, t133, t138, true)) else (some (0, 0, 0, false)))) else (some (0, 0, 0, false))))) else (none)) else (none))) else (none)) else (none)) = some (r1, r2, r3, r4) := H
     have A32 := zO A320
     clear A320
     by_cases c33 : 2 ≤ 10
     case neg => rw [if_neg c33] at H; exact absurd H (by simp)
     rw [if_pos c33] at H
     have c33b0 := eq_true c33
     have c33b1 : decide (2 ≤ 10) = true := decide_eq_true c33
     clear c33
     by_cases c34 : 10 ≤ (x4_1.length : Int)
     case neg => rw [if_neg c34] at H; exact absurd H (by simp)
     rw [if_pos c34] at H
     have c34b0 := eq_true c34
     have c34b1 : decide (10 ≤ (x4_1.length : Int)) = true := decide_eq_true c34
     clear c34
     obtain ⟨y129, hy129⟩ : ∃ y_ : List Int, y_ = ((x4_1.take 10).drop 2) := ⟨_, rfl⟩
     replace H : ((impl_BitsToInt.f k1 y129).bind fun t133 => (if 10 ≤ 17 then (if 17 ≤ (x4_1.length : Int) then ((impl_BitsToInt.f k1 ((x4_1.take 17).drop 10)).bind fun t138 => ((impl_Parity.f k1 x4_1).bind fun t140 => (if t140 = 0 then ((impl_IsValidHeader.f t128 t133 t138).bind fun t141 => (if t141 = true then (some (t128, t133, t138, true)) else (some (0, 0, 0, false)))) else (some (0, 0, 0, false))))) else (none)) else (none))) = some (r1, r2, r3, r4) := by first | (rw [hy129]; exact H) | exact H
     have Ny129 := zO hy129
     clear hy129
     replace H := yE.mp H
     obtain ⟨t133, A350, H⟩ := H
     replace H : (if 10 ≤ 17 then (if 17 ≤ (x4_1.length : Int) then ((impl_BitsToInt.f k1 ((x4_1.take 17).drop 10)).bind fun t138 => ((impl_Parity.f k1 x4_1).bind fun t140 => (if t140 = 0 then ((impl_IsValidHeader.f t128 t133 t138).bind fun t141 => (if t141 = true then (some (t128, t133, t138, true)) else (some (0, 0, 0, false)))) else (some (0, 0, 0, false))))) else (none)) else (none)) = some (r1, r2, r3, r4) := H
     have A35 := zO A350
     clear A350
     by_cases c36 : 10 ≤ 17
     case neg => rw [if_neg c36] at H; exact absurd H (by simp)
     rw [if_pos c36] at H
     have c36b0 := eq_true c36
     have c36b1 : decide (10 ≤ 17) = true := decide_eq_true c36
     clear c36
     by_cases c37 : 17 ≤ (x4_1.length : Int)
     case neg => rw [if_neg c37] at H; exact absurd H (by simp)
     rw [if_pos c37] at H
     have c37b0 := eq_true c37
     have c37b1 : decide (17 ≤ (x4_1.length : Int)) = true := decide_eq_true c37
     clear c37
     obtain ⟨y134, hy134⟩ : ∃ y_ : List Int, y_ = ((x4_1.take 17).drop 10) := ⟨_, rfl⟩
     replace H : ((impl_BitsToInt.f k1 y134).bind fun t138 => ((impl_Parity.f k1 x4_1).bind fun t140 => (if t140 = 0 then ((impl_IsValidHeader.f t128 t133 t138).bind fun t141 => (if t141 = true then (some (t128, t133, t138, true)) else (some (0, 0, 0, false)))) else (some (0, 0, 0, false))))) = some (r1, r2, r3, r4) := by first | (rw [hy134]; exact H) | exact H
     have Ny134 := zO hy134
     clear hy134
     replace H := yE.mp H
     obtain ⟨t138, A380, H⟩ := H
     replace H : ((impl_Parity.f k1 x4_1).bind fun t140 => (if t140 = 0 then ((impl_IsValidHeader.f t128 t133 t138).bind fun t141 => (if t141 = true then (some (t128, t133, t138, true)) else (some (0, 0, 0, false)))) else (some (0, 0, 0, false)))) = some (r1, r2, r3, r4) := H
     have A38 := zO A380
     clear A380
     replace H := yE.mp H
     obtain ⟨t140, A390, H⟩ := H
     replace H : (if t140 = 0 then ((impl_IsValidHeader.f t128 t133 t138).bind fun t141 => (if t141 = true then (some (t128, t133, t138, true)) else (some (0, 0, 0, false)))) else (some (0, 0, 0, false))) = some (r1, r2, r3, r4) := H
     have A39 := zO A390
     clear A390
     have HH_ := zO H
     clear H
     (try rw [hl4_1] at c8b0)
     try go_wp2
     have n0_ := zO (zV HO_4.out)
     have n1_ := zO (zI BK112.out)
     have n2_ := zO (zB HB.out)
     clear HO_4
     clear BK112
     clear HB
     have HO_4 := n0_
     have BK112 := n1_
     have HB := n2_
     clear n0_ n1_ n2_
     have q44 : (2 : Int) ≤ ((x4_1.length : Int) : Int) := yO (by assumption)
     obtain ⟨i044, hi044, _, hsz44, _⟩ := info_parts info3
     have hroom44 : x4_1.length ≤ co7 := (zX HO_4.out).2.1
     have hC44 : Kd.C (Kd.int .i64) _ Ao7 x4_1.length x4_1 := (zX HO_4.out).2.2
     have hcut44 := cut_to (P := Try.prog) 22 3 .i64 Try.underlying22 hi044 Ao7 x4_1.length co7 2 (by omega) q44 hroom44
     have hr44 := Kd.C_take (m := 2) hC44 (by omega)
     have hy44 : y124.length = (2 : Int).toNat := (by rw [Ny124.out, yI]; omega)
     rw [← Ny124.out] at hr44
     rw [← hy44] at hcut44
     have HR127 := zO hr44
     have HC127 := zO (show y124.length ≤ co7 from by omega)
     clear hr44 hC44 hroom44 hi044 hsz44
     have KY44 := zO hy44
     clear hy44
     have KL44 := zO (show 2 ≤ x4_1.length from by omega)
     replace q44 := eq_true q44
     have q45 : (10 : Int) ≤ ((x4_1.length : Int) : Int) := yO (by assumption)
     obtain ⟨i045, hi045, _, hsz45, _⟩ := info_parts info3
     have hroom45 : x4_1.length ≤ co7 := (zX HO_4.out).2.1
     have hC45 : Kd.C (Kd.int .i64) _ Ao7 x4_1.length x4_1 := (zX HO_4.out).2.2
     have ql45 : (2 : Int) ≤ (10 : Int) := (by omega)
     have hcut45 := cut_mid (P := Try.prog) 22 3 .i64 .i64 Try.underlying22 hi045 1 hsz45 Ao7 x4_1.length co7 2 10 (by omega) ql45 q45 hroom45
     have hr45 := Kd.C_mid (lo := (2 : Int).toNat) (hi := (10 : Int).toNat) (c := co7) hC45 (by omega) (by omega) hroom45
     obtain ⟨A45, hA45⟩ : ∃ A1, A1 = (if co7 = (2 : Int).toNat then Ao7 else (Ao7 : Option Addr).map (·.add ((2 : Int).toNat * 1))) := ⟨_, rfl⟩
     obtain ⟨c45, hc45⟩ : ∃ c1, c1 = co7 - (2 : Int).toNat := ⟨_, rfl⟩
     have hy45 : y129.length = (10 : Int).toNat - (2 : Int).toNat := (by rw [Ny129.out, yJ, yI] <;> omega)
     rw [show ((x4_1).take (10 : Int).toNat).drop (2 : Int).toNat = y129 from Ny129.out.symm] at hr45
     replace hr45 : Kd.C (Kd.int .i64) _ A45 y129.length y129 := (by rw [hA45]; exact hr45)
     rw [← hy45, ← hA45, ← hc45] at hcut45
     have HR132 := zO hr45
     have HC132 := zO (show y129.length ≤ c45 from by rw [hy45, hc45]; exact Nat.sub_le_sub_right (Nat.le_trans (by omega) hroom45) _)
     clear hr45 hC45 hroom45 hi045 hsz45 hc45
     have KY45 := zO hy45
     have KA45 := zO hA45
     clear hy45 hA45
     have KL45 := zO (show 10 ≤ x4_1.length from by omega)
     have KM45 := zO (show 2 ≤ 10 from by omega)
     replace q45 := eq_true q45
     have q46 : (17 : Int) ≤ ((x4_1.length : Int) : Int) := yO (by assumption)
     obtain ⟨i046, hi046, _, hsz46, _⟩ := info_parts info3
     have hroom46 : x4_1.length ≤ co7 := (zX HO_4.out).2.1
     have hC46 : Kd.C (Kd.int .i64) _ Ao7 x4_1.length x4_1 := (zX HO_4.out).2.2
     have ql46 : (10 : Int) ≤ (17 : Int) := (by omega)
     have hcut46 := cut_mid (P := Try.prog) 22 3 .i64 .i64 Try.underlying22 hi046 1 hsz46 Ao7 x4_1.length co7 10 17 (by omega) ql46 q46 hroom46
     have hr46 := Kd.C_mid (lo := (10 : Int).toNat) (hi := (17 : Int).toNat) (c := co7) hC46 (by omega) (by omega) hroom46
     obtain ⟨A46, hA46⟩ : ∃ A1, A1 = (if co7 = (10 : Int).toNat then Ao7 else (Ao7 : Option Addr).map (·.add ((10 : Int).toNat * 1))) := ⟨_, rfl⟩
     obtain ⟨c46, hc46⟩ : ∃ c1, c1 = co7 - (10 : Int).toNat := ⟨_, rfl⟩
     have hy46 : y134.length = (17 : Int).toNat - (10 : Int).toNat := (by rw [Ny134.out, yJ, yI] <;> omega)
     rw [show ((x4_1).take (17 : Int).toNat).drop (10 : Int).toNat = y134 from Ny134.out.symm] at hr46
     replace hr46 : Kd.C (Kd.int .i64) _ A46 y134.length y134 := (by rw [hA46]; exact hr46)
     rw [← hy46, ← hA46, ← hc46] at hcut46
     have HR137 := zO hr46
     have HC137 := zO (show y134.length ≤ c46 from by rw [hy46, hc46]; exact Nat.sub_le_sub_right (Nat.le_trans (by omega) hroom46) _)
     clear hr46 hC46 hroom46 hi046 hsz46 hc46
     have KY46 := zO hy46
     have KA46 := zO hA46
     clear hy46 hA46
     have KL46 := zO (show 17 ≤ x4_1.length from by omega)
     have KM46 := zO (show 10 ≤ 17 from by omega)
     replace q46 := eq_true q46
     refine start_ (n := 12) (S := fun w' => True) (ds := []) #[false, false, false, false, false, false, false, false, false, false, false, false] (by kernel_rfl) rfl rfl trivial (fun hHeld => ?_); refine with_tabW impl_DecodeHeader.tab11 impl_DecodeHeader.bits11 (fun HT_ HW_ => ?_)
     generalize wr.drew = w43 at HO_4 BK112 HB HR127 HR132 HR137 hHeld ⊢
     refine pure_ (i := 0) (N := some 40) (v := ?_) (a' := ?_) #[true, false, false, false, false, false, false, false, false, false, false, false] rfl rfl (any_of HT_.out (by kernel_rfl)) (fun _ _ _ h => h) (Or.inl ⟨by rfl, ?_⟩) ?_ ?_; rotate_left
     ·intro w'; go_simp; with_reducible rfl
     rotate_left
     ·simp only [Act.put, yF, yG, yH, i64_w, i32_w]; rfl
     refine pure_ (i := 1) (N := some 41) (v := ?_) (a' := ?_) #[true, true, false, false, false, false, false, false, false, false, false, false] rfl rfl (any_of HT_.out (by kernel_rfl)) (fun _ _ _ h => h) (Or.inl ⟨by rfl, ?_⟩) ?_ ?_; rotate_left
     ·intro w'; go_simp; with_reducible rfl
     rotate_left
     ·simp only [Act.put, yF, yG, yH, i64_w, i32_w]; rfl
     refine pure_ (i := 3) (N := some 43) (v := ?_) (a' := ?_) #[true, true, false, true, false, false, false, false, false, false, false, false] rfl rfl (any_of HT_.out (by kernel_rfl)) (fun _ _ _ h => h) (Or.inl ⟨by rfl, ?_⟩) ?_ ?_; rotate_left
     ·intro w'; go_simp; with_reducible rfl
     rotate_left
     ·simp only [Act.put, yF, yG, yH, i64_w, i32_w]; rfl
     refine pure_ (i := 4) (N := some 44) (v := ?_) (a' := ?_) #[true, true, false, true, true, false, false, false, false, false, false, false] rfl rfl (any_of HT_.out (by kernel_rfl)) (fun _ _ _ h => h) (Or.inl ⟨by rfl, ?_⟩) ?_ ?_; rotate_left
     ·intro w'; go_simp; with_reducible rfl
     rotate_left
     ·simp only [Act.put, yF, yG, yH, i64_w, i32_w]; rfl
     refine pure_ (i := 6) (N := some 46) (v := ?_) (a' := ?_) #[true, true, false, true, true, false, true, false, false, false, false, false] rfl rfl (any_of HT_.out (by kernel_rfl)) (fun _ _ _ h => h) (Or.inl ⟨by rfl, ?_⟩) ?_ ?_; rotate_left
     ·intro w'; go_simp; with_reducible rfl
     rotate_left
     ·simp only [Act.put, yF, yG, yH, i64_w, i32_w]; rfl
     refine pure_ (i := 7) (N := some 47) (v := ?_) (a' := ?_) #[true, true, false, true, true, false, true, true, false, false, false, false] rfl rfl (any_of HT_.out (by kernel_rfl)) (fun _ _ _ h => h) (Or.inl ⟨by rfl, ?_⟩) ?_ ?_; rotate_left
     ·intro w'; go_simp; with_reducible rfl
     rotate_left
     ·simp only [Act.put, yF, yG, yH, i64_w, i32_w]; rfl
     refine join_ (σ := Nat) 1 #[true, true, true, true, true, true, true, true, true, true, true, false] (fun s_ => [(42, .int .i64 t128), (45, .int .i64 t133), (48, .int .i64 t138), (7, .pointer (some ⟨s_, 0, none⟩)), (49, .agg #[.int .i64 t128, .int .i64 t133, .int .i64 t138])]) (fun s_ w' => (Kd.R (Kd.int .i64) 3 w' w.heap.size (fun _ => True) (.slice Ao7 x4_1.length co7) x4_1) ∧ (w'.heap[gb112]? = some (.cells #[.int .i64 0, .int .i64 0, .int .i64 0] 24 (0, 0))) ∧ (w'.heap[s_]? = some (.cells #[.int .i64 0, .int .i64 0, .int .i64 0] 24 (0, 0))) ∧ (w.heap.size ≤ s_) ∧ (w.heap.size ≤ s_) ∧ (gb112 ≠ s_) ∧ (s_ ≠ gb112) ∧ (Below w.heap.size w w')) ?_ ?_; rotate_left
     ·intro hCont
      refine two_ (i := 2) (j := 10) (Ni := some 42) (Nj := some 7) #[true, true, true, true, true, false, true, true, false, false, false, false] #[true, true, false, true, true, false, true, true, false, false, true, false] rfl rfl rfl rfl (two_of HT_.out (by kernel_rfl)) (by decide) (by decide) (fun K hK => ?_) (fun K hK => ?_)
      ·skip
       refine goes_ Try.func73 (by kernel_rfl) rfl #[.slice Ao7 y124.length co7] (by rfl) rfl rfl (by (try simp only [yK, yL, yM]); first | done | rfl | (simp only [yJ, yI]; rfl)) ?_
       with_reducible refine (impl_BitsToInt.calls k1 _ _ y124 t128 _ ?side1 ?side2 A32.out).mono ?_
       (case side1 => repeat (first | exact (by repeat (first | (with_reducible exact HR127.out) | (with_reducible refine zR ?_ _) | (with_reducible refine zT ?_ _) | (with_reducible refine zS ?_) | exact HR127.out)) | (with_reducible refine zR ?_ _) | (with_reducible refine zT ?_ _) | (with_reducible refine zS ?_)))
       (case side2 => exact HC127.out)
       rintro e w' ⟨rfl, ⟨nd, rfl⟩⟩
       refine ⟨_, rfl, ?_⟩
       refine hK.out _ _ trivial (fun hHeld => ?_)
       clear hK K
       refine norm_ (a' := ?_) ?_ ?_; rotate_left
       ·show Act.put _ (some 42) _ = _; simp only [Act.put, yF, yG, yH, i64_w, i32_w]; rfl
       refine two_ (i := 5) (j := 10) (Ni := some 45) (Nj := some 7) #[true, true, true, true, true, true, true, true, false, false, false, false] #[true, true, true, true, true, false, true, true, false, false, true, false] rfl rfl rfl rfl (two_of HT_.out (by kernel_rfl)) (by decide) (by decide) (fun K hK => ?_) (fun K hK => ?_)
       ·skip
        refine goes_ Try.func73 (by kernel_rfl) rfl #[.slice A45 y129.length c45] (by rfl) rfl rfl (by (try simp only [yK, yL, yM]); first | done | rfl | (simp only [yJ, yI]; rfl)) ?_
        with_reducible refine (impl_BitsToInt.calls k1 _ _ y129 t133 _ ?side1 ?side2 A35.out).mono ?_
        (case side1 => repeat (first | exact (by repeat (first | (with_reducible exact HR132.out) | (with_reducible refine zR ?_ _) | (with_reducible refine zT ?_ _) | (with_reducible refine zS ?_) | exact HR132.out)) | (with_reducible refine zR ?_ _) | (with_reducible refine zT ?_ _) | (with_reducible refine zS ?_)))
        (case side2 => exact HC132.out)
        rintro e w' ⟨rfl, ⟨nd, rfl⟩⟩
        refine ⟨_, rfl, ?_⟩
        refine hK.out _ _ trivial (fun hHeld => ?_)
        clear hK K
        refine norm_ (a' := ?_) ?_ ?_; rotate_left
        ·show Act.put _ (some 45) _ = _; simp only [Act.put, yF, yG, yH, i64_w, i32_w]; rfl
        refine two_ (i := 8) (j := 10) (Ni := some 48) (Nj := some 7) #[true, true, true, true, true, true, true, true, true, false, false, false] #[true, true, true, true, true, true, true, true, false, false, true, false] rfl rfl rfl rfl (two_of HT_.out (by kernel_rfl)) (by decide) (by decide) (fun K hK => ?_) (fun K hK => ?_)
        ·skip
         refine goes_ Try.func73 (by kernel_rfl) rfl #[.slice A46 y134.length c46] (by rfl) rfl rfl (by (try simp only [yK, yL, yM]); first | done | rfl | (simp only [yJ, yI]; rfl)) ?_
         with_reducible refine (impl_BitsToInt.calls k1 _ _ y134 t138 _ ?side1 ?side2 A38.out).mono ?_
         (case side1 => repeat (first | exact (by repeat (first | (with_reducible exact HR137.out) | (with_reducible refine zR ?_ _) | (with_reducible refine zT ?_ _) | (with_reducible refine zS ?_) | exact HR137.out)) | (with_reducible refine zR ?_ _) | (with_reducible refine zT ?_ _) | (with_reducible refine zS ?_)))
         (case side2 => exact HC137.out)
         rintro e w' ⟨rfl, ⟨nd, rfl⟩⟩
         refine ⟨_, rfl, ?_⟩
         refine hK.out _ _ trivial (fun hHeld => ?_)
         clear hK K
         refine norm_ (a' := ?_) ?_ ?_; rotate_left
         ·show Act.put _ (some 48) _ = _; simp only [Act.put, yF, yG, yH, i64_w, i32_w]; rfl
         refine pure_ (i := 9) (N := some 49) (v := ?_) (a' := ?_) #[true, true, true, true, true, true, true, true, true, true, false, false] rfl rfl (any_of HT_.out (by kernel_rfl)) (fun _ _ _ h => h) (Or.inl ⟨by rfl, ?_⟩) ?_ ?_; rotate_left
         ·intro w'; go_simp; with_reducible rfl
         rotate_left
         ·simp only [Act.put, yF, yG, yH, i64_w, i32_w]; rfl
         refine one_ (i := 10) (N := some 7) #[true, true, true, true, true, true, true, true, true, true, true, false] rfl rfl (one_of HT_.out (by kernel_rfl)) (by decide) (fun K hK => ?_)
         refine box_step ?hg (N := 7) ?hd (cs := #[.int .i64 0, .int .i64 0, .int .i64 0]) (t := 24) ?hr ?_; (case hd => rfl); (case hg => rfl); (case hr => first | (go_simp; done) | (go_simp; rfl))
         intro gb139 hg w47 hbox hb
         have n0_ := zO (zY (by (with_reducible repeat (first | apply zU | apply zW | apply zV)); exact HO_4.out) hb)
         have n1_ := zO (zG (g := gb112) (o := .cells #[.int .i64 0, .int .i64 0, .int .i64 0] 24 (0, 0)) (by (with_reducible repeat (first | refine zJ ?_ _ | refine zI ?_ | refine zF ?_ _)); exact BK112.out) hb)
         have n2_ := zO (Kd.C_below (by repeat (first | (with_reducible exact HR127.out) | (with_reducible refine zR ?_ _) | (with_reducible refine zT ?_ _) | (with_reducible refine zS ?_) | exact HR127.out)) hb)
         have n3_ := zO (Kd.C_below (by repeat (first | (with_reducible exact HR132.out) | (with_reducible refine zR ?_ _) | (with_reducible refine zT ?_ _) | (with_reducible refine zS ?_) | exact HR132.out)) hb)
         have n4_ := zO (Kd.C_below (by repeat (first | (with_reducible exact HR137.out) | (with_reducible refine zR ?_ _) | (with_reducible refine zT ?_ _) | (with_reducible refine zS ?_) | exact HR137.out)) hb)
         have n5_ := zO (zE (by repeat (first | (with_reducible first | exact HB.out | apply zA | apply zL | apply zB | refine zC ?_ GE112.out) | exact HB.out)) hb)
         have n6_ := zO (hbox)
         have n7_ := zO ((by rw [hg]; exact (zD (by repeat (first | (with_reducible first | exact HB.out | apply zA | apply zL | apply zB | refine zC ?_ GE112.out) | exact HB.out))) : w.heap.size ≤ gb139))
         have n8_ := zO ((by rw [hg]; exact (zD (by repeat (first | (with_reducible first | exact HB.out | apply zA | apply zL | apply zB | refine zC ?_ GE112.out) | exact HB.out))) : w.heap.size ≤ gb139))
         have n9_ := zO ((by rw [hg]; exact Nat.ne_of_lt (blk_lt (g := gb112) (o := .cells #[.int .i64 0, .int .i64 0, .int .i64 0] 24 (0, 0)) (by (with_reducible repeat (first | refine zJ ?_ _ | refine zI ?_ | refine zF ?_ _)); exact BK112.out)) : gb112 ≠ gb139))
         have n10_ := zO ((by rw [hg]; exact Nat.ne_of_gt (blk_lt (g := gb112) (o := .cells #[.int .i64 0, .int .i64 0, .int .i64 0] 24 (0, 0)) (by (with_reducible repeat (first | refine zJ ?_ _ | refine zI ?_ | refine zF ?_ _)); exact BK112.out)) : gb139 ≠ gb112))
         clear HO_4
         clear BK112
         clear HR127
         clear HR132
         clear HR137
         clear HB
         have HO_4 := n0_
         have BK112 := n1_
         have HR127 := n2_
         have HR132 := n3_
         have HR137 := n4_
         have HB := n5_
         have BK139 := n6_
         have GW139 := n7_
         have GE139 := n8_
         have NB112_139 := n9_
         have NB139_112 := n10_
         clear n0_ n1_ n2_ n3_ n4_ n5_ n6_ n7_ n8_ n9_ n10_
         clear hb hbox hg
         refine hK.out _ _ trivial (fun hHeld => ?_)
         clear hK K
         refine norm_ (a' := ?_) ?_ ?_; rotate_left
         ·show Act.put _ (some 7) _ = _; simp only [Act.put, yF, yG, yH, i64_w, i32_w]; rfl
         exact norm_ (by simp only [putAll, Act.put, yF, yG, yH]) (hCont (gb139) _ ⟨(by (with_reducible repeat (first | apply zU | apply zW | apply zV)); exact HO_4.out), (by (with_reducible repeat (first | refine zJ ?_ _ | refine zI ?_ | refine zF ?_ _)); exact BK112.out), (by (with_reducible repeat (first | refine zJ ?_ _ | refine zI ?_ | refine zF ?_ _)); exact BK139.out), GW139.out, GE139.out, NB112_139.out, NB139_112.out, (by repeat (first | (with_reducible first | exact HB.out | apply zA | apply zL | apply zB | refine zC ?_ GE112.out | refine zC ?_ GE139.out) | exact HB.out))⟩)
        ·skip
         refine box_step ?hg (N := 7) ?hd (cs := #[.int .i64 0, .int .i64 0, .int .i64 0]) (t := 24) ?hr ?_; (case hd => rfl); (case hg => rfl); (case hr => first | (go_simp; done) | (go_simp; rfl))
         intro gb139 hg w47 hbox hb
         have n0_ := zO (zY (by (with_reducible repeat (first | apply zU | apply zW | apply zV)); exact HO_4.out) hb)
         have n1_ := zO (zG (g := gb112) (o := .cells #[.int .i64 0, .int .i64 0, .int .i64 0] 24 (0, 0)) (by (with_reducible repeat (first | refine zJ ?_ _ | refine zI ?_ | refine zF ?_ _)); exact BK112.out) hb)
         have n2_ := zO (Kd.C_below (by repeat (first | (with_reducible exact HR127.out) | (with_reducible refine zR ?_ _) | (with_reducible refine zT ?_ _) | (with_reducible refine zS ?_) | exact HR127.out)) hb)
         have n3_ := zO (Kd.C_below (by repeat (first | (with_reducible exact HR132.out) | (with_reducible refine zR ?_ _) | (with_reducible refine zT ?_ _) | (with_reducible refine zS ?_) | exact HR132.out)) hb)
         have n4_ := zO (Kd.C_below (by repeat (first | (with_reducible exact HR137.out) | (with_reducible refine zR ?_ _) | (with_reducible refine zT ?_ _) | (with_reducible refine zS ?_) | exact HR137.out)) hb)
         have n5_ := zO (zE (by repeat (first | (with_reducible first | exact HB.out | apply zA | apply zL | apply zB | refine zC ?_ GE112.out) | exact HB.out)) hb)
         have n6_ := zO (hbox)
         have n7_ := zO ((by rw [hg]; exact (zD (by repeat (first | (with_reducible first | exact HB.out | apply zA | apply zL | apply zB | refine zC ?_ GE112.out) | exact HB.out))) : w.heap.size ≤ gb139))
         have n8_ := zO ((by rw [hg]; exact (zD (by repeat (first | (with_reducible first | exact HB.out | apply zA | apply zL | apply zB | refine zC ?_ GE112.out) | exact HB.out))) : w.heap.size ≤ gb139))
         have n9_ := zO ((by rw [hg]; exact Nat.ne_of_lt (blk_lt (g := gb112) (o := .cells #[.int .i64 0, .int .i64 0, .int .i64 0] 24 (0, 0)) (by (with_reducible repeat (first | refine zJ ?_ _ | refine zI ?_ | refine zF ?_ _)); exact BK112.out)) : gb112 ≠ gb139))
         have n10_ := zO ((by rw [hg]; exact Nat.ne_of_gt (blk_lt (g := gb112) (o := .cells #[.int .i64 0, .int .i64 0, .int .i64 0] 24 (0, 0)) (by (with_reducible repeat (first | refine zJ ?_ _ | refine zI ?_ | refine zF ?_ _)); exact BK112.out)) : gb139 ≠ gb112))
         clear HO_4
         clear BK112
         clear HR127
         clear HR132
         clear HR137
         clear HB
         have HO_4 := n0_
         have BK112 := n1_
         have HR127 := n2_
         have HR132 := n3_
         have HR137 := n4_
         have HB := n5_
         have BK139 := n6_
         have GW139 := n7_
         have GE139 := n8_
         have NB112_139 := n9_
         have NB139_112 := n10_
         clear n0_ n1_ n2_ n3_ n4_ n5_ n6_ n7_ n8_ n9_ n10_
         clear hb hbox hg
         refine hK.out _ _ trivial (fun hHeld => ?_)
         clear hK K
         refine norm_ (a' := ?_) ?_ ?_; rotate_left
         ·show Act.put _ (some 7) _ = _; simp only [Act.put, yF, yG, yH, i64_w, i32_w]; rfl
         refine one_ (i := 8) (N := some 48) #[true, true, true, true, true, true, true, true, true, false, true, false] rfl rfl (one_of HT_.out (by kernel_rfl)) (by decide) (fun K hK => ?_)
         refine goes_ Try.func73 (by kernel_rfl) rfl #[.slice A46 y134.length c46] (by rfl) rfl rfl (by (try simp only [yK, yL, yM]); first | done | rfl | (simp only [yJ, yI]; rfl)) ?_
         with_reducible refine (impl_BitsToInt.calls k1 _ _ y134 t138 _ ?side1 ?side2 A38.out).mono ?_
         (case side1 => repeat (first | exact (by repeat (first | (with_reducible exact HR137.out) | (with_reducible refine zR ?_ _) | (with_reducible refine zT ?_ _) | (with_reducible refine zS ?_) | exact HR137.out)) | (with_reducible refine zR ?_ _) | (with_reducible refine zT ?_ _) | (with_reducible refine zS ?_)))
         (case side2 => exact HC137.out)
         rintro e w' ⟨rfl, ⟨nd, rfl⟩⟩
         refine ⟨_, rfl, ?_⟩
         refine hK.out _ _ trivial (fun hHeld => ?_)
         clear hK K
         refine norm_ (a' := ?_) ?_ ?_; rotate_left
         ·show Act.put _ (some 48) _ = _; simp only [Act.put, yF, yG, yH, i64_w, i32_w]; rfl
         refine pure_ (i := 9) (N := some 49) (v := ?_) (a' := ?_) #[true, true, true, true, true, true, true, true, true, true, true, false] rfl rfl (any_of HT_.out (by kernel_rfl)) (fun _ _ _ h => h) (Or.inl ⟨by rfl, ?_⟩) ?_ ?_; rotate_left
         ·intro w'; go_simp; with_reducible rfl
         rotate_left
         ·simp only [Act.put, yF, yG, yH, i64_w, i32_w]; rfl
         exact norm_ (by simp only [putAll, Act.put, yF, yG, yH]) (hCont (gb139) _ ⟨(by (with_reducible repeat (first | apply zU | apply zW | apply zV)); exact HO_4.out), (by (with_reducible repeat (first | refine zJ ?_ _ | refine zI ?_ | refine zF ?_ _)); exact BK112.out), (by (with_reducible repeat (first | refine zJ ?_ _ | refine zI ?_ | refine zF ?_ _)); exact BK139.out), GW139.out, GE139.out, NB112_139.out, NB139_112.out, (by repeat (first | (with_reducible first | exact HB.out | apply zA | apply zL | apply zB | refine zC ?_ GE112.out | refine zC ?_ GE139.out) | exact HB.out))⟩)
       ·skip
        refine box_step ?hg (N := 7) ?hd (cs := #[.int .i64 0, .int .i64 0, .int .i64 0]) (t := 24) ?hr ?_; (case hd => rfl); (case hg => rfl); (case hr => first | (go_simp; done) | (go_simp; rfl))
        intro gb139 hg w47 hbox hb
        have n0_ := zO (zY (by (with_reducible repeat (first | apply zU | apply zW | apply zV)); exact HO_4.out) hb)
        have n1_ := zO (zG (g := gb112) (o := .cells #[.int .i64 0, .int .i64 0, .int .i64 0] 24 (0, 0)) (by (with_reducible repeat (first | refine zJ ?_ _ | refine zI ?_ | refine zF ?_ _)); exact BK112.out) hb)
        have n2_ := zO (Kd.C_below (by repeat (first | (with_reducible exact HR127.out) | (with_reducible refine zR ?_ _) | (with_reducible refine zT ?_ _) | (with_reducible refine zS ?_) | exact HR127.out)) hb)
        have n3_ := zO (Kd.C_below (by repeat (first | (with_reducible exact HR132.out) | (with_reducible refine zR ?_ _) | (with_reducible refine zT ?_ _) | (with_reducible refine zS ?_) | exact HR132.out)) hb)
        have n4_ := zO (Kd.C_below (by repeat (first | (with_reducible exact HR137.out) | (with_reducible refine zR ?_ _) | (with_reducible refine zT ?_ _) | (with_reducible refine zS ?_) | exact HR137.out)) hb)
        have n5_ := zO (zE (by repeat (first | (with_reducible first | exact HB.out | apply zA | apply zL | apply zB | refine zC ?_ GE112.out) | exact HB.out)) hb)
        have n6_ := zO (hbox)
        have n7_ := zO ((by rw [hg]; exact (zD (by repeat (first | (with_reducible first | exact HB.out | apply zA | apply zL | apply zB | refine zC ?_ GE112.out) | exact HB.out))) : w.heap.size ≤ gb139))
        have n8_ := zO ((by rw [hg]; exact (zD (by repeat (first | (with_reducible first | exact HB.out | apply zA | apply zL | apply zB | refine zC ?_ GE112.out) | exact HB.out))) : w.heap.size ≤ gb139))
        have n9_ := zO ((by rw [hg]; exact Nat.ne_of_lt (blk_lt (g := gb112) (o := .cells #[.int .i64 0, .int .i64 0, .int .i64 0] 24 (0, 0)) (by (with_reducible repeat (first | refine zJ ?_ _ | refine zI ?_ | refine zF ?_ _)); exact BK112.out)) : gb112 ≠ gb139))
        have n10_ := zO ((by rw [hg]; exact Nat.ne_of_gt (blk_lt (g := gb112) (o := .cells #[.int .i64 0, .int .i64 0, .int .i64 0] 24 (0, 0)) (by (with_reducible repeat (first | refine zJ ?_ _ | refine zI ?_ | refine zF ?_ _)); exact BK112.out)) : gb139 ≠ gb112))
        clear HO_4
        clear BK112
        clear HR127
        clear HR132
        clear HR137
        clear HB
        have HO_4 := n0_
        have BK112 := n1_
        have HR127 := n2_
        have HR132 := n3_
        have HR137 := n4_
        have HB := n5_
        have BK139 := n6_
        have GW139 := n7_
        have GE139 := n8_
        have NB112_139 := n9_
        have NB139_112 := n10_
        clear n0_ n1_ n2_ n3_ n4_ n5_ n6_ n7_ n8_ n9_ n10_
        clear hb hbox hg
        refine hK.out _ _ trivial (fun hHeld => ?_)
        clear hK K
        refine norm_ (a' := ?_) ?_ ?_; rotate_left
        ·show Act.put _ (some 7) _ = _; simp only [Act.put, yF, yG, yH, i64_w, i32_w]; rfl
        refine one_ (i := 5) (N := some 45) #[true, true, true, true, true, true, true, true, false, false, true, false] rfl rfl (one_of HT_.out (by kernel_rfl)) (by decide) (fun K hK => ?_)
        refine goes_ Try.func73 (by kernel_rfl) rfl #[.slice A45 y129.length c45] (by rfl) rfl rfl (by (try simp only [yK, yL, yM]); first | done | rfl | (simp only [yJ, yI]; rfl)) ?_
        with_reducible refine (impl_BitsToInt.calls k1 _ _ y129 t133 _ ?side1 ?side2 A35.out).mono ?_
        (case side1 => repeat (first | exact (by repeat (first | (with_reducible exact HR132.out) | (with_reducible refine zR ?_ _) | (with_reducible refine zT ?_ _) | (with_reducible refine zS ?_) | exact HR132.out)) | (with_reducible refine zR ?_ _) | (with_reducible refine zT ?_ _) | (with_reducible refine zS ?_)))
        (case side2 => exact HC132.out)
        rintro e w' ⟨rfl, ⟨nd, rfl⟩⟩
        refine ⟨_, rfl, ?_⟩
        refine hK.out _ _ trivial (fun hHeld => ?_)
        clear hK K
        refine norm_ (a' := ?_) ?_ ?_; rotate_left
        ·show Act.put _ (some 45) _ = _; simp only [Act.put, yF, yG, yH, i64_w, i32_w]; rfl
        refine one_ (i := 8) (N := some 48) #[true, true, true, true, true, true, true, true, true, false, true, false] rfl rfl (one_of HT_.out (by kernel_rfl)) (by decide) (fun K hK => ?_)
        refine goes_ Try.func73 (by kernel_rfl) rfl #[.slice A46 y134.length c46] (by rfl) rfl rfl (by (try simp only [yK, yL, yM]); first | done | rfl | (simp only [yJ, yI]; rfl)) ?_
        with_reducible refine (impl_BitsToInt.calls k1 _ _ y134 t138 _ ?side1 ?side2 A38.out).mono ?_
        (case side1 => repeat (first | exact (by repeat (first | (with_reducible exact HR137.out) | (with_reducible refine zR ?_ _) | (with_reducible refine zT ?_ _) | (with_reducible refine zS ?_) | exact HR137.out)) | (with_reducible refine zR ?_ _) | (with_reducible refine zT ?_ _) | (with_reducible refine zS ?_)))
        (case side2 => exact HC137.out)
        rintro e w' ⟨rfl, ⟨nd, rfl⟩⟩
        refine ⟨_, rfl, ?_⟩
        refine hK.out _ _ trivial (fun hHeld => ?_)
        clear hK K
        refine norm_ (a' := ?_) ?_ ?_; rotate_left
        ·show Act.put _ (some 48) _ = _; simp only [Act.put, yF, yG, yH, i64_w, i32_w]; rfl
        refine pure_ (i := 9) (N := some 49) (v := ?_) (a' := ?_) #[true, true, true, true, true, true, true, true, true, true, true, false] rfl rfl (any_of HT_.out (by kernel_rfl)) (fun _ _ _ h => h) (Or.inl ⟨by rfl, ?_⟩) ?_ ?_; rotate_left
        ·intro w'; go_simp; with_reducible rfl
        rotate_left
        ·simp only [Act.put, yF, yG, yH, i64_w, i32_w]; rfl
        exact norm_ (by simp only [putAll, Act.put, yF, yG, yH]) (hCont (gb139) _ ⟨(by (with_reducible repeat (first | apply zU | apply zW | apply zV)); exact HO_4.out), (by (with_reducible repeat (first | refine zJ ?_ _ | refine zI ?_ | refine zF ?_ _)); exact BK112.out), (by (with_reducible repeat (first | refine zJ ?_ _ | refine zI ?_ | refine zF ?_ _)); exact BK139.out), GW139.out, GE139.out, NB112_139.out, NB139_112.out, (by repeat (first | (with_reducible first | exact HB.out | apply zA | apply zL | apply zB | refine zC ?_ GE112.out | refine zC ?_ GE139.out) | exact HB.out))⟩)
      ·skip
       refine box_step ?hg (N := 7) ?hd (cs := #[.int .i64 0, .int .i64 0, .int .i64 0]) (t := 24) ?hr ?_; (case hd => rfl); (case hg => rfl); (case hr => first | (go_simp; done) | (go_simp; rfl))
       intro gb139 hg w47 hbox hb
       have n0_ := zO (zY (by (with_reducible repeat (first | apply zU | apply zW | apply zV)); exact HO_4.out) hb)
       have n1_ := zO (zG (g := gb112) (o := .cells #[.int .i64 0, .int .i64 0, .int .i64 0] 24 (0, 0)) (by (with_reducible repeat (first | refine zJ ?_ _ | refine zI ?_ | refine zF ?_ _)); exact BK112.out) hb)
       have n2_ := zO (Kd.C_below (by repeat (first | (with_reducible exact HR127.out) | (with_reducible refine zR ?_ _) | (with_reducible refine zT ?_ _) | (with_reducible refine zS ?_) | exact HR127.out)) hb)
       have n3_ := zO (Kd.C_below (by repeat (first | (with_reducible exact HR132.out) | (with_reducible refine zR ?_ _) | (with_reducible refine zT ?_ _) | (with_reducible refine zS ?_) | exact HR132.out)) hb)
       have n4_ := zO (Kd.C_below (by repeat (first | (with_reducible exact HR137.out) | (with_reducible refine zR ?_ _) | (with_reducible refine zT ?_ _) | (with_reducible refine zS ?_) | exact HR137.out)) hb)
       have n5_ := zO (zE (by repeat (first | (with_reducible first | exact HB.out | apply zA | apply zL | apply zB | refine zC ?_ GE112.out) | exact HB.out)) hb)
       have n6_ := zO (hbox)
       have n7_ := zO ((by rw [hg]; exact (zD (by repeat (first | (with_reducible first | exact HB.out | apply zA | apply zL | apply zB | refine zC ?_ GE112.out) | exact HB.out))) : w.heap.size ≤ gb139))
       have n8_ := zO ((by rw [hg]; exact (zD (by repeat (first | (with_reducible first | exact HB.out | apply zA | apply zL | apply zB | refine zC ?_ GE112.out) | exact HB.out))) : w.heap.size ≤ gb139))
       have n9_ := zO ((by rw [hg]; exact Nat.ne_of_lt (blk_lt (g := gb112) (o := .cells #[.int .i64 0, .int .i64 0, .int .i64 0] 24 (0, 0)) (by (with_reducible repeat (first | refine zJ ?_ _ | refine zI ?_ | refine zF ?_ _)); exact BK112.out)) : gb112 ≠ gb139))
       have n10_ := zO ((by rw [hg]; exact Nat.ne_of_gt (blk_lt (g := gb112) (o := .cells #[.int .i64 0, .int .i64 0, .int .i64 0] 24 (0, 0)) (by (with_reducible repeat (first | refine zJ ?_ _ | refine zI ?_ | refine zF ?_ _)); exact BK112.out)) : gb139 ≠ gb112))
       clear HO_4
       clear BK112
       clear HR127
       clear HR132
       clear HR137
       clear HB
       have HO_4 := n0_
       have BK112 := n1_
       have HR127 := n2_
       have HR132 := n3_
       have HR137 := n4_
       have HB := n5_
       have BK139 := n6_
       have GW139 := n7_
       have GE139 := n8_
       have NB112_139 := n9_
       have NB139_112 := n10_
       clear n0_ n1_ n2_ n3_ n4_ n5_ n6_ n7_ n8_ n9_ n10_
       clear hb hbox hg
       refine hK.out _ _ trivial (fun hHeld => ?_)
       clear hK K
       refine norm_ (a' := ?_) ?_ ?_; rotate_left
       ·show Act.put _ (some 7) _ = _; simp only [Act.put, yF, yG, yH, i64_w, i32_w]; rfl
       refine one_ (i := 2) (N := some 42) #[true, true, true, true, true, false, true, true, false, false, true, false] rfl rfl (one_of HT_.out (by kernel_rfl)) (by decide) (fun K hK => ?_)
       refine goes_ Try.func73 (by kernel_rfl) rfl #[.slice Ao7 y124.length co7] (by rfl) rfl rfl (by (try simp only [yK, yL, yM]); first | done | rfl | (simp only [yJ, yI]; rfl)) ?_
       with_reducible refine (impl_BitsToInt.calls k1 _ _ y124 t128 _ ?side1 ?side2 A32.out).mono ?_
       (case side1 => repeat (first | exact (by repeat (first | (with_reducible exact HR127.out) | (with_reducible refine zR ?_ _) | (with_reducible refine zT ?_ _) | (with_reducible refine zS ?_) | exact HR127.out)) | (with_reducible refine zR ?_ _) | (with_reducible refine zT ?_ _) | (with_reducible refine zS ?_)))
       (case side2 => exact HC127.out)
       rintro e w' ⟨rfl, ⟨nd, rfl⟩⟩
       refine ⟨_, rfl, ?_⟩
       refine hK.out _ _ trivial (fun hHeld => ?_)
       clear hK K
       refine norm_ (a' := ?_) ?_ ?_; rotate_left
       ·show Act.put _ (some 42) _ = _; simp only [Act.put, yF, yG, yH, i64_w, i32_w]; rfl
       refine one_ (i := 5) (N := some 45) #[true, true, true, true, true, true, true, true, false, false, true, false] rfl rfl (one_of HT_.out (by kernel_rfl)) (by decide) (fun K hK => ?_)
       refine goes_ Try.func73 (by kernel_rfl) rfl #[.slice A45 y129.length c45] (by rfl) rfl rfl (by (try simp only [yK, yL, yM]); first | done | rfl | (simp only [yJ, yI]; rfl)) ?_
       with_reducible refine (impl_BitsToInt.calls k1 _ _ y129 t133 _ ?side1 ?side2 A35.out).mono ?_
       (case side1 => repeat (first | exact (by repeat (first | (with_reducible exact HR132.out) | (with_reducible refine zR ?_ _) | (with_reducible refine zT ?_ _) | (with_reducible refine zS ?_) | exact HR132.out)) | (with_reducible refine zR ?_ _) | (with_reducible refine zT ?_ _) | (with_reducible refine zS ?_)))
       (case side2 => exact HC132.out)
       rintro e w' ⟨rfl, ⟨nd, rfl⟩⟩
       refine ⟨_, rfl, ?_⟩
       refine hK.out _ _ trivial (fun hHeld => ?_)
       clear hK K
       refine norm_ (a' := ?_) ?_ ?_; rotate_left
       ·show Act.put _ (some 45) _ = _; simp only [Act.put, yF, yG, yH, i64_w, i32_w]; rfl
       refine one_ (i := 8) (N := some 48) #[true, true, true, true, true, true, true, true, true, false, true, false] rfl rfl (one_of HT_.out (by kernel_rfl)) (by decide) (fun K hK => ?_)
       refine goes_ Try.func73 (by kernel_rfl) rfl #[.slice A46 y134.length c46] (by rfl) rfl rfl (by (try simp only [yK, yL, yM]); first | done | rfl | (simp only [yJ, yI]; rfl)) ?_
       with_reducible refine (impl_BitsToInt.calls k1 _ _ y134 t138 _ ?side1 ?side2 A38.out).mono ?_
       (case side1 => repeat (first | exact (by repeat (first | (with_reducible exact HR137.out) | (with_reducible refine zR ?_ _) | (with_reducible refine zT ?_ _) | (with_reducible refine zS ?_) | exact HR137.out)) | (with_reducible refine zR ?_ _) | (with_reducible refine zT ?_ _) | (with_reducible refine zS ?_)))
       (case side2 => exact HC137.out)
       rintro e w' ⟨rfl, ⟨nd, rfl⟩⟩
       refine ⟨_, rfl, ?_⟩
       refine hK.out _ _ trivial (fun hHeld => ?_)
       clear hK K
       refine norm_ (a' := ?_) ?_ ?_; rotate_left
       ·show Act.put _ (some 48) _ = _; simp only [Act.put, yF, yG, yH, i64_w, i32_w]; rfl
       refine pure_ (i := 9) (N := some 49) (v := ?_) (a' := ?_) #[true, true, true, true, true, true, true, true, true, true, true, false] rfl rfl (any_of HT_.out (by kernel_rfl)) (fun _ _ _ h => h) (Or.inl ⟨by rfl, ?_⟩) ?_ ?_; rotate_left
       ·intro w'; go_simp; with_reducible rfl
       rotate_left
       ·simp only [Act.put, yF, yG, yH, i64_w, i32_w]; rfl
       exact norm_ (by simp only [putAll, Act.put, yF, yG, yH]) (hCont (gb139) _ ⟨(by (with_reducible repeat (first | apply zU | apply zW | apply zV)); exact HO_4.out), (by (with_reducible repeat (first | refine zJ ?_ _ | refine zI ?_ | refine zF ?_ _)); exact BK112.out), (by (with_reducible repeat (first | refine zJ ?_ _ | refine zI ?_ | refine zF ?_ _)); exact BK139.out), GW139.out, GE139.out, NB112_139.out, NB139_112.out, (by repeat (first | (with_reducible first | exact HB.out | apply zA | apply zL | apply zB | refine zC ?_ GE112.out | refine zC ?_ GE139.out) | exact HB.out))⟩)
     rintro gb139 w48 ⟨h0_, h1_, h2_, h3_, h4_, h5_, h6_, h7_⟩
     have n0_ : Aside0 (Kd.R (Kd.int .i64) 3 w48 w.heap.size (fun _ => True) (.slice Ao7 x4_1.length co7) x4_1) := ⟨h0_⟩
     have n1_ : Aside0 (w48.heap[gb112]? = some (.cells #[.int .i64 0, .int .i64 0, .int .i64 0] 24 (0, 0))) := ⟨h1_⟩
     have n2_ : Aside0 (w48.heap[gb139]? = some (.cells #[.int .i64 0, .int .i64 0, .int .i64 0] 24 (0, 0))) := ⟨h2_⟩
     have n3_ : Aside0 (w.heap.size ≤ gb139) := ⟨h3_⟩
     have n4_ : Aside0 (w.heap.size ≤ gb139) := ⟨h4_⟩
     have n5_ : Aside0 (gb112 ≠ gb139) := ⟨h5_⟩
     have n6_ : Aside0 (gb139 ≠ gb112) := ⟨h6_⟩
     have n7_ : Aside0 (Below w.heap.size w w48) := ⟨h7_⟩
     clear HO_4
     clear BK112
     clear HB
     clear h0_ h1_ h2_ h3_ h4_ h5_ h6_ h7_
     have HO_4 := n0_
     have BK112 := n1_
     have BK139 := n2_
     have GW139 := n3_
     have GE139 := n4_
     have NB112_139 := n5_
     have NB139_112 := n6_
     have HB := n7_
     clear n0_ n1_ n2_ n3_ n4_ n5_ n6_ n7_
     have hHeld := trivial
     refine norm_ (a' := ?_) ?_ ?_; rotate_left
     ·simp only [putAll, Act.put, yF, yG, yH]
      rfl
     refine one_ (i := 11) (N := none) #[true, true, true, true, true, true, true, true, true, true, true, true] rfl rfl (one_of HT_.out (by kernel_rfl)) (by decide) (fun K hK => ?_)
     have hs49 : w48.cell? ⟨gb139, 0, none⟩ = some (.int .i64 0) := (zH BK139.out 0).trans rfl
     have hfs49 := zK BK139.out 0
     have hns49_0 := NB112_139.out
     have hms49_0 := NB139_112.out
     have hs50 : w48.cell? ⟨gb139, 1, none⟩ = some (.int .i64 0) := (zH BK139.out 1).trans rfl
     have hfs50 := zK BK139.out 1
     have hns50_0 := NB112_139.out
     have hms50_0 := NB139_112.out
     have hs51 : w48.cell? ⟨gb139, 2, none⟩ = some (.int .i64 0) := (zH BK139.out 2).trans rfl
     have hfs51 := zK BK139.out 2
     have hns51_0 := NB112_139.out
     have hms51_0 := NB139_112.out
     refine skip_ (w1 := ?_) (by rfl) rfl ?_ ?_; rotate_left
     ·go_simp
      rfl
     refine hK.out _ _ trivial (fun hHeld => ?_)
     clear hK K
     refine done_ (done_of HT_.out (by kernel_rfl)) ?_
     have H := HH_.out
     clear HH_
     by_cases c40 : t140 = 0
     ·rw [if_pos c40] at H
      have c40b0 : (t140 == 0) = true := beq_iff_eq.mpr c40
      have c40b1 : (t140 != 0) = false := bne_eq_false_iff_eq.mpr c40
      clear c40
      replace H := yE.mp H
      obtain ⟨t141, A410, H⟩ := H
      replace H : (if t141 = true then (some (t128, t133, t138, true)) else (some (0, 0, 0, false))) = some (r1, r2, r3, r4) := H
      have A41 := zO A410
      clear A410
      have HH_ := zO H
      clear H
      (try rw [hl4_1] at c8b0)
      have H := HH_.out
      clear HH_
      by_cases c42 : t141 = true
      ·subst c42
       have H1 : (some (t128, t133, t138, true)) = some (r1, r2, r3, r4) := by rw [if_pos rfl] at H; exact H
       clear H
       have H := H1
       clear H1
       simp only [Option.some.injEq, Prod.mk.injEq] at H
       obtain ⟨rfl, rfl, rfl, rfl⟩ := H
       try go_wp2_with (first | ((with_reducible refine zM (f := 74) rfl ?_); refine goesL_ (some 51) rfl rfl Try.func74 (by kernel_rfl) rfl #[.slice Ao7 x4_1.length co7] rfl (by (try simp only [yK, yL, yM]); first | done | rfl | (simp only [yJ, yI]; rfl)) ?_; (with_reducible refine (impl_Parity.calls k1 _ _ x4_1 t140 _ ?side1 ?side2 A39.out).mono ?_); (case side1 => refine (zX (e := 3) (base := w.heap.size) (ok := fun k_ => True) (n := x4_1.length) (c := co7) ?_).2.2; exact (by (with_reducible repeat (first | apply zU | apply zW | apply zV)); exact (Kd.R_mono (zZ (p := ⟨gb139, 2, none⟩) (zZ (p := ⟨gb139, 1, none⟩) (zZ (p := ⟨gb139, 0, none⟩) (Kd.R_types HO_4.out BK139.out (by decide)) (fun _ hk => hk.2) (.int .i64 t128)) (fun _ hk => hk.2) (.int .i64 t133)) (fun _ hk => hk.2) (.int .i64 t138)) (fun _ h_ => h_.1)))); (case side2 => exact (zX HO_4.out).2.1); rintro e w' ⟨rfl, ⟨nd, rfl⟩⟩; refine ⟨_, rfl, ?_⟩; have hnb52 := NB139_112.out; have hnc52 := NB112_139.out; have hcz53_0 : w48.cell? ⟨gb139, 0, none⟩ = some (.int .i64 0) := (zH BK139.out 0).trans rfl; have hcz53_1 : w48.cell? ⟨gb139, 1, none⟩ = some (.int .i64 0) := (zH BK139.out 1).trans rfl; have hcz53_2 : w48.cell? ⟨gb139, 2, none⟩ = some (.int .i64 0) := (zH BK139.out 2).trans rfl; have hfz53_0 := zK BK139.out 0; have hfz53_1 := zK BK139.out 1; have hfz53_2 := zK BK139.out 2) | (go_at_call 75; (with_reducible refine (impl_IsValidHeader.calls t128 t133 t138 true _ A41.out).mono ?_); rintro e w54 ⟨rfl, hb⟩; have n0_ := zO (zY (by (with_reducible repeat (first | apply zU | apply zW | apply zV)); exact (Kd.R_mono (zZ (p := ⟨gb139, 2, none⟩) (zZ (p := ⟨gb139, 1, none⟩) (zZ (p := ⟨gb139, 0, none⟩) (Kd.R_types HO_4.out BK139.out (by decide)) (fun _ hk => hk.2) (.int .i64 t128)) (fun _ hk => hk.2) (.int .i64 t133)) (fun _ hk => hk.2) (.int .i64 t138)) (fun _ h_ => h_.1))) hb); have n1_ := zO (zG (g := gb112) (o := .cells #[.int .i64 0, .int .i64 0, .int .i64 0] 24 (0, 0)) (by (with_reducible repeat (first | refine zJ ?_ _ | refine zI ?_ | refine zF ?_ _)); refine blk_far ?_ NB112_139.out _; (with_reducible repeat (first | refine zJ ?_ _ | refine zI ?_ | refine zF ?_ _)); refine blk_far ?_ NB112_139.out _; (with_reducible repeat (first | refine zJ ?_ _ | refine zI ?_ | refine zF ?_ _)); refine blk_far ?_ NB112_139.out _; (with_reducible repeat (first | refine zJ ?_ _ | refine zI ?_ | refine zF ?_ _)); exact BK112.out) hb); have n2_ := zO (zG (g := gb139) (o := .cells #[.int .i64 t128, .int .i64 t133, .int .i64 t138] 24 (0, 0)) (by (with_reducible repeat (first | refine zJ ?_ _ | refine zI ?_ | refine zF ?_ _)); refine blk_put (cs := #[.int .i64 t128, .int .i64 t133, .int .i64 0]) ?_ 2 _ rfl; (with_reducible repeat (first | refine zJ ?_ _ | refine zI ?_ | refine zF ?_ _)); refine blk_put (cs := #[.int .i64 t128, .int .i64 0, .int .i64 0]) ?_ 1 _ rfl; (with_reducible repeat (first | refine zJ ?_ _ | refine zI ?_ | refine zF ?_ _)); refine blk_put (cs := #[.int .i64 0, .int .i64 0, .int .i64 0]) ?_ 0 _ rfl; (with_reducible repeat (first | refine zJ ?_ _ | refine zI ?_ | refine zF ?_ _)); exact BK139.out) hb); have n3_ := zO (zE (by repeat (first | (with_reducible first | exact HB.out | apply zA | apply zL | apply zB | refine zC ?_ GE112.out | refine zC ?_ GE139.out) | exact HB.out)) hb); clear HO_4; clear BK112; clear BK139; clear HB; have HO_4 := n0_; have BK112 := n1_; have BK139 := n2_; have HB := n3_; clear n0_ n1_ n2_ n3_; (try clear hb); (try clear hb2); (try clear hk); (try clear hi); have hcz55_0 : w54.cell? ⟨gb139, 0, none⟩ = some (.int .i64 t128) := (zH BK139.out 0).trans rfl; have hcz55_1 : w54.cell? ⟨gb139, 1, none⟩ = some (.int .i64 t133) := (zH BK139.out 1).trans rfl; have hcz55_2 : w54.cell? ⟨gb139, 2, none⟩ = some (.int .i64 t138) := (zH BK139.out 2).trans rfl; have hfz55_0 := zK BK139.out 0; have hfz55_1 := zK BK139.out 1; have hfz55_2 := zK BK139.out 2; have hcz56_0 : w54.cell? ⟨gb112, 0, none⟩ = some (.int .i64 0) := (zH BK112.out 0).trans rfl; have hcz56_1 : w54.cell? ⟨gb112, 1, none⟩ = some (.int .i64 0) := (zH BK112.out 1).trans rfl; have hcz56_2 : w54.cell? ⟨gb112, 2, none⟩ = some (.int .i64 0) := (zH BK112.out 2).trans rfl; have hfz56_0 := zK BK112.out 0; have hfz56_1 := zK BK112.out 1; have hfz56_2 := zK BK112.out 2))
       refine bodyPost_ret (results_ct rfl _ _ gb112 24 #[.int .i64 t128, .int .i64 t133, .int .i64 t138] (0, 0) _ rfl (by (with_reducible repeat (first | refine zJ ?_ _ | refine zI ?_ | refine zF ?_ _)); refine blk_put (cs := #[.int .i64 t128, .int .i64 t133, .int .i64 0]) ?_ 2 _ rfl; (with_reducible repeat (first | refine zJ ?_ _ | refine zI ?_ | refine zF ?_ _)); refine blk_put (cs := #[.int .i64 t128, .int .i64 0, .int .i64 0]) ?_ 1 _ rfl; (with_reducible repeat (first | refine zJ ?_ _ | refine zI ?_ | refine zF ?_ _)); refine blk_put (cs := #[.int .i64 0, .int .i64 0, .int .i64 0]) ?_ 0 _ rfl; (with_reducible repeat (first | refine zJ ?_ _ | refine zI ?_ | refine zF ?_ _)); exact BK112.out) Try.underlying24 rfl (by kernel_rfl)) rfl ?_
       exact ⟨by first | rfl | exact yP _ | (simp [errW_none, errW_some] <;> rfl) | (simp [*, errW_none, errW_some] <;> rfl), by repeat (first | (with_reducible first | exact HB.out | apply zA | apply zL | apply zB | refine zC ?_ GE112.out | refine zC ?_ GE139.out) | exact HB.out)⟩
      ·replace c42 := Bool.eq_false_iff.mpr c42
       subst c42
       have H1 : (some (0, 0, 0, false)) = some (r1, r2, r3, r4) := by rw [if_neg (show ¬ (false = true) by decide)] at H; exact H
       clear H
       have H := H1
       clear H1
       simp only [Option.some.injEq, Prod.mk.injEq] at H
       obtain ⟨rfl, rfl, rfl, rfl⟩ := H
       try go_wp2_with (first | ((with_reducible refine zM (f := 74) rfl ?_); refine goesL_ (some 51) rfl rfl Try.func74 (by kernel_rfl) rfl #[.slice Ao7 x4_1.length co7] rfl (by (try simp only [yK, yL, yM]); first | done | rfl | (simp only [yJ, yI]; rfl)) ?_; (with_reducible refine (impl_Parity.calls k1 _ _ x4_1 t140 _ ?side1 ?side2 A39.out).mono ?_); (case side1 => refine (zX (e := 3) (base := w.heap.size) (ok := fun k_ => True) (n := x4_1.length) (c := co7) ?_).2.2; exact (by (with_reducible repeat (first | apply zU | apply zW | apply zV)); exact (Kd.R_mono (zZ (p := ⟨gb139, 2, none⟩) (zZ (p := ⟨gb139, 1, none⟩) (zZ (p := ⟨gb139, 0, none⟩) (Kd.R_types HO_4.out BK139.out (by decide)) (fun _ hk => hk.2) (.int .i64 t128)) (fun _ hk => hk.2) (.int .i64 t133)) (fun _ hk => hk.2) (.int .i64 t138)) (fun _ h_ => h_.1)))); (case side2 => exact (zX HO_4.out).2.1); rintro e w' ⟨rfl, ⟨nd, rfl⟩⟩; refine ⟨_, rfl, ?_⟩; have hnb66 := NB139_112.out; have hnc66 := NB112_139.out; have hcz67_0 : w48.cell? ⟨gb139, 0, none⟩ = some (.int .i64 0) := (zH BK139.out 0).trans rfl; have hcz67_1 : w48.cell? ⟨gb139, 1, none⟩ = some (.int .i64 0) := (zH BK139.out 1).trans rfl; have hcz67_2 : w48.cell? ⟨gb139, 2, none⟩ = some (.int .i64 0) := (zH BK139.out 2).trans rfl; have hfz67_0 := zK BK139.out 0; have hfz67_1 := zK BK139.out 1; have hfz67_2 := zK BK139.out 2) | (go_at_call 75; (with_reducible refine (impl_IsValidHeader.calls t128 t133 t138 false _ A41.out).mono ?_); rintro e w68 ⟨rfl, hb⟩; have n0_ := zO (zY (by (with_reducible repeat (first | apply zU | apply zW | apply zV)); exact (Kd.R_mono (zZ (p := ⟨gb139, 2, none⟩) (zZ (p := ⟨gb139, 1, none⟩) (zZ (p := ⟨gb139, 0, none⟩) (Kd.R_types HO_4.out BK139.out (by decide)) (fun _ hk => hk.2) (.int .i64 t128)) (fun _ hk => hk.2) (.int .i64 t133)) (fun _ hk => hk.2) (.int .i64 t138)) (fun _ h_ => h_.1))) hb); have n1_ := zO (zG (g := gb112) (o := .cells #[.int .i64 0, .int .i64 0, .int .i64 0] 24 (0, 0)) (by (with_reducible repeat (first | refine zJ ?_ _ | refine zI ?_ | refine zF ?_ _)); refine blk_far ?_ NB112_139.out _; (with_reducible repeat (first | refine zJ ?_ _ | refine zI ?_ | refine zF ?_ _)); refine blk_far ?_ NB112_139.out _; (with_reducible repeat (first | refine zJ ?_ _ | refine zI ?_ | refine zF ?_ _)); refine blk_far ?_ NB112_139.out _; (with_reducible repeat (first | refine zJ ?_ _ | refine zI ?_ | refine zF ?_ _)); exact BK112.out) hb); have n2_ := zO (zG (g := gb139) (o := .cells #[.int .i64 t128, .int .i64 t133, .int .i64 t138] 24 (0, 0)) (by (with_reducible repeat (first | refine zJ ?_ _ | refine zI ?_ | refine zF ?_ _)); refine blk_put (cs := #[.int .i64 t128, .int .i64 t133, .int .i64 0]) ?_ 2 _ rfl; (with_reducible repeat (first | refine zJ ?_ _ | refine zI ?_ | refine zF ?_ _)); refine blk_put (cs := #[.int .i64 t128, .int .i64 0, .int .i64 0]) ?_ 1 _ rfl; (with_reducible repeat (first | refine zJ ?_ _ | refine zI ?_ | refine zF ?_ _)); refine blk_put (cs := #[.int .i64 0, .int .i64 0, .int .i64 0]) ?_ 0 _ rfl; (with_reducible repeat (first | refine zJ ?_ _ | refine zI ?_ | refine zF ?_ _)); exact BK139.out) hb); have n3_ := zO (zE (by repeat (first | (with_reducible first | exact HB.out | apply zA | apply zL | apply zB | refine zC ?_ GE112.out | refine zC ?_ GE139.out) | exact HB.out)) hb); clear HO_4; clear BK112; clear BK139; clear HB; have HO_4 := n0_; have BK112 := n1_; have BK139 := n2_; have HB := n3_; clear n0_ n1_ n2_ n3_; (try clear hb); (try clear hb2); (try clear hk); (try clear hi); have hcz69_0 : w68.cell? ⟨gb112, 0, none⟩ = some (.int .i64 0) := (zH BK112.out 0).trans rfl; have hcz69_1 : w68.cell? ⟨gb112, 1, none⟩ = some (.int .i64 0) := (zH BK112.out 1).trans rfl; have hcz69_2 : w68.cell? ⟨gb112, 2, none⟩ = some (.int .i64 0) := (zH BK112.out 2).trans rfl; have hfz69_0 := zK BK112.out 0; have hfz69_1 := zK BK112.out 1; have hfz69_2 := zK BK112.out 2))
       refine bodyPost_ret (results_ct rfl _ _ gb112 24 #[.int .i64 0, .int .i64 0, .int .i64 0] (0, 0) _ rfl (by (with_reducible repeat (first | refine zJ ?_ _ | refine zI ?_ | refine zF ?_ _)); refine blk_put (cs := #[.int .i64 0, .int .i64 0, .int .i64 0]) ?_ 2 _ rfl; (with_reducible repeat (first | refine zJ ?_ _ | refine zI ?_ | refine zF ?_ _)); refine blk_put (cs := #[.int .i64 0, .int .i64 0, .int .i64 0]) ?_ 1 _ rfl; (with_reducible repeat (first | refine zJ ?_ _ | refine zI ?_ | refine zF ?_ _)); refine blk_put (cs := #[.int .i64 0, .int .i64 0, .int .i64 0]) ?_ 0 _ rfl; (with_reducible repeat (first | refine zJ ?_ _ | refine zI ?_ | refine zF ?_ _)); exact BK112.out) Try.underlying24 rfl (by kernel_rfl)) rfl ?_
       exact ⟨by first | rfl | exact yP _ | (simp [errW_none, errW_some] <;> rfl) | (simp [*, errW_none, errW_some] <;> rfl), by repeat (first | (with_reducible first | exact HB.out | apply zA | apply zL | apply zB | refine zC ?_ GE112.out | refine zC ?_ GE139.out) | exact HB.out)⟩
     ·rw [if_neg c40] at H
      have c40b0 : (t140 == 0) = false := beq_eq_false_iff_ne.mpr c40
      have c40b1 : (t140 != 0) = true := bne_iff_ne.mpr c40
      simp only [Option.some.injEq, Prod.mk.injEq] at H
      obtain ⟨rfl, rfl, rfl, rfl⟩ := H
      try go_wp2_with (first | ((with_reducible refine zM (f := 74) rfl ?_); refine goesL_ (some 51) rfl rfl Try.func74 (by kernel_rfl) rfl #[.slice Ao7 x4_1.length co7] rfl (by (try simp only [yK, yL, yM]); first | done | rfl | (simp only [yJ, yI]; rfl)) ?_; (with_reducible refine (impl_Parity.calls k1 _ _ x4_1 t140 _ ?side1 ?side2 A39.out).mono ?_); (case side1 => refine (zX (e := 3) (base := w.heap.size) (ok := fun k_ => True) (n := x4_1.length) (c := co7) ?_).2.2; exact (by (with_reducible repeat (first | apply zU | apply zW | apply zV)); exact (Kd.R_mono (zZ (p := ⟨gb139, 2, none⟩) (zZ (p := ⟨gb139, 1, none⟩) (zZ (p := ⟨gb139, 0, none⟩) (Kd.R_types HO_4.out BK139.out (by decide)) (fun _ hk => hk.2) (.int .i64 t128)) (fun _ hk => hk.2) (.int .i64 t133)) (fun _ hk => hk.2) (.int .i64 t138)) (fun _ h_ => h_.1)))); (case side2 => exact (zX HO_4.out).2.1); rintro e w' ⟨rfl, ⟨nd, rfl⟩⟩; refine ⟨_, rfl, ?_⟩; have hnb79 := NB112_139.out; have hnc79 := NB139_112.out; have hcz80_0 : w48.cell? ⟨gb112, 0, none⟩ = some (.int .i64 0) := (zH BK112.out 0).trans rfl; have hcz80_1 : w48.cell? ⟨gb112, 1, none⟩ = some (.int .i64 0) := (zH BK112.out 1).trans rfl; have hcz80_2 : w48.cell? ⟨gb112, 2, none⟩ = some (.int .i64 0) := (zH BK112.out 2).trans rfl; have hfz80_0 := zK BK112.out 0; have hfz80_1 := zK BK112.out 1; have hfz80_2 := zK BK112.out 2))
      refine bodyPost_ret (results_ct rfl _ _ gb112 24 #[.int .i64 0, .int .i64 0, .int .i64 0] (0, 0) _ rfl (by (with_reducible repeat (first | refine zJ ?_ _ | refine zI ?_ | refine zF ?_ _)); refine blk_put (cs := #[.int .i64 0, .int .i64 0, .int .i64 0]) ?_ 2 _ rfl; (with_reducible repeat (first | refine zJ ?_ _ | refine zI ?_ | refine zF ?_ _)); refine blk_put (cs := #[.int .i64 0, .int .i64 0, .int .i64 0]) ?_ 1 _ rfl; (with_reducible repeat (first | refine zJ ?_ _ | refine zI ?_ | refine zF ?_ _)); refine blk_put (cs := #[.int .i64 0, .int .i64 0, .int .i64 0]) ?_ 0 _ rfl; (with_reducible repeat (first | refine zJ ?_ _ | refine zI ?_ | refine zF ?_ _)); refine blk_far ?_ NB112_139.out _; (with_reducible repeat (first | refine zJ ?_ _ | refine zI ?_ | refine zF ?_ _)); refine blk_far ?_ NB112_139.out _; (with_reducible repeat (first | refine zJ ?_ _ | refine zI ?_ | refine zF ?_ _)); refine blk_far ?_ NB112_139.out _; (with_reducible repeat (first | refine zJ ?_ _ | refine zI ?_ | refine zF ?_ _)); exact BK112.out) Try.underlying24 rfl (by kernel_rfl)) rfl ?_
      exact ⟨by first | rfl | exact yP _ | (simp [errW_none, errW_some] <;> rfl) | (simp [*, errW_none, errW_some] <;> rfl), by repeat (first | (with_reducible first | exact HB.out | apply zA | apply zL | apply zB | refine zC ?_ GE112.out | refine zC ?_ GE139.out) | exact HB.out)⟩
 ·rw [if_neg c2] at H
  have c2b0 : ((l0.length : Int) == 54) = false := beq_eq_false_iff_ne.mpr c2
  have c2b1 : ((l0.length : Int) != 54) = true := bne_iff_ne.mpr c2
  simp only [Option.some.injEq, Prod.mk.injEq] at H
  obtain ⟨rfl, rfl, rfl, rfl⟩ := H
  go_enter Try.func16, Try.ntmps16
  go_wp2_with (first | ((with_reducible refine zN (N := 2) rfl ?_); refine box_event ?hg (N := 2) ?hd (cs := #[.int .i64 0, .int .i64 0, .int .i64 0]) (t := 24) ?hr ?_; (case hd => rfl); (case hg => rfl); (case hr => first | (go_simp; done) | (go_simp; rfl)); intro gb112 hg w81 hbox hb; have n0_ := zO (zE (by repeat (first | exact HB.out | apply zA | apply zL | apply zB)) hb); have n1_ := zO (hbox); have n2_ := zO ((by rw [hg]; exact (zD (by repeat (first | exact HB.out | apply zA | apply zL | apply zB))) : w.heap.size ≤ gb112)); have n3_ := zO ((by rw [hg]; exact (zD (by repeat (first | exact HB.out | apply zA | apply zL | apply zB))) : w.heap.size ≤ gb112)); clear HB; have HB := n0_; have BK112 := n1_; have GW112 := n2_; have GE112 := n3_; clear n0_ n1_ n2_ n3_; clear hb hbox hg; have hcz82_0 : w81.cell? ⟨gb112, 0, none⟩ = some (.int .i64 0) := (zH BK112.out 0).trans rfl; have hcz82_1 : w81.cell? ⟨gb112, 1, none⟩ = some (.int .i64 0) := (zH BK112.out 1).trans rfl; have hcz82_2 : w81.cell? ⟨gb112, 2, none⟩ = some (.int .i64 0) := (zH BK112.out 2).trans rfl; have hfz82_0 := zK BK112.out 0; have hfz82_1 := zK BK112.out 1; have hfz82_2 := zK BK112.out 2))
  refine bodyPost_ret (results_ct rfl _ _ gb112 24 #[.int .i64 0, .int .i64 0, .int .i64 0] (0, 0) _ rfl (by (with_reducible repeat (first | refine zJ ?_ _ | refine zI ?_ | refine zF ?_ _)); refine blk_put (cs := #[.int .i64 0, .int .i64 0, .int .i64 0]) ?_ 2 _ rfl; (with_reducible repeat (first | refine zJ ?_ _ | refine zI ?_ | refine zF ?_ _)); refine blk_put (cs := #[.int .i64 0, .int .i64 0, .int .i64 0]) ?_ 1 _ rfl; (with_reducible repeat (first | refine zJ ?_ _ | refine zI ?_ | refine zF ?_ _)); refine blk_put (cs := #[.int .i64 0, .int .i64 0, .int .i64 0]) ?_ 0 _ rfl; (with_reducible repeat (first | refine zJ ?_ _ | refine zI ?_ | refine zF ?_ _)); exact BK112.out) Try.underlying24 rfl (by kernel_rfl)) rfl ?_
  exact ⟨by first | rfl | exact yP _ | (simp [errW_none, errW_some] <;> rfl) | (simp [*, errW_none, errW_some] <;> rfl), by repeat (first | (with_reducible first | exact HB.out | apply zA | apply zL | apply zB | refine zC ?_ GE112.out) | exact HB.out)⟩

end Go.Proofs.Ytldbmljooafkcaa.PFnFrameErrors
