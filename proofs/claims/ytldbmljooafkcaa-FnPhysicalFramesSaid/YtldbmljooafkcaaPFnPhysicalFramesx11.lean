/- Contracts of Go functions. Conditions: the arguments read as the Lean function's. Written by print2.py, shrink.py (this session's). -/
import Derived.Test.YtldbmljooafkcaaPFnPhysicalFramesx0
import Derived.Test.YtldbmljooafkcaaPFnPhysicalFramesx2
import Derived.Test.YtldbmljooafkcaaPFnPhysicalFramesx6
namespace Go.Proofs.Ytldbmljooafkcaa.PFnPhysicalFrames
open Go.RowKit Go.Proofs.YtldbmljooafkcaaW.PrintWords Go.Proofs.YtldbmljooafkcaaW.PrintLast Go.Proofs.YtldbmljooafkcaaW.PrintMore
open Go.Proofs.YtldbmljooafkcaaW.PrintWords renaming below_alloc → zA, below_drew1 → zB, below_set → zC, below_size → zD, below_step → zE, blk_alloc → zF, blk_below → zG, blk_cell → zH, blk_drew → zI, blk_drewN → zJ, blk_frozen → zK, pw_below_drewN → zL, gate_callee → zM, gate_dst → zN
open Go.Proofs.YtldbmljooafkcaaW.PrintWords.Aside0 renaming mk → zO
open Go.Proofs.YtldbmljooafkcaaW.PrintWords.Kd renaming C_alloc → zR, C_drew → zS, C_drewN → zT, R_alloc → zU, R_drew → zV, R_drewN → zW, R_reads' → zX, R_lower → yA
open Option renaming bind_eq_some_iff → yE
open List renaming length_take → yI, length_drop → yJ, map_toArray → yK, map_cons → yL, map_nil → yM
set_option maxHeartbeats 8000000
set_option maxRecDepth 100000
attribute [local go_sem] max2_int min2_int max_two min_two max_three min_three max_four min_four
set_option linter.unusedVariables false
set_option linter.unusedSimpArgs false

mutual
def impl_IntToBits.j0 : Nat → Int → Int → Bool → Option (List Int)
 | 0, _, _, _ => none
 | k + 1, x0, x1, x13 => if x13 = true then (some (([] : List Int))) else (if 0 ≤ x1 then (if (x1 : Int).toNat ≤ 35184372088832 then ((some (List.replicate (x1 : Int).toNat 0 : List Int)).bind fun y418 => (impl_IntToBits.l0 k x0 y418 (y418.length : Int) 0)) else (none)) else (none))
def impl_IntToBits.l0 : Nat → Int → List Int → Int → Int → Option (List Int)
 | 0, _, _, _, _ => none
 | k + 1, x0, x5, x18, x19 => if x19 < x18 then (if 0 ≤ x19 then (if x19 < (x5.length : Int) then (impl_IntToBits.l0 k x0 (x5.set (x19 : Int).toNat (Go.bits .and .i64 (shr .i64 x0 x19) 1)) x18 (wrap64 (x19 + 1))) else (none)) else (none)) else (some x5)
end
def impl_IntToBits.f (k : Nat) (a0 : Int) (a1 : Int) : Option (List Int) := if a0 < 0 then (impl_IntToBits.j0 k a0 a1 true) else ((impl_InRange.f a1 0 40).bind fun t414 => (impl_IntToBits.j0 k a0 a1 (!t414)))
theorem impl_IntToBits.calls (k : Nat) (a0 : Int) (a1 : Int) (r : List Int) (w : World) (h : impl_IntToBits.f k a0 a1 = some r) :
  Calls Try.prog 167 #[.int .i64 a0, .int .i64 a1] w fun e w' => ∃ v0_ : Value, e = .returned (v0_) ∧ Kd.R (Kd.int .i64) 3 w' w.heap.size (fun _ => True) v0_ r ∧ Below w.heap.size w w' := by
 have HB := zO (Below.refl w.heap.size w)
 have H : (if a0 < 0 then (impl_IntToBits.j0 k a0 a1 true) else ((impl_InRange.f a1 0 40).bind fun t414 => (impl_IntToBits.j0 k a0 a1 (!t414)))) = some r := h
 clear h
 have HC3 := zO H
 clear H
 go_enter Try.func167, Try.ntmps167
 go_upto_region 1 with (fail)
 go_cut [13] (fun v13 wc => ∃ (kq : Nat) (x13_2 : Bool), v13 = .bool x13_2 ∧ Aside0 (impl_IntToBits.j0 kq a0 a1 x13_2 = some r) ∧ Aside0 (kq ≤ k) ∧ Aside0 (Below w.heap.size w wc))
 case first =>
  have H := HC3.out
  clear HC3
  by_cases c4 : a0 < 0
  ·rw [if_pos c4] at H
   have c4b0 : decide (a0 < 0) = true := decide_eq_true c4
   clear c4
   (first | rw [c4b0] | (simp only [i64_w, i32_w]; rw [c4b0]) | skip)
   have H' := zO H
   clear H
   go_wp2
   go_meet
   case rel => exact ⟨_, (true), (by first | rfl | (simp; done) | (simp [*]; done)), H', ⟨by first | omega | exact Nat.le_refl _⟩, ⟨by repeat (first | exact HB.out | apply zA | apply zL | apply zB)⟩⟩
  ·rw [if_neg c4] at H
   have c4b0 : decide (a0 < 0) = false := decide_eq_false c4
   clear c4
   (first | rw [c4b0] | (simp only [i64_w, i32_w]; rw [c4b0]) | skip)
   replace H := yE.mp H
   obtain ⟨t414, A50, H⟩ := H
   replace H : (impl_IntToBits.j0 k a0 a1 (!t414)) = some r := H
   have A5 := zO A50
   clear A50
   have H' := zO H
   clear H
   go_wp2_with (first | (go_at_call 101; (with_reducible refine (impl_InRange.calls a1 0 40 t414 _ A5.out).mono ?_); rintro e w' ⟨rfl, ⟨nd, rfl⟩⟩))
   go_meet
   case rel => exact ⟨_, (!t414), (by first | rfl | (simp; done) | (simp [*]; done)), H', ⟨by first | omega | exact Nat.le_refl _⟩, ⟨by repeat (first | exact HB.out | apply zA | apply zL | apply zB)⟩⟩
 case rest =>
  clear HC3
  try clear c1
  try clear p2
  try clear c4
  try clear c4b0
  obtain ⟨kq, x13_2, rfl, HA, HJ2, HB⟩ := hcut
  cases kq with
  | zero => exact absurd HA.out (by simp [impl_IntToBits.j0])
  | succ kj2 =>
   have H := HA.out
   clear HA
   simp only [impl_IntToBits.j0] at H
   by_cases c6 : x13_2 = true
   ·subst c6
    have H1 : (some (([] : List Int))) = some r := by rw [if_pos rfl] at H; exact H
    clear H
    have H := H1
    clear H1
    obtain ⟨y415, hy415⟩ : ∃ y_ : List Int, y_ = (([] : List Int)) := ⟨_, rfl⟩
    replace H : (some y415) = some r := by first | (rw [hy415]; exact H) | exact H
    have Ny415 := zO hy415
    clear hy415
    obtain rfl := Option.some.inj H
    go_wp2_with (first | ((with_reducible refine zN (N := 14) rfl ?_); refine Kd.R_lit (Kd.int .i64) _ 3 ?hg (N := 14) ?hd (xs := ([] : List Int)) (inner := []) (ok := fun _ => True) (okp := fun _ => True) ?hr ?hp (fun _ hk => hk) trivial (Below.refl _ _) (Nat.le_refl _) (by simp) ?_; (case hd => rfl); (case hg => rfl); (case hr => first | (go_simp; done) | (go_simp; rfl)); (case hp => exact (Reps.none _ _)); intro v416 w7 ho8 hb hg_ hnew_; clear hg_ hnew_; (first | rw [← Ny415.out] at ho8 | (simp only [Int.reduceToNat] at ho8; rw [← Ny415.out] at ho8)); have n0_ := zO (yA ho8 (zD (by repeat (first | exact HB.out | apply zA | apply zL | apply zB)))); have n1_ := zO (zE (by repeat (first | exact HB.out | apply zA | apply zL | apply zB)) hb); clear HB; have HO417 := n0_; have HB := n1_; clear n0_ n1_; clear hb ho8))
    go_ret
    exact ⟨_, by first | rfl | (simp [errW_none, errW_some] <;> rfl) | (simp [*, errW_none, errW_some] <;> rfl), by (with_reducible repeat (first | apply zU | apply zW | apply zV)); exact HO417.out, by repeat (first | exact HB.out | apply zA | apply zL | apply zB)⟩
   ·replace c6 := Bool.eq_false_iff.mpr c6
    subst c6
    have H1 : (if 0 ≤ a1 then (if (a1 : Int).toNat ≤ 35184372088832 then ((some (List.replicate (a1 : Int).toNat 0 : List Int)).bind fun y418 => (impl_IntToBits.l0 kj2 a0 y418 (y418.length : Int) 0)) else (none)) else (none)) = some r := by rw [if_neg (show ¬ (false = true) by decide)] at H; exact H
    clear H
    have H := H1
    clear H1
    by_cases c9 : 0 ≤ a1
    case neg => rw [if_neg c9] at H; exact absurd H (by simp)
    rw [if_pos c9] at H
    have c9b0 := eq_true c9
    have c9b1 : decide (0 ≤ a1) = true := decide_eq_true c9
    clear c9
    by_cases c10 : (a1 : Int).toNat ≤ 35184372088832
    case neg => rw [if_neg c10] at H; exact absurd H (by simp)
    rw [if_pos c10] at H
    have c10b0 := eq_true c10
    have c10b1 : decide ((a1 : Int).toNat ≤ 35184372088832) = true := decide_eq_true c10
    clear c10
    obtain ⟨y418, hy418⟩ : ∃ y_ : List Int, y_ = (List.replicate (a1 : Int).toNat 0) := ⟨_, rfl⟩
    replace H : (impl_IntToBits.l0 kj2 a0 y418 (y418.length : Int) 0) = some r := by first | (rw [hy418]; exact H) | exact H
    have Ny418 := zO hy418
    clear hy418
    have H' := zO H
    clear H
    go_wp2_with (first | ((with_reducible refine zN (N := 16) rfl ?_); refine Kd.R_make (Kd.int .i64) _ 3 rfl (N := 16) rfl 22 _ _ rfl a1 rfl rfl Try.underlying22 (.int .i64 0) 8 info3 rfl (by decide) (by omega) 0 (ok := fun _ => True) (okp := fun _ => True) rfl (fun _ hk => hk) trivial (yO (by assumption)) (Nat.le_trans (Nat.mul_le_mul_right _ (yO (by assumption) : a1.toNat ≤ 35184372088832)) (by omega)) (Below.refl _ _) (Nat.le_refl _) ?_; intro v419 w11 ho12 hb hg_ hnew_; clear hg_ hnew_; (first | rw [← Ny418.out] at ho12 | (simp only [Int.reduceToNat] at ho12; rw [← Ny418.out] at ho12)); have n0_ := zO (yA ho12 (zD (by repeat (first | exact HB.out | apply zA | apply zL | apply zB)))); have n1_ := zO (zE (by repeat (first | exact HB.out | apply zA | apply zL | apply zB)) hb); clear HB; have HO420 := n0_; have HB := n1_; clear n0_ n1_; clear hb ho12; obtain ⟨Ao13, co13, eo13⟩ := Kd.R_slice HO420.out; subst eo13))
    go_loopg [19] kj2 (fun kq v19 w' => ∃ (x5_2 : List Int) (x19_2 : Int), v19 = .int .i64 x19_2 ∧ Aside0 (impl_IntToBits.l0 kq a0 x5_2 (y418.length : Int) x19_2 = some r) ∧ Aside0 (kq ≤ kj2) ∧ Aside0 (Kd.R (Kd.int .i64) 3 w' w.heap.size (fun _ => True) (.slice Ao13 y418.length co13) x5_2) ∧ Aside0 (Below w.heap.size w w'))
    case atStart => exact ⟨(y418), (0), (by first | rfl | (simp; done) | (simp [*]; done)), H', ⟨Nat.le_refl _⟩, ⟨by (with_reducible repeat (first | apply zU | apply zW | apply zV)); exact HO420.out⟩, ⟨by repeat (first | exact HB.out | apply zA | apply zL | apply zB)⟩⟩
    case round =>
     clear H'
     try clear c1
     try clear p2
     try clear c4
     try clear c4b0
     try clear c6
     try clear c9
     try clear c9b0
     try clear c9b1
     try clear c10
     try clear c10b0
     try clear c10b1
     try clear p2
     obtain ⟨x5_2, x19_2, rfl, HA, HK2, HO_5, HB⟩ := hrel
     have hl5_2 := (zX HO_5.out).1
     rw [hl5_2] at HO_5
     (try simp only [hl5_2])
     cases gk with
     | zero => exact absurd HA.out (by simp [impl_IntToBits.l0])
     | succ k2 =>
      have H := HA.out
      clear HA
      simp only [impl_IntToBits.l0] at H
      by_cases c14 : x19_2 < (y418.length : Int)
      ·rw [if_pos c14] at H
       have c14b0 : decide (x19_2 < (y418.length : Int)) = true := decide_eq_true c14
       clear c14
       by_cases c15 : 0 ≤ x19_2
       case neg => rw [if_neg c15] at H; exact absurd H (by simp)
       rw [if_pos c15] at H
       have c15b0 := eq_true c15
       have c15b1 : decide (0 ≤ x19_2) = true := decide_eq_true c15
       clear c15
       obtain ⟨ji16, hji16⟩ : ∃ j_ : Int, (shr .i64 a0 x19_2) = j_ := ⟨_, rfl⟩
       replace H : (if x19_2 < (x5_2.length : Int) then (impl_IntToBits.l0 k2 a0 (x5_2.set (x19_2 : Int).toNat (Go.bits .and .i64 (ji16) 1)) (y418.length : Int) (wrap64 (x19_2 + 1))) else (none)) = some r := by first | (rw [hji16] at H; exact H) | (simp only [hji16] at H ⊢; exact H)
       have hji16_ : (a0 / 2 ^ min x19_2.toNat 64) = ji16 := hji16
       have hji16z : x19_2 ≤ 64 → (a0 / 2 ^ x19_2.toNat) = ji16 := shr_small hji16
       by_cases c17 : x19_2 < (x5_2.length : Int)
       case neg => rw [if_neg c17] at H; exact absurd H (by simp)
       rw [if_pos c17] at H
       have c17b0 : decide (x19_2 < (x5_2.length : Int)) = true := decide_eq_true c17
       clear c17
       obtain ⟨y421, hy421⟩ : ∃ y_ : List Int, y_ = (x5_2.set (x19_2 : Int).toNat (Go.bits .and .i64 (ji16) 1)) := ⟨_, rfl⟩
       replace H : (impl_IntToBits.l0 k2 a0 y421 (y418.length : Int) (wrap64 (x19_2 + 1))) = some r := by first | (rw [hy421]; exact H) | exact H
       have Ny421 := zO hy421
       clear hy421
       have H' := zO H
       clear H
       have p18 : 0 ≤ (x19_2 : Int) := yO (by assumption)
       have q18 : (x19_2 : Int) < ((x5_2.length : Int) : Int) := yO (by assumption)
       obtain ⟨go18, co18, eo18, gb18, gl18, cl18, HG18⟩ := Kd.R_form HO_5.out (by omega)
       (first | cases eo18 | (injection eo18 with ea_ en_ ec_; (first | subst ea_ | (injection ea_ with ea_; subst ea_)); subst ec_; clear en_))
       have GB18 := zO gb18
       have GG18 := zO HG18
       clear gb18 gl18 HG18
       obtain ⟨hx18_0, hf18_0⟩ := Kd.R_celln 0 HO_5.out (x19_2 : Int) p18 q18
       replace p18 := eq_true p18
       replace q18 := eq_true q18
       have HP19 := Kd.R_putg HO_5.out (x19_2 : Int) (Go.bits .and .i64 (ji16) 1)
       go_wp2_with (first | ((with_reducible refine gate_store (t := 3) (p := 28) rfl ?_); refine store_event (t := 3) (p := 28) (v := ?vo_w20) (w1 := (wr.setCell ⟨go18, (x19_2 : Int).toNat, none⟩ (.int .i64 (Go.bits .and .i64 (ji16) 1)))) ?hg ?ho ?hn ?hr ?_; (case ho => rfl); (case hg => rfl); (case hn => rfl); (case hr => first | (go_simp; done) | (go_simp; rfl)); intro w20 hw; have hg : wr.grownBy w20 (some go18) := (by rw [hw]; exact HP19.2); have hp_ : Kd.R (Kd.int .i64) 3 w20 w.heap.size (fun _ => True) (.slice (some ⟨go18, 0, none⟩) x5_2.length co13) y421 := (by rw [hw, Ny421.out]; exact HP19.1); clear HP19; have n0_ := zO (hp_); have n1_ := zO ((by rw [hw]; exact zC (HB.out) GB18.out : Below w.heap.size w w20)); clear HO_5; clear HB; have HO_5 := n0_; have HB := n1_; clear n0_ n1_; clear hg hw hp_))
       (try simp only [← hl5_2])
       go_roundg k2
       case measure => have := HJ2.out; have := HK2.out; omega
       case rel => exact ⟨(y421), (wrap64 (x19_2 + 1)), (by first | rfl | (simp; done) | (simp [*]; done)), H', ⟨by have := HJ2.out; have := HK2.out; omega⟩, ⟨by (try simp only [hl5_2]); (with_reducible repeat (first | apply zU | apply zW | apply zV)); exact HO_5.out⟩, ⟨by repeat (first | exact HB.out | apply zA | apply zL | apply zB)⟩⟩
      ·rw [if_neg c14] at H
       have c14b0 : decide (x19_2 < (y418.length : Int)) = false := decide_eq_false c14
       clear c14
       (try rw [hl5_2] at c14b0)
       obtain rfl := Option.some.inj H
       go_wp2
       go_ret
       exact ⟨_, by first | rfl | (simp [errW_none, errW_some] <;> rfl) | (simp [*, errW_none, errW_some] <;> rfl), by (with_reducible repeat (first | apply zU | apply zW | apply zV)); exact HO_5.out, by repeat (first | exact HB.out | apply zA | apply zL | apply zB)⟩

def impl_EncodeHeader.l0 : Nat → List Int → List Int → Int → Option (List Int)
 | 0, _, _, _ => none
 | k + 1, x3, x4, x5 => if x5 < 3 then (if x4.length + x3.length < 17592186044416 then (impl_EncodeHeader.l0 k x3 (x4 ++ x3) (wrap64 (x5 + 1))) else (none)) else (some x4)
def impl_EncodeHeader.f (k : Nat) (a0_0 : Int) (a0_1 : Int) (a0_2 : Int) : Option (List Int) := (impl_IsValidHeader.f a0_0 a0_1 a0_2).bind fun t423 => (if t423 = true then ((impl_IntToBits.f k a0_0 2).bind fun t427 => ((impl_IntToBits.f k a0_1 8).bind fun t430 => (if t427.length + t430.length < 17592186044416 then ((some (t427 ++ t430 : List Int)).bind fun y433 => ((impl_IntToBits.f k a0_2 7).bind fun t436 => (if y433.length + t436.length < 17592186044416 then ((some (y433 ++ t436 : List Int)).bind fun y439 => ((impl_Parity.f k y439).bind fun t442 => (if y439.length < 17592186044416 then (if 54 ≤ 35184372088832 then (impl_EncodeHeader.l0 k (y439 ++ [t442]) (([] : List Int)) 0) else (none)) else (none)))) else (none)))) else (none)))) else (some (([] : List Int))))
theorem impl_EncodeHeader.calls (k : Nat) (a0_0 : Int) (a0_1 : Int) (a0_2 : Int) (r : List Int) (w : World) (h : impl_EncodeHeader.f k a0_0 a0_1 a0_2 = some r) :
  Calls Try.prog 135 #[.agg #[.int .i64 a0_0, .int .i64 a0_1, .int .i64 a0_2]] w fun e w' => ∃ v0_ : Value, e = .returned (v0_) ∧ Kd.R (Kd.int .i64) 3 w' w.heap.size (fun _ => True) v0_ r ∧ Below w.heap.size w w' := by
 have hu24 := Try.underlying24
 have HB := zO (Below.refl w.heap.size w)
 have H : ((impl_IsValidHeader.f a0_0 a0_1 a0_2).bind fun t423 => (if t423 = true then ((impl_IntToBits.f k a0_0 2).bind fun t427 => ((impl_IntToBits.f k a0_1 8).bind fun t430 => (if t427.length + t430.length < 17592186044416 then ((some (t427 ++ t430 : List Int)).bind fun y433 => ((impl_IntToBits.f k a0_2 7).bind fun t436 => (if y433.length + t436.length < 17592186044416 then ((some (y433 ++ t436 : List Int)).bind fun y439 => ((impl_Parity.f k y439).bind fun t442 => (if y439.length < 17592186044416 then (if 54 ≤ 35184372088832 then (impl_EncodeHeader.l0 k (y439 ++ [t442]) (([] : List Int)) 0) else (none)) else (none)))) else (none)))) else (none)))) else (some (([] : List Int))))) = some r := h
 clear h
 replace H := yE.mp H
 obtain ⟨t423, A20, H⟩ := H
 replace H : (if t423 = true then ((impl_IntToBits.f k a0_0 2).bind fun t427 => ((impl_IntToBits.f k a0_1 8).bind fun t430 => (if t427.length + t430.length < 17592186044416 then ((some (t427 ++ t430 : List Int)).bind fun y433 => ((impl_IntToBits.f k a0_2 7).bind fun t436 => (if y433.length + t436.length < 17592186044416 then ((some (y433 ++ t436 : List Int)).bind fun y439 => ((impl_Parity.f k y439).bind fun t442 => (if y439.length < 17592186044416 then (if 54 ≤ 35184372088832 then (impl_EncodeHeader.l0 k (y439 ++ [t442]) (([] : List Int)) 0) else (none)) else (none)))) else (none)))) else (none)))) else (some (([] : List Int)))) = some r := H
 have A2 := zO A20
 clear A20
 by_cases c3 : t423 = true
 ·subst c3
  have H1 : ((impl_IntToBits.f k a0_0 2).bind fun t427 => ((impl_IntToBits.f k a0_1 8).bind fun t430 => (if t427.length + t430.length < 17592186044416 then ((some (t427 ++ t430 : List Int)).bind fun y433 => ((impl_IntToBits.f k a0_2 7).bind fun t436 => (if y433.length + t436.length < 17592186044416 then ((some (y433 ++ t436 : List Int)).bind fun y439 => ((impl_Parity.f k y439).bind fun t442 => (if y439.length < 17592186044416 then (if 54 ≤ 35184372088832 then (impl_EncodeHeader.l0 k (y439 ++ [t442]) (([] : List Int)) 0) else (none)) else (none)))) else (none)))) else (none)))) = some r := by rw [if_pos rfl] at H; exact H
  clear H
  have H := H1
  clear H1
  replace H := yE.mp H
  obtain ⟨t427, A40, H⟩ := H
  replace H : ((impl_IntToBits.f k a0_1 8).bind fun t430 => (if t427.length + t430.length < 17592186044416 then ((some (t427 ++ t430 : List Int)).bind fun y433 => ((impl_IntToBits.f k a0_2 7).bind fun t436 => (if y433.length + t436.length < 17592186044416 then ((some (y433 ++ t436 : List Int)).bind fun y439 => ((impl_Parity.f k y439).bind fun t442 => (if y439.length < 17592186044416 then (if 54 ≤ 35184372088832 then (impl_EncodeHeader.l0 k (y439 ++ [t442]) (([] : List Int)) 0) else (none)) else (none)))) else (none)))) else (none))) = some r := H
  have A4 := zO A40
  clear A40
  replace H := yE.mp H
  obtain ⟨t430, A50, H⟩ := H
  replace H : (if t427.length + t430.length < 17592186044416 then ((some (t427 ++ t430 : List Int)).bind fun y433 => ((impl_IntToBits.f k a0_2 7).bind fun t436 => (if y433.length + t436.length < 17592186044416 then ((some (y433 ++ t436 : List Int)).bind fun y439 => ((impl_Parity.f k y439).bind fun t442 => (if y439.length < 17592186044416 then (if 54 ≤ 35184372088832 then (impl_EncodeHeader.l0 k (y439 ++ [t442]) (([] : List Int)) 0) else (none)) else (none)))) else (none)))) else (none)) = some r := H
  have A5 := zO A50
  clear A50
  by_cases c6 : t427.length + t430.length < 17592186044416
  case neg => rw [if_neg c6] at H; exact absurd H (by simp)
  rw [if_pos c6] at H
  have LMc6 := zO c6
  clear c6
  obtain ⟨y433, hy433⟩ : ∃ y_ : List Int, y_ = (t427 ++ t430) := ⟨_, rfl⟩
  replace H : ((impl_IntToBits.f k a0_2 7).bind fun t436 => (if y433.length + t436.length < 17592186044416 then ((some (y433 ++ t436 : List Int)).bind fun y439 => ((impl_Parity.f k y439).bind fun t442 => (if y439.length < 17592186044416 then (if 54 ≤ 35184372088832 then (impl_EncodeHeader.l0 k (y439 ++ [t442]) (([] : List Int)) 0) else (none)) else (none)))) else (none))) = some r := by first | (rw [hy433]; exact H) | exact H
  have Ny433 := zO hy433
  clear hy433
  replace H := yE.mp H
  obtain ⟨t436, A70, H⟩ := H
  replace H : (if y433.length + t436.length < 17592186044416 then ((some (y433 ++ t436 : List Int)).bind fun y439 => ((impl_Parity.f k y439).bind fun t442 => (if y439.length < 17592186044416 then (if 54 ≤ 35184372088832 then (impl_EncodeHeader.l0 k (y439 ++ [t442]) (([] : List Int)) 0) else (none)) else (none)))) else (none)) = some r := H
  have A7 := zO A70
  clear A70
  by_cases c8 : y433.length + t436.length < 17592186044416
  case neg => rw [if_neg c8] at H; exact absurd H (by simp)
  rw [if_pos c8] at H
  have LMc8 := zO c8
  clear c8
  obtain ⟨y439, hy439⟩ : ∃ y_ : List Int, y_ = (y433 ++ t436) := ⟨_, rfl⟩
  replace H : ((impl_Parity.f k y439).bind fun t442 => (if y439.length < 17592186044416 then (if 54 ≤ 35184372088832 then (impl_EncodeHeader.l0 k (y439 ++ [t442]) (([] : List Int)) 0) else (none)) else (none))) = some r := by first | (rw [hy439]; exact H) | exact H
  have Ny439 := zO hy439
  clear hy439
  replace H := yE.mp H
  obtain ⟨t442, A90, H⟩ := H
  replace H : (if y439.length < 17592186044416 then (if 54 ≤ 35184372088832 then (impl_EncodeHeader.l0 k (y439 ++ [t442]) (([] : List Int)) 0) else (none)) else (none)) = some r := H
  have A9 := zO A90
  clear A90
  by_cases c10 : y439.length < 17592186044416
  case neg => rw [if_neg c10] at H; exact absurd H (by simp)
  rw [if_pos c10] at H
  have LMc10 := zO c10
  clear c10
  obtain ⟨y443, hy443⟩ : ∃ y_ : List Int, y_ = (y439 ++ [t442]) := ⟨_, rfl⟩
  replace H : (if 54 ≤ 35184372088832 then (impl_EncodeHeader.l0 k y443 (([] : List Int)) 0) else (none)) = some r := by first | (rw [hy443]; exact H) | exact H
  have Ny443 := zO hy443
  clear hy443
  by_cases c11 : 54 ≤ 35184372088832
  case neg => rw [if_neg c11] at H; exact absurd H (by simp)
  rw [if_pos c11] at H
  have c11b0 := eq_true c11
  have c11b1 : decide (54 ≤ 35184372088832) = true := decide_eq_true c11
  clear c11
  obtain ⟨y446, hy446⟩ : ∃ y_ : List Int, y_ = (([] : List Int)) := ⟨_, rfl⟩
  replace H : (impl_EncodeHeader.l0 k y443 y446 0) = some r := by first | (rw [hy446]; exact H) | exact H
  have Ny446 := zO hy446
  clear hy446
  have H' := zO H
  clear H
  go_enter Try.func135, Try.ntmps135
  go_wp2_with (first | ((with_reducible refine zN (N := 1) rfl ?_); refine box_event ?hg (N := 1) ?hd (cs := #[.int .i64 a0_0, .int .i64 a0_1, .int .i64 a0_2]) (t := 24) ?hr ?_; (case hd => rfl); (case hg => rfl); (case hr => first | (go_simp; done) | (go_simp; rfl)); intro gb422 hg w12 hbox hb; have n0_ := zO (zE (by repeat (first | exact HB.out | apply zA | apply zL | apply zB)) hb); have n1_ := zO (hbox); have n2_ := zO ((by rw [hg]; exact (zD (by repeat (first | exact HB.out | apply zA | apply zL | apply zB))) : w.heap.size ≤ gb422)); have n3_ := zO ((by rw [hg]; exact (zD (by repeat (first | exact HB.out | apply zA | apply zL | apply zB))) : w.heap.size ≤ gb422)); clear HB; have HB := n0_; have BK422 := n1_; have GW422 := n2_; have GE422 := n3_; clear n0_ n1_ n2_ n3_; clear hb hbox hg; have hcz13_0 : w12.cell? ⟨gb422, 0, none⟩ = some (.int .i64 a0_0) := (zH BK422.out 0).trans rfl; have hcz13_1 : w12.cell? ⟨gb422, 1, none⟩ = some (.int .i64 a0_1) := (zH BK422.out 1).trans rfl; have hcz13_2 : w12.cell? ⟨gb422, 2, none⟩ = some (.int .i64 a0_2) := (zH BK422.out 2).trans rfl; have hfz13_0 := zK BK422.out 0; have hfz13_1 := zK BK422.out 1; have hfz13_2 := zK BK422.out 2) | ((with_reducible refine zM (f := 75) rfl ?_); refine goesL_ (some 7) rfl rfl Try.func75 (by kernel_rfl) rfl #[.agg #[.int .i64 a0_0, .int .i64 a0_1, .int .i64 a0_2]] rfl (by (try simp only [yK, yL, yM]); first | done | rfl | (simp only [yJ, yI]; rfl)) ?_; (with_reducible refine (impl_IsValidHeader.calls a0_0 a0_1 a0_2 true _ A2.out).mono ?_); rintro e w14 ⟨rfl, hb⟩; refine ⟨_, rfl, ?_⟩; have n0_ := zO (zG (g := gb422) (o := .cells #[.int .i64 a0_0, .int .i64 a0_1, .int .i64 a0_2] 24 (0, 0)) (by (with_reducible repeat (first | refine zJ ?_ _ | refine zI ?_ | refine zF ?_ _)); exact BK422.out) hb); have n1_ := zO (zE (by repeat (first | (with_reducible first | exact HB.out | apply zA | apply zL | apply zB | refine zC ?_ GE422.out) | exact HB.out)) hb); clear BK422; clear HB; have BK422 := n0_; have HB := n1_; clear n0_ n1_; (try clear hb); (try clear hb2); (try clear hk); (try clear hi); have hcz15_0 : w14.cell? ⟨gb422, 0, none⟩ = some (.int .i64 a0_0) := (zH BK422.out 0).trans rfl; have hcz15_1 : w14.cell? ⟨gb422, 1, none⟩ = some (.int .i64 a0_1) := (zH BK422.out 1).trans rfl; have hcz15_2 : w14.cell? ⟨gb422, 2, none⟩ = some (.int .i64 a0_2) := (zH BK422.out 2).trans rfl; have hfz15_0 := zK BK422.out 0; have hfz15_1 := zK BK422.out 1; have hfz15_2 := zK BK422.out 2) | ((with_reducible refine zM (f := 167) rfl ?_); refine goesL_ (some 12) rfl rfl Try.func167 (by kernel_rfl) rfl #[.int .i64 a0_0, .int .i64 2] rfl (by (try simp only [yK, yL, yM]); first | done | rfl | (simp only [yJ, yI]; rfl)) ?_; (with_reducible refine (impl_IntToBits.calls k a0_0 2 t427 _ A4.out).mono ?_); rintro e w16 ⟨v428, rfl, ho0, hb⟩; refine ⟨_, rfl, ?_⟩; have n0_ := zO (yA ho0 (zD (by repeat (first | (with_reducible first | exact HB.out | apply zA | apply zL | apply zB | refine zC ?_ GE422.out) | exact HB.out)))); have n1_ := zO (zG (g := gb422) (o := .cells #[.int .i64 a0_0, .int .i64 a0_1, .int .i64 a0_2] 24 (0, 0)) (by (with_reducible repeat (first | refine zJ ?_ _ | refine zI ?_ | refine zF ?_ _)); exact BK422.out) hb); have n2_ := zO (zE (by repeat (first | (with_reducible first | exact HB.out | apply zA | apply zL | apply zB | refine zC ?_ GE422.out) | exact HB.out)) hb); clear BK422; clear HB; have HO429 := n0_; have BK422 := n1_; have HB := n2_; clear n0_ n1_ n2_; (try clear hb); (try clear hb2); (try clear hk); (try clear hi); (try clear ho0); have hcz17_0 : w16.cell? ⟨gb422, 0, none⟩ = some (.int .i64 a0_0) := (zH BK422.out 0).trans rfl; have hcz17_1 : w16.cell? ⟨gb422, 1, none⟩ = some (.int .i64 a0_1) := (zH BK422.out 1).trans rfl; have hcz17_2 : w16.cell? ⟨gb422, 2, none⟩ = some (.int .i64 a0_2) := (zH BK422.out 2).trans rfl; have hfz17_0 := zK BK422.out 0; have hfz17_1 := zK BK422.out 1; have hfz17_2 := zK BK422.out 2) | ((with_reducible refine zM (f := 167) rfl ?_); refine goesL_ (some 16) rfl rfl Try.func167 (by kernel_rfl) rfl #[.int .i64 a0_1, .int .i64 8] rfl (by (try simp only [yK, yL, yM]); first | done | rfl | (simp only [yJ, yI]; rfl)) ?_; (with_reducible refine (impl_IntToBits.calls k a0_1 8 t430 _ A5.out).mono ?_); rintro e w18 ⟨v431, rfl, ho0, hb⟩; refine ⟨_, rfl, ?_⟩; have n0_ := zO (Kd.R_elder' (by (with_reducible repeat (first | apply zU | apply zW | apply zV)); exact HO429.out) (Kd.R_base ho0) hb); have n1_ := zO (yA (Kd.R_new' ho0 (Kd.R_lt (by (with_reducible repeat (first | apply zU | apply zW | apply zV)); exact HO429.out))) (zD (by repeat (first | (with_reducible first | exact HB.out | apply zA | apply zL | apply zB | refine zC ?_ GE422.out) | exact HB.out)))); have n2_ := zO (zG (g := gb422) (o := .cells #[.int .i64 a0_0, .int .i64 a0_1, .int .i64 a0_2] 24 (0, 0)) (by (with_reducible repeat (first | refine zJ ?_ _ | refine zI ?_ | refine zF ?_ _)); exact BK422.out) hb); have n3_ := zO (zE (by repeat (first | (with_reducible first | exact HB.out | apply zA | apply zL | apply zB | refine zC ?_ GE422.out) | exact HB.out)) hb); clear HO429; clear BK422; clear HB; have HO429 := n0_; have HO432 := n1_; have BK422 := n2_; have HB := n3_; clear n0_ n1_ n2_ n3_; (try clear hb); (try clear hb2); (try clear hk); (try clear hi); (try clear ho0); obtain ⟨Ao20, co20, eo20⟩ := Kd.R_slice HO432.out; subst eo20) | ((with_reducible refine gate_builtin (b := .append) (xs := #[.tmp 13, .tmp 16]) rfl ?_); at_builtin; refine Kd.R_append_rows (Kd.int .i64) (w0 := w) w.heap.size rfl (.tmp 13) (.tmp 16) 22 3 (.int .i64 0) 8 rfl Try.underlying22 info3 rfl (by decide) (by omega) v428 t427 t430 _ _ _ (fun k_ => some k_ ≠ (.slice Ao20 t430.length co20 : Value).ownBlock) (fun _ => False) rfl rfl ?aO ?aR (fun _ _ h => h) (fun _ h => h.elim) ?aF ?aB ?aS ?aL ?_; (case aR => repeat (first | exact (zX HO432.out).2.2 | (with_reducible refine zR ?_ _) | (with_reducible refine zT ?_ _) | (with_reducible refine zS ?_))); (case aB => exact (by repeat (first | (with_reducible first | exact HB.out | apply zA | apply zL | apply zB | refine zC ?_ GE422.out) | exact HB.out))); (case aF => exact (fun k_ hk => Kd.fresh' (Kd.R_lt (by (with_reducible repeat (first | apply zU | apply zW | apply zV)); exact HO432.out)) k_ hk)); (case aO => exact (by (with_reducible repeat (first | apply zU | apply zW | apply zV)); exact Kd.R_mono HO429.out (fun _ hk => hk.2))); (case aS => exact (zD (by repeat (first | (with_reducible first | exact HB.out | apply zA | apply zL | apply zB | refine zC ?_ GE422.out) | exact HB.out)))); (case aL => have := LMc6.out; omega); intro v434 w19 ho hb hg hat; rw [← Ny433.out] at ho; have n0_ := zO (blk_grown (g := gb422) (o := .cells #[.int .i64 a0_0, .int .i64 a0_1, .int .i64 a0_2] 24 (0, 0)) (by (with_reducible repeat (first | refine zJ ?_ _ | refine zI ?_ | refine zF ?_ _)); exact BK422.out) hg (Kd.R_ne HO429.out BK422.out (by decide))); have n1_ := zO (Kd.R_after (ok := (fun _ => True)) (by (with_reducible repeat (first | apply zU | apply zW | apply zV)); exact HO432.out) hg hat); have n2_ := zO (hb); have n3_ := zO (ho); clear BK422; clear HO432; clear HB; clear HO429; have BK422 := n0_; have HO432 := n1_; have HB := n2_; have HO435 := n3_; clear n0_ n1_ n2_ n3_; clear ho hb hg hat; have hcz21_0 : w19.cell? ⟨gb422, 0, none⟩ = some (.int .i64 a0_0) := (zH BK422.out 0).trans rfl; have hcz21_1 : w19.cell? ⟨gb422, 1, none⟩ = some (.int .i64 a0_1) := (zH BK422.out 1).trans rfl; have hcz21_2 : w19.cell? ⟨gb422, 2, none⟩ = some (.int .i64 a0_2) := (zH BK422.out 2).trans rfl; have hfz21_0 := zK BK422.out 0; have hfz21_1 := zK BK422.out 1; have hfz21_2 := zK BK422.out 2) | ((with_reducible refine zM (f := 167) rfl ?_); refine goesL_ (some 21) rfl rfl Try.func167 (by kernel_rfl) rfl #[.int .i64 a0_2, .int .i64 7] rfl (by (try simp only [yK, yL, yM]); first | done | rfl | (simp only [yJ, yI]; rfl)) ?_; (with_reducible refine (impl_IntToBits.calls k a0_2 7 t436 _ A7.out).mono ?_); rintro e w22 ⟨v437, rfl, ho0, hb⟩; refine ⟨_, rfl, ?_⟩; have n0_ := zO (Kd.R_elder' (by (with_reducible repeat (first | apply zU | apply zW | apply zV)); exact HO432.out) (Kd.R_base ho0) hb); have n1_ := zO (Kd.R_elder' (by (with_reducible repeat (first | apply zU | apply zW | apply zV)); exact HO435.out) (Kd.R_base ho0) hb); have n2_ := zO (yA (Kd.R_new' (Kd.R_new' ho0 (Kd.R_lt (by (with_reducible repeat (first | apply zU | apply zW | apply zV)); exact HO432.out))) (Kd.R_lt (by (with_reducible repeat (first | apply zU | apply zW | apply zV)); exact HO435.out))) (zD (by repeat (first | (with_reducible first | exact HB.out | apply zA | apply zL | apply zB | refine zC ?_ GE422.out) | exact HB.out)))); have n3_ := zO (zG (g := gb422) (o := .cells #[.int .i64 a0_0, .int .i64 a0_1, .int .i64 a0_2] 24 (0, 0)) (by (with_reducible repeat (first | refine zJ ?_ _ | refine zI ?_ | refine zF ?_ _)); exact BK422.out) hb); have n4_ := zO (zE (by repeat (first | (with_reducible first | exact HB.out | apply zA | apply zL | apply zB | refine zC ?_ GE422.out) | exact HB.out)) hb); clear HO432; clear HO435; clear BK422; clear HB; have HO432 := n0_; have HO435 := n1_; have HO438 := n2_; have BK422 := n3_; have HB := n4_; clear n0_ n1_ n2_ n3_ n4_; (try clear hb); (try clear hb2); (try clear hk); (try clear hi); (try clear ho0); obtain ⟨Ao24, co24, eo24⟩ := Kd.R_slice HO438.out; subst eo24) | ((with_reducible refine gate_builtin (b := .append) (xs := #[.tmp 18, .tmp 21]) rfl ?_); at_builtin; refine Kd.R_append_rows (Kd.int .i64) (w0 := w) w.heap.size rfl (.tmp 18) (.tmp 21) 22 3 (.int .i64 0) 8 rfl Try.underlying22 info3 rfl (by decide) (by omega) v434 y433 t436 _ _ _ (fun k_ => some k_ ≠ (.slice Ao20 t430.length co20 : Value).ownBlock ∧ some k_ ≠ (.slice Ao24 t436.length co24 : Value).ownBlock) (fun _ => False) rfl rfl ?aO ?aR (fun _ _ h => h) (fun _ h => h.elim) ?aF ?aB ?aS ?aL ?_; (case aR => repeat (first | exact (zX HO438.out).2.2 | (with_reducible refine zR ?_ _) | (with_reducible refine zT ?_ _) | (with_reducible refine zS ?_))); (case aB => exact (by repeat (first | (with_reducible first | exact HB.out | apply zA | apply zL | apply zB | refine zC ?_ GE422.out) | exact HB.out))); (case aF => exact (fun k_ hk => ⟨Kd.fresh' (Kd.R_lt (by (with_reducible repeat (first | apply zU | apply zW | apply zV)); exact HO432.out)) k_ hk, Kd.fresh' (Kd.R_lt (by (with_reducible repeat (first | apply zU | apply zW | apply zV)); exact HO438.out)) k_ hk⟩)); (case aO => exact (by (with_reducible repeat (first | apply zU | apply zW | apply zV)); exact HO435.out)); (case aS => exact (zD (by repeat (first | (with_reducible first | exact HB.out | apply zA | apply zL | apply zB | refine zC ?_ GE422.out) | exact HB.out)))); (case aL => have := LMc8.out; omega); intro v440 w23 ho hb hg hat; rw [← Ny439.out] at ho; have n0_ := zO (blk_grown (g := gb422) (o := .cells #[.int .i64 a0_0, .int .i64 a0_1, .int .i64 a0_2] 24 (0, 0)) (by (with_reducible repeat (first | refine zJ ?_ _ | refine zI ?_ | refine zF ?_ _)); exact BK422.out) hg (Kd.R_ne HO435.out BK422.out (by decide))); have n1_ := zO (Kd.R_after (ok := (fun k_ => some k_ ≠ (.slice Ao24 t436.length co24 : Value).ownBlock)) (by (with_reducible repeat (first | apply zU | apply zW | apply zV)); exact Kd.R_mono HO432.out (fun _ hk => ⟨hk.2, hk.1.2⟩)) hg hat); have n2_ := zO (Kd.R_after (ok := (fun k_ => some k_ ≠ (.slice Ao20 t430.length co20 : Value).ownBlock)) (by (with_reducible repeat (first | apply zU | apply zW | apply zV)); exact Kd.R_mono HO438.out (fun _ hk => ⟨hk.1.2, hk.2⟩)) hg hat); have n3_ := zO (hb); have n4_ := zO (ho); clear BK422; clear HO432; clear HO438; clear HB; clear HO435; have BK422 := n0_; have HO432 := n1_; have HO438 := n2_; have HB := n3_; have HO441 := n4_; clear n0_ n1_ n2_ n3_ n4_; clear ho hb hg hat; obtain ⟨Ao25, co25, eo25⟩ := Kd.R_slice HO441.out; subst eo25) | ((with_reducible refine zM (f := 74) rfl ?_); refine goesL_ (some 25) rfl rfl Try.func74 (by kernel_rfl) rfl #[.slice Ao25 y439.length co25] rfl (by (try simp only [yK, yL, yM]); first | done | rfl | (simp only [yJ, yI]; rfl)) ?_; (with_reducible refine (impl_Parity.calls k _ _ y439 t442 _ ?side1 ?side2 A9.out).mono ?_); (case side1 => repeat (first | exact (zX HO441.out).2.2 | (with_reducible refine zR ?_ _) | (with_reducible refine zT ?_ _) | (with_reducible refine zS ?_))); (case side2 => exact (zX HO441.out).2.1); rintro e w' ⟨rfl, ⟨nd, rfl⟩⟩; refine ⟨_, rfl, ?_⟩) | ((with_reducible refine gate_builtin (b := .append) (xs := #[.tmp 23, .tmp 26]) rfl ?_); at_builtin; refine Kd.R_append (Kd.int .i64) (w0 := w) w.heap.size rfl (.tmp 23) (.tmp 26) 22 3 (.int .i64 0) 8 rfl Try.underlying22 info3 rfl (by decide) (by omega) (.slice Ao25 y439.length co25) y439 t442 [.int .i64 t442] (fun k_ => some k_ ≠ (.slice Ao20 t430.length co20 : Value).ownBlock ∧ some k_ ≠ (.slice Ao24 t436.length co24 : Value).ownBlock) (fun _ => False) rfl rfl ?aP (fun _ hk => hk.elim) ?aF ?aO ?aB ?aS ?aL ?_; (case aP => exact rfl); (case aB => exact (by repeat (first | (with_reducible first | exact HB.out | apply zA | apply zL | apply zB | refine zC ?_ GE422.out) | exact HB.out))); (case aF => exact (fun k_ hk => ⟨Kd.fresh' (Kd.R_lt (by (with_reducible repeat (first | apply zU | apply zW | apply zV)); exact HO432.out)) k_ hk, Kd.fresh' (Kd.R_lt (by (with_reducible repeat (first | apply zU | apply zW | apply zV)); exact HO438.out)) k_ hk⟩)); (case aO => exact (by (with_reducible repeat (first | apply zU | apply zW | apply zV)); exact HO441.out)); (case aS => exact (zD (by repeat (first | (with_reducible first | exact HB.out | apply zA | apply zL | apply zB | refine zC ?_ GE422.out) | exact HB.out)))); (case aL => have := LMc10.out; omega); intro v444 w26 ho hb hg hat; rw [← Ny443.out] at ho; have n0_ := zO (blk_grown (g := gb422) (o := .cells #[.int .i64 a0_0, .int .i64 a0_1, .int .i64 a0_2] 24 (0, 0)) (by (with_reducible repeat (first | refine zJ ?_ _ | refine zI ?_ | refine zF ?_ _)); exact BK422.out) hg (Kd.R_ne HO441.out BK422.out (by decide))); have n1_ := zO (Kd.R_after (ok := (fun k_ => some k_ ≠ (.slice Ao24 t436.length co24 : Value).ownBlock)) (by (with_reducible repeat (first | apply zU | apply zW | apply zV)); exact HO432.out) hg hat); have n2_ := zO (Kd.R_after (ok := (fun k_ => some k_ ≠ (.slice Ao20 t430.length co20 : Value).ownBlock)) (by (with_reducible repeat (first | apply zU | apply zW | apply zV)); exact HO438.out) hg hat); have n3_ := zO (hb); have n4_ := zO (ho); clear BK422; clear HO432; clear HO438; clear HB; clear HO441; have BK422 := n0_; have HO432 := n1_; have HO438 := n2_; have HB := n3_; have HO445 := n4_; clear n0_ n1_ n2_ n3_ n4_; clear ho hb hg hat) | ((with_reducible refine zN (N := 28) rfl ?_); refine Kd.R_make0 .i64 _ 3 rfl (N := 28) rfl 22 _ _ rfl 54 rfl rfl Try.underlying22 (.int .i64 0) 8 info3 (by decide) (ok := fun _ => True) trivial (by omega) (by omega) (Below.refl _ _) (Nat.le_refl _) ?_; intro v447 w27 ho28 hb hg_ hnew_; clear hg_ hnew_; (first | rw [← Ny446.out] at ho28 | (simp only [Int.reduceToNat] at ho28; rw [← Ny446.out] at ho28)); have n0_ := zO (Kd.R_elder' (by (with_reducible repeat (first | apply zU | apply zW | apply zV)); exact HO432.out) (Kd.R_base ho28) hb); have n1_ := zO (Kd.R_elder' (by (with_reducible repeat (first | apply zU | apply zW | apply zV)); exact HO438.out) (Kd.R_base ho28) hb); have n2_ := zO (Kd.R_elder' (by (with_reducible repeat (first | apply zU | apply zW | apply zV)); exact HO445.out) (Kd.R_base ho28) hb); have n3_ := zO (yA (Kd.R_new' (Kd.R_new' (Kd.R_new' ho28 (Kd.R_lt (by (with_reducible repeat (first | apply zU | apply zW | apply zV)); exact HO432.out))) (Kd.R_lt (by (with_reducible repeat (first | apply zU | apply zW | apply zV)); exact HO438.out))) (Kd.R_lt (by (with_reducible repeat (first | apply zU | apply zW | apply zV)); exact HO445.out))) (zD (by repeat (first | (with_reducible first | exact HB.out | apply zA | apply zL | apply zB | refine zC ?_ GE422.out) | exact HB.out)))); have n4_ := zO (zG (g := gb422) (o := .cells #[.int .i64 a0_0, .int .i64 a0_1, .int .i64 a0_2] 24 (0, 0)) (by (with_reducible repeat (first | refine zJ ?_ _ | refine zI ?_ | refine zF ?_ _)); exact BK422.out) hb); have n5_ := zO (zE (by repeat (first | (with_reducible first | exact HB.out | apply zA | apply zL | apply zB | refine zC ?_ GE422.out) | exact HB.out)) hb); clear HO432; clear HO438; clear HO445; clear BK422; clear HB; have HO432 := n0_; have HO438 := n1_; have HO445 := n2_; have HO448 := n3_; have BK422 := n4_; have HB := n5_; clear n0_ n1_ n2_ n3_ n4_ n5_; clear hb ho28))
  go_loopg [4, 5] k (fun kq v4 v5 w' => ∃ (x4_1 : List Int) (x5_1 : Int), v5 = .int .i64 x5_1 ∧ Aside0 (impl_EncodeHeader.l0 kq y443 x4_1 x5_1 = some r) ∧ Aside0 (kq ≤ k) ∧ Aside0 (Kd.R (Kd.int .i64) 3 w' w.heap.size (fun k_ => some k_ ≠ (v4 : Value).ownBlock) v444 y443) ∧ Aside0 (Kd.R (Kd.int .i64) 3 w' w.heap.size (fun k_ => some k_ ≠ (v444 : Value).ownBlock) v4 x4_1) ∧ Aside0 (w'.heap[gb422]? = some (.cells #[.int .i64 a0_0, .int .i64 a0_1, .int .i64 a0_2] 24 (0, 0))) ∧ Aside0 (Below w.heap.size w w'))
  case atStart => exact ⟨(y446), (0), (by first | rfl | (simp; done) | (simp [*]; done)), H', ⟨Nat.le_refl _⟩, ⟨by (with_reducible repeat (first | apply zU | apply zW | apply zV)); exact Kd.R_mono HO445.out (fun _ hk => hk.2)⟩, ⟨by (with_reducible repeat (first | apply zU | apply zW | apply zV)); exact Kd.R_mono HO448.out (fun _ hk => hk.2)⟩, ⟨by (with_reducible repeat (first | refine zJ ?_ _ | refine zI ?_ | refine zF ?_ _)); exact BK422.out⟩, ⟨by repeat (first | (with_reducible first | exact HB.out | apply zA | apply zL | apply zB | refine zC ?_ GE422.out) | exact HB.out)⟩⟩
  case round =>
   clear H'
   try clear c1
   try clear p2
   try clear c3
   try clear c6
   try clear c7
   try clear c8
   try clear c10
   try clear c11
   try clear c11b0
   try clear c11b1
   try clear c13
   try clear c16
   try clear hcz13_0
   try clear hcz13_1
   try clear hcz13_2
   try clear hcz15_0
   try clear hcz15_1
   try clear hcz15_2
   try clear hcz17_0
   try clear hcz17_1
   try clear hcz17_2
   try clear hcz21_0
   try clear hcz21_1
   try clear hcz21_2
   try clear hfz13_0
   try clear hfz13_1
   try clear hfz13_2
   try clear hfz15_0
   try clear hfz15_1
   try clear hfz15_2
   try clear hfz17_0
   try clear hfz17_1
   try clear hfz17_2
   try clear hfz21_0
   try clear hfz21_1
   try clear hfz21_2
   obtain ⟨x4_1, x5_1, rfl, HA, HK1, HO_3, HO_4, BK422, HB⟩ := hrel
   cases gk with
   | zero => exact absurd HA.out (by simp [impl_EncodeHeader.l0])
   | succ k1 =>
    have H := HA.out
    clear HA
    simp only [impl_EncodeHeader.l0] at H
    by_cases c29 : x5_1 < 3
    ·rw [if_pos c29] at H
     have c29b0 : decide (x5_1 < 3) = true := decide_eq_true c29
     clear c29
     by_cases c30 : x4_1.length + y443.length < 17592186044416
     case neg => rw [if_neg c30] at H; exact absurd H (by simp)
     rw [if_pos c30] at H
     have LMc30 := zO c30
     clear c30
     obtain ⟨y449, hy449⟩ : ∃ y_ : List Int, y_ = (x4_1 ++ y443) := ⟨_, rfl⟩
     replace H : (impl_EncodeHeader.l0 k1 y443 y449 (wrap64 (x5_1 + 1))) = some r := by first | (rw [hy449]; exact H) | exact H
     have Ny449 := zO hy449
     clear hy449
     have H' := zO H
     clear H
     obtain ⟨Ao32, co32, eo32⟩ := Kd.R_slice HO_3.out
     subst eo32
     go_wp2_with (first | ((with_reducible refine gate_builtin (b := .append) (xs := #[.tmp 33, .tmp 34]) rfl ?_); at_builtin; refine Kd.R_append_rows (Kd.int .i64) (w0 := w) w.heap.size rfl (.tmp 33) (.tmp 34) 22 3 (.int .i64 0) 8 rfl Try.underlying22 info3 rfl (by decide) (by omega) u4 x4_1 y443 _ _ _ (fun k_ => some k_ ≠ (.slice Ao32 y443.length co32 : Value).ownBlock) (fun _ => False) rfl rfl ?aO ?aR (fun _ _ h => h) (fun _ h => h.elim) ?aF ?aB ?aS ?aL ?_; (case aR => repeat (first | exact (zX HO_3.out).2.2 | (with_reducible refine zR ?_ _) | (with_reducible refine zT ?_ _) | (with_reducible refine zS ?_))); (case aB => exact (by repeat (first | (with_reducible first | exact HB.out | apply zA | apply zL | apply zB | refine zC ?_ GE422.out) | exact HB.out))); (case aF => exact (fun k_ hk => Kd.fresh' (Kd.R_lt (by (with_reducible repeat (first | apply zU | apply zW | apply zV)); exact HO_3.out)) k_ hk)); (case aO => exact (by (with_reducible repeat (first | apply zU | apply zW | apply zV)); exact HO_4.out)); (case aS => exact (zD (by repeat (first | (with_reducible first | exact HB.out | apply zA | apply zL | apply zB | refine zC ?_ GE422.out) | exact HB.out)))); (case aL => have := LMc30.out; omega); intro v450 w31 ho hb hg hat; rw [← Ny449.out] at ho; have n0_ := zO (Kd.R_after (ok := (fun _ => True)) (by (with_reducible repeat (first | apply zU | apply zW | apply zV)); exact Kd.R_mono HO_3.out (fun _ hk => ⟨trivial, hk⟩)) hg hat); have n1_ := zO (blk_grown (g := gb422) (o := .cells #[.int .i64 a0_0, .int .i64 a0_1, .int .i64 a0_2] 24 (0, 0)) (by (with_reducible repeat (first | refine zJ ?_ _ | refine zI ?_ | refine zF ?_ _)); exact BK422.out) hg (Kd.R_ne HO_4.out BK422.out (by decide))); have n2_ := zO (hb); have n3_ := zO (ho); clear HO_3; clear BK422; clear HB; clear HO_4; have HO_3 := n0_; have BK422 := n1_; have HB := n2_; have HO451 := n3_; clear n0_ n1_ n2_ n3_; clear ho hb hg hat))
     go_roundg k1
     case measure => have := HK1.out; omega
     case rel => exact ⟨(y449), (wrap64 (x5_1 + 1)), (by first | rfl | (simp; done) | (simp [*]; done)), H', ⟨by have := HK1.out; omega⟩, ⟨by (with_reducible repeat (first | apply zU | apply zW | apply zV)); exact Kd.R_mono HO_3.out (fun _ hk => hk.2)⟩, ⟨by (with_reducible repeat (first | apply zU | apply zW | apply zV)); exact HO451.out⟩, ⟨by (with_reducible repeat (first | refine zJ ?_ _ | refine zI ?_ | refine zF ?_ _)); exact BK422.out⟩, ⟨by repeat (first | (with_reducible first | exact HB.out | apply zA | apply zL | apply zB | refine zC ?_ GE422.out) | exact HB.out)⟩⟩
    ·rw [if_neg c29] at H
     have c29b0 : decide (x5_1 < 3) = false := decide_eq_false c29
     clear c29
     obtain rfl := Option.some.inj H
     go_wp2
     go_ret
     exact ⟨_, by first | rfl | (simp [errW_none, errW_some] <;> rfl) | (simp [*, errW_none, errW_some] <;> rfl), by (with_reducible repeat (first | apply zU | apply zW | apply zV)); exact Kd.R_mono HO_4.out (fun _ hk => trivial), by repeat (first | (with_reducible first | exact HB.out | apply zA | apply zL | apply zB | refine zC ?_ GE422.out) | exact HB.out)⟩
 ·replace c3 := Bool.eq_false_iff.mpr c3
  subst c3
  have H1 : (some (([] : List Int))) = some r := by rw [if_neg (show ¬ (false = true) by decide)] at H; exact H
  clear H
  have H := H1
  clear H1
  obtain ⟨y424, hy424⟩ : ∃ y_ : List Int, y_ = (([] : List Int)) := ⟨_, rfl⟩
  replace H : (some y424) = some r := by first | (rw [hy424]; exact H) | exact H
  have Ny424 := zO hy424
  clear hy424
  obtain rfl := Option.some.inj H
  go_enter Try.func135, Try.ntmps135
  go_wp2_with (first | ((with_reducible refine zN (N := 1) rfl ?_); refine box_event ?hg (N := 1) ?hd (cs := #[.int .i64 a0_0, .int .i64 a0_1, .int .i64 a0_2]) (t := 24) ?hr ?_; (case hd => rfl); (case hg => rfl); (case hr => first | (go_simp; done) | (go_simp; rfl)); intro gb422 hg w33 hbox hb; have n0_ := zO (zE (by repeat (first | exact HB.out | apply zA | apply zL | apply zB)) hb); have n1_ := zO (hbox); have n2_ := zO ((by rw [hg]; exact (zD (by repeat (first | exact HB.out | apply zA | apply zL | apply zB))) : w.heap.size ≤ gb422)); have n3_ := zO ((by rw [hg]; exact (zD (by repeat (first | exact HB.out | apply zA | apply zL | apply zB))) : w.heap.size ≤ gb422)); clear HB; have HB := n0_; have BK422 := n1_; have GW422 := n2_; have GE422 := n3_; clear n0_ n1_ n2_ n3_; clear hb hbox hg; have hcz34_0 : w33.cell? ⟨gb422, 0, none⟩ = some (.int .i64 a0_0) := (zH BK422.out 0).trans rfl; have hcz34_1 : w33.cell? ⟨gb422, 1, none⟩ = some (.int .i64 a0_1) := (zH BK422.out 1).trans rfl; have hcz34_2 : w33.cell? ⟨gb422, 2, none⟩ = some (.int .i64 a0_2) := (zH BK422.out 2).trans rfl; have hfz34_0 := zK BK422.out 0; have hfz34_1 := zK BK422.out 1; have hfz34_2 := zK BK422.out 2) | ((with_reducible refine zM (f := 75) rfl ?_); refine goesL_ (some 7) rfl rfl Try.func75 (by kernel_rfl) rfl #[.agg #[.int .i64 a0_0, .int .i64 a0_1, .int .i64 a0_2]] rfl (by (try simp only [yK, yL, yM]); first | done | rfl | (simp only [yJ, yI]; rfl)) ?_; (with_reducible refine (impl_IsValidHeader.calls a0_0 a0_1 a0_2 false _ A2.out).mono ?_); rintro e w35 ⟨rfl, hb⟩; refine ⟨_, rfl, ?_⟩; have n0_ := zO (zG (g := gb422) (o := .cells #[.int .i64 a0_0, .int .i64 a0_1, .int .i64 a0_2] 24 (0, 0)) (by (with_reducible repeat (first | refine zJ ?_ _ | refine zI ?_ | refine zF ?_ _)); exact BK422.out) hb); have n1_ := zO (zE (by repeat (first | (with_reducible first | exact HB.out | apply zA | apply zL | apply zB | refine zC ?_ GE422.out) | exact HB.out)) hb); clear BK422; clear HB; have BK422 := n0_; have HB := n1_; clear n0_ n1_; (try clear hb); (try clear hb2); (try clear hk); (try clear hi)) | ((with_reducible refine zN (N := 9) rfl ?_); refine Kd.R_lit (Kd.int .i64) _ 3 ?hg (N := 9) ?hd (xs := ([] : List Int)) (inner := []) (ok := fun _ => True) (okp := fun _ => True) ?hr ?hp (fun _ hk => hk) trivial (Below.refl _ _) (Nat.le_refl _) (by simp) ?_; (case hd => rfl); (case hg => rfl); (case hr => first | (go_simp; done) | (go_simp; rfl)); (case hp => exact (Reps.none _ _)); intro v425 w36 ho37 hb hg_ hnew_; clear hg_ hnew_; (first | rw [← Ny424.out] at ho37 | (simp only [Int.reduceToNat] at ho37; rw [← Ny424.out] at ho37)); have n0_ := zO (yA ho37 (zD (by repeat (first | (with_reducible first | exact HB.out | apply zA | apply zL | apply zB | refine zC ?_ GE422.out) | exact HB.out)))); have n1_ := zO (zG (g := gb422) (o := .cells #[.int .i64 a0_0, .int .i64 a0_1, .int .i64 a0_2] 24 (0, 0)) (by (with_reducible repeat (first | refine zJ ?_ _ | refine zI ?_ | refine zF ?_ _)); exact BK422.out) hb); have n2_ := zO (zE (by repeat (first | (with_reducible first | exact HB.out | apply zA | apply zL | apply zB | refine zC ?_ GE422.out) | exact HB.out)) hb); clear BK422; clear HB; have HO426 := n0_; have BK422 := n1_; have HB := n2_; clear n0_ n1_ n2_; clear hb ho37))
  go_ret
  exact ⟨_, by first | rfl | (simp [errW_none, errW_some] <;> rfl) | (simp [*, errW_none, errW_some] <;> rfl), by (with_reducible repeat (first | apply zU | apply zW | apply zV)); exact HO426.out, by repeat (first | (with_reducible first | exact HB.out | apply zA | apply zL | apply zB | refine zC ?_ GE422.out) | exact HB.out)⟩

def impl_Interleave.l0 : Nat → List Int → Int → List Int → List Int → Int → Int → Option (List Int)
 | 0, _, _, _, _, _, _ => none
 | k + 1, x0, x1, x5, x16, x17, x18 => if x18 < x17 then (if 0 ≤ x18 then (if x18 < (x16.length : Int) then ((impl_InterleavedIndex.f (x0.length : Int) x1 x18).bind fun t457 => (if 0 ≤ t457 then (if t457 < (x5.length : Int) then (impl_Interleave.l0 k x0 x1 (x5.set (t457 : Int).toNat (rd x16 x18)) x16 x17 (wrap64 (x18 + 1))) else (none)) else (none))) else (none)) else (none)) else (some x5)
def impl_Interleave.f (k : Nat) (l0 : List Int) (a1 : Int) : Option (List Int) := (impl_copyInts.f l0).bind fun t452 => ((impl_isInterleaver.f (l0.length : Int) a1).bind fun t455 => (if t455 = true then (impl_Interleave.l0 k l0 a1 t452 l0 (l0.length : Int) 0) else (some t452)))
theorem impl_Interleave.calls (k : Nat) (A0 : Option Addr) (c0 : Nat) (l0 : List Int) (a1 : Int) (r : List Int) (w : World) (hr0 : Kd.C (Kd.int .i64) w A0 l0.length l0) (hc0 : l0.length ≤ c0) (h : impl_Interleave.f k l0 a1 = some r) :
  Calls Try.prog 136 #[.slice A0 l0.length c0, .int .i64 a1] w fun e w' => ∃ v0_ : Value, e = .returned (v0_) ∧ Kd.R (Kd.int .i64) 3 w' w.heap.size (fun _ => True) v0_ r ∧ Below w.heap.size w w' := by
 have HR0 := zO hr0
 have HC0 := zO hc0
 clear hr0 hc0
 have HB := zO (Below.refl w.heap.size w)
 have H : ((impl_copyInts.f l0).bind fun t452 => ((impl_isInterleaver.f (l0.length : Int) a1).bind fun t455 => (if t455 = true then (impl_Interleave.l0 k l0 a1 t452 l0 (l0.length : Int) 0) else (some t452)))) = some r := h
 clear h
 replace H := yE.mp H
 obtain ⟨t452, A30, H⟩ := H
 replace H : ((impl_isInterleaver.f (l0.length : Int) a1).bind fun t455 => (if t455 = true then (impl_Interleave.l0 k l0 a1 t452 l0 (l0.length : Int) 0) else (some t452))) = some r := H
 have A3 := zO A30
 clear A30
 replace H := yE.mp H
 obtain ⟨t455, A40, H⟩ := H
 replace H : (if t455 = true then (impl_Interleave.l0 k l0 a1 t452 l0 (l0.length : Int) 0) else (some t452)) = some r := H
 have A4 := zO A40
 clear A40
 by_cases c5 : t455 = true
 ·subst c5
  have H1 : (impl_Interleave.l0 k l0 a1 t452 l0 (l0.length : Int) 0) = some r := by rw [if_pos rfl] at H; exact H
  clear H
  have H := H1
  clear H1
  have H' := zO H
  clear H
  go_enter Try.func136, Try.ntmps136
  go_wp2_with (first | ((with_reducible refine zM (f := 103) rfl ?_); refine goesL_ (some 9) rfl rfl Try.func103 (by kernel_rfl) rfl #[.slice A0 l0.length c0] rfl (by (try simp only [yK, yL, yM]); first | done | rfl | (simp only [yJ, yI]; rfl)) ?_; (with_reducible refine (impl_copyInts.calls _ _ l0 t452 _ ?side1 ?side2 A3.out).mono ?_); (case side1 => repeat (first | exact HR0.out | (with_reducible refine zR ?_ _) | (with_reducible refine zT ?_ _) | (with_reducible refine zS ?_))); (case side2 => exact HC0.out); rintro e w6 ⟨v453, rfl, ho0, hb⟩; refine ⟨_, rfl, ?_⟩; have n0_ := zO (yA ho0 (zD (by repeat (first | exact HB.out | apply zA | apply zL | apply zB)))); have n1_ := zO (zE (by repeat (first | exact HB.out | apply zA | apply zL | apply zB)) hb); clear HB; have HO454 := n0_; have HB := n1_; clear n0_ n1_; (try clear hb); (try clear hb2); (try clear hk); (try clear hi); (try clear ho0)) | ((with_reducible refine zM (f := 162) rfl ?_); refine goesL_ (some 13) rfl rfl Try.func162 (by kernel_rfl) rfl #[.int .i64 (l0.length : Int), .int .i64 a1] rfl (by (try simp only [yK, yL, yM]); first | done | rfl | (simp only [yJ, yI]; rfl)) ?_; (with_reducible refine (impl_isInterleaver.calls (l0.length : Int) a1 true _ A4.out).mono ?_); rintro e w' ⟨rfl, ⟨nd, rfl⟩⟩; refine ⟨_, rfl, ?_⟩))
  go_loopg [18] k (fun kq v18 w' => ∃ (x5_1 : List Int) (x18_1 : Int), v18 = .int .i64 x18_1 ∧ Aside0 (impl_Interleave.l0 kq l0 a1 x5_1 l0 (l0.length : Int) x18_1 = some r) ∧ Aside0 (kq ≤ k) ∧ Aside0 (Kd.R (Kd.int .i64) 3 w' w.heap.size (fun _ => True) v453 x5_1) ∧ Aside0 (Below w.heap.size w w'))
  case atStart => exact ⟨(t452), (0), (by first | rfl | (simp; done) | (simp [*]; done)), H', ⟨Nat.le_refl _⟩, ⟨by (with_reducible repeat (first | apply zU | apply zW | apply zV)); exact HO454.out⟩, ⟨by repeat (first | exact HB.out | apply zA | apply zL | apply zB)⟩⟩
  case round =>
   clear H'
   try clear c1
   try clear p2
   try clear c5
   obtain ⟨x5_1, x18_1, rfl, HA, HK1, HO_5, HB⟩ := hrel
   cases gk with
   | zero => exact absurd HA.out (by simp [impl_Interleave.l0])
   | succ k1 =>
    have H := HA.out
    clear HA
    simp only [impl_Interleave.l0] at H
    by_cases c7 : x18_1 < (l0.length : Int)
    ·rw [if_pos c7] at H
     have c7b0 : decide (x18_1 < (l0.length : Int)) = true := decide_eq_true c7
     clear c7
     by_cases c8 : 0 ≤ x18_1
     case neg => rw [if_neg c8] at H; exact absurd H (by simp)
     rw [if_pos c8] at H
     have c8b0 : decide (0 ≤ x18_1) = true := decide_eq_true c8
     clear c8
     by_cases c9 : x18_1 < (l0.length : Int)
     case neg => rw [if_neg c9] at H; exact absurd H (by simp)
     rw [if_pos c9] at H
     have c9b0 : decide (x18_1 < (l0.length : Int)) = true := decide_eq_true c9
     clear c9
     replace H := yE.mp H
     obtain ⟨t457, A100, H⟩ := H
     replace H : (if 0 ≤ t457 then (if t457 < (x5_1.length : Int) then (impl_Interleave.l0 k1 l0 a1 (x5_1.set (t457 : Int).toNat (rd l0 x18_1)) l0 (l0.length : Int) (wrap64 (x18_1 + 1))) else (none)) else (none)) = some r := H
     have A10 := zO A100
     clear A100
     by_cases c11 : 0 ≤ t457
     case neg => rw [if_neg c11] at H; exact absurd H (by simp)
     rw [if_pos c11] at H
     have c11b0 : decide (0 ≤ t457) = true := decide_eq_true c11
     clear c11
     by_cases c12 : t457 < (x5_1.length : Int)
     case neg => rw [if_neg c12] at H; exact absurd H (by simp)
     rw [if_pos c12] at H
     have c12b0 : decide (t457 < (x5_1.length : Int)) = true := decide_eq_true c12
     clear c12
     obtain ⟨y458, hy458⟩ : ∃ y_ : List Int, y_ = (x5_1.set (t457 : Int).toNat (rd l0 x18_1)) := ⟨_, rfl⟩
     replace H : (impl_Interleave.l0 k1 l0 a1 y458 l0 (l0.length : Int) (wrap64 (x18_1 + 1))) = some r := by first | (rw [hy458]; exact H) | exact H
     have Ny458 := zO hy458
     clear hy458
     have H' := zO H
     clear H
     have p456 : 0 ≤ (x18_1 : Int) := yO (by assumption)
     have q456 : x18_1 < (l0.length : Int) := yO (by assumption)
     obtain ⟨ad456, e456, hx456_0⟩ := Kd.at_int HR0.out x18_1 p456 q456
     cases e456
     replace hx456_0 := (HB.out.cell (World.block_lt_of_cell? w _ hx456_0)).trans hx456_0
     replace p456 := eq_true p456
     replace q456 := eq_true q456
     go_wp2_with (first | ((with_reducible refine zM (f := 163) rfl ?_); refine goesL_ (some 28) rfl rfl Try.func163 (by kernel_rfl) rfl #[.int .i64 (l0.length : Int), .int .i64 a1, .int .i64 x18_1] rfl (by (try simp only [yK, yL, yM]); first | done | rfl | (simp only [yJ, yI]; rfl)) ?_; (with_reducible refine (impl_InterleavedIndex.calls (l0.length : Int) a1 x18_1 t457 _ A10.out).mono ?_); rintro e w' ⟨rfl, ⟨nd, rfl⟩⟩; refine ⟨_, rfl, ?_⟩; (try (rw [drewN_self wr]; generalize hq_ : World.drewN wr _ = wr; have n0_ : Aside0 (Kd.R (Kd.int .i64) 3 wr w.heap.size (fun _ => True) v453 x5_1) := ⟨by rw [← hq_]; exact (by (with_reducible repeat (first | apply zU | apply zW | apply zV)); exact HO_5.out)⟩; have n1_ : Aside0 (Below w.heap.size w wr) := ⟨by rw [← hq_]; exact (by repeat (first | exact HB.out | apply zA | apply zL | apply zB))⟩; clear HO_5 HB hq_; have HO_5 := n0_; have HB := n1_; clear n0_ n1_)); have p13 : 0 ≤ (t457 : Int) := yO (by assumption); have q13 : (t457 : Int) < ((x5_1.length : Int) : Int) := yO (by assumption); obtain ⟨go13, co13, eo13, gb13, gl13, cl13, HG13⟩ := Kd.R_form HO_5.out (by omega); (first | cases eo13 | (injection eo13 with ea_ en_ ec_; (first | subst ea_ | (injection ea_ with ea_; subst ea_)); subst ec_; clear en_)); have GB13 := zO gb13; have GG13 := zO HG13; clear gb13 gl13 HG13; obtain ⟨hx13_0, hf13_0⟩ := Kd.R_celln 0 HO_5.out (t457 : Int) p13 q13; replace p13 := eq_true p13; replace q13 := eq_true q13; obtain ⟨hy14_, hz14_⟩ := Kd.R_celln 0 HO_5.out (t457 : Int) (yO (by assumption)) (yO (by assumption)); have HP14 := Kd.R_putg HO_5.out (t457 : Int) (rd l0 x18_1)) | ((with_reducible refine gate_store (t := 3) (p := 30) rfl ?_); refine store_event (t := 3) (p := 30) (v := ?vo_w15) (w1 := (wr.setCell ⟨go13, (t457 : Int).toNat, none⟩ (.int .i64 (rd l0 x18_1)))) ?hg ?ho ?hn ?hr ?_; (case ho => rfl); (case hg => rfl); (case hn => rfl); (case hr => first | (go_simp; done) | (go_simp; rfl)); intro w15 hw; have hg : wr.grownBy w15 (some go13) := (by rw [hw]; exact HP14.2); have hp_ : Kd.R (Kd.int .i64) 3 w15 w.heap.size (fun _ => True) (.slice (some ⟨go13, 0, none⟩) x5_1.length co13) y458 := (by rw [hw, Ny458.out]; exact HP14.1); clear HP14; have n0_ := zO (hp_); have n1_ := zO ((by rw [hw]; exact zC (HB.out) GB13.out : Below w.heap.size w w15)); clear HO_5; clear HB; have HO_5 := n0_; have HB := n1_; clear n0_ n1_; clear hg hw hp_))
     go_roundg k1
     case measure => have := HK1.out; omega
     case rel => exact ⟨(y458), (wrap64 (x18_1 + 1)), (by first | rfl | (simp; done) | (simp [*]; done)), H', ⟨by have := HK1.out; omega⟩, ⟨by (with_reducible repeat (first | apply zU | apply zW | apply zV)); exact HO_5.out⟩, ⟨by repeat (first | exact HB.out | apply zA | apply zL | apply zB)⟩⟩
    ·rw [if_neg c7] at H
     have c7b0 : decide (x18_1 < (l0.length : Int)) = false := decide_eq_false c7
     clear c7
     obtain rfl := Option.some.inj H
     go_wp2
     go_ret
     exact ⟨_, by first | rfl | (simp [errW_none, errW_some] <;> rfl) | (simp [*, errW_none, errW_some] <;> rfl), by (with_reducible repeat (first | apply zU | apply zW | apply zV)); exact HO_5.out, by repeat (first | exact HB.out | apply zA | apply zL | apply zB)⟩
 ·replace c5 := Bool.eq_false_iff.mpr c5
  subst c5
  have H1 : (some t452) = some r := by rw [if_neg (show ¬ (false = true) by decide)] at H; exact H
  clear H
  have H := H1
  clear H1
  obtain rfl := Option.some.inj H
  go_enter Try.func136, Try.ntmps136
  go_wp2_with (first | ((with_reducible refine zM (f := 103) rfl ?_); refine goesL_ (some 9) rfl rfl Try.func103 (by kernel_rfl) rfl #[.slice A0 l0.length c0] rfl (by (try simp only [yK, yL, yM]); first | done | rfl | (simp only [yJ, yI]; rfl)) ?_; (with_reducible refine (impl_copyInts.calls _ _ l0 t452 _ ?side1 ?side2 A3.out).mono ?_); (case side1 => repeat (first | exact HR0.out | (with_reducible refine zR ?_ _) | (with_reducible refine zT ?_ _) | (with_reducible refine zS ?_))); (case side2 => exact HC0.out); rintro e w16 ⟨v453, rfl, ho0, hb⟩; refine ⟨_, rfl, ?_⟩; have n0_ := zO (yA ho0 (zD (by repeat (first | exact HB.out | apply zA | apply zL | apply zB)))); have n1_ := zO (zE (by repeat (first | exact HB.out | apply zA | apply zL | apply zB)) hb); clear HB; have HO454 := n0_; have HB := n1_; clear n0_ n1_; (try clear hb); (try clear hb2); (try clear hk); (try clear hi); (try clear ho0)) | ((with_reducible refine zM (f := 162) rfl ?_); refine goesL_ (some 13) rfl rfl Try.func162 (by kernel_rfl) rfl #[.int .i64 (l0.length : Int), .int .i64 a1] rfl (by (try simp only [yK, yL, yM]); first | done | rfl | (simp only [yJ, yI]; rfl)) ?_; (with_reducible refine (impl_isInterleaver.calls (l0.length : Int) a1 false _ A4.out).mono ?_); rintro e w' ⟨rfl, ⟨nd, rfl⟩⟩; refine ⟨_, rfl, ?_⟩))
  go_ret
  exact ⟨_, by first | rfl | (simp [errW_none, errW_some] <;> rfl) | (simp [*, errW_none, errW_some] <;> rfl), by (with_reducible repeat (first | apply zU | apply zW | apply zV)); exact HO454.out, by repeat (first | exact HB.out | apply zA | apply zL | apply zB)⟩

end Go.Proofs.Ytldbmljooafkcaa.PFnPhysicalFrames
