/- Contracts of Go functions. Conditions: the arguments read as the Lean function's. Written by print2.py, shrink.py (this session's). -/
import Derived.Test.YtldbmljooafkcaaPFnExactReceiveFramex0
import Derived.Test.YtldbmljooafkcaaPFnExactReceiveFramex1
import Derived.Test.YtldbmljooafkcaaPFnExactReceiveFramex2
import Derived.Test.YtldbmljooafkcaaPFnExactReceiveFramex8
namespace Go.Proofs.Ytldbmljooafkcaa.PFnExactReceiveFrame
open Go.RowKit Go.Proofs.YtldbmljooafkcaaW.PrintWords Go.Proofs.YtldbmljooafkcaaW.PrintLast Go.Proofs.YtldbmljooafkcaaW.PrintMore
open Go.Proofs.YtldbmljooafkcaaW.PrintWords renaming below_alloc → zA, below_drew1 → zB, below_set → zC, below_size → zD, below_step → zE, pw_below_drewN → zL, gate_callee → zM, gate_dst → zN
open Go.Proofs.YtldbmljooafkcaaW.PrintWords.Aside0 renaming mk → zO
open Go.Proofs.YtldbmljooafkcaaW.PrintWords.Drawn0 renaming refl → zP, step → zQ
open Go.Proofs.YtldbmljooafkcaaW.PrintWords.Kd renaming C_alloc → zR, C_drew → zS, C_drewN → zT, R_alloc → zU, R_drew → zV, R_drewN → zW, R_lower → yA
open Option renaming bind_eq_some_iff → yE
open List renaming setIfInBounds_toArray → yF, set_cons_zero → yG, set_cons_succ → yH, length_take → yI, length_drop → yJ, map_toArray → yK, map_cons → yL, map_nil → yM
set_option maxHeartbeats 8000000
set_option maxRecDepth 100000
attribute [local go_sem] max2_int min2_int max_two min_two max_three min_three max_four min_four
set_option linter.unusedVariables false
set_option linter.unusedSimpArgs false

mutual
def spec_Depuncture.j0 : Nat → List Int → Int → List Int → Bool → Option (List Int)
 | 0, _, _, _, _ => none
 | k + 1, x0, x1, x5, x18 => if x18 = true then (some x5) else (spec_Depuncture.l0 k x0 x1 x5 0 0)
def spec_Depuncture.l0 : Nat → List Int → Int → List Int → Int → Int → Option (List Int)
 | 0, _, _, _, _, _ => none
 | k + 1, x0, x1, x5, x6, x7 => if x7 < x1 then (if (Int.tmod x7 4) = 3 then (if x5.length < 17592186044416 then (spec_Depuncture.l0 k x0 x1 (x5 ++ [2]) x6 (wrap64 (x7 + 1))) else (none)) else (if 0 ≤ x6 then (if x6 < (x0.length : Int) then (if x5.length < 17592186044416 then (spec_Depuncture.l0 k x0 x1 (x5 ++ [rd x0 x6]) (wrap64 (x6 + 1)) (wrap64 (x7 + 1))) else (none)) else (none)) else (none))) else (some x5)
end
def spec_Depuncture.f (k : Nat) (l0 : List Int) (a1 : Int) : Option (List Int) := (some (([] : List Int) : List Int)).bind fun y256 => ((spec_l1In.f a1 0 4000).bind fun t259 => (if t259 = true then ((spec_PuncturedLength.f a1).bind fun t260 => (spec_Depuncture.j0 k l0 a1 y256 ((l0.length : Int) != t260))) else (spec_Depuncture.j0 k l0 a1 y256 true)))
theorem spec_Depuncture.calls (k : Nat) (A0 : Option Addr) (c0 : Nat) (l0 : List Int) (a1 : Int) (r : List Int) (w : World) (hr0 : Kd.C (Kd.int .i64) w A0 l0.length l0) (hc0 : l0.length ≤ c0) (h : spec_Depuncture.f k l0 a1 = some r) :
  Calls Try.prog 122 #[.slice A0 l0.length c0, .int .i64 a1] w fun e w' => ∃ v0_ : Value, e = .returned (v0_) ∧ Kd.R (Kd.int .i64) 3 w' w.heap.size (fun _ => True) v0_ r ∧ Below w.heap.size w w' := by
 have HR0 := zO hr0
 have HC0 := zO hc0
 clear hr0 hc0
 have HB := zO (Below.refl w.heap.size w)
 have H : ((some (([] : List Int) : List Int)).bind fun y256 => ((spec_l1In.f a1 0 4000).bind fun t259 => (if t259 = true then ((spec_PuncturedLength.f a1).bind fun t260 => (spec_Depuncture.j0 k l0 a1 y256 ((l0.length : Int) != t260))) else (spec_Depuncture.j0 k l0 a1 y256 true)))) = some r := h
 clear h
 obtain ⟨y256, hy256⟩ : ∃ y_ : List Int, y_ = (([] : List Int)) := ⟨_, rfl⟩
 replace H : ((spec_l1In.f a1 0 4000).bind fun t259 => (if t259 = true then ((spec_PuncturedLength.f a1).bind fun t260 => (spec_Depuncture.j0 k l0 a1 y256 ((l0.length : Int) != t260))) else (spec_Depuncture.j0 k l0 a1 y256 true))) = some r := by first | (rw [hy256]; exact H) | exact H
 have Ny256 := zO hy256
 clear hy256
 have HC3 := zO H
 clear H
 go_enter Try.func122, Try.ntmps122
 go_upto_region 2 with (first | ((with_reducible refine zN (N := 8) rfl ?_); (try (refine gate_guard (by rfl) ?_; dsimp only)); refine Kd.R_lit (Kd.int .i64) _ 3 ?hg (N := 8) ?hd (xs := ([] : List Int)) (inner := []) (ok := fun _ => True) (okp := fun _ => True) ?hr ?hp (fun _ hk => hk) trivial (Below.refl _ _) (Nat.le_refl _) (by simp) ?_; (case hd => rfl); (case hg => rfl); (case hr => first | (go_simp; done) | (go_simp; rfl)); (case hp => exact (Reps.none _ _)); intro v257 w4 ho5 hb hg_ hnew_; clear hg_ hnew_; (first | rw [← Ny256.out] at ho5 | (simp only [Int.reduceToNat] at ho5; rw [← Ny256.out] at ho5)); have n0_ := zO (yA ho5 (zD (by repeat (first | exact HB.out | apply zA | apply zL | apply zB)))); have n1_ := zO (zE (by repeat (first | exact HB.out | apply zA | apply zL | apply zB)) hb); clear HB; have HO258 := n0_; have HB := n1_; clear n0_ n1_; clear hb ho5))
 (try simp only [Act.put, yF, yG, yH])
 go_cut [18] (fun v18 wc => ∃ (kq : Nat) (x18_2 : Bool), v18 = .bool x18_2 ∧ Aside0 (spec_Depuncture.j0 kq l0 a1 y256 x18_2 = some r) ∧ Aside0 (kq ≤ k) ∧ Aside0 (Kd.R (Kd.int .i64) 3 wc w.heap.size (fun _ => True) v257 y256) ∧ Aside0 (Below w.heap.size w wc))
 case first =>
  have H := HC3.out
  clear HC3
  replace H := yE.mp H
  obtain ⟨t259, A60, H⟩ := H
  replace H : (if t259 = true then ((spec_PuncturedLength.f a1).bind fun t260 => (spec_Depuncture.j0 k l0 a1 y256 ((l0.length : Int) != t260))) else (spec_Depuncture.j0 k l0 a1 y256 true)) = some r := H
  have A6 := zO A60
  clear A60
  by_cases c7 : t259 = true
  ·subst c7
   have H1 : ((spec_PuncturedLength.f a1).bind fun t260 => (spec_Depuncture.j0 k l0 a1 y256 ((l0.length : Int) != t260))) = some r := by rw [if_pos rfl] at H; exact H
   clear H
   have H := H1
   clear H1
   replace H := yE.mp H
   obtain ⟨t260, A80, H⟩ := H
   replace H : (spec_Depuncture.j0 k l0 a1 y256 ((l0.length : Int) != t260)) = some r := H
   have A8 := zO A80
   clear A80
   have H' := zO H
   clear H
   go_wp2_with (first | ((with_reducible refine zM (f := 95) rfl ?_); refine goesL_ (some 10) rfl rfl Try.func95 (by kernel_rfl) rfl #[.int .i64 a1, .int .i64 0, .int .i64 4000] rfl (by (try simp only [yK, yL, yM]); first | done | rfl | (simp only [yJ, yI]; rfl)) ?_; (with_reducible refine (spec_l1In.calls a1 0 4000 true _ A6.out).mono ?_); rintro e w' ⟨rfl, ⟨nd, rfl⟩⟩; refine ⟨_, rfl, ?_⟩) | (go_at_call 156; (with_reducible refine (spec_PuncturedLength.calls a1 t260 _ A8.out).mono ?_); rintro e w' ⟨rfl, ⟨nd, rfl⟩⟩))
   go_meet
   case rel => exact ⟨_, (((l0.length : Int) != t260)), (by first | rfl | (simp; done) | (simp [*]; done)), H', ⟨by first | omega | exact Nat.le_refl _⟩, ⟨by (with_reducible repeat (first | apply zU | apply zW | apply zV)); exact HO258.out⟩, ⟨by repeat (first | exact HB.out | apply zA | apply zL | apply zB)⟩⟩
  ·replace c7 := Bool.eq_false_iff.mpr c7
   subst c7
   have H1 : (spec_Depuncture.j0 k l0 a1 y256 true) = some r := by rw [if_neg (show ¬ (false = true) by decide)] at H; exact H
   clear H
   have H := H1
   clear H1
   have H' := zO H
   clear H
   go_wp2_with (first | ((with_reducible refine zM (f := 95) rfl ?_); refine goesL_ (some 10) rfl rfl Try.func95 (by kernel_rfl) rfl #[.int .i64 a1, .int .i64 0, .int .i64 4000] rfl (by (try simp only [yK, yL, yM]); first | done | rfl | (simp only [yJ, yI]; rfl)) ?_; (with_reducible refine (spec_l1In.calls a1 0 4000 false _ A6.out).mono ?_); rintro e w' ⟨rfl, ⟨nd, rfl⟩⟩; refine ⟨_, rfl, ?_⟩))
   go_meet
   case rel => exact ⟨_, (true), (by first | rfl | (simp; done) | (simp [*]; done)), H', ⟨by first | omega | exact Nat.le_refl _⟩, ⟨by (with_reducible repeat (first | apply zU | apply zW | apply zV)); exact HO258.out⟩, ⟨by repeat (first | exact HB.out | apply zA | apply zL | apply zB)⟩⟩
 case rest =>
  clear HC3
  try clear c1
  try clear p2
  try clear c7
  obtain ⟨kq, x18_2, rfl, HA, HJ2, HO_5, HB⟩ := hcut
  cases kq with
  | zero => exact absurd HA.out (by simp [spec_Depuncture.j0])
  | succ kj2 =>
   have H := HA.out
   clear HA
   simp only [spec_Depuncture.j0] at H
   by_cases c9 : x18_2 = true
   ·subst c9
    have H1 : (some y256) = some r := by rw [if_pos rfl] at H; exact H
    clear H
    have H := H1
    clear H1
    obtain rfl := Option.some.inj H
    go_wp2
    go_ret
    exact ⟨_, by first | rfl | (simp [errW_none, errW_some] <;> rfl) | (simp [*, errW_none, errW_some] <;> rfl), by (with_reducible repeat (first | apply zU | apply zW | apply zV)); exact HO_5.out, by repeat (first | exact HB.out | apply zA | apply zL | apply zB)⟩
   ·replace c9 := Bool.eq_false_iff.mpr c9
    subst c9
    have H1 : (spec_Depuncture.l0 kj2 l0 a1 y256 0 0) = some r := by rw [if_neg (show ¬ (false = true) by decide)] at H; exact H
    clear H
    have H := H1
    clear H1
    have H' := zO H
    clear H
    go_wp2
    go_loopg [5, 6, 7] kj2 (fun kq v5 v6 v7 w' => ∃ (x5_2 : List Int) (x6_2 : Int) (x7_2 : Int), v6 = .int .i64 x6_2 ∧ v7 = .int .i64 x7_2 ∧ Aside0 (spec_Depuncture.l0 kq l0 a1 x5_2 x6_2 x7_2 = some r) ∧ Aside0 (kq ≤ kj2) ∧ Aside0 (Kd.R (Kd.int .i64) 3 w' w.heap.size (fun _ => True) v5 x5_2) ∧ Aside0 (Below w.heap.size w w'))
    case atStart => exact ⟨(y256), (0), (0), (by first | rfl | (simp; done) | (simp [*]; done)), (by first | rfl | (simp; done) | (simp [*]; done)), H', ⟨Nat.le_refl _⟩, ⟨by (with_reducible repeat (first | apply zU | apply zW | apply zV)); exact HO_5.out⟩, ⟨by repeat (first | exact HB.out | apply zA | apply zL | apply zB)⟩⟩
    case round =>
     clear H'
     try clear c1
     try clear p2
     try clear c7
     try clear c9
     try clear p2
     obtain ⟨x5_2, x6_2, x7_2, rfl, rfl, HA, HK2, HO_5, HB⟩ := hrel
     cases gk with
     | zero => exact absurd HA.out (by simp [spec_Depuncture.l0])
     | succ k2 =>
      have H := HA.out
      clear HA
      simp only [spec_Depuncture.l0] at H
      by_cases c10 : x7_2 < a1
      ·rw [if_pos c10] at H
       have c10b0 : decide (x7_2 < a1) = true := decide_eq_true c10
       clear c10
       by_cases c11 : (Int.tmod x7_2 4) = 3
       ·rw [if_pos c11] at H
        have c11b0 : ((Int.tmod x7_2 4) == 3) = true := beq_iff_eq.mpr c11
        have c11b1 : ((Int.tmod x7_2 4) != 3) = false := bne_eq_false_iff_eq.mpr c11
        clear c11
        by_cases c12 : x5_2.length < 17592186044416
        case neg => rw [if_neg c12] at H; exact absurd H (by simp)
        rw [if_pos c12] at H
        have LMc12 := zO c12
        clear c12
        obtain ⟨y261, hy261⟩ : ∃ y_ : List Int, y_ = (x5_2 ++ [2]) := ⟨_, rfl⟩
        replace H : (spec_Depuncture.l0 k2 l0 a1 y261 x6_2 (wrap64 (x7_2 + 1))) = some r := by first | (rw [hy261]; exact H) | exact H
        have Ny261 := zO hy261
        clear hy261
        have H' := zO H
        clear H
        go_wp2_with (first | ((with_reducible refine gate_builtin (b := .append) (xs := #[.tmp 28, .tmp 29]) rfl ?_); (try (refine gate_guard (by rfl) ?_; dsimp only)); at_builtin; refine Kd.R_append (Kd.int .i64) (w0 := w) w.heap.size rfl (.tmp 28) (.tmp 29) 22 3 (.int .i64 0) 8 rfl Try.underlying22 info3 rfl (by decide) (by omega) u5 x5_2 2 [.int .i64 2] (fun _ => True) (fun _ => False) rfl rfl ?aP (fun _ hk => hk.elim) ?aF ?aO ?aB ?aS ?aL ?_; (case aP => exact rfl); (case aB => exact (by repeat (first | exact HB.out | apply zA | apply zL | apply zB))); (case aF => exact (fun _ _ => trivial)); (case aO => exact (by (with_reducible repeat (first | apply zU | apply zW | apply zV)); exact HO_5.out)); (case aS => exact (zD (by repeat (first | exact HB.out | apply zA | apply zL | apply zB)))); (case aL => have := LMc12.out; omega); intro v262 w13 ho hb hg hat; rw [← Ny261.out] at ho; have n0_ := zO (hb); have n1_ := zO (ho); clear HB; clear HO_5; have HB := n0_; have HO263 := n1_; clear n0_ n1_; clear ho hb hg hat))
        go_roundg k2
        case measure => have := HJ2.out; have := HK2.out; omega
        case rel => exact ⟨(y261), (x6_2), (wrap64 (x7_2 + 1)), (by first | rfl | (simp; done) | (simp [*]; done)), (by first | rfl | (simp; done) | (simp [*]; done)), H', ⟨by have := HJ2.out; have := HK2.out; omega⟩, ⟨by (with_reducible repeat (first | apply zU | apply zW | apply zV)); exact HO263.out⟩, ⟨by repeat (first | exact HB.out | apply zA | apply zL | apply zB)⟩⟩
       ·rw [if_neg c11] at H
        have c11b0 : ((Int.tmod x7_2 4) == 3) = false := beq_eq_false_iff_ne.mpr c11
        have c11b1 : ((Int.tmod x7_2 4) != 3) = true := bne_iff_ne.mpr c11
        by_cases c14 : 0 ≤ x6_2
        case neg => rw [if_neg c14] at H; exact absurd H (by simp)
        rw [if_pos c14] at H
        have c14b0 : decide (0 ≤ x6_2) = true := decide_eq_true c14
        clear c14
        by_cases c15 : x6_2 < (l0.length : Int)
        case neg => rw [if_neg c15] at H; exact absurd H (by simp)
        rw [if_pos c15] at H
        have c15b0 : decide (x6_2 < (l0.length : Int)) = true := decide_eq_true c15
        clear c15
        by_cases c16 : x5_2.length < 17592186044416
        case neg => rw [if_neg c16] at H; exact absurd H (by simp)
        rw [if_pos c16] at H
        have LMc16 := zO c16
        clear c16
        obtain ⟨y265, hy265⟩ : ∃ y_ : List Int, y_ = (x5_2 ++ [rd l0 x6_2]) := ⟨_, rfl⟩
        replace H : (spec_Depuncture.l0 k2 l0 a1 y265 (wrap64 (x6_2 + 1)) (wrap64 (x7_2 + 1))) = some r := by first | (rw [hy265]; exact H) | exact H
        have Ny265 := zO hy265
        clear hy265
        have H' := zO H
        clear H
        have p264 : 0 ≤ (x6_2 : Int) := yO (by assumption)
        have q264 : x6_2 < (l0.length : Int) := yO (by assumption)
        obtain ⟨ad264, e264, hx264_0⟩ := Kd.at_int HR0.out x6_2 p264 q264
        cases e264
        replace hx264_0 := (HB.out.cell (World.block_lt_of_cell? w _ hx264_0)).trans hx264_0
        replace p264 := eq_true p264
        replace q264 := eq_true q264
        go_wp2_with (first | ((with_reducible refine gate_builtin (b := .append) (xs := #[.tmp 31, .tmp 36]) rfl ?_); (try (refine gate_guard (by rfl) ?_; dsimp only)); at_builtin; refine Kd.R_append (Kd.int .i64) (w0 := w) w.heap.size rfl (.tmp 31) (.tmp 36) 22 3 (.int .i64 0) 8 rfl Try.underlying22 info3 rfl (by decide) (by omega) u5 x5_2 (rd l0 x6_2) [.int .i64 (rd l0 x6_2)] (fun _ => True) (fun _ => False) rfl rfl ?aP (fun _ hk => hk.elim) ?aF ?aO ?aB ?aS ?aL ?_; (case aP => exact rfl); (case aB => exact (by repeat (first | exact HB.out | apply zA | apply zL | apply zB))); (case aF => exact (fun _ _ => trivial)); (case aO => exact (by (with_reducible repeat (first | apply zU | apply zW | apply zV)); exact HO_5.out)); (case aS => exact (zD (by repeat (first | exact HB.out | apply zA | apply zL | apply zB)))); (case aL => have := LMc16.out; omega); intro v266 w17 ho hb hg hat; rw [← Ny265.out] at ho; have n0_ := zO (hb); have n1_ := zO (ho); clear HB; clear HO_5; have HB := n0_; have HO267 := n1_; clear n0_ n1_; clear ho hb hg hat))
        go_roundg k2
        case measure => have := HJ2.out; have := HK2.out; omega
        case rel => exact ⟨(y265), (wrap64 (x6_2 + 1)), (wrap64 (x7_2 + 1)), (by first | rfl | (simp; done) | (simp [*]; done)), (by first | rfl | (simp; done) | (simp [*]; done)), H', ⟨by have := HJ2.out; have := HK2.out; omega⟩, ⟨by (with_reducible repeat (first | apply zU | apply zW | apply zV)); exact HO267.out⟩, ⟨by repeat (first | exact HB.out | apply zA | apply zL | apply zB)⟩⟩
      ·rw [if_neg c10] at H
       have c10b0 : decide (x7_2 < a1) = false := decide_eq_false c10
       clear c10
       obtain rfl := Option.some.inj H
       go_wp2
       go_ret
       exact ⟨_, by first | rfl | (simp [errW_none, errW_some] <;> rfl) | (simp [*, errW_none, errW_some] <;> rfl), by (with_reducible repeat (first | apply zU | apply zW | apply zV)); exact HO_5.out, by repeat (first | exact HB.out | apply zA | apply zL | apply zB)⟩

mutual
def spec_BitsToBytes.j0 : Nat → List Int → List Int → Bool → Option (List Int × Bool)
 | 0, _, _, _ => none
 | k + 1, x0, x4, x15 => if x15 = true then (some (x4, false)) else (spec_BitsToBytes.l0 k x0 x4 0)
def spec_BitsToBytes.l0 : Nat → List Int → List Int → Int → Option (List Int × Bool)
 | 0, _, _, _ => none
 | k + 1, x0, x4, x5 => if x5 < (x0.length : Int) then (if 0 ≤ x5 then (if x5 ≤ (wrap64 (x5 + 8)) then (if (wrap64 (x5 + 8)) ≤ (x0.length : Int) then ((spec_BitsToInt.f k ((x0.take ((wrap64 (x5 + 8)) : Int).toNat).drop (x5 : Int).toNat)).bind fun t273 => (if x4.length < 140737488355328 then (spec_BitsToBytes.l0 k x0 (x4 ++ [(t273) % 256]) (wrap64 (x5 + 8))) else (none))) else (none)) else (none)) else (none)) else (some (x4, true))
end
def spec_BitsToBytes.f (k : Nat) (l0 : List Int) : Option (List Int × Bool) := (some (([] : List Int) : List Int)).bind fun y268 => ((spec_IsBitString.f k l0).bind fun t271 => (if t271 = true then (spec_BitsToBytes.j0 k l0 y268 (((l0.length : Int) % 8) != 0)) else (spec_BitsToBytes.j0 k l0 y268 true)))
theorem spec_BitsToBytes.calls (k : Nat) (A0 : Option Addr) (c0 : Nat) (l0 : List Int) (r1 : List Int) (r2 : Bool) (w : World) (hr0 : Kd.C (Kd.int .i64) w A0 l0.length l0) (hc0 : l0.length ≤ c0) (h : spec_BitsToBytes.f k l0 = some (r1, r2)) :
  Calls Try.prog 123 #[.slice A0 l0.length c0] w fun e w' => ∃ v0_ : Value, e = .returned (.tuple #[v0_, .bool r2]) ∧ Kd.R (Kd.int .u8) 5 w' w.heap.size (fun _ => True) v0_ r1 ∧ Below w.heap.size w w' := by
 have HR0 := zO hr0
 have HC0 := zO hc0
 clear hr0 hc0
 have HB := zO (Below.refl w.heap.size w)
 have H : ((some (([] : List Int) : List Int)).bind fun y268 => ((spec_IsBitString.f k l0).bind fun t271 => (if t271 = true then (spec_BitsToBytes.j0 k l0 y268 (((l0.length : Int) % 8) != 0)) else (spec_BitsToBytes.j0 k l0 y268 true)))) = some (r1, r2) := h
 clear h
 obtain ⟨y268, hy268⟩ : ∃ y_ : List Int, y_ = (([] : List Int)) := ⟨_, rfl⟩
 replace H : ((spec_IsBitString.f k l0).bind fun t271 => (if t271 = true then (spec_BitsToBytes.j0 k l0 y268 (((l0.length : Int) % 8) != 0)) else (spec_BitsToBytes.j0 k l0 y268 true))) = some (r1, r2) := by first | (rw [hy268]; exact H) | exact H
 have Ny268 := zO hy268
 clear hy268
 have HC2 := zO H
 clear H
 go_enter Try.func123, Try.ntmps123
 go_upto_region 2 with (first | ((with_reducible refine zN (N := 6) rfl ?_); (try (refine gate_guard (by rfl) ?_; dsimp only)); refine Kd.R_lit (Kd.int .u8) _ 5 ?hg (N := 6) ?hd (xs := ([] : List Int)) (inner := []) (ok := fun _ => True) (okp := fun _ => True) ?hr ?hp (fun _ hk => hk) trivial (Below.refl _ _) (Nat.le_refl _) (by simp) ?_; (case hd => rfl); (case hg => rfl); (case hr => first | (go_simp; done) | (go_simp; rfl)); (case hp => exact (Reps.none _ _)); intro v269 w3 ho4 hb hg_ hnew_; clear hg_ hnew_; (first | rw [← Ny268.out] at ho4 | (simp only [Int.reduceToNat] at ho4; rw [← Ny268.out] at ho4)); have n0_ := zO (yA ho4 (zD (by repeat (first | exact HB.out | apply zA | apply zL | apply zB)))); have n1_ := zO (zE (by repeat (first | exact HB.out | apply zA | apply zL | apply zB)) hb); clear HB; have HO270 := n0_; have HB := n1_; clear n0_ n1_; clear hb ho4))
 (try simp only [Act.put, yF, yG, yH])
 go_cut [15] (fun v15 wc => ∃ (kq : Nat) (x15_1 : Bool), v15 = .bool x15_1 ∧ Aside0 (spec_BitsToBytes.j0 kq l0 y268 x15_1 = some (r1, r2)) ∧ Aside0 (kq ≤ k) ∧ Aside0 (Kd.R (Kd.int .u8) 5 wc w.heap.size (fun _ => True) v269 y268) ∧ Aside0 (Below w.heap.size w wc))
 case first =>
  have H := HC2.out
  clear HC2
  replace H := yE.mp H
  obtain ⟨t271, A50, H⟩ := H
  replace H : (if t271 = true then (spec_BitsToBytes.j0 k l0 y268 (((l0.length : Int) % 8) != 0)) else (spec_BitsToBytes.j0 k l0 y268 true)) = some (r1, r2) := H
  have A5 := zO A50
  clear A50
  by_cases c6 : t271 = true
  ·subst c6
   have H1 : (spec_BitsToBytes.j0 k l0 y268 (((l0.length : Int) % 8) != 0)) = some (r1, r2) := by rw [if_pos rfl] at H; exact H
   clear H
   have H := H1
   clear H1
   have H' := zO H
   clear H
   go_wp2_with (first | ((with_reducible refine zM (f := 112) rfl ?_); refine goesL_ (some 8) rfl rfl Try.func112 (by kernel_rfl) rfl #[.slice A0 l0.length c0] rfl (by (try simp only [yK, yL, yM]); first | done | rfl | (simp only [yJ, yI]; rfl)) ?_; (with_reducible refine (spec_IsBitString.calls k _ _ l0 true _ ?side1 ?side2 A5.out).mono ?_); (case side1 => repeat (first | exact (Kd.C_below HR0.out HB.out) | (with_reducible refine zR ?_ _) | (with_reducible refine zT ?_ _) | (with_reducible refine zS ?_))); (case side2 => exact HC0.out); rintro e w' ⟨rfl, ⟨nd, rfl⟩⟩; refine ⟨_, rfl, ?_⟩))
   go_meet
   case rel => exact ⟨_, ((((l0.length : Int) % 8) != 0)), (by first | rfl | (simp; done) | (simp [*]; done)), H', ⟨by first | omega | exact Nat.le_refl _⟩, ⟨by (with_reducible repeat (first | apply zU | apply zW | apply zV)); exact HO270.out⟩, ⟨by repeat (first | exact HB.out | apply zA | apply zL | apply zB)⟩⟩
  ·replace c6 := Bool.eq_false_iff.mpr c6
   subst c6
   have H1 : (spec_BitsToBytes.j0 k l0 y268 true) = some (r1, r2) := by rw [if_neg (show ¬ (false = true) by decide)] at H; exact H
   clear H
   have H := H1
   clear H1
   have H' := zO H
   clear H
   go_wp2_with (first | ((with_reducible refine zM (f := 112) rfl ?_); refine goesL_ (some 8) rfl rfl Try.func112 (by kernel_rfl) rfl #[.slice A0 l0.length c0] rfl (by (try simp only [yK, yL, yM]); first | done | rfl | (simp only [yJ, yI]; rfl)) ?_; (with_reducible refine (spec_IsBitString.calls k _ _ l0 false _ ?side1 ?side2 A5.out).mono ?_); (case side1 => repeat (first | exact (Kd.C_below HR0.out HB.out) | (with_reducible refine zR ?_ _) | (with_reducible refine zT ?_ _) | (with_reducible refine zS ?_))); (case side2 => exact HC0.out); rintro e w' ⟨rfl, ⟨nd, rfl⟩⟩; refine ⟨_, rfl, ?_⟩))
   go_meet
   case rel => exact ⟨_, (true), (by first | rfl | (simp; done) | (simp [*]; done)), H', ⟨by first | omega | exact Nat.le_refl _⟩, ⟨by (with_reducible repeat (first | apply zU | apply zW | apply zV)); exact HO270.out⟩, ⟨by repeat (first | exact HB.out | apply zA | apply zL | apply zB)⟩⟩
 case rest =>
  clear HC2
  try clear c1
  try clear p2
  try clear c6
  obtain ⟨kq, x15_1, rfl, HA, HJ1, HO_4, HB⟩ := hcut
  cases kq with
  | zero => exact absurd HA.out (by simp [spec_BitsToBytes.j0])
  | succ kj1 =>
   have H := HA.out
   clear HA
   simp only [spec_BitsToBytes.j0] at H
   by_cases c7 : x15_1 = true
   ·subst c7
    have H1 : (some (y268, false)) = some (r1, r2) := by rw [if_pos rfl] at H; exact H
    clear H
    have H := H1
    clear H1
    simp only [Option.some.injEq, Prod.mk.injEq] at H
    obtain ⟨rfl, rfl⟩ := H
    go_wp2
    go_ret2
    exact ⟨_, by first | rfl | (simp [errW_none, errW_some] <;> rfl) | (simp [*, errW_none, errW_some] <;> rfl), by (with_reducible repeat (first | apply zU | apply zW | apply zV)); exact HO_4.out, by repeat (first | exact HB.out | apply zA | apply zL | apply zB)⟩
   ·replace c7 := Bool.eq_false_iff.mpr c7
    subst c7
    have H1 : (spec_BitsToBytes.l0 kj1 l0 y268 0) = some (r1, r2) := by rw [if_neg (show ¬ (false = true) by decide)] at H; exact H
    clear H
    have H := H1
    clear H1
    have H' := zO H
    clear H
    go_wp2
    go_loopg [4, 5] kj1 (fun kq v4 v5 w' => ∃ (x4_2 : List Int) (x5_2 : Int), v5 = .int .i64 x5_2 ∧ Aside0 (spec_BitsToBytes.l0 kq l0 x4_2 x5_2 = some (r1, r2)) ∧ Aside0 (kq ≤ kj1) ∧ Aside0 (Kd.R (Kd.int .u8) 5 w' w.heap.size (fun _ => True) v4 x4_2) ∧ Aside0 (Below w.heap.size w w'))
    case atStart => exact ⟨(y268), (0), (by first | rfl | (simp; done) | (simp [*]; done)), H', ⟨Nat.le_refl _⟩, ⟨by (with_reducible repeat (first | apply zU | apply zW | apply zV)); exact HO_4.out⟩, ⟨by repeat (first | exact HB.out | apply zA | apply zL | apply zB)⟩⟩
    case round =>
     clear H'
     try clear c1
     try clear p2
     try clear c6
     try clear c7
     try clear p2
     obtain ⟨x4_2, x5_2, rfl, HA, HK2, HO_4, HB⟩ := hrel
     cases gk with
     | zero => exact absurd HA.out (by simp [spec_BitsToBytes.l0])
     | succ k2 =>
      have H := HA.out
      clear HA
      simp only [spec_BitsToBytes.l0] at H
      by_cases c8 : x5_2 < (l0.length : Int)
      ·rw [if_pos c8] at H
       have c8b0 : decide (x5_2 < (l0.length : Int)) = true := decide_eq_true c8
       clear c8
       by_cases c9 : 0 ≤ x5_2
       case neg => rw [if_neg c9] at H; exact absurd H (by simp)
       rw [if_pos c9] at H
       have c9b0 := eq_true c9
       have c9b1 : decide (0 ≤ x5_2) = true := decide_eq_true c9
       clear c9
       by_cases c10 : x5_2 ≤ (wrap64 (x5_2 + 8))
       case neg => rw [if_neg c10] at H; exact absurd H (by simp)
       rw [if_pos c10] at H
       have c10b0 := eq_true c10
       have c10b1 : decide (x5_2 ≤ (wrap64 (x5_2 + 8))) = true := decide_eq_true c10
       by_cases c11 : (wrap64 (x5_2 + 8)) ≤ (l0.length : Int)
       case neg => rw [if_neg c11] at H; exact absurd H (by simp)
       rw [if_pos c11] at H
       have c11b0 := eq_true c11
       have c11b1 : decide ((wrap64 (x5_2 + 8)) ≤ (l0.length : Int)) = true := decide_eq_true c11
       replace H := yE.mp H
       obtain ⟨t273, A120, H⟩ := H
       replace H : (if x4_2.length < 140737488355328 then (spec_BitsToBytes.l0 k2 l0 (x4_2 ++ [(t273) % 256]) (wrap64 (x5_2 + 8))) else (none)) = some (r1, r2) := H
       have A12 := zO A120
       clear A120
       by_cases c13 : x4_2.length < 140737488355328
       case neg => rw [if_neg c13] at H; exact absurd H (by simp)
       rw [if_pos c13] at H
       have LMc13 := zO c13
       clear c13
       obtain ⟨y274, hy274⟩ : ∃ y_ : List Int, y_ = (x4_2 ++ [(t273) % 256]) := ⟨_, rfl⟩
       replace H : (spec_BitsToBytes.l0 k2 l0 y274 (wrap64 (x5_2 + 8))) = some (r1, r2) := by first | (rw [hy274]; exact H) | exact H
       have Ny274 := zO hy274
       clear hy274
       have H' := zO H
       clear H
       obtain ⟨i014, hi014, _, hsz14, _⟩ := info_parts info3
       obtain ⟨A14, hcut14, hA14, hC14⟩ := print_mid_of (P := Try.prog) (Value.int .i64) 0 22 3 .i64 .i64 Try.underlying22 hi014 hsz14 A0 c0 l0 x5_2 (wrap64 (x5_2 + 8)) (yO (by assumption)) (by first | omega | exact yO (by assumption)) (yO (by assumption)) HC0.out
       have HR272 := zO (Kd.C_of_reads (h1 := fun _ => rfl) (hA14 _ (Kd.reads_of_C HR0.out)))
       have HC272 := zO hC14
       clear hA14 hC14 hi014 hsz14
       go_wp2_with (first | ((with_reducible refine zM (f := 70) rfl ?_); refine goesL_ (some 29) rfl rfl Try.func70 (by kernel_rfl) rfl #[.slice A14 ((l0.take ((wrap64 (x5_2 + 8)) : Int).toNat).drop (x5_2 : Int).toNat).length (c0 - x5_2.toNat)] rfl (by (try simp only [yK, yL, yM]); first | done | (rw [show ((l0.take ((wrap64 (x5_2 + 8)) : Int).toNat).drop (x5_2 : Int).toNat).length = ((wrap64 (x5_2 + 8)).toNat - x5_2.toNat) from (by rw [yJ, yI]; have h_ : ((wrap64 (x5_2 + 8)) : Int) ≤ (l0.length : Int) := yO (by assumption); omega)] <;> rfl) | rfl | (simp only [yJ, yI]; rfl)) ?_; (with_reducible refine (spec_BitsToInt.calls k2 _ _ ((l0.take ((wrap64 (x5_2 + 8)) : Int).toNat).drop (x5_2 : Int).toNat) t273 _ ?side1 ?side2 A12.out).mono ?_); (case side1 => repeat (first | exact (Kd.C_below HR272.out HB.out) | (with_reducible refine zR ?_ _) | (with_reducible refine zT ?_ _) | (with_reducible refine zS ?_))); (case side2 => exact HC272.out); rintro e w' ⟨rfl, ⟨nd, rfl⟩⟩; refine ⟨_, rfl, ?_⟩) | ((with_reducible refine gate_builtin (b := .append) (xs := #[.tmp 23, .tmp 31]) rfl ?_); (try (refine gate_guard (by rfl) ?_; dsimp only)); at_builtin; refine Kd.R_append (Kd.int .u8) (w0 := w) w.heap.size rfl (.tmp 23) (.tmp 31) 31 5 (.int .u8 0) 1 rfl Try.underlying31 info5 rfl (by decide) (by omega) u4 x4_2 ((t273) % 256) [.int .u8 ((t273) % 256)] (fun _ => True) (fun _ => False) rfl rfl ?aP (fun _ hk => hk.elim) ?aF ?aO ?aB ?aS ?aL ?_; (case aP => exact rfl); (case aB => exact (by repeat (first | exact HB.out | apply zA | apply zL | apply zB))); (case aF => exact (fun _ _ => trivial)); (case aO => exact (by (with_reducible repeat (first | apply zU | apply zW | apply zV)); exact HO_4.out)); (case aS => exact (zD (by repeat (first | exact HB.out | apply zA | apply zL | apply zB)))); (case aL => have := LMc13.out; omega); intro v275 w15 ho hb hg hat; rw [← Ny274.out] at ho; have n0_ := zO (hb); have n1_ := zO (ho); clear HB; clear HO_4; have HB := n0_; have HO276 := n1_; clear n0_ n1_; clear ho hb hg hat))
       go_roundg k2
       case measure => have := HJ1.out; have := HK2.out; omega
       case rel => exact ⟨(y274), (wrap64 (x5_2 + 8)), (by first | rfl | (simp; done) | (simp [*]; done)), H', ⟨by have := HJ1.out; have := HK2.out; omega⟩, ⟨by (with_reducible repeat (first | apply zU | apply zW | apply zV)); exact HO276.out⟩, ⟨by repeat (first | exact HB.out | apply zA | apply zL | apply zB)⟩⟩
      ·rw [if_neg c8] at H
       have c8b0 : decide (x5_2 < (l0.length : Int)) = false := decide_eq_false c8
       clear c8
       simp only [Option.some.injEq, Prod.mk.injEq] at H
       obtain ⟨rfl, rfl⟩ := H
       go_wp2
       go_ret2
       exact ⟨_, by first | rfl | (simp [errW_none, errW_some] <;> rfl) | (simp [*, errW_none, errW_some] <;> rfl), by (with_reducible repeat (first | apply zU | apply zW | apply zV)); exact HO_4.out, by repeat (first | exact HB.out | apply zA | apply zL | apply zB)⟩

def spec_l5Out.f (a0 : Int) : Option (Int) := some (Go.bits .and .i64 (Go.bits .xor .i64 (a0 / 8) (a0 / 64)) 1)
theorem spec_l5Out.calls (a0 : Int) (r : Int) (w : World) (h : spec_l5Out.f a0 = some r) :
  Calls Try.prog 159 #[.int .i64 a0] w fun e w' => e = .returned (.int .i64 r) ∧ Drawn0 w w' := by
 have H : (some (Go.bits .and .i64 (Go.bits .xor .i64 (a0 / 8) (a0 / 64)) 1)) = some r := h
 clear h
 obtain rfl := Option.some.inj H
 go_enter Try.func159, Try.ntmps159
 go_wp2
 go_ret
 exact ⟨by first | rfl | exact yP _ | (simp; done) | (simp [*]; done), by repeat (first | exact zP _ | apply zQ)⟩

def spec_NextScramblerState.f (a0 : Int) : Option (Int) := (spec_l1In.f a0 1 127).bind fun t277 => (if t277 = true then ((spec_l5Out.f a0).bind fun t278 => (some (Go.bits .or .i64 (Go.bits .and .i64 (wrap64 (a0 * 2)) 127) t278))) else (some 0))
theorem spec_NextScramblerState.calls (a0 : Int) (r : Int) (w : World) (h : spec_NextScramblerState.f a0 = some r) :
  Calls Try.prog 160 #[.int .i64 a0] w fun e w' => e = .returned (.int .i64 r) ∧ Drawn0 w w' := by
 have H : ((spec_l1In.f a0 1 127).bind fun t277 => (if t277 = true then ((spec_l5Out.f a0).bind fun t278 => (some (Go.bits .or .i64 (Go.bits .and .i64 (wrap64 (a0 * 2)) 127) t278))) else (some 0))) = some r := h
 clear h
 replace H := yE.mp H
 obtain ⟨t277, A20, H⟩ := H
 replace H : (if t277 = true then ((spec_l5Out.f a0).bind fun t278 => (some (Go.bits .or .i64 (Go.bits .and .i64 (wrap64 (a0 * 2)) 127) t278))) else (some 0)) = some r := H
 have A2 := zO A20
 clear A20
 by_cases c3 : t277 = true
 ·subst c3
  have H1 : ((spec_l5Out.f a0).bind fun t278 => (some (Go.bits .or .i64 (Go.bits .and .i64 (wrap64 (a0 * 2)) 127) t278))) = some r := by rw [if_pos rfl] at H; exact H
  clear H
  have H := H1
  clear H1
  replace H := yE.mp H
  obtain ⟨t278, A40, H⟩ := H
  replace H : (some (Go.bits .or .i64 (Go.bits .and .i64 (wrap64 (a0 * 2)) 127) t278)) = some r := H
  have A4 := zO A40
  clear A40
  obtain rfl := Option.some.inj H
  go_enter Try.func160, Try.ntmps160
  go_wp2_with (first | ((with_reducible refine zM (f := 95) rfl ?_); refine goesL_ (some 4) rfl rfl Try.func95 (by kernel_rfl) rfl #[.int .i64 a0, .int .i64 1, .int .i64 127] rfl (by (try simp only [yK, yL, yM]); first | done | rfl | (simp only [yJ, yI]; rfl)) ?_; (with_reducible refine (spec_l1In.calls a0 1 127 true _ A2.out).mono ?_); rintro e w' ⟨rfl, ⟨nd, rfl⟩⟩; refine ⟨_, rfl, ?_⟩) | ((with_reducible refine zM (f := 159) rfl ?_); refine goesL_ (some 10) rfl rfl Try.func159 (by kernel_rfl) rfl #[.int .i64 a0] rfl (by (try simp only [yK, yL, yM]); first | done | rfl | (simp only [yJ, yI]; rfl)) ?_; (with_reducible refine (spec_l5Out.calls a0 t278 _ A4.out).mono ?_); rintro e w' ⟨rfl, ⟨nd, rfl⟩⟩; refine ⟨_, rfl, ?_⟩))
  go_ret
  exact ⟨by first | rfl | exact yP _ | (simp; done) | (simp [*]; done), by repeat (first | exact zP _ | apply zQ)⟩
 ·replace c3 := Bool.eq_false_iff.mpr c3
  subst c3
  have H1 : (some 0) = some r := by rw [if_neg (show ¬ (false = true) by decide)] at H; exact H
  clear H
  have H := H1
  clear H1
  obtain rfl := Option.some.inj H
  go_enter Try.func160, Try.ntmps160
  go_wp2_with (first | ((with_reducible refine zM (f := 95) rfl ?_); refine goesL_ (some 4) rfl rfl Try.func95 (by kernel_rfl) rfl #[.int .i64 a0, .int .i64 1, .int .i64 127] rfl (by (try simp only [yK, yL, yM]); first | done | rfl | (simp only [yJ, yI]; rfl)) ?_; (with_reducible refine (spec_l1In.calls a0 1 127 false _ A2.out).mono ?_); rintro e w' ⟨rfl, ⟨nd, rfl⟩⟩; refine ⟨_, rfl, ?_⟩))
  go_ret
  exact ⟨by first | rfl | exact yP _ | (simp; done) | (simp [*]; done), by repeat (first | exact zP _ | apply zQ)⟩

mutual
def spec_Scramble.j0 : Nat → Int → List Int → List Int → Bool → Option (List Int)
 | 0, _, _, _, _ => none
 | k + 1, x0, x1, x5, x17 => if x17 = true then (some x5) else (spec_Scramble.l0 k x0 x1 x5 0)
def spec_Scramble.l0 : Nat → Int → List Int → List Int → Int → Option (List Int)
 | 0, _, _, _, _ => none
 | k + 1, x0, x1, x5, x6 => if x6 < (x1.length : Int) then (if 0 ≤ x6 then ((spec_l5Out.f x0).bind fun t288 => (if x6 < (x5.length : Int) then ((spec_NextScramblerState.f x0).bind fun t290 => (spec_Scramble.l0 k t290 x1 (x5.set (x6 : Int).toNat (Go.bits .xor .i64 (rd x1 x6) t288)) (wrap64 (x6 + 1)))) else (none))) else (none)) else (some x5)
end
def spec_Scramble.f (k : Nat) (a0 : Int) (l1 : List Int) : Option (List Int) := (some (([] : List Int) : List Int)).bind fun y279 => (if y279.length + l1.length < 17592186044416 then ((some (y279 ++ l1 : List Int)).bind fun y282 => ((spec_l1In.f a0 1 127).bind fun t285 => (if t285 = true then ((spec_IsBitString.f k l1).bind fun t286 => (spec_Scramble.j0 k a0 l1 y282 (!t286))) else (spec_Scramble.j0 k a0 l1 y282 true)))) else (none))
def spec_Scramble.T7 : Bool × List (List Nat × List Nat) := (true, [([], []), ([], []), ([], []), ([], []), ([2, 3], [2, 3]), ([4], [4]), ([], []), ([6], [6]), ([5, 7], [5, 7]), ([0, 1, 0, 1, 2, 3, 4, 5, 6, 7, 8], [0, 1]), ([9, 8, 7, 0, 1, 2, 3, 4, 5, 6, 7, 8], [8, 9])])
def spec_Scramble.B7 : List Nat := [0, 0, 0, 0, 12, 28, 0, 64, 252, 511, 1023]
theorem spec_Scramble.tab7 : rtab .any (opsOf Try.f124 7) = spec_Scramble.T7 := by kernel_rfl
theorem spec_Scramble.bits7 : waitsOk spec_Scramble.T7.2 spec_Scramble.B7 = true := by kernel_rfl
theorem spec_Scramble.calls (k : Nat) (a0 : Int) (A1 : Option Addr) (c1 : Nat) (l1 : List Int) (r : List Int) (w : World) (hr1 : Kd.C (Kd.int .i64) w A1 l1.length l1) (hc1 : l1.length ≤ c1) (h : spec_Scramble.f k a0 l1 = some r) :
  Calls Try.prog 124 #[.int .i64 a0, .slice A1 l1.length c1] w fun e w' => ∃ v0_ : Value, e = .returned (v0_) ∧ Kd.R (Kd.int .i64) 3 w' w.heap.size (fun _ => True) v0_ r ∧ Below w.heap.size w w' := by
 have HR1 := zO hr1
 have HC1 := zO hc1
 clear hr1 hc1
 have HB := zO (Below.refl w.heap.size w)
 have H : ((some (([] : List Int) : List Int)).bind fun y279 => (if y279.length + l1.length < 17592186044416 then ((some (y279 ++ l1 : List Int)).bind fun y282 => ((spec_l1In.f a0 1 127).bind fun t285 => (if t285 = true then ((spec_IsBitString.f k l1).bind fun t286 => (spec_Scramble.j0 k a0 l1 y282 (!t286))) else (spec_Scramble.j0 k a0 l1 y282 true)))) else (none))) = some r := h
 clear h
 obtain ⟨y279, hy279⟩ : ∃ y_ : List Int, y_ = (([] : List Int)) := ⟨_, rfl⟩
 replace H : (if y279.length + l1.length < 17592186044416 then ((some (y279 ++ l1 : List Int)).bind fun y282 => ((spec_l1In.f a0 1 127).bind fun t285 => (if t285 = true then ((spec_IsBitString.f k l1).bind fun t286 => (spec_Scramble.j0 k a0 l1 y282 (!t286))) else (spec_Scramble.j0 k a0 l1 y282 true)))) else (none)) = some r := by first | (rw [hy279]; exact H) | exact H
 have Ny279 := zO hy279
 clear hy279
 by_cases c3 : y279.length + l1.length < 17592186044416
 case neg => rw [if_neg c3] at H; exact absurd H (by simp)
 rw [if_pos c3] at H
 have LMc3 := zO c3
 clear c3
 obtain ⟨y282, hy282⟩ : ∃ y_ : List Int, y_ = (y279 ++ l1) := ⟨_, rfl⟩
 replace H : ((spec_l1In.f a0 1 127).bind fun t285 => (if t285 = true then ((spec_IsBitString.f k l1).bind fun t286 => (spec_Scramble.j0 k a0 l1 y282 (!t286))) else (spec_Scramble.j0 k a0 l1 y282 true))) = some r := by first | (rw [hy282]; exact H) | exact H
 have Ny282 := zO hy282
 clear hy282
 have HC4 := zO H
 clear H
 go_enter Try.func124, Try.ntmps124
 go_upto_region 2 with (first | ((with_reducible refine zN (N := 7) rfl ?_); refine Kd.R_lit (Kd.int .i64) _ 3 ?hg (N := 7) ?hd (xs := ([] : List Int)) (inner := []) (ok := fun _ => True) (okp := fun _ => True) ?hr ?hp (fun _ hk => hk) trivial (Below.refl _ _) (Nat.le_refl _) (by simp) ?_; (case hd => rfl); (case hg => rfl); (case hr => first | (go_simp; done) | (go_simp; rfl)); (case hp => exact (Reps.none _ _)); intro v280 w5 ho6 hb hg_ hnew_; clear hg_ hnew_; (first | rw [← Ny279.out] at ho6 | (simp only [Int.reduceToNat] at ho6; rw [← Ny279.out] at ho6)); have n0_ := zO (yA ho6 (zD (by repeat (first | exact HB.out | apply zA | apply zL | apply zB)))); have n1_ := zO (zE (by repeat (first | exact HB.out | apply zA | apply zL | apply zB)) hb); clear HB; have HO281 := n0_; have HB := n1_; clear n0_ n1_; clear hb ho6) | ((with_reducible refine gate_builtin (b := .append) (xs := #[.tmp 7, .tmp 8]) rfl ?_); at_builtin; refine Kd.R_append_rows (Kd.int .i64) (w0 := w) w.heap.size rfl (.tmp 7) (.tmp 8) 22 3 (.int .i64 0) 8 rfl Try.underlying22 info3 rfl (by decide) (by omega) v280 y279 l1 _ _ _ (fun _ => True) (fun _ => False) rfl rfl ?aO ?aR (fun _ _ h => h) (fun _ h => h.elim) ?aF ?aB ?aS ?aL ?_; (case aR => repeat (first | exact (Kd.C_below HR1.out HB.out) | (with_reducible refine zR ?_ _) | (with_reducible refine zT ?_ _) | (with_reducible refine zS ?_))); (case aB => exact (by repeat (first | exact HB.out | apply zA | apply zL | apply zB))); (case aF => exact (fun _ _ => trivial)); (case aO => exact (by (with_reducible repeat (first | apply zU | apply zW | apply zV)); exact HO281.out)); (case aS => exact (zD (by repeat (first | exact HB.out | apply zA | apply zL | apply zB)))); (case aL => have := LMc3.out; omega); intro v283 w7 ho hb hg hat; rw [← Ny282.out] at ho; have n0_ := zO (hb); have n1_ := zO (ho); clear HB; clear HO281; have HB := n0_; have HO284 := n1_; clear n0_ n1_; clear ho hb hg hat))
 (try simp only [Act.put, yF, yG, yH])
 go_cut [17] (fun v17 wc => ∃ (kq : Nat) (x17_3 : Bool), v17 = .bool x17_3 ∧ Aside0 (spec_Scramble.j0 kq a0 l1 y282 x17_3 = some r) ∧ Aside0 (kq ≤ k) ∧ Aside0 (Kd.R (Kd.int .i64) 3 wc w.heap.size (fun _ => True) v283 y282) ∧ Aside0 (Below w.heap.size w wc))
 case first =>
  have H := HC4.out
  clear HC4
  replace H := yE.mp H
  obtain ⟨t285, A80, H⟩ := H
  replace H : (if t285 = true then ((spec_IsBitString.f k l1).bind fun t286 => (spec_Scramble.j0 k a0 l1 y282 (!t286))) else (spec_Scramble.j0 k a0 l1 y282 true)) = some r := H
  have A8 := zO A80
  clear A80
  by_cases c9 : t285 = true
  ·subst c9
   have H1 : ((spec_IsBitString.f k l1).bind fun t286 => (spec_Scramble.j0 k a0 l1 y282 (!t286))) = some r := by rw [if_pos rfl] at H; exact H
   clear H
   have H := H1
   clear H1
   replace H := yE.mp H
   obtain ⟨t286, A100, H⟩ := H
   replace H : (spec_Scramble.j0 k a0 l1 y282 (!t286)) = some r := H
   have A10 := zO A100
   clear A100
   have H' := zO H
   clear H
   go_wp2_with (first | ((with_reducible refine zM (f := 95) rfl ?_); refine goesL_ (some 11) rfl rfl Try.func95 (by kernel_rfl) rfl #[.int .i64 a0, .int .i64 1, .int .i64 127] rfl (by (try simp only [yK, yL, yM]); first | done | rfl | (simp only [yJ, yI]; rfl)) ?_; (with_reducible refine (spec_l1In.calls a0 1 127 true _ A8.out).mono ?_); rintro e w' ⟨rfl, ⟨nd, rfl⟩⟩; refine ⟨_, rfl, ?_⟩) | (go_at_call 112; (with_reducible refine (spec_IsBitString.calls k _ _ l1 t286 _ ?side1 ?side2 A10.out).mono ?_); (case side1 => repeat (first | exact (Kd.C_below HR1.out (by repeat (first | exact HB.out | apply zA | apply zL | apply zB))) | (with_reducible refine zR ?_ _) | (with_reducible refine zT ?_ _) | (with_reducible refine zS ?_))); (case side2 => exact HC1.out); rintro e w' ⟨rfl, ⟨nd, rfl⟩⟩))
   go_meet
   case rel => exact ⟨_, (!t286), (by first | rfl | (simp; done) | (simp [*]; done)), H', ⟨by first | omega | exact Nat.le_refl _⟩, ⟨by (with_reducible repeat (first | apply zU | apply zW | apply zV)); exact HO284.out⟩, ⟨by repeat (first | exact HB.out | apply zA | apply zL | apply zB)⟩⟩
  ·replace c9 := Bool.eq_false_iff.mpr c9
   subst c9
   have H1 : (spec_Scramble.j0 k a0 l1 y282 true) = some r := by rw [if_neg (show ¬ (false = true) by decide)] at H; exact H
   clear H
   have H := H1
   clear H1
   have H' := zO H
   clear H
   go_wp2_with (first | ((with_reducible refine zM (f := 95) rfl ?_); refine goesL_ (some 11) rfl rfl Try.func95 (by kernel_rfl) rfl #[.int .i64 a0, .int .i64 1, .int .i64 127] rfl (by (try simp only [yK, yL, yM]); first | done | rfl | (simp only [yJ, yI]; rfl)) ?_; (with_reducible refine (spec_l1In.calls a0 1 127 false _ A8.out).mono ?_); rintro e w' ⟨rfl, ⟨nd, rfl⟩⟩; refine ⟨_, rfl, ?_⟩))
   go_meet
   case rel => exact ⟨_, (true), (by first | rfl | (simp; done) | (simp [*]; done)), H', ⟨by first | omega | exact Nat.le_refl _⟩, ⟨by (with_reducible repeat (first | apply zU | apply zW | apply zV)); exact HO284.out⟩, ⟨by repeat (first | exact HB.out | apply zA | apply zL | apply zB)⟩⟩
 case rest =>
  clear HC4
  try clear c1
  try clear p2
  try clear c3
  try clear c9
  obtain ⟨kq, x17_3, rfl, HA, HJ3, HO_5, HB⟩ := hcut
  cases kq with
  | zero => exact absurd HA.out (by simp [spec_Scramble.j0])
  | succ kj3 =>
   have H := HA.out
   clear HA
   simp only [spec_Scramble.j0] at H
   by_cases c11 : x17_3 = true
   ·subst c11
    have H1 : (some y282) = some r := by rw [if_pos rfl] at H; exact H
    clear H
    have H := H1
    clear H1
    obtain rfl := Option.some.inj H
    go_wp2
    go_ret
    exact ⟨_, by first | rfl | (simp [errW_none, errW_some] <;> rfl) | (simp [*, errW_none, errW_some] <;> rfl), by (with_reducible repeat (first | apply zU | apply zW | apply zV)); exact HO_5.out, by repeat (first | exact HB.out | apply zA | apply zL | apply zB)⟩
   ·replace c11 := Bool.eq_false_iff.mpr c11
    subst c11
    have H1 : (spec_Scramble.l0 kj3 a0 l1 y282 0) = some r := by rw [if_neg (show ¬ (false = true) by decide)] at H; exact H
    clear H
    have H := H1
    clear H1
    have H' := zO H
    clear H
    go_wp2
    go_loopg [0, 6] kj3 (fun kq v0 v6 w' => ∃ (x0_2 : Int) (x5_2 : List Int) (x6_2 : Int), v0 = .int .i64 x0_2 ∧ v6 = .int .i64 x6_2 ∧ Aside0 (spec_Scramble.l0 kq x0_2 l1 x5_2 x6_2 = some r) ∧ Aside0 (kq ≤ kj3) ∧ Aside0 (Kd.R (Kd.int .i64) 3 w' w.heap.size (fun _ => True) v283 x5_2) ∧ Aside0 (Below w.heap.size w w'))
    case atStart => exact ⟨(a0), (y282), (0), (by first | rfl | (simp; done) | (simp [*]; done)), (by first | rfl | (simp; done) | (simp [*]; done)), H', ⟨Nat.le_refl _⟩, ⟨by (with_reducible repeat (first | apply zU | apply zW | apply zV)); exact HO_5.out⟩, ⟨by repeat (first | exact HB.out | apply zA | apply zL | apply zB)⟩⟩
    case round =>
     clear H'
     try clear c1
     try clear p2
     try clear c3
     try clear c9
     try clear c11
     try clear p2
     obtain ⟨x0_2, x5_2, x6_2, rfl, rfl, HA, HK2, HO_5, HB⟩ := hrel
     cases gk with
     | zero => exact absurd HA.out (by simp [spec_Scramble.l0])
     | succ k2 =>
      have H := HA.out
      clear HA
      simp only [spec_Scramble.l0] at H
      by_cases c12 : x6_2 < (l1.length : Int)
      ·rw [if_pos c12] at H
       have c12b0 : decide (x6_2 < (l1.length : Int)) = true := decide_eq_true c12
       clear c12
       by_cases c13 : 0 ≤ x6_2
       case neg => rw [if_neg c13] at H; exact absurd H (by simp)
       rw [if_pos c13] at H
       have c13b0 : decide (0 ≤ x6_2) = true := decide_eq_true c13
       clear c13
       replace H := yE.mp H
       obtain ⟨t288, A140, H⟩ := H
       replace H : (if x6_2 < (x5_2.length : Int) then ((spec_NextScramblerState.f x0_2).bind fun t290 => (spec_Scramble.l0 k2 t290 l1 (x5_2.set (x6_2 : Int).toNat (Go.bits .xor .i64 (rd l1 x6_2) t288)) (wrap64 (x6_2 + 1)))) else (none)) = some r := H
       have A14 := zO A140
       clear A140
       by_cases c15 : x6_2 < (x5_2.length : Int)
       case neg => rw [if_neg c15] at H; exact absurd H (by simp)
       rw [if_pos c15] at H
       have c15b0 : decide (x6_2 < (x5_2.length : Int)) = true := decide_eq_true c15
       clear c15
       obtain ⟨y289, hy289⟩ : ∃ y_ : List Int, y_ = (x5_2.set (x6_2 : Int).toNat (Go.bits .xor .i64 (rd l1 x6_2) t288)) := ⟨_, rfl⟩
       replace H : ((spec_NextScramblerState.f x0_2).bind fun t290 => (spec_Scramble.l0 k2 t290 l1 y289 (wrap64 (x6_2 + 1)))) = some r := by first | (rw [hy289]; exact H) | exact H
       have Ny289 := zO hy289
       clear hy289
       replace H := yE.mp H
       obtain ⟨t290, A170, H⟩ := H
       replace H : (spec_Scramble.l0 k2 t290 l1 y289 (wrap64 (x6_2 + 1))) = some r := H
       have A17 := zO A170
       clear A170
       have H' := zO H
       clear H
       try go_wp2
       have n0_ := zO (zV HO_5.out)
       have n1_ := zO (zB HB.out)
       clear HO_5
       clear HB
       have HO_5 := n0_
       have HB := n1_
       clear n0_ n1_
       have p287 : 0 ≤ (x6_2 : Int) := yO (by assumption)
       have q287 : x6_2 < (l1.length : Int) := yO (by assumption)
       obtain ⟨ad287, e287, hx287_0⟩ := Kd.at_int HR1.out x6_2 p287 q287
       have hw287_0 := hx287_0
       cases e287
       replace hx287_0 := (HB.out.cell (World.block_lt_of_cell? w _ hx287_0)).trans hx287_0
       replace p287 := eq_true p287
       replace q287 := eq_true q287
       refine start_ (n := 11) (S := fun w' => w'.cell? (ad287.add (x6_2).toNat) = some (.int .i64 (rd l1 x6_2))) (ds := [10]) #[false, false, false, false, false, false, false, false, false, false, false] (by kernel_rfl) rfl rfl (((HB.out.cell (World.block_lt_of_cell? w _ hw287_0)).trans hw287_0)) (fun hHeld => ?_); refine with_tabW spec_Scramble.tab7 spec_Scramble.bits7 (fun HT_ HW_ => ?_)
       generalize wr.drew = w18 at HO_5 HB hx287_0 hHeld ⊢
       refine pure_ (i := 0) (N := some 25) (v := ?_) (a' := ?_) #[true, false, false, false, false, false, false, false, false, false, false] rfl rfl (any_of HT_.out (by kernel_rfl)) (fun _ _ _ h => h) (Or.inl ⟨by rfl, ?_⟩) ?_ ?_; rotate_left
       ·intro w'; go_simp; with_reducible rfl
       rotate_left
       ·simp only [Act.put, yF, yG, yH, i64_w, i32_w]; rfl
       refine pure_ (i := 1) (N := some 26) (v := ?_) (a' := ?_) #[true, true, false, false, false, false, false, false, false, false, false] rfl rfl (any_of HT_.out (by kernel_rfl)) (fun _ _ _ h => h) (Or.inl ⟨by rfl, ?_⟩) ?_ ?_; rotate_left
       ·intro w'; go_simp; with_reducible rfl
       rotate_left
       ·simp only [Act.put, yF, yG, yH, i64_w, i32_w]; rfl
       refine pure_ (i := 2) (N := some 27) (v := ?_) (a' := ?_) #[true, true, true, false, false, false, false, false, false, false, false] rfl rfl (any_of HT_.out (by kernel_rfl)) (fun _ _ _ h => h) (Or.inl ⟨by rfl, ?_⟩) ?_ ?_; rotate_left
       ·intro w'; go_simp; with_reducible rfl
       rotate_left
       ·simp only [Act.put, yF, yG, yH, i64_w, i32_w]; rfl
       refine pure_ (i := 3) (N := some 28) (v := ?_) (a' := ?_) #[true, true, true, true, false, false, false, false, false, false, false] rfl rfl (any_of HT_.out (by kernel_rfl)) (fun _ _ _ h => h) (Or.inl ⟨by rfl, ?_⟩) ?_ ?_; rotate_left
       ·intro w'; go_simp; with_reducible rfl
       rotate_left
       ·simp only [Act.put, yF, yG, yH, i64_w, i32_w]; rfl
       refine pure_ (i := 4) (N := some 29) (v := ?_) (a' := ?_) #[true, true, true, true, true, false, false, false, false, false, false] rfl rfl (any_of HT_.out (by kernel_rfl)) (fun _ _ _ h => h) (Or.inl ⟨by rfl, ?_⟩) ?_ ?_; rotate_left
       ·intro w'; go_simp; with_reducible rfl
       rotate_left
       ·simp only [Act.put, yF, yG, yH, i64_w, i32_w]; rfl
       refine pure_ (i := 6) (N := some 31) (v := ?_) (a' := ?_) #[true, true, true, true, true, false, true, false, false, false, false] rfl rfl (any_of HT_.out (by kernel_rfl)) (fun _ _ _ h => h) (Or.inl ⟨by rfl, ?_⟩) ?_ ?_; rotate_left
       ·intro w'; go_simp; with_reducible rfl
       rotate_left
       ·simp only [Act.put, yF, yG, yH, i64_w, i32_w]; rfl
       refine take_ (i := 5) (N := some 30) (v := ?_) (a' := ?_) #[true, true, true, true, true, true, true, false, false, false, false] rfl rfl (take_ofW HT_.out HW_.out (by kernel_rfl)) (fun _ _ _ h => h) (Or.inl ⟨by rfl, ?_⟩) hHeld ?_ ?_; rotate_left
       ·intro w' s0
        go_simp
        with_reducible rfl
       rotate_left
       ·simp only [Act.put, yF, yG, yH, i64_w, i32_w]; rfl
       refine one_ (i := 7) (N := some 32) #[true, true, true, true, true, true, true, true, false, false, false] rfl rfl (one_of HT_.out (by kernel_rfl)) (by decide) (fun K hK => ?_)
       refine goes_ Try.func159 (by kernel_rfl) rfl #[.int .i64 x0_2] (by rfl) rfl rfl (by (try simp only [yK, yL, yM]); first | done | rfl | (simp only [yJ, yI]; rfl)) ?_
       with_reducible refine (spec_l5Out.calls x0_2 t288 _ A14.out).mono ?_
       rintro e w' ⟨rfl, ⟨nd, rfl⟩⟩
       refine ⟨_, rfl, ?_⟩
       have p16 : 0 ≤ (x6_2 : Int) := yO (by assumption)
       have q16 : (x6_2 : Int) < ((x5_2.length : Int) : Int) := yO (by assumption)
       obtain ⟨go16, co16, eo16, gb16, gl16, cl16, HG16⟩ := Kd.R_form HO_5.out (by omega)
       (first | cases eo16 | (injection eo16 with ea_ en_ ec_; (first | subst ea_ | (injection ea_ with ea_; subst ea_)); subst ec_; clear en_))
       have GB16 := zO gb16
       have GG16 := zO HG16
       clear gb16 gl16 HG16
       obtain ⟨hx16_0, hf16_0⟩ := Kd.R_celln 0 HO_5.out (x6_2 : Int) p16 q16
       replace p16 := eq_true p16
       replace q16 := eq_true q16
       have HP19 := Kd.R_putn HO_5.out (x6_2 : Int) (Go.bits .xor .i64 (rd l1 x6_2) t288)
       rw [← Ny289.out] at HP19
       have HQ19 := zO HP19
       clear HP19
       refine hK.out _ _ (((HB.out.cell (World.block_lt_of_cell? w _ hw287_0)).trans hw287_0)) (fun hHeld => ?_)
       clear hK K
       refine norm_ (a' := ?_) ?_ ?_; rotate_left
       ·show Act.put _ (some 32) _ = _; simp only [Act.put, yF, yG, yH, i64_w, i32_w]; rfl
       refine pure_ (i := 8) (N := some 33) (v := ?_) (a' := ?_) #[true, true, true, true, true, true, true, true, true, false, false] rfl rfl (any_of HT_.out (by kernel_rfl)) (fun _ _ _ h => h) (Or.inl ⟨by rfl, ?_⟩) ?_ ?_; rotate_left
       ·intro w'; go_simp; with_reducible rfl
       rotate_left
       ·simp only [Act.put, yF, yG, yH, i64_w, i32_w]; rfl
       refine pure_ (i := 9) (N := some 34) (v := ?_) (a' := ?_) #[true, true, true, true, true, true, true, true, true, true, false] rfl rfl (any_of HT_.out (by kernel_rfl)) (fun _ _ _ h => h) (Or.inl ⟨by rfl, ?_⟩) ?_ ?_; rotate_left
       ·intro w'; go_simp; with_reducible rfl
       rotate_left
       ·simp only [Act.put, yF, yG, yH, i64_w, i32_w]; rfl
       refine last_ (i := 10) (N := none) #[true, true, true, true, true, true, true, true, true, true, true] rfl rfl (one_of HT_.out (by kernel_rfl)) (by decide) (fun K hK => ?_)
       refine skip_ (w1 := ?_) (by rfl) rfl ?_ ?_; rotate_left
       ·go_simp
        rfl
       refine hK.out _ _ ?_
       clear hK K
       refine done_ (done_of HT_.out (by kernel_rfl)) ?_
       try go_wp2_with (first | ((with_reducible refine zM (f := 160) rfl ?_); refine goesL_ (some 36) rfl rfl Try.func160 (by kernel_rfl) rfl #[.int .i64 x0_2] rfl (by (try simp only [yK, yL, yM]); first | done | rfl | (simp only [yJ, yI]; rfl)) ?_; (with_reducible refine (spec_NextScramblerState.calls x0_2 t290 _ A17.out).mono ?_); rintro e w' ⟨rfl, ⟨nd, rfl⟩⟩; refine ⟨_, rfl, ?_⟩))
       go_roundg k2
       case measure => have := HJ3.out; have := HK2.out; omega
       case rel => exact ⟨(t290), (y289), (wrap64 (x6_2 + 1)), (by first | rfl | (simp; done) | (simp [*]; done)), (by first | rfl | (simp; done) | (simp [*]; done)), H', ⟨by have := HJ3.out; have := HK2.out; omega⟩, ⟨by (with_reducible repeat (first | apply zU | apply zW | apply zV)); exact HQ19.out⟩, ⟨by repeat (first | (with_reducible first | exact HB.out | apply zA | apply zL | apply zB | refine zC ?_ GB16.out) | exact HB.out)⟩⟩
      ·rw [if_neg c12] at H
       have c12b0 : decide (x6_2 < (l1.length : Int)) = false := decide_eq_false c12
       clear c12
       obtain rfl := Option.some.inj H
       go_wp2
       go_ret
       exact ⟨_, by first | rfl | (simp [errW_none, errW_some] <;> rfl) | (simp [*, errW_none, errW_some] <;> rfl), by (with_reducible repeat (first | apply zU | apply zW | apply zV)); exact HO_5.out, by repeat (first | exact HB.out | apply zA | apply zL | apply zB)⟩

end Go.Proofs.Ytldbmljooafkcaa.PFnExactReceiveFrame
