/- Contracts of Go functions. Conditions: the arguments read as the Lean function's. Written by print2.py, shrink.py (this session's). -/
import Derived.Test.YtldbmljooafkcaaPFnFrameErrorsx0
import Derived.Test.YtldbmljooafkcaaPFnFrameErrorsx2
import Derived.Test.YtldbmljooafkcaaPFnFrameErrorsx3
import Derived.Test.YtldbmljooafkcaaPFnFrameErrorsx5
import Derived.Test.YtldbmljooafkcaaPFnFrameErrorsx6
import Derived.Test.YtldbmljooafkcaaPFnFrameErrorsx7
namespace Go.Proofs.Ytldbmljooafkcaa.PFnFrameErrors
open Go.RowKit Go.Proofs.YtldbmljooafkcaaW.PrintWords Go.Proofs.YtldbmljooafkcaaW.PrintLast Go.Proofs.YtldbmljooafkcaaW.PrintMore
open Go.Proofs.YtldbmljooafkcaaW.PrintWords renaming below_alloc → zA, below_drew1 → zB, below_set → zC, below_size → zD, below_step → zE, blk_alloc → zF, blk_below → zG, blk_cell → zH, blk_drew → zI, blk_drewN → zJ, blk_frozen → zK, pw_below_drewN → zL, gate_callee → zM, gate_dst → zN
open Go.Proofs.YtldbmljooafkcaaW.PrintWords.Aside0 renaming mk → zO
open Go.Proofs.YtldbmljooafkcaaW.PrintWords.Kd renaming C_alloc → zR, C_drew → zS, C_drewN → zT, R_alloc → zU, R_drew → zV, R_drewN → zW, R_reads' → zX, R_below → zY, R_far → zZ, R_lower → yA
open Option renaming bind_eq_some_iff → yE
open List renaming setIfInBounds_toArray → yF, set_cons_zero → yG, set_cons_succ → yH, length_take → yI, length_drop → yJ, map_toArray → yK, map_cons → yL, map_nil → yM
set_option maxHeartbeats 8000000
set_option maxRecDepth 100000
attribute [local go_sem] max2_int min2_int max_two min_two max_three min_three max_four min_four
set_option linter.unusedVariables false
set_option linter.unusedSimpArgs false

mutual
def impl_Scramble.j0 : Nat → Int → List Int → Bool → Option (List Int)
 | 0, _, _, _ => none
 | k + 1, x0, x5, x16 => if x16 = true then (some x5) else (impl_Scramble.l0 k x0 x5 (x5.length : Int) 0)
def impl_Scramble.l0 : Nat → Int → List Int → Int → Int → Option (List Int)
 | 0, _, _, _, _ => none
 | k + 1, x0, x5, x19, x20 => if x20 < x19 then (if 0 ≤ x20 then (if x20 < (x5.length : Int) then ((impl_scramblerOutput.f x0).bind fun t228 => ((impl_NextScramblerState.f x0).bind fun t230 => (impl_Scramble.l0 k t230 (x5.set (x20 : Int).toNat (Go.bits .xor .i64 (rd x5 x20) t228)) x19 (wrap64 (x20 + 1))))) else (none)) else (none)) else (some x5)
end
def impl_Scramble.f (k : Nat) (a0 : Int) (l1 : List Int) : Option (List Int) := (impl_copyInts.f l1).bind fun t222 => ((impl_InRange.f a0 1 127).bind fun t225 => (if t225 = true then ((impl_IsBitString.f k l1).bind fun t226 => (impl_Scramble.j0 k a0 t222 (!t226))) else (impl_Scramble.j0 k a0 t222 true)))
def impl_Scramble.T7 : Bool × List (List Nat × List Nat) := (true, [([], []), ([], []), ([0, 1], [0, 1]), ([2], [2]), ([], []), ([4], [4]), ([3, 5], [3, 5]), ([0, 1, 0, 1, 2, 3, 4, 5, 6], [0, 1]), ([7, 6, 5, 0, 1, 2, 3, 4, 5, 6], [6, 7])])
def impl_Scramble.B7 : List Nat := [0, 0, 3, 7, 0, 16, 63, 127, 255]
theorem impl_Scramble.tab7 : rtab .any (opsOf Try.f130 7) = impl_Scramble.T7 := by kernel_rfl
theorem impl_Scramble.bits7 : waitsOk impl_Scramble.T7.2 impl_Scramble.B7 = true := by kernel_rfl
theorem impl_Scramble.calls (k : Nat) (a0 : Int) (A1 : Option Addr) (c1 : Nat) (l1 : List Int) (r : List Int) (w : World) (hr1 : Kd.C (Kd.int .i64) w A1 l1.length l1) (hc1 : l1.length ≤ c1) (h : impl_Scramble.f k a0 l1 = some r) :
  Calls Try.prog 130 #[.int .i64 a0, .slice A1 l1.length c1] w fun e w' => ∃ v0_ : Value, e = .returned (v0_) ∧ Kd.R (Kd.int .i64) 3 w' w.heap.size (fun _ => True) v0_ r ∧ Below w.heap.size w w' := by
 have HR1 := zO hr1
 have HC1 := zO hc1
 clear hr1 hc1
 have HB := zO (Below.refl w.heap.size w)
 have H : ((impl_copyInts.f l1).bind fun t222 => ((impl_InRange.f a0 1 127).bind fun t225 => (if t225 = true then ((impl_IsBitString.f k l1).bind fun t226 => (impl_Scramble.j0 k a0 t222 (!t226))) else (impl_Scramble.j0 k a0 t222 true)))) = some r := h
 clear h
 replace H := yE.mp H
 obtain ⟨t222, A30, H⟩ := H
 replace H : ((impl_InRange.f a0 1 127).bind fun t225 => (if t225 = true then ((impl_IsBitString.f k l1).bind fun t226 => (impl_Scramble.j0 k a0 t222 (!t226))) else (impl_Scramble.j0 k a0 t222 true))) = some r := H
 have A3 := zO A30
 clear A30
 have HC4 := zO H
 clear H
 go_enter Try.func130, Try.ntmps130
 go_upto_region 2 with (first | ((with_reducible refine zM (f := 103) rfl ?_); refine goesL_ (some 8) rfl rfl Try.func103 (by kernel_rfl) rfl #[.slice A1 l1.length c1] rfl (by (try simp only [yK, yL, yM]); first | done | rfl | (simp only [yJ, yI]; rfl)) ?_; (with_reducible refine (impl_copyInts.calls _ _ l1 t222 _ ?side1 ?side2 A3.out).mono ?_); (case side1 => repeat (first | exact HR1.out | (with_reducible refine zR ?_ _) | (with_reducible refine zT ?_ _) | (with_reducible refine zS ?_))); (case side2 => exact HC1.out); rintro e w5 ⟨v223, rfl, ho0, hb⟩; refine ⟨_, rfl, ?_⟩; have n0_ := zO (yA ho0 (zD (by repeat (first | exact HB.out | apply zA | apply zL | apply zB)))); have n1_ := zO (zE (by repeat (first | exact HB.out | apply zA | apply zL | apply zB)) hb); clear HB; have HO224 := n0_; have HB := n1_; clear n0_ n1_; (try clear hb); (try clear hb2); (try clear hk); (try clear hi); (try clear ho0)))
 (try simp only [Act.put, yF, yG, yH])
 go_cut [16] (fun v16 wc => ∃ (kq : Nat) (x16_3 : Bool), v16 = .bool x16_3 ∧ Aside0 (impl_Scramble.j0 kq a0 t222 x16_3 = some r) ∧ Aside0 (kq ≤ k) ∧ Aside0 (Kd.R (Kd.int .i64) 3 wc w.heap.size (fun _ => True) v223 t222) ∧ Aside0 (Below w.heap.size w wc))
 case first =>
  have H := HC4.out
  clear HC4
  replace H := yE.mp H
  obtain ⟨t225, A60, H⟩ := H
  replace H : (if t225 = true then ((impl_IsBitString.f k l1).bind fun t226 => (impl_Scramble.j0 k a0 t222 (!t226))) else (impl_Scramble.j0 k a0 t222 true)) = some r := H
  have A6 := zO A60
  clear A60
  by_cases c7 : t225 = true
  ·subst c7
   have H1 : ((impl_IsBitString.f k l1).bind fun t226 => (impl_Scramble.j0 k a0 t222 (!t226))) = some r := by rw [if_pos rfl] at H; exact H
   clear H
   have H := H1
   clear H1
   replace H := yE.mp H
   obtain ⟨t226, A80, H⟩ := H
   replace H : (impl_Scramble.j0 k a0 t222 (!t226)) = some r := H
   have A8 := zO A80
   clear A80
   have H' := zO H
   clear H
   go_wp2_with (first | ((with_reducible refine zM (f := 101) rfl ?_); refine goesL_ (some 10) rfl rfl Try.func101 (by kernel_rfl) rfl #[.int .i64 a0, .int .i64 1, .int .i64 127] rfl (by (try simp only [yK, yL, yM]); first | done | rfl | (simp only [yJ, yI]; rfl)) ?_; (with_reducible refine (impl_InRange.calls a0 1 127 true _ A6.out).mono ?_); rintro e w' ⟨rfl, ⟨nd, rfl⟩⟩; refine ⟨_, rfl, ?_⟩) | (go_at_call 116; (with_reducible refine (impl_IsBitString.calls k _ _ l1 t226 _ ?side1 ?side2 A8.out).mono ?_); (case side1 => repeat (first | exact (Kd.C_below HR1.out (by repeat (first | exact HB.out | apply zA | apply zL | apply zB))) | (with_reducible refine zR ?_ _) | (with_reducible refine zT ?_ _) | (with_reducible refine zS ?_))); (case side2 => exact HC1.out); rintro e w' ⟨rfl, ⟨nd, rfl⟩⟩))
   go_meet
   case rel => exact ⟨_, (!t226), (by first | rfl | (simp; done) | (simp [*]; done)), H', ⟨by first | omega | exact Nat.le_refl _⟩, ⟨by (with_reducible repeat (first | apply zU | apply zW | apply zV)); exact HO224.out⟩, ⟨by repeat (first | exact HB.out | apply zA | apply zL | apply zB)⟩⟩
  ·replace c7 := Bool.eq_false_iff.mpr c7
   subst c7
   have H1 : (impl_Scramble.j0 k a0 t222 true) = some r := by rw [if_neg (show ¬ (false = true) by decide)] at H; exact H
   clear H
   have H := H1
   clear H1
   have H' := zO H
   clear H
   go_wp2_with (first | ((with_reducible refine zM (f := 101) rfl ?_); refine goesL_ (some 10) rfl rfl Try.func101 (by kernel_rfl) rfl #[.int .i64 a0, .int .i64 1, .int .i64 127] rfl (by (try simp only [yK, yL, yM]); first | done | rfl | (simp only [yJ, yI]; rfl)) ?_; (with_reducible refine (impl_InRange.calls a0 1 127 false _ A6.out).mono ?_); rintro e w' ⟨rfl, ⟨nd, rfl⟩⟩; refine ⟨_, rfl, ?_⟩))
   go_meet
   case rel => exact ⟨_, (true), (by first | rfl | (simp; done) | (simp [*]; done)), H', ⟨by first | omega | exact Nat.le_refl _⟩, ⟨by (with_reducible repeat (first | apply zU | apply zW | apply zV)); exact HO224.out⟩, ⟨by repeat (first | exact HB.out | apply zA | apply zL | apply zB)⟩⟩
 case rest =>
  clear HC4
  try clear c1
  try clear p2
  try clear c7
  obtain ⟨kq, x16_3, rfl, HA, HJ3, HO_5, HB⟩ := hcut
  cases kq with
  | zero => exact absurd HA.out (by simp [impl_Scramble.j0])
  | succ kj3 =>
   have H := HA.out
   clear HA
   simp only [impl_Scramble.j0] at H
   by_cases c9 : x16_3 = true
   ·subst c9
    have H1 : (some t222) = some r := by rw [if_pos rfl] at H; exact H
    clear H
    have H := H1
    clear H1
    obtain rfl := Option.some.inj H
    go_wp2
    go_ret
    exact ⟨_, by first | rfl | (simp [errW_none, errW_some] <;> rfl) | (simp [*, errW_none, errW_some] <;> rfl), by (with_reducible repeat (first | apply zU | apply zW | apply zV)); exact HO_5.out, by repeat (first | exact HB.out | apply zA | apply zL | apply zB)⟩
   ·replace c9 := Bool.eq_false_iff.mpr c9
    subst c9
    have H1 : (impl_Scramble.l0 kj3 a0 t222 (t222.length : Int) 0) = some r := by rw [if_neg (show ¬ (false = true) by decide)] at H; exact H
    clear H
    have H := H1
    clear H1
    have H' := zO H
    clear H
    obtain ⟨Ao10, co10, eo10⟩ := Kd.R_slice HO_5.out
    subst eo10
    go_wp2
    go_loopg [0, 20] kj3 (fun kq v0 v20 w' => ∃ (x0_2 : Int) (x5_2 : List Int) (x20_2 : Int), v0 = .int .i64 x0_2 ∧ v20 = .int .i64 x20_2 ∧ Aside0 (impl_Scramble.l0 kq x0_2 x5_2 (t222.length : Int) x20_2 = some r) ∧ Aside0 (kq ≤ kj3) ∧ Aside0 (Kd.R (Kd.int .i64) 3 w' w.heap.size (fun _ => True) (.slice Ao10 t222.length co10) x5_2) ∧ Aside0 (Below w.heap.size w w'))
    case atStart => exact ⟨(a0), (t222), (0), (by first | rfl | (simp; done) | (simp [*]; done)), (by first | rfl | (simp; done) | (simp [*]; done)), H', ⟨Nat.le_refl _⟩, ⟨by (with_reducible repeat (first | apply zU | apply zW | apply zV)); exact HO_5.out⟩, ⟨by repeat (first | exact HB.out | apply zA | apply zL | apply zB)⟩⟩
    case round =>
     clear H'
     try clear c1
     try clear p2
     try clear c7
     try clear c9
     try clear c10
     try clear p2
     obtain ⟨x0_2, x5_2, x20_2, rfl, rfl, HA, HK2, HO_5, HB⟩ := hrel
     have hl5_2 := (zX HO_5.out).1
     rw [hl5_2] at HO_5
     (try simp only [hl5_2])
     cases gk with
     | zero => exact absurd HA.out (by simp [impl_Scramble.l0])
     | succ k2 =>
      have H := HA.out
      clear HA
      simp only [impl_Scramble.l0] at H
      by_cases c11 : x20_2 < (t222.length : Int)
      ·rw [if_pos c11] at H
       have c11b0 : decide (x20_2 < (t222.length : Int)) = true := decide_eq_true c11
       clear c11
       by_cases c12 : 0 ≤ x20_2
       case neg => rw [if_neg c12] at H; exact absurd H (by simp)
       rw [if_pos c12] at H
       have c12b0 : decide (0 ≤ x20_2) = true := decide_eq_true c12
       clear c12
       by_cases c13 : x20_2 < (x5_2.length : Int)
       case neg => rw [if_neg c13] at H; exact absurd H (by simp)
       rw [if_pos c13] at H
       have c13b0 : decide (x20_2 < (x5_2.length : Int)) = true := decide_eq_true c13
       clear c13
       replace H := yE.mp H
       obtain ⟨t228, A140, H⟩ := H
       replace H : ((impl_NextScramblerState.f x0_2).bind fun t230 => (impl_Scramble.l0 k2 t230 (x5_2.set (x20_2 : Int).toNat (Go.bits .xor .i64 (rd x5_2 x20_2) t228)) (t222.length : Int) (wrap64 (x20_2 + 1)))) = some r := H
       have A14 := zO A140
       clear A140
       obtain ⟨y229, hy229⟩ : ∃ y_ : List Int, y_ = (x5_2.set (x20_2 : Int).toNat (Go.bits .xor .i64 (rd x5_2 x20_2) t228)) := ⟨_, rfl⟩
       replace H : ((impl_NextScramblerState.f x0_2).bind fun t230 => (impl_Scramble.l0 k2 t230 y229 (t222.length : Int) (wrap64 (x20_2 + 1)))) = some r := by first | (rw [hy229]; exact H) | exact H
       have Ny229 := zO hy229
       clear hy229
       replace H := yE.mp H
       obtain ⟨t230, A160, H⟩ := H
       replace H : (impl_Scramble.l0 k2 t230 y229 (t222.length : Int) (wrap64 (x20_2 + 1))) = some r := H
       have A16 := zO A160
       clear A160
       have H' := zO H
       clear H
       try go_wp2
       have n0_ := zO (zV HO_5.out)
       have n1_ := zO (zB HB.out)
       clear HO_5
       clear HB
       have HO_5 := n0_
       have HB := n1_
       clear n0_ n1_
       have p227 : 0 ≤ (x20_2 : Int) := yO (by assumption)
       have q227 : x20_2 < (x5_2.length : Int) := yO (by assumption)
       obtain ⟨ad227, e227, hx227_0⟩ := Kd.at_int (zX HO_5.out).2.2 x20_2 p227 q227
       cases e227
       replace p227 := eq_true p227
       replace q227 := eq_true q227
       refine start_ (n := 9) (S := fun w' => w'.cell? (ad227.add (x20_2).toNat) = some (.int .i64 (rd x5_2 x20_2))) (ds := [8]) #[false, false, false, false, false, false, false, false, false] (by kernel_rfl) rfl rfl (hx227_0) (fun hHeld => ?_); refine with_tabW impl_Scramble.tab7 impl_Scramble.bits7 (fun HT_ HW_ => ?_)
       generalize wr.drew = w17 at HO_5 HB hx227_0 hHeld ⊢
       refine pure_ (i := 0) (N := some 23) (v := ?_) (a' := ?_) #[true, false, false, false, false, false, false, false, false] rfl rfl (any_of HT_.out (by kernel_rfl)) (fun _ _ _ h => h) (Or.inl ⟨by rfl, ?_⟩) ?_ ?_; rotate_left
       ·intro w'; go_simp; with_reducible rfl
       rotate_left
       ·simp only [Act.put, yF, yG, yH, i64_w, i32_w]; rfl
       refine pure_ (i := 1) (N := some 24) (v := ?_) (a' := ?_) #[true, true, false, false, false, false, false, false, false] rfl rfl (any_of HT_.out (by kernel_rfl)) (fun _ _ _ h => h) (Or.inl ⟨by rfl, ?_⟩) ?_ ?_; rotate_left
       ·intro w'; go_simp; with_reducible rfl
       rotate_left
       ·simp only [Act.put, yF, yG, yH, i64_w, i32_w]; rfl
       refine pure_ (i := 2) (N := some 25) (v := ?_) (a' := ?_) #[true, true, true, false, false, false, false, false, false] rfl rfl (any_of HT_.out (by kernel_rfl)) (fun _ _ _ h => h) (Or.inl ⟨by rfl, ?_⟩) ?_ ?_; rotate_left
       ·intro w'; go_simp; with_reducible rfl
       rotate_left
       ·simp only [Act.put, yF, yG, yH, i64_w, i32_w]; rfl
       refine pure_ (i := 4) (N := some 27) (v := ?_) (a' := ?_) #[true, true, true, false, true, false, false, false, false] rfl rfl (any_of HT_.out (by kernel_rfl)) (fun _ _ _ h => h) (Or.inl ⟨by rfl, ?_⟩) ?_ ?_; rotate_left
       ·intro w'; go_simp; with_reducible rfl
       rotate_left
       ·simp only [Act.put, yF, yG, yH, i64_w, i32_w]; rfl
       refine take_ (i := 3) (N := some 26) (v := ?_) (a' := ?_) #[true, true, true, true, true, false, false, false, false] rfl rfl (take_ofW HT_.out HW_.out (by kernel_rfl)) (fun _ _ _ h => h) (Or.inl ⟨by rfl, ?_⟩) hHeld ?_ ?_; rotate_left
       ·intro w' s0
        go_simp
        with_reducible rfl
       rotate_left
       ·simp only [Act.put, yF, yG, yH, i64_w, i32_w]; rfl
       refine one_ (i := 5) (N := some 28) #[true, true, true, true, true, true, false, false, false] rfl rfl (one_of HT_.out (by kernel_rfl)) (by decide) (fun K hK => ?_)
       refine goes_ Try.func164 (by kernel_rfl) rfl #[.int .i64 x0_2] (by rfl) rfl rfl (by (try simp only [yK, yL, yM]); first | done | rfl | (simp only [yJ, yI]; rfl)) ?_
       with_reducible refine (impl_scramblerOutput.calls x0_2 t228 _ A14.out).mono ?_
       rintro e w' ⟨rfl, ⟨nd, rfl⟩⟩
       refine ⟨_, rfl, ?_⟩
       have p15 : 0 ≤ (x20_2 : Int) := yO (by assumption)
       have q15 : (x20_2 : Int) < ((x5_2.length : Int) : Int) := yO (by assumption)
       obtain ⟨go15, co15, eo15, gb15, gl15, cl15, HG15⟩ := Kd.R_form HO_5.out (by omega)
       (first | cases eo15 | (injection eo15 with ea_ en_ ec_; (first | subst ea_ | (injection ea_ with ea_; subst ea_)); subst ec_; clear en_))
       have GB15 := zO gb15
       have GG15 := zO HG15
       clear gb15 gl15 HG15
       (first | simp only [add_plain] at hx227_0 | skip)
       obtain ⟨hx15_0, hf15_0⟩ := Kd.R_celln 0 HO_5.out (x20_2 : Int) p15 q15
       replace p15 := eq_true p15
       replace q15 := eq_true q15
       have HP18 := Kd.R_putn HO_5.out (x20_2 : Int) (Go.bits .xor .i64 (rd x5_2 x20_2) t228)
       rw [← Ny229.out] at HP18
       have HQ18 := zO HP18
       clear HP18
       refine hK.out _ _ (hHeld) (fun hHeld => ?_)
       clear hK K
       refine norm_ (a' := ?_) ?_ ?_; rotate_left
       ·show Act.put _ (some 28) _ = _; simp only [Act.put, yF, yG, yH, i64_w, i32_w]; rfl
       refine pure_ (i := 6) (N := some 29) (v := ?_) (a' := ?_) #[true, true, true, true, true, true, true, false, false] rfl rfl (any_of HT_.out (by kernel_rfl)) (fun _ _ _ h => h) (Or.inl ⟨by rfl, ?_⟩) ?_ ?_; rotate_left
       ·intro w'; go_simp; with_reducible rfl
       rotate_left
       ·simp only [Act.put, yF, yG, yH, i64_w, i32_w]; rfl
       refine pure_ (i := 7) (N := some 30) (v := ?_) (a' := ?_) #[true, true, true, true, true, true, true, true, false] rfl rfl (any_of HT_.out (by kernel_rfl)) (fun _ _ _ h => h) (Or.inl ⟨by rfl, ?_⟩) ?_ ?_; rotate_left
       ·intro w'; go_simp; with_reducible rfl
       rotate_left
       ·simp only [Act.put, yF, yG, yH, i64_w, i32_w]; rfl
       refine last_ (i := 8) (N := none) #[true, true, true, true, true, true, true, true, true] rfl rfl (one_of HT_.out (by kernel_rfl)) (by decide) (fun K hK => ?_)
       refine skip_ (w1 := ?_) (by rfl) rfl ?_ ?_; rotate_left
       ·go_simp
        rfl
       refine hK.out _ _ ?_
       clear hK K
       refine done_ (done_of HT_.out (by kernel_rfl)) ?_
       try go_wp2_with (first | ((with_reducible refine zM (f := 165) rfl ?_); refine goesL_ (some 32) rfl rfl Try.func165 (by kernel_rfl) rfl #[.int .i64 x0_2] rfl (by (try simp only [yK, yL, yM]); first | done | rfl | (simp only [yJ, yI]; rfl)) ?_; (with_reducible refine (impl_NextScramblerState.calls x0_2 t230 _ A16.out).mono ?_); rintro e w' ⟨rfl, ⟨nd, rfl⟩⟩; refine ⟨_, rfl, ?_⟩))
       (try simp only [← hl5_2])
       go_roundg k2
       case measure => have := HJ3.out; have := HK2.out; omega
       case rel => exact ⟨(t230), (y229), (wrap64 (x20_2 + 1)), (by first | rfl | (simp; done) | (simp [*]; done)), (by first | rfl | (simp; done) | (simp [*]; done)), H', ⟨by have := HJ3.out; have := HK2.out; omega⟩, ⟨by (try simp only [hl5_2]); (with_reducible repeat (first | apply zU | apply zW | apply zV)); exact HQ18.out⟩, ⟨by repeat (first | (with_reducible first | exact HB.out | apply zA | apply zL | apply zB | refine zC ?_ GB15.out) | exact HB.out)⟩⟩
      ·rw [if_neg c11] at H
       have c11b0 : decide (x20_2 < (t222.length : Int)) = false := decide_eq_false c11
       clear c11
       (try rw [hl5_2] at c11b0)
       obtain rfl := Option.some.inj H
       go_wp2
       go_ret
       exact ⟨_, by first | rfl | (simp [errW_none, errW_some] <;> rfl) | (simp [*, errW_none, errW_some] <;> rfl), by (with_reducible repeat (first | apply zU | apply zW | apply zV)); exact HO_5.out, by repeat (first | exact HB.out | apply zA | apply zL | apply zB)⟩

mutual
def impl_ReceiveFrame.j0 : Nat → List Int → Bool → Int → Int → Int → Option (Int × Int × Int × List Int × Int)
 | 0, _, _, _, _, _ => none
 | k + 1, x0, x32, x241000, x241001, x241002 => if x32 = true then (some (0, 0, 0, (([] : List Int)), 1)) else (if 54 ≤ (x0.length : Int) then ((impl_Deinterleave.f k (x0.drop 54) 8).bind fun t246 => (if x241000 = 2 then ((impl_codedSymbols.f x241000 x241001 x241002).bind fun t249 => ((impl_Depuncture.f k t246 t249).bind fun t250 => (impl_ReceiveFrame.j1 k t250 x241000 x241001 x241002))) else (impl_ReceiveFrame.j1 k t246 x241000 x241001 x241002))) else (none))
def impl_ReceiveFrame.j1 : Nat → List Int → Int → Int → Int → Option (Int × Int × Int × List Int × Int)
 | 0, _, _, _, _ => none
 | k + 1, x7, x241000, x241001, x241002 => (impl_ViterbiDecode.f k x7).bind fun bt253 => (if bt253.2 < 0 then (some (x241000, x241001, x241002, (([] : List Int)), 2)) else ((impl_Scramble.f k x241002 bt253.1).bind fun t260 => ((impl_BitsToBytes.f k t260).bind fun bt263 => (if bt263.2 = true then ((impl_CheckCrc.f k bt263.1).bind fun bt267 => (if bt267.2 = true then (some (x241000, x241001, x241002, bt267.1, 0)) else (some (x241000, x241001, x241002, (([] : List Int)), 2)))) else (some (x241000, x241001, x241002, (([] : List Int)), 2))))))
end
def impl_ReceiveFrame.f (k : Nat) (l0 : List Int) : Option (Int × Int × Int × List Int × Int) := if (l0.length : Int) < 54 then (some (0, 0, 0, (([] : List Int)), 1)) else (if 54 ≤ (l0.length : Int) then ((impl_DecodeHeader.f k (l0.take 54)).bind fun bt236 => (if bt236.2.2.2 = true then ((impl_PayloadSymbols.f bt236.1 bt236.2.1 bt236.2.2.1).bind fun t241 => (impl_ReceiveFrame.j0 k l0 ((wrap64 ((l0.length : Int) - 54)) != t241) bt236.1 bt236.2.1 bt236.2.2.1)) else (impl_ReceiveFrame.j0 k l0 true bt236.1 bt236.2.1 bt236.2.2.1))) else (none))
theorem impl_ReceiveFrame.calls (k : Nat) (A0 : Option Addr) (c0 : Nat) (l0 : List Int) (r1 : Int) (r2 : Int) (r3 : Int) (r4 : List Int) (r5 : Int) (w : World) (hr0 : Kd.C (Kd.int .i64) w A0 l0.length l0) (hc0 : l0.length ≤ c0) (h : impl_ReceiveFrame.f k l0 = some (r1, r2, r3, r4, r5)) :
  Calls Try.prog 60 #[.slice A0 l0.length c0] w fun e w' => ∃ v3_ : Value, e = .returned (.tuple #[.agg #[.int .i64 r1, .int .i64 r2, .int .i64 r3], v3_, .int .i64 r5]) ∧ Kd.R (Kd.int .u8) 5 w' w.heap.size (fun _ => True) v3_ r4 ∧ Below w.heap.size w w' := by
 have hu24 := Try.underlying24
 have HR0 := zO hr0
 have HC0 := zO hc0
 clear hr0 hc0
 have HB := zO (Below.refl w.heap.size w)
 have H : (if (l0.length : Int) < 54 then (some (0, 0, 0, (([] : List Int)), 1)) else (if 54 ≤ (l0.length : Int) then ((impl_DecodeHeader.f k (l0.take 54)).bind fun bt236 => (if bt236.2.2.2 = true then ((impl_PayloadSymbols.f bt236.1 bt236.2.1 bt236.2.2.1).bind fun t241 => (impl_ReceiveFrame.j0 k l0 ((wrap64 ((l0.length : Int) - 54)) != t241) bt236.1 bt236.2.1 bt236.2.2.1)) else (impl_ReceiveFrame.j0 k l0 true bt236.1 bt236.2.1 bt236.2.2.1))) else (none))) = some (r1, r2, r3, r4, r5) := h
 clear h
 by_cases c2 : (l0.length : Int) < 54
 ·rw [if_pos c2] at H
  have c2b0 : decide ((l0.length : Int) < 54) = true := decide_eq_true c2
  have c2b1 : decide (l0.length < 54) = true := decide_eq_true (by omega)
  clear c2
  obtain ⟨y232, hy232⟩ : ∃ y_ : List Int, y_ = (([] : List Int)) := ⟨_, rfl⟩
  replace H : (some (0, 0, 0, y232, 1)) = some (r1, r2, r3, r4, r5) := by first | (rw [hy232]; exact H) | exact H
  have Ny232 := zO hy232
  clear hy232
  simp only [Option.some.injEq, Prod.mk.injEq] at H
  obtain ⟨rfl, rfl, rfl, rfl, rfl⟩ := H
  go_enter Try.func60, Try.ntmps60
  go_wp2_with (first | ((with_reducible refine zN (N := 2) rfl ?_); (try (refine gate_guard (by rfl) ?_; dsimp only)); refine box_event ?hg (N := 2) ?hd (cs := #[.int .i64 0, .int .i64 0, .int .i64 0]) (t := 24) ?hr ?_; (case hd => rfl); (case hg => rfl); (case hr => first | (go_simp; done) | (go_simp; rfl)); intro gb231 hg w3 hbox hb; have n0_ := zO (zE (by repeat (first | exact HB.out | apply zA | apply zL | apply zB)) hb); have n1_ := zO (hbox); have n2_ := zO ((by rw [hg]; exact (zD (by repeat (first | exact HB.out | apply zA | apply zL | apply zB))) : w.heap.size ≤ gb231)); have n3_ := zO ((by rw [hg]; exact (zD (by repeat (first | exact HB.out | apply zA | apply zL | apply zB))) : w.heap.size ≤ gb231)); clear HB; have HB := n0_; have BK231 := n1_; have GW231 := n2_; have GE231 := n3_; clear n0_ n1_ n2_ n3_; clear hb hbox hg) | ((with_reducible refine zN (N := 16) rfl ?_); (try (refine gate_guard (by rfl) ?_; dsimp only)); refine Kd.R_lit (Kd.int .u8) _ 5 ?hg (N := 16) ?hd (xs := ([] : List Int)) (inner := []) (ok := fun _ => True) (okp := fun _ => True) ?hr ?hp (fun _ hk => hk) trivial (Below.refl _ _) (Nat.le_refl _) (by simp) ?_; (case hd => rfl); (case hg => rfl); (case hr => first | (go_simp; done) | (go_simp; rfl)); (case hp => exact (Reps.none _ _)); intro v233 w4 ho5 hb hg_ hnew_; clear hg_ hnew_; (first | rw [← Ny232.out] at ho5 | (simp only [Int.reduceToNat] at ho5; rw [← Ny232.out] at ho5)); have n0_ := zO (yA ho5 (zD (by repeat (first | (with_reducible first | exact HB.out | apply zA | apply zL | apply zB | refine zC ?_ GE231.out) | exact HB.out)))); have n1_ := zO (zG (g := gb231) (o := .cells #[.int .i64 0, .int .i64 0, .int .i64 0] 24 (0, 0)) (by (with_reducible repeat (first | refine zJ ?_ _ | refine zI ?_ | refine zF ?_ _)); exact BK231.out) hb); have n2_ := zO (zE (by repeat (first | (with_reducible first | exact HB.out | apply zA | apply zL | apply zB | refine zC ?_ GE231.out) | exact HB.out)) hb); clear BK231; clear HB; have HO234 := n0_; have BK231 := n1_; have HB := n2_; clear n0_ n1_ n2_; clear hb ho5; have hcz6_0 : w4.cell? ⟨gb231, 0, none⟩ = some (.int .i64 0) := (zH BK231.out 0).trans rfl; have hcz6_1 : w4.cell? ⟨gb231, 1, none⟩ = some (.int .i64 0) := (zH BK231.out 1).trans rfl; have hcz6_2 : w4.cell? ⟨gb231, 2, none⟩ = some (.int .i64 0) := (zH BK231.out 2).trans rfl; have hfz6_0 := zK BK231.out 0; have hfz6_1 := zK BK231.out 1; have hfz6_2 := zK BK231.out 2))
  refine bodyPost_ret (results_ctt rfl _ _ gb231 24 #[.int .i64 0, .int .i64 0, .int .i64 0] (0, 0) _ rfl (by (with_reducible repeat (first | refine zJ ?_ _ | refine zI ?_ | refine zF ?_ _)); refine blk_put (cs := #[.int .i64 0, .int .i64 0, .int .i64 0]) ?_ 2 _ rfl; (with_reducible repeat (first | refine zJ ?_ _ | refine zI ?_ | refine zF ?_ _)); refine blk_put (cs := #[.int .i64 0, .int .i64 0, .int .i64 0]) ?_ 1 _ rfl; (with_reducible repeat (first | refine zJ ?_ _ | refine zI ?_ | refine zF ?_ _)); refine blk_put (cs := #[.int .i64 0, .int .i64 0, .int .i64 0]) ?_ 0 _ rfl; (with_reducible repeat (first | refine zJ ?_ _ | refine zI ?_ | refine zF ?_ _)); exact BK231.out) Try.underlying24 rfl (by kernel_rfl)) rfl ?_
  exact ⟨_, by first | rfl | (simp [errW_none, errW_some] <;> rfl) | (simp [*, errW_none, errW_some] <;> rfl), by (with_reducible repeat (first | apply zU | apply zW | apply zV)); exact Kd.R_mono (zZ (p := ⟨gb231, 2, none⟩) (zZ (p := ⟨gb231, 1, none⟩) (zZ (p := ⟨gb231, 0, none⟩) (Kd.R_types HO234.out BK231.out (by decide)) (fun _ hk => hk.2) (.int .i64 0)) (fun _ hk => hk.2) (.int .i64 0)) (fun _ hk => hk.2) (.int .i64 0)) (fun _ hk => trivial), by repeat (first | (with_reducible first | exact HB.out | apply zA | apply zL | apply zB | refine zC ?_ GE231.out) | exact HB.out)⟩
 ·rw [if_neg c2] at H
  have c2b0 : decide ((l0.length : Int) < 54) = false := decide_eq_false c2
  have c2b1 : decide (l0.length < 54) = false := decide_eq_false (by omega)
  clear c2
  by_cases c7 : 54 ≤ (l0.length : Int)
  case neg => rw [if_neg c7] at H; exact absurd H (by simp)
  rw [if_pos c7] at H
  have c7b0 := eq_true c7
  have c7b1 : decide (54 ≤ (l0.length : Int)) = true := decide_eq_true c7
  clear c7
  replace H := yE.mp H
  obtain ⟨⟨t236, t237, t238, t239⟩, A80, H⟩ := H
  replace H : (if t239 = true then ((impl_PayloadSymbols.f t236 t237 t238).bind fun t241 => (impl_ReceiveFrame.j0 k l0 ((wrap64 ((l0.length : Int) - 54)) != t241) t236 t237 t238)) else (impl_ReceiveFrame.j0 k l0 true t236 t237 t238)) = some (r1, r2, r3, r4, r5) := H
  have A8 := zO A80
  clear A80
  have HC9 := zO H
  clear H
  go_enter Try.func60, Try.ntmps60
  go_upto_region 4 with (first | ((with_reducible refine zN (N := 2) rfl ?_); (try (refine gate_guard (by rfl) ?_; dsimp only)); refine box_event ?hg (N := 2) ?hd (cs := #[.int .i64 0, .int .i64 0, .int .i64 0]) (t := 24) ?hr ?_; (case hd => rfl); (case hg => rfl); (case hr => first | (go_simp; done) | (go_simp; rfl)); intro gb231 hg w10 hbox hb; have n0_ := zO (zE (by repeat (first | exact HB.out | apply zA | apply zL | apply zB)) hb); have n1_ := zO (hbox); have n2_ := zO ((by rw [hg]; exact (zD (by repeat (first | exact HB.out | apply zA | apply zL | apply zB))) : w.heap.size ≤ gb231)); have n3_ := zO ((by rw [hg]; exact (zD (by repeat (first | exact HB.out | apply zA | apply zL | apply zB))) : w.heap.size ≤ gb231)); clear HB; have HB := n0_; have BK231 := n1_; have GW231 := n2_; have GE231 := n3_; clear n0_ n1_ n2_ n3_; clear hb hbox hg; obtain ⟨i011, hi011, _, hsz11, _⟩ := info_parts info3; obtain ⟨hcut11, hA11, hC11⟩ := print_take_of (P := Try.prog) (Value.int .i64) 0 22 3 .i64 Try.underlying22 hi011 hsz11 A0 c0 l0 54 (by omega) (yO (by assumption)) HC0.out; have HR235 := zO (Kd.C_of_reads (h1 := fun _ => rfl) (hA11 _ (Kd.reads_of_C HR0.out))); have HC235 := zO hC11; clear hA11 hC11 hi011 hsz11) | ((with_reducible refine zM (f := 16) rfl ?_); refine goesL_ (some 20) rfl rfl Try.func16 (by kernel_rfl) rfl #[.slice A0 (l0.take 54).length c0] rfl (by (try simp only [yK, yL, yM]); first | done | (rw [show (l0.take 54).length = 54 from (by rw [yI]; have h_ : (54 : Int) ≤ (l0.length : Int) := yO (by assumption); omega)] <;> rfl) | rfl | (simp only [yJ, yI]; rfl)) ?_; (with_reducible refine (impl_DecodeHeader.calls k _ _ (l0.take 54) t236 t237 t238 t239 _ ?side1 ?side2 A8.out).mono ?_); (case side1 => repeat (first | exact (Kd.C_below HR235.out HB.out) | (with_reducible refine zR ?_ _) | (with_reducible refine zT ?_ _) | (with_reducible refine zS ?_))); (case side2 => exact HC235.out); rintro e w12 ⟨rfl, hb⟩; refine ⟨_, rfl, ?_⟩; have n0_ := zO (zG (g := gb231) (o := .cells #[.int .i64 0, .int .i64 0, .int .i64 0] 24 (0, 0)) (by (with_reducible repeat (first | refine zJ ?_ _ | refine zI ?_ | refine zF ?_ _)); exact BK231.out) hb); have n1_ := zO (zE (by repeat (first | (with_reducible first | exact HB.out | apply zA | apply zL | apply zB | refine zC ?_ GE231.out) | exact HB.out)) hb); clear BK231; clear HB; have BK231 := n0_; have HB := n1_; clear n0_ n1_; (try clear hb); (try clear hb2); (try clear hk); (try clear hi)) | ((with_reducible refine zN (N := 5) rfl ?_); (try (refine gate_guard (by rfl) ?_; dsimp only)); refine box_event ?hg (N := 5) ?hd (cs := #[.int .i64 0, .int .i64 0, .int .i64 0]) (t := 24) ?hr ?_; (case hd => rfl); (case hg => rfl); (case hr => first | (go_simp; done) | (go_simp; rfl)); intro gb240 hg w13 hbox hb; have n0_ := zO (zG (g := gb231) (o := .cells #[.int .i64 0, .int .i64 0, .int .i64 0] 24 (0, 0)) (by (with_reducible repeat (first | refine zJ ?_ _ | refine zI ?_ | refine zF ?_ _)); exact BK231.out) hb); have n1_ := zO (zE (by repeat (first | (with_reducible first | exact HB.out | apply zA | apply zL | apply zB | refine zC ?_ GE231.out) | exact HB.out)) hb); have n2_ := zO (hbox); have n3_ := zO ((by rw [hg]; exact (zD (by repeat (first | (with_reducible first | exact HB.out | apply zA | apply zL | apply zB | refine zC ?_ GE231.out) | exact HB.out))) : w.heap.size ≤ gb240)); have n4_ := zO ((by rw [hg]; exact (zD (by repeat (first | (with_reducible first | exact HB.out | apply zA | apply zL | apply zB | refine zC ?_ GE231.out) | exact HB.out))) : w.heap.size ≤ gb240)); have n5_ := zO ((by rw [hg]; exact Nat.ne_of_lt (blk_lt (g := gb231) (o := .cells #[.int .i64 0, .int .i64 0, .int .i64 0] 24 (0, 0)) (by (with_reducible repeat (first | refine zJ ?_ _ | refine zI ?_ | refine zF ?_ _)); exact BK231.out)) : gb231 ≠ gb240)); have n6_ := zO ((by rw [hg]; exact Nat.ne_of_gt (blk_lt (g := gb231) (o := .cells #[.int .i64 0, .int .i64 0, .int .i64 0] 24 (0, 0)) (by (with_reducible repeat (first | refine zJ ?_ _ | refine zI ?_ | refine zF ?_ _)); exact BK231.out)) : gb240 ≠ gb231)); clear BK231; clear HB; have BK231 := n0_; have HB := n1_; have BK240 := n2_; have GW240 := n3_; have GE240 := n4_; have NB231_240 := n5_; have NB240_231 := n6_; clear n0_ n1_ n2_ n3_ n4_ n5_ n6_; clear hb hbox hg; have hnb14 := NB240_231.out; have hnc14 := NB231_240.out; have hcz15_0 : w13.cell? ⟨gb240, 0, none⟩ = some (.int .i64 0) := (zH BK240.out 0).trans rfl; have hcz15_1 : w13.cell? ⟨gb240, 1, none⟩ = some (.int .i64 0) := (zH BK240.out 1).trans rfl; have hcz15_2 : w13.cell? ⟨gb240, 2, none⟩ = some (.int .i64 0) := (zH BK240.out 2).trans rfl; have hfz15_0 := zK BK240.out 0; have hfz15_1 := zK BK240.out 1; have hfz15_2 := zK BK240.out 2))
  (try simp only [Act.put, yF, yG, yH])
  go_cut [32] (fun v32 wc => ∃ (kq : Nat) (x32_8 : Bool), v32 = .bool x32_8 ∧ Aside0 (impl_ReceiveFrame.j0 kq l0 x32_8 t236 t237 t238 = some (r1, r2, r3, r4, r5)) ∧ Aside0 (kq ≤ k) ∧ Aside0 (wc.heap[gb231]? = some (.cells #[.int .i64 0, .int .i64 0, .int .i64 0] 24 (0, 0))) ∧ Aside0 (wc.heap[gb240]? = some (.cells #[.int .i64 t236, .int .i64 t237, .int .i64 t238] 24 (0, 0))) ∧ Aside0 (Below w.heap.size w wc))
  case first =>
   have H := HC9.out
   clear HC9
   by_cases c16 : t239 = true
   ·subst c16
    have H1 : ((impl_PayloadSymbols.f t236 t237 t238).bind fun t241 => (impl_ReceiveFrame.j0 k l0 ((wrap64 ((l0.length : Int) - 54)) != t241) t236 t237 t238)) = some (r1, r2, r3, r4, r5) := by rw [if_pos rfl] at H; exact H
    clear H
    have H := H1
    clear H1
    replace H := yE.mp H
    obtain ⟨t241, A170, H⟩ := H
    replace H : (impl_ReceiveFrame.j0 k l0 ((wrap64 ((l0.length : Int) - 54)) != t241) t236 t237 t238) = some (r1, r2, r3, r4, r5) := H
    have A17 := zO A170
    clear A170
    have H' := zO H
    clear H
    have hnb18 := NB240_231.out
    have hnc18 := NB231_240.out
    have hcz19_0 : w13.cell? ⟨gb240, 0, none⟩ = some (.int .i64 0) := (zH BK240.out 0).trans rfl
    have hcz19_1 : w13.cell? ⟨gb240, 1, none⟩ = some (.int .i64 0) := (zH BK240.out 1).trans rfl
    have hcz19_2 : w13.cell? ⟨gb240, 2, none⟩ = some (.int .i64 0) := (zH BK240.out 2).trans rfl
    have hfz19_0 := zK BK240.out 0
    have hfz19_1 := zK BK240.out 1
    have hfz19_2 := zK BK240.out 2
    go_wp2_with (first | (go_at_call 125; (with_reducible refine (impl_PayloadSymbols.calls t236 t237 t238 t241 _ A17.out).mono ?_); rintro e w20 ⟨rfl, hb⟩; have n0_ := zO (zG (g := gb231) (o := .cells #[.int .i64 0, .int .i64 0, .int .i64 0] 24 (0, 0)) (by (with_reducible repeat (first | refine zJ ?_ _ | refine zI ?_ | refine zF ?_ _)); refine blk_far ?_ NB231_240.out _; (with_reducible repeat (first | refine zJ ?_ _ | refine zI ?_ | refine zF ?_ _)); refine blk_far ?_ NB231_240.out _; (with_reducible repeat (first | refine zJ ?_ _ | refine zI ?_ | refine zF ?_ _)); refine blk_far ?_ NB231_240.out _; (with_reducible repeat (first | refine zJ ?_ _ | refine zI ?_ | refine zF ?_ _)); exact BK231.out) hb); have n1_ := zO (zG (g := gb240) (o := .cells #[.int .i64 t236, .int .i64 t237, .int .i64 t238] 24 (0, 0)) (by (with_reducible repeat (first | refine zJ ?_ _ | refine zI ?_ | refine zF ?_ _)); refine blk_put (cs := #[.int .i64 t236, .int .i64 t237, .int .i64 0]) ?_ 2 _ rfl; (with_reducible repeat (first | refine zJ ?_ _ | refine zI ?_ | refine zF ?_ _)); refine blk_put (cs := #[.int .i64 t236, .int .i64 0, .int .i64 0]) ?_ 1 _ rfl; (with_reducible repeat (first | refine zJ ?_ _ | refine zI ?_ | refine zF ?_ _)); refine blk_put (cs := #[.int .i64 0, .int .i64 0, .int .i64 0]) ?_ 0 _ rfl; (with_reducible repeat (first | refine zJ ?_ _ | refine zI ?_ | refine zF ?_ _)); exact BK240.out) hb); have n2_ := zO (zE (by repeat (first | (with_reducible first | exact HB.out | apply zA | apply zL | apply zB | refine zC ?_ GE231.out | refine zC ?_ GE240.out) | exact HB.out)) hb); clear BK231; clear BK240; clear HB; have BK231 := n0_; have BK240 := n1_; have HB := n2_; clear n0_ n1_ n2_; (try clear hb); (try clear hb2); (try clear hk); (try clear hi)))
    go_meet
    case rel => exact ⟨_, (((wrap64 ((l0.length : Int) - 54)) != t241)), (by first | rfl | (simp; done) | (simp [*]; done)), H', ⟨by first | omega | exact Nat.le_refl _⟩, ⟨by (with_reducible repeat (first | refine zJ ?_ _ | refine zI ?_ | refine zF ?_ _)); exact BK231.out⟩, ⟨by (with_reducible repeat (first | refine zJ ?_ _ | refine zI ?_ | refine zF ?_ _)); exact BK240.out⟩, ⟨by repeat (first | (with_reducible first | exact HB.out | apply zA | apply zL | apply zB | refine zC ?_ GE231.out | refine zC ?_ GE240.out) | exact HB.out)⟩⟩
   ·replace c16 := Bool.eq_false_iff.mpr c16
    subst c16
    have H1 : (impl_ReceiveFrame.j0 k l0 true t236 t237 t238) = some (r1, r2, r3, r4, r5) := by rw [if_neg (show ¬ (false = true) by decide)] at H; exact H
    clear H
    have H := H1
    clear H1
    have H' := zO H
    clear H
    go_wp2
    go_meet
    case rel => exact ⟨_, (true), (by first | rfl | (simp; done) | (simp [*]; done)), H', ⟨by first | omega | exact Nat.le_refl _⟩, ⟨by (with_reducible repeat (first | refine zJ ?_ _ | refine zI ?_ | refine zF ?_ _)); refine blk_far ?_ NB231_240.out _; (with_reducible repeat (first | refine zJ ?_ _ | refine zI ?_ | refine zF ?_ _)); refine blk_far ?_ NB231_240.out _; (with_reducible repeat (first | refine zJ ?_ _ | refine zI ?_ | refine zF ?_ _)); refine blk_far ?_ NB231_240.out _; (with_reducible repeat (first | refine zJ ?_ _ | refine zI ?_ | refine zF ?_ _)); exact BK231.out⟩, ⟨by (with_reducible repeat (first | refine zJ ?_ _ | refine zI ?_ | refine zF ?_ _)); refine blk_put (cs := #[.int .i64 t236, .int .i64 t237, .int .i64 0]) ?_ 2 _ rfl; (with_reducible repeat (first | refine zJ ?_ _ | refine zI ?_ | refine zF ?_ _)); refine blk_put (cs := #[.int .i64 t236, .int .i64 0, .int .i64 0]) ?_ 1 _ rfl; (with_reducible repeat (first | refine zJ ?_ _ | refine zI ?_ | refine zF ?_ _)); refine blk_put (cs := #[.int .i64 0, .int .i64 0, .int .i64 0]) ?_ 0 _ rfl; (with_reducible repeat (first | refine zJ ?_ _ | refine zI ?_ | refine zF ?_ _)); exact BK240.out⟩, ⟨by repeat (first | (with_reducible first | exact HB.out | apply zA | apply zL | apply zB | refine zC ?_ GE231.out | refine zC ?_ GE240.out) | exact HB.out)⟩⟩
  case rest =>
   clear HC9
   try clear c1
   try clear c2
   try clear c2b0
   try clear c2b1
   try clear p2
   try clear c6
   try clear p6
   try clear c7
   try clear c7b0
   try clear c7b1
   try clear c14
   try clear c16
   try clear c18
   try clear hcz15_0
   try clear hcz15_1
   try clear hcz15_2
   try clear hcz19_0
   try clear hcz19_1
   try clear hcz19_2
   try clear hcz6_0
   try clear hcz6_1
   try clear hcz6_2
   try clear hfz15_0
   try clear hfz15_1
   try clear hfz15_2
   try clear hfz19_0
   try clear hfz19_1
   try clear hfz19_2
   try clear hfz6_0
   try clear hfz6_1
   try clear hfz6_2
   obtain ⟨kq, x32_8, rfl, HA, HJ8, BK231, BK240, HB⟩ := hcut
   cases kq with
   | zero => exact absurd HA.out (by simp [impl_ReceiveFrame.j0])
   | succ kj8 =>
    have H := HA.out
    clear HA
    simp only [impl_ReceiveFrame.j0] at H
    by_cases c21 : x32_8 = true
    ·subst c21
     have H1 : (some (0, 0, 0, (([] : List Int)), 1)) = some (r1, r2, r3, r4, r5) := by rw [if_pos rfl] at H; exact H
     clear H
     have H := H1
     clear H1
     obtain ⟨y242, hy242⟩ : ∃ y_ : List Int, y_ = (([] : List Int)) := ⟨_, rfl⟩
     replace H : (some (0, 0, 0, y242, 1)) = some (r1, r2, r3, r4, r5) := by first | (rw [hy242]; exact H) | exact H
     have Ny242 := zO hy242
     clear hy242
     simp only [Option.some.injEq, Prod.mk.injEq] at H
     obtain ⟨rfl, rfl, rfl, rfl, rfl⟩ := H
     go_wp2_with (first | ((with_reducible refine zN (N := 34) rfl ?_); (try (refine gate_guard (by rfl) ?_; dsimp only)); refine Kd.R_lit (Kd.int .u8) _ 5 ?hg (N := 34) ?hd (xs := ([] : List Int)) (inner := []) (ok := fun _ => True) (okp := fun _ => True) ?hr ?hp (fun _ hk => hk) trivial (Below.refl _ _) (Nat.le_refl _) (by simp) ?_; (case hd => rfl); (case hg => rfl); (case hr => first | (go_simp; done) | (go_simp; rfl)); (case hp => exact (Reps.none _ _)); intro v243 w22 ho23 hb hg_ hnew_; clear hg_ hnew_; (first | rw [← Ny242.out] at ho23 | (simp only [Int.reduceToNat] at ho23; rw [← Ny242.out] at ho23)); have n0_ := zO (yA ho23 (zD (by repeat (first | (with_reducible first | exact HB.out | apply zA | apply zL | apply zB | refine zC ?_ GE231.out | refine zC ?_ GE240.out) | exact HB.out)))); have n1_ := zO (zG (g := gb231) (o := .cells #[.int .i64 0, .int .i64 0, .int .i64 0] 24 (0, 0)) (by (with_reducible repeat (first | refine zJ ?_ _ | refine zI ?_ | refine zF ?_ _)); exact BK231.out) hb); have n2_ := zO (zG (g := gb240) (o := .cells #[.int .i64 t236, .int .i64 t237, .int .i64 t238] 24 (0, 0)) (by (with_reducible repeat (first | refine zJ ?_ _ | refine zI ?_ | refine zF ?_ _)); exact BK240.out) hb); have n3_ := zO (zE (by repeat (first | (with_reducible first | exact HB.out | apply zA | apply zL | apply zB | refine zC ?_ GE231.out | refine zC ?_ GE240.out) | exact HB.out)) hb); clear BK231; clear BK240; clear HB; have HO244 := n0_; have BK231 := n1_; have BK240 := n2_; have HB := n3_; clear n0_ n1_ n2_ n3_; clear hb ho23; have hnb24 := NB231_240.out; have hnc24 := NB240_231.out; have hcz25_0 : w22.cell? ⟨gb231, 0, none⟩ = some (.int .i64 0) := (zH BK231.out 0).trans rfl; have hcz25_1 : w22.cell? ⟨gb231, 1, none⟩ = some (.int .i64 0) := (zH BK231.out 1).trans rfl; have hcz25_2 : w22.cell? ⟨gb231, 2, none⟩ = some (.int .i64 0) := (zH BK231.out 2).trans rfl; have hfz25_0 := zK BK231.out 0; have hfz25_1 := zK BK231.out 1; have hfz25_2 := zK BK231.out 2))
     refine bodyPost_ret (results_ctt rfl _ _ gb231 24 #[.int .i64 0, .int .i64 0, .int .i64 0] (0, 0) _ rfl (by (with_reducible repeat (first | refine zJ ?_ _ | refine zI ?_ | refine zF ?_ _)); refine blk_put (cs := #[.int .i64 0, .int .i64 0, .int .i64 0]) ?_ 2 _ rfl; (with_reducible repeat (first | refine zJ ?_ _ | refine zI ?_ | refine zF ?_ _)); refine blk_put (cs := #[.int .i64 0, .int .i64 0, .int .i64 0]) ?_ 1 _ rfl; (with_reducible repeat (first | refine zJ ?_ _ | refine zI ?_ | refine zF ?_ _)); refine blk_put (cs := #[.int .i64 0, .int .i64 0, .int .i64 0]) ?_ 0 _ rfl; (with_reducible repeat (first | refine zJ ?_ _ | refine zI ?_ | refine zF ?_ _)); exact BK231.out) Try.underlying24 rfl (by kernel_rfl)) rfl ?_
     exact ⟨_, by first | rfl | (simp [errW_none, errW_some] <;> rfl) | (simp [*, errW_none, errW_some] <;> rfl), by (with_reducible repeat (first | apply zU | apply zW | apply zV)); exact Kd.R_mono (zZ (p := ⟨gb231, 2, none⟩) (zZ (p := ⟨gb231, 1, none⟩) (zZ (p := ⟨gb231, 0, none⟩) (Kd.R_types HO244.out BK231.out (by decide)) (fun _ hk => hk.2) (.int .i64 0)) (fun _ hk => hk.2) (.int .i64 0)) (fun _ hk => hk.2) (.int .i64 0)) (fun _ hk => trivial), by repeat (first | (with_reducible first | exact HB.out | apply zA | apply zL | apply zB | refine zC ?_ GE231.out | refine zC ?_ GE240.out) | exact HB.out)⟩
    ·replace c21 := Bool.eq_false_iff.mpr c21
     subst c21
     have H1 : (if 54 ≤ (l0.length : Int) then ((impl_Deinterleave.f kj8 (l0.drop 54) 8).bind fun t246 => (if t236 = 2 then ((impl_codedSymbols.f t236 t237 t238).bind fun t249 => ((impl_Depuncture.f kj8 t246 t249).bind fun t250 => (impl_ReceiveFrame.j1 kj8 t250 t236 t237 t238))) else (impl_ReceiveFrame.j1 kj8 t246 t236 t237 t238))) else (none)) = some (r1, r2, r3, r4, r5) := by rw [if_neg (show ¬ (false = true) by decide)] at H; exact H
     clear H
     have H := H1
     clear H1
     by_cases c26 : 54 ≤ (l0.length : Int)
     case neg => rw [if_neg c26] at H; exact absurd H (by simp)
     rw [if_pos c26] at H
     have c26b0 := eq_true c26
     have c26b1 : decide (54 ≤ (l0.length : Int)) = true := decide_eq_true c26
     clear c26
     replace H := yE.mp H
     obtain ⟨t246, A270, H⟩ := H
     replace H : (if t236 = 2 then ((impl_codedSymbols.f t236 t237 t238).bind fun t249 => ((impl_Depuncture.f kj8 t246 t249).bind fun t250 => (impl_ReceiveFrame.j1 kj8 t250 t236 t237 t238))) else (impl_ReceiveFrame.j1 kj8 t246 t236 t237 t238)) = some (r1, r2, r3, r4, r5) := H
     have A27 := zO A270
     clear A270
     have HC28 := zO H
     clear H
     obtain ⟨i029, hi029, _, hsz29, _⟩ := info_parts info3
     obtain ⟨A29, hcut29, hA29, hC29⟩ := print_drop_of (P := Try.prog) (Value.int .i64) 0 22 3 .i64 Try.underlying22 hi029 hsz29 A0 c0 l0 54 (by omega) (yO (by assumption)) HC0.out
     have HR245 := zO (Kd.C_of_reads (h1 := fun _ => rfl) (hA29 _ (Kd.reads_of_C HR0.out)))
     have HC245 := zO hC29
     clear hA29 hC29 hi029 hsz29
     go_upto_if 40 with (first | ((with_reducible refine zM (f := 126) rfl ?_); refine goesL_ (some 37) rfl rfl Try.func126 (by kernel_rfl) rfl #[.slice A29 (l0.drop 54).length (c0 - 54), .int .i64 8] rfl (by (try simp only [yK, yL, yM]); first | done | (rw [show (l0.drop 54).length = (l0.length - 54) from yJ] <;> rfl) | rfl | (simp only [yJ, yI]; rfl)) ?_; (with_reducible refine (impl_Deinterleave.calls kj8 _ _ (l0.drop 54) 8 t246 _ ?side1 ?side2 A27.out).mono ?_); (case side1 => repeat (first | exact (Kd.C_below HR245.out HB.out) | (with_reducible refine zR ?_ _) | (with_reducible refine zT ?_ _) | (with_reducible refine zS ?_))); (case side2 => exact HC245.out); rintro e w30 ⟨v247, rfl, ho0, hb⟩; refine ⟨_, rfl, ?_⟩; have n0_ := zO (yA ho0 (zD (by repeat (first | (with_reducible first | exact HB.out | apply zA | apply zL | apply zB | refine zC ?_ GE231.out | refine zC ?_ GE240.out) | exact HB.out)))); have n1_ := zO (zG (g := gb231) (o := .cells #[.int .i64 0, .int .i64 0, .int .i64 0] 24 (0, 0)) (by (with_reducible repeat (first | refine zJ ?_ _ | refine zI ?_ | refine zF ?_ _)); exact BK231.out) hb); have n2_ := zO (zG (g := gb240) (o := .cells #[.int .i64 t236, .int .i64 t237, .int .i64 t238] 24 (0, 0)) (by (with_reducible repeat (first | refine zJ ?_ _ | refine zI ?_ | refine zF ?_ _)); exact BK240.out) hb); have n3_ := zO (zE (by repeat (first | (with_reducible first | exact HB.out | apply zA | apply zL | apply zB | refine zC ?_ GE231.out | refine zC ?_ GE240.out) | exact HB.out)) hb); clear BK231; clear BK240; clear HB; have HO248 := n0_; have BK231 := n1_; have BK240 := n2_; have HB := n3_; clear n0_ n1_ n2_ n3_; (try clear hb); (try clear hb2); (try clear hk); (try clear hi); (try clear ho0); have hnb31 := NB240_231.out; have hnc31 := NB231_240.out; have hcz32_0 : w30.cell? ⟨gb240, 0, none⟩ = some (.int .i64 t236) := (zH BK240.out 0).trans rfl; have hcz32_1 : w30.cell? ⟨gb240, 1, none⟩ = some (.int .i64 t237) := (zH BK240.out 1).trans rfl; have hcz32_2 : w30.cell? ⟨gb240, 2, none⟩ = some (.int .i64 t238) := (zH BK240.out 2).trans rfl; have hfz32_0 := zK BK240.out 0; have hfz32_1 := zK BK240.out 1; have hfz32_2 := zK BK240.out 2))
     (try simp only [Act.put, yF, yG, yH])
     go_cut [7] (fun v7 wc => ∃ (kq : Nat) (x7_27 : List Int), Aside0 (impl_ReceiveFrame.j1 kq x7_27 t236 t237 t238 = some (r1, r2, r3, r4, r5)) ∧ Aside0 (kq ≤ kj8) ∧ Aside0 (Kd.R (Kd.int .i64) 3 wc w.heap.size (fun _ => True) v7 x7_27) ∧ Aside0 (wc.heap[gb231]? = some (.cells #[.int .i64 0, .int .i64 0, .int .i64 0] 24 (0, 0))) ∧ Aside0 (wc.heap[gb240]? = some (.cells #[.int .i64 t236, .int .i64 t237, .int .i64 t238] 24 (0, 0))) ∧ Aside0 (Below w.heap.size w wc))
     case first =>
      have H := HC28.out
      clear HC28
      by_cases c33 : t236 = 2
      ·rw [if_pos c33] at H
       have c33b0 : (t236 == 2) = true := beq_iff_eq.mpr c33
       have c33b1 : (t236 != 2) = false := bne_eq_false_iff_eq.mpr c33
       clear c33
       (first | rw [c33b0] | (simp only [i64_w, i32_w]; rw [c33b0]) | skip)
       replace H := yE.mp H
       obtain ⟨t249, A340, H⟩ := H
       replace H : ((impl_Depuncture.f kj8 t246 t249).bind fun t250 => (impl_ReceiveFrame.j1 kj8 t250 t236 t237 t238)) = some (r1, r2, r3, r4, r5) := H
       have A34 := zO A340
       clear A340
       replace H := yE.mp H
       obtain ⟨t250, A350, H⟩ := H
       replace H : (impl_ReceiveFrame.j1 kj8 t250 t236 t237 t238) = some (r1, r2, r3, r4, r5) := H
       have A35 := zO A350
       clear A350
       have H' := zO H
       clear H
       have hnb36 := NB240_231.out
       have hnc36 := NB231_240.out
       have hcz37_0 : w30.cell? ⟨gb240, 0, none⟩ = some (.int .i64 t236) := (zH BK240.out 0).trans rfl
       have hcz37_1 : w30.cell? ⟨gb240, 1, none⟩ = some (.int .i64 t237) := (zH BK240.out 1).trans rfl
       have hcz37_2 : w30.cell? ⟨gb240, 2, none⟩ = some (.int .i64 t238) := (zH BK240.out 2).trans rfl
       have hfz37_0 := zK BK240.out 0
       have hfz37_1 := zK BK240.out 1
       have hfz37_2 := zK BK240.out 2
       go_wp2_with (first | ((with_reducible refine zM (f := 128) rfl ?_); refine goesL_ (some 43) rfl rfl Try.func128 (by kernel_rfl) rfl #[.agg #[.int .i64 t236, .int .i64 t237, .int .i64 t238]] rfl (by (try simp only [yK, yL, yM]); first | done | rfl | (simp only [yJ, yI]; rfl)) ?_; (with_reducible refine (impl_codedSymbols.calls t236 t237 t238 t249 _ A34.out).mono ?_); rintro e w38 ⟨rfl, hb⟩; refine ⟨_, rfl, ?_⟩; have n0_ := zO (zY (by (with_reducible repeat (first | apply zU | apply zW | apply zV)); exact HO248.out) hb); have n1_ := zO (zG (g := gb231) (o := .cells #[.int .i64 0, .int .i64 0, .int .i64 0] 24 (0, 0)) (by (with_reducible repeat (first | refine zJ ?_ _ | refine zI ?_ | refine zF ?_ _)); exact BK231.out) hb); have n2_ := zO (zG (g := gb240) (o := .cells #[.int .i64 t236, .int .i64 t237, .int .i64 t238] 24 (0, 0)) (by (with_reducible repeat (first | refine zJ ?_ _ | refine zI ?_ | refine zF ?_ _)); exact BK240.out) hb); have n3_ := zO (zE (by repeat (first | (with_reducible first | exact HB.out | apply zA | apply zL | apply zB | refine zC ?_ GE231.out | refine zC ?_ GE240.out) | exact HB.out)) hb); clear HO248; clear BK231; clear BK240; clear HB; have HO248 := n0_; have BK231 := n1_; have BK240 := n2_; have HB := n3_; clear n0_ n1_ n2_ n3_; (try clear hb); (try clear hb2); (try clear hk); (try clear hi); obtain ⟨Ao39, co39, eo39⟩ := Kd.R_slice HO248.out; subst eo39) | ((with_reducible refine zM (f := 127) rfl ?_); refine goesL_ (some 44) rfl rfl Try.func127 (by kernel_rfl) rfl #[.slice Ao39 t246.length co39, .int .i64 t249] rfl (by (try simp only [yK, yL, yM]); first | done | rfl | (simp only [yJ, yI]; rfl)) ?_; (with_reducible refine (impl_Depuncture.calls kj8 _ _ t246 t249 t250 _ ?side1 ?side2 A35.out).mono ?_); (case side1 => repeat (first | exact (zX HO248.out).2.2 | (with_reducible refine zR ?_ _) | (with_reducible refine zT ?_ _) | (with_reducible refine zS ?_))); (case side2 => exact (zX HO248.out).2.1); rintro e w40 ⟨v251, rfl, ho0, hb⟩; refine ⟨_, rfl, ?_⟩; have n0_ := zO (Kd.R_elder' (by (with_reducible repeat (first | apply zU | apply zW | apply zV)); exact HO248.out) (Kd.R_base ho0) hb); have n1_ := zO (yA (Kd.R_new' ho0 (Kd.R_lt (by (with_reducible repeat (first | apply zU | apply zW | apply zV)); exact HO248.out))) (zD (by repeat (first | (with_reducible first | exact HB.out | apply zA | apply zL | apply zB | refine zC ?_ GE231.out | refine zC ?_ GE240.out) | exact HB.out)))); have n2_ := zO (zG (g := gb231) (o := .cells #[.int .i64 0, .int .i64 0, .int .i64 0] 24 (0, 0)) (by (with_reducible repeat (first | refine zJ ?_ _ | refine zI ?_ | refine zF ?_ _)); exact BK231.out) hb); have n3_ := zO (zG (g := gb240) (o := .cells #[.int .i64 t236, .int .i64 t237, .int .i64 t238] 24 (0, 0)) (by (with_reducible repeat (first | refine zJ ?_ _ | refine zI ?_ | refine zF ?_ _)); exact BK240.out) hb); have n4_ := zO (zE (by repeat (first | (with_reducible first | exact HB.out | apply zA | apply zL | apply zB | refine zC ?_ GE231.out | refine zC ?_ GE240.out) | exact HB.out)) hb); clear HO248; clear BK231; clear BK240; clear HB; have HO248 := n0_; have HO252 := n1_; have BK231 := n2_; have BK240 := n3_; have HB := n4_; clear n0_ n1_ n2_ n3_ n4_; (try clear hb); (try clear hb2); (try clear hk); (try clear hi); (try clear ho0)))
       go_meet
       case rel => exact ⟨_, (t250), H', ⟨by have := HJ8.out; first | omega | exact Nat.le_refl _⟩, ⟨by (with_reducible repeat (first | apply zU | apply zW | apply zV)); exact Kd.R_mono HO252.out (fun _ hk => trivial)⟩, ⟨by (with_reducible repeat (first | refine zJ ?_ _ | refine zI ?_ | refine zF ?_ _)); exact BK231.out⟩, ⟨by (with_reducible repeat (first | refine zJ ?_ _ | refine zI ?_ | refine zF ?_ _)); exact BK240.out⟩, ⟨by repeat (first | (with_reducible first | exact HB.out | apply zA | apply zL | apply zB | refine zC ?_ GE231.out | refine zC ?_ GE240.out) | exact HB.out)⟩⟩
      ·rw [if_neg c33] at H
       have c33b0 : (t236 == 2) = false := beq_eq_false_iff_ne.mpr c33
       have c33b1 : (t236 != 2) = true := bne_iff_ne.mpr c33
       (first | rw [c33b0] | (simp only [i64_w, i32_w]; rw [c33b0]) | skip)
       have H' := zO H
       clear H
       go_wp2
       go_meet
       case rel => exact ⟨_, (t246), H', ⟨by have := HJ8.out; first | omega | exact Nat.le_refl _⟩, ⟨by (with_reducible repeat (first | apply zU | apply zW | apply zV)); exact HO248.out⟩, ⟨by (with_reducible repeat (first | refine zJ ?_ _ | refine zI ?_ | refine zF ?_ _)); exact BK231.out⟩, ⟨by (with_reducible repeat (first | refine zJ ?_ _ | refine zI ?_ | refine zF ?_ _)); exact BK240.out⟩, ⟨by repeat (first | (with_reducible first | exact HB.out | apply zA | apply zL | apply zB | refine zC ?_ GE231.out | refine zC ?_ GE240.out) | exact HB.out)⟩⟩
     case rest =>
      clear HC28
      try clear c1
      try clear c2
      try clear c2b0
      try clear c2b1
      try clear p2
      try clear c3
      try clear c6
      try clear p6
      try clear c7
      try clear c7b0
      try clear c7b1
      try clear c12
      try clear c14
      try clear c16
      try clear c18
      try clear c21
      try clear c24
      try clear c26
      try clear c26b0
      try clear c26b1
      try clear c31
      try clear c33
      try clear c33b0
      try clear c33b1
      try clear c36
      try clear hcz15_0
      try clear hcz15_1
      try clear hcz15_2
      try clear hcz19_0
      try clear hcz19_1
      try clear hcz19_2
      try clear hcz25_0
      try clear hcz25_1
      try clear hcz25_2
      try clear hcz32_0
      try clear hcz32_1
      try clear hcz32_2
      try clear hcz37_0
      try clear hcz37_1
      try clear hcz37_2
      try clear hcz6_0
      try clear hcz6_1
      try clear hcz6_2
      try clear hfz15_0
      try clear hfz15_1
      try clear hfz15_2
      try clear hfz19_0
      try clear hfz19_1
      try clear hfz19_2
      try clear hfz25_0
      try clear hfz25_1
      try clear hfz25_2
      try clear hfz32_0
      try clear hfz32_1
      try clear hfz32_2
      try clear hfz37_0
      try clear hfz37_1
      try clear hfz37_2
      try clear hfz6_0
      try clear hfz6_1
      try clear hfz6_2
      try clear p2
      try clear p6
      obtain ⟨kq, x7_27, HA, HJ27, HO_7, BK231, BK240, HB⟩ := hcut
      cases kq with
      | zero => exact absurd HA.out (by simp [impl_ReceiveFrame.j1])
      | succ kj27 =>
       have H := HA.out
       clear HA
       simp only [impl_ReceiveFrame.j1] at H
       replace H := yE.mp H
       obtain ⟨⟨t253, t254⟩, A410, H⟩ := H
       replace H : (if t254 < 0 then (some (t236, t237, t238, (([] : List Int)), 2)) else ((impl_Scramble.f kj27 t238 t253).bind fun t260 => ((impl_BitsToBytes.f kj27 t260).bind fun bt263 => (if bt263.2 = true then ((impl_CheckCrc.f kj27 bt263.1).bind fun bt267 => (if bt267.2 = true then (some (t236, t237, t238, bt267.1, 0)) else (some (t236, t237, t238, (([] : List Int)), 2)))) else (some (t236, t237, t238, (([] : List Int)), 2)))))) = some (r1, r2, r3, r4, r5) := H
       have A41 := zO A410
       clear A410
       by_cases c42 : t254 < 0
       ·rw [if_pos c42] at H
        have c42b0 : decide (t254 < 0) = true := decide_eq_true c42
        clear c42
        obtain ⟨y257, hy257⟩ : ∃ y_ : List Int, y_ = (([] : List Int)) := ⟨_, rfl⟩
        replace H : (some (t236, t237, t238, y257, 2)) = some (r1, r2, r3, r4, r5) := by first | (rw [hy257]; exact H) | exact H
        have Ny257 := zO hy257
        clear hy257
        simp only [Option.some.injEq, Prod.mk.injEq] at H
        obtain ⟨rfl, rfl, rfl, rfl, rfl⟩ := H
        obtain ⟨Ao43, co43, eo43⟩ := Kd.R_slice HO_7.out
        subst eo43
        go_wp2_with (first | ((with_reducible refine zM (f := 50) rfl ?_); refine goesL_ (some 47) rfl rfl Try.func50 (by kernel_rfl) rfl #[.slice Ao43 x7_27.length co43] rfl (by (try simp only [yK, yL, yM]); first | done | rfl | (simp only [yJ, yI]; rfl)) ?_; (with_reducible refine (impl_ViterbiDecode.calls kj27 _ _ x7_27 t253 t254 _ ?side1 ?side2 A41.out).mono ?_); (case side1 => repeat (first | exact (zX HO_7.out).2.2 | (with_reducible refine zR ?_ _) | (with_reducible refine zT ?_ _) | (with_reducible refine zS ?_))); (case side2 => exact (zX HO_7.out).2.1); rintro e w44 ⟨v255, rfl, ho0, hb⟩; refine ⟨_, rfl, ?_⟩; have n0_ := zO (Kd.R_elder' (by (with_reducible repeat (first | apply zU | apply zW | apply zV)); exact HO_7.out) (Kd.R_base ho0) hb); have n1_ := zO (yA (Kd.R_new' ho0 (Kd.R_lt (by (with_reducible repeat (first | apply zU | apply zW | apply zV)); exact HO_7.out))) (zD (by repeat (first | (with_reducible first | exact HB.out | apply zA | apply zL | apply zB | refine zC ?_ GE231.out | refine zC ?_ GE240.out) | exact HB.out)))); have n2_ := zO (zG (g := gb231) (o := .cells #[.int .i64 0, .int .i64 0, .int .i64 0] 24 (0, 0)) (by (with_reducible repeat (first | refine zJ ?_ _ | refine zI ?_ | refine zF ?_ _)); exact BK231.out) hb); have n3_ := zO (zG (g := gb240) (o := .cells #[.int .i64 t236, .int .i64 t237, .int .i64 t238] 24 (0, 0)) (by (with_reducible repeat (first | refine zJ ?_ _ | refine zI ?_ | refine zF ?_ _)); exact BK240.out) hb); have n4_ := zO (zE (by repeat (first | (with_reducible first | exact HB.out | apply zA | apply zL | apply zB | refine zC ?_ GE231.out | refine zC ?_ GE240.out) | exact HB.out)) hb); clear HO_7; clear BK231; clear BK240; clear HB; have HO_7 := n0_; have HO256 := n1_; have BK231 := n2_; have BK240 := n3_; have HB := n4_; clear n0_ n1_ n2_ n3_ n4_; (try clear hb); (try clear hb2); (try clear hk); (try clear hi); (try clear ho0); have hnb45 := NB240_231.out; have hnc45 := NB231_240.out; have hcz46_0 : w44.cell? ⟨gb240, 0, none⟩ = some (.int .i64 t236) := (zH BK240.out 0).trans rfl; have hcz46_1 : w44.cell? ⟨gb240, 1, none⟩ = some (.int .i64 t237) := (zH BK240.out 1).trans rfl; have hcz46_2 : w44.cell? ⟨gb240, 2, none⟩ = some (.int .i64 t238) := (zH BK240.out 2).trans rfl; have hfz46_0 := zK BK240.out 0; have hfz46_1 := zK BK240.out 1; have hfz46_2 := zK BK240.out 2) | ((with_reducible refine zN (N := 53) rfl ?_); (try (refine gate_guard (by rfl) ?_; dsimp only)); refine Kd.R_lit (Kd.int .u8) _ 5 ?hg (N := 53) ?hd (xs := ([] : List Int)) (inner := []) (ok := fun _ => True) (okp := fun _ => True) ?hr ?hp (fun _ hk => hk) trivial (Below.refl _ _) (Nat.le_refl _) (by simp) ?_; (case hd => rfl); (case hg => rfl); (case hr => first | (go_simp; done) | (go_simp; rfl)); (case hp => exact (Reps.none _ _)); intro v258 w47 ho48 hb hg_ hnew_; clear hg_ hnew_; (first | rw [← Ny257.out] at ho48 | (simp only [Int.reduceToNat] at ho48; rw [← Ny257.out] at ho48)); have n0_ := zO (zY (by (with_reducible repeat (first | apply zU | apply zW | apply zV)); exact HO_7.out) hb); have n1_ := zO (zY (by (with_reducible repeat (first | apply zU | apply zW | apply zV)); exact HO256.out) hb); have n2_ := zO (yA ho48 (zD (by repeat (first | (with_reducible first | exact HB.out | apply zA | apply zL | apply zB | refine zC ?_ GE231.out | refine zC ?_ GE240.out) | exact HB.out)))); have n3_ := zO (zG (g := gb231) (o := .cells #[.int .i64 0, .int .i64 0, .int .i64 0] 24 (0, 0)) (by (with_reducible repeat (first | refine zJ ?_ _ | refine zI ?_ | refine zF ?_ _)); exact BK231.out) hb); have n4_ := zO (zG (g := gb240) (o := .cells #[.int .i64 t236, .int .i64 t237, .int .i64 t238] 24 (0, 0)) (by (with_reducible repeat (first | refine zJ ?_ _ | refine zI ?_ | refine zF ?_ _)); exact BK240.out) hb); have n5_ := zO (zE (by repeat (first | (with_reducible first | exact HB.out | apply zA | apply zL | apply zB | refine zC ?_ GE231.out | refine zC ?_ GE240.out) | exact HB.out)) hb); clear HO_7; clear HO256; clear BK231; clear BK240; clear HB; have HO_7 := n0_; have HO256 := n1_; have HO259 := n2_; have BK231 := n3_; have BK240 := n4_; have HB := n5_; clear n0_ n1_ n2_ n3_ n4_ n5_; clear hb ho48; have hcz49_0 : w47.cell? ⟨gb231, 0, none⟩ = some (.int .i64 0) := (zH BK231.out 0).trans rfl; have hcz49_1 : w47.cell? ⟨gb231, 1, none⟩ = some (.int .i64 0) := (zH BK231.out 1).trans rfl; have hcz49_2 : w47.cell? ⟨gb231, 2, none⟩ = some (.int .i64 0) := (zH BK231.out 2).trans rfl; have hfz49_0 := zK BK231.out 0; have hfz49_1 := zK BK231.out 1; have hfz49_2 := zK BK231.out 2))
        refine bodyPost_ret (results_ctt rfl _ _ gb231 24 #[.int .i64 t236, .int .i64 t237, .int .i64 t238] (0, 0) _ rfl (by (with_reducible repeat (first | refine zJ ?_ _ | refine zI ?_ | refine zF ?_ _)); refine blk_put (cs := #[.int .i64 t236, .int .i64 t237, .int .i64 0]) ?_ 2 _ rfl; (with_reducible repeat (first | refine zJ ?_ _ | refine zI ?_ | refine zF ?_ _)); refine blk_put (cs := #[.int .i64 t236, .int .i64 0, .int .i64 0]) ?_ 1 _ rfl; (with_reducible repeat (first | refine zJ ?_ _ | refine zI ?_ | refine zF ?_ _)); refine blk_put (cs := #[.int .i64 0, .int .i64 0, .int .i64 0]) ?_ 0 _ rfl; (with_reducible repeat (first | refine zJ ?_ _ | refine zI ?_ | refine zF ?_ _)); exact BK231.out) Try.underlying24 rfl (by kernel_rfl)) rfl ?_
        exact ⟨_, by first | rfl | (simp [errW_none, errW_some] <;> rfl) | (simp [*, errW_none, errW_some] <;> rfl), by (with_reducible repeat (first | apply zU | apply zW | apply zV)); exact Kd.R_mono (zZ (p := ⟨gb231, 2, none⟩) (zZ (p := ⟨gb231, 1, none⟩) (zZ (p := ⟨gb231, 0, none⟩) (Kd.R_types HO259.out BK231.out (by decide)) (fun _ hk => hk.2) (.int .i64 t236)) (fun _ hk => hk.2) (.int .i64 t237)) (fun _ hk => hk.2) (.int .i64 t238)) (fun _ hk => trivial), by repeat (first | (with_reducible first | exact HB.out | apply zA | apply zL | apply zB | refine zC ?_ GE231.out | refine zC ?_ GE240.out) | exact HB.out)⟩
       ·rw [if_neg c42] at H
        have c42b0 : decide (t254 < 0) = false := decide_eq_false c42
        clear c42
        replace H := yE.mp H
        obtain ⟨t260, A500, H⟩ := H
        replace H : ((impl_BitsToBytes.f kj27 t260).bind fun bt263 => (if bt263.2 = true then ((impl_CheckCrc.f kj27 bt263.1).bind fun bt267 => (if bt267.2 = true then (some (t236, t237, t238, bt267.1, 0)) else (some (t236, t237, t238, (([] : List Int)), 2)))) else (some (t236, t237, t238, (([] : List Int)), 2)))) = some (r1, r2, r3, r4, r5) := H
        have A50 := zO A500
        clear A500
        replace H := yE.mp H
        obtain ⟨⟨t263, t264⟩, A510, H⟩ := H
        replace H : (if t264 = true then ((impl_CheckCrc.f kj27 t263).bind fun bt267 => (if bt267.2 = true then (some (t236, t237, t238, bt267.1, 0)) else (some (t236, t237, t238, (([] : List Int)), 2)))) else (some (t236, t237, t238, (([] : List Int)), 2))) = some (r1, r2, r3, r4, r5) := H
        have A51 := zO A510
        clear A510
        by_cases c52 : t264 = true
        ·subst c52
         have H1 : ((impl_CheckCrc.f kj27 t263).bind fun bt267 => (if bt267.2 = true then (some (t236, t237, t238, bt267.1, 0)) else (some (t236, t237, t238, (([] : List Int)), 2)))) = some (r1, r2, r3, r4, r5) := by rw [if_pos rfl] at H; exact H
         clear H
         have H := H1
         clear H1
         replace H := yE.mp H
         obtain ⟨⟨t267, t268⟩, A530, H⟩ := H
         replace H : (if t268 = true then (some (t236, t237, t238, t267, 0)) else (some (t236, t237, t238, (([] : List Int)), 2))) = some (r1, r2, r3, r4, r5) := H
         have A53 := zO A530
         clear A530
         by_cases c54 : t268 = true
         ·subst c54
          have H1 : (some (t236, t237, t238, t267, 0)) = some (r1, r2, r3, r4, r5) := by rw [if_pos rfl] at H; exact H
          clear H
          have H := H1
          clear H1
          simp only [Option.some.injEq, Prod.mk.injEq] at H
          obtain ⟨rfl, rfl, rfl, rfl, rfl⟩ := H
          obtain ⟨Ao55, co55, eo55⟩ := Kd.R_slice HO_7.out
          subst eo55
          go_wp2_with (first | ((with_reducible refine zM (f := 50) rfl ?_); refine goesL_ (some 47) rfl rfl Try.func50 (by kernel_rfl) rfl #[.slice Ao55 x7_27.length co55] rfl (by (try simp only [yK, yL, yM]); first | done | rfl | (simp only [yJ, yI]; rfl)) ?_; (with_reducible refine (impl_ViterbiDecode.calls kj27 _ _ x7_27 t253 t254 _ ?side1 ?side2 A41.out).mono ?_); (case side1 => repeat (first | exact (zX HO_7.out).2.2 | (with_reducible refine zR ?_ _) | (with_reducible refine zT ?_ _) | (with_reducible refine zS ?_))); (case side2 => exact (zX HO_7.out).2.1); rintro e w56 ⟨v255, rfl, ho0, hb⟩; refine ⟨_, rfl, ?_⟩; have n0_ := zO (Kd.R_elder' (by (with_reducible repeat (first | apply zU | apply zW | apply zV)); exact HO_7.out) (Kd.R_base ho0) hb); have n1_ := zO (yA (Kd.R_new' ho0 (Kd.R_lt (by (with_reducible repeat (first | apply zU | apply zW | apply zV)); exact HO_7.out))) (zD (by repeat (first | (with_reducible first | exact HB.out | apply zA | apply zL | apply zB | refine zC ?_ GE231.out | refine zC ?_ GE240.out) | exact HB.out)))); have n2_ := zO (zG (g := gb231) (o := .cells #[.int .i64 0, .int .i64 0, .int .i64 0] 24 (0, 0)) (by (with_reducible repeat (first | refine zJ ?_ _ | refine zI ?_ | refine zF ?_ _)); exact BK231.out) hb); have n3_ := zO (zG (g := gb240) (o := .cells #[.int .i64 t236, .int .i64 t237, .int .i64 t238] 24 (0, 0)) (by (with_reducible repeat (first | refine zJ ?_ _ | refine zI ?_ | refine zF ?_ _)); exact BK240.out) hb); have n4_ := zO (zE (by repeat (first | (with_reducible first | exact HB.out | apply zA | apply zL | apply zB | refine zC ?_ GE231.out | refine zC ?_ GE240.out) | exact HB.out)) hb); clear HO_7; clear BK231; clear BK240; clear HB; have HO_7 := n0_; have HO256 := n1_; have BK231 := n2_; have BK240 := n3_; have HB := n4_; clear n0_ n1_ n2_ n3_ n4_; (try clear hb); (try clear hb2); (try clear hk); (try clear hi); (try clear ho0); have hnb57 := NB240_231.out; have hnc57 := NB231_240.out; have hcz58_0 : w56.cell? ⟨gb240, 0, none⟩ = some (.int .i64 t236) := (zH BK240.out 0).trans rfl; have hcz58_1 : w56.cell? ⟨gb240, 1, none⟩ = some (.int .i64 t237) := (zH BK240.out 1).trans rfl; have hcz58_2 : w56.cell? ⟨gb240, 2, none⟩ = some (.int .i64 t238) := (zH BK240.out 2).trans rfl; have hfz58_0 := zK BK240.out 0; have hfz58_1 := zK BK240.out 1; have hfz58_2 := zK BK240.out 2; obtain ⟨Ao59, co59, eo59⟩ := Kd.R_slice HO256.out; subst eo59) | ((with_reducible refine zM (f := 130) rfl ?_); refine goesL_ (some 58) rfl rfl Try.func130 (by kernel_rfl) rfl #[.int .i64 t238, .slice Ao59 t253.length co59] rfl (by (try simp only [yK, yL, yM]); first | done | rfl | (simp only [yJ, yI]; rfl)) ?_; (with_reducible refine (impl_Scramble.calls kj27 t238 _ _ t253 t260 _ ?side1 ?side2 A50.out).mono ?_); (case side1 => repeat (first | exact (zX HO256.out).2.2 | (with_reducible refine zR ?_ _) | (with_reducible refine zT ?_ _) | (with_reducible refine zS ?_))); (case side2 => exact (zX HO256.out).2.1); rintro e w60 ⟨v261, rfl, ho0, hb⟩; refine ⟨_, rfl, ?_⟩; have n0_ := zO (Kd.R_elder' (by (with_reducible repeat (first | apply zU | apply zW | apply zV)); exact HO_7.out) (Kd.R_base ho0) hb); have n1_ := zO (Kd.R_elder' (by (with_reducible repeat (first | apply zU | apply zW | apply zV)); exact HO256.out) (Kd.R_base ho0) hb); have n2_ := zO (yA (Kd.R_new' (Kd.R_new' ho0 (Kd.R_lt (by (with_reducible repeat (first | apply zU | apply zW | apply zV)); exact HO_7.out))) (Kd.R_lt (by (with_reducible repeat (first | apply zU | apply zW | apply zV)); exact HO256.out))) (zD (by repeat (first | (with_reducible first | exact HB.out | apply zA | apply zL | apply zB | refine zC ?_ GE231.out | refine zC ?_ GE240.out) | exact HB.out)))); have n3_ := zO (zG (g := gb231) (o := .cells #[.int .i64 0, .int .i64 0, .int .i64 0] 24 (0, 0)) (by (with_reducible repeat (first | refine zJ ?_ _ | refine zI ?_ | refine zF ?_ _)); exact BK231.out) hb); have n4_ := zO (zG (g := gb240) (o := .cells #[.int .i64 t236, .int .i64 t237, .int .i64 t238] 24 (0, 0)) (by (with_reducible repeat (first | refine zJ ?_ _ | refine zI ?_ | refine zF ?_ _)); exact BK240.out) hb); have n5_ := zO (zE (by repeat (first | (with_reducible first | exact HB.out | apply zA | apply zL | apply zB | refine zC ?_ GE231.out | refine zC ?_ GE240.out) | exact HB.out)) hb); clear HO_7; clear HO256; clear BK231; clear BK240; clear HB; have HO_7 := n0_; have HO256 := n1_; have HO262 := n2_; have BK231 := n3_; have BK240 := n4_; have HB := n5_; clear n0_ n1_ n2_ n3_ n4_ n5_; (try clear hb); (try clear hb2); (try clear hk); (try clear hi); (try clear ho0); obtain ⟨Ao61, co61, eo61⟩ := Kd.R_slice HO262.out; subst eo61) | ((with_reducible refine zM (f := 129) rfl ?_); refine goesL_ (some 59) rfl rfl Try.func129 (by kernel_rfl) rfl #[.slice Ao61 t260.length co61] rfl (by (try simp only [yK, yL, yM]); first | done | rfl | (simp only [yJ, yI]; rfl)) ?_; (with_reducible refine (impl_BitsToBytes.calls kj27 _ _ t260 t263 true _ ?side1 ?side2 A51.out).mono ?_); (case side1 => repeat (first | exact (zX HO262.out).2.2 | (with_reducible refine zR ?_ _) | (with_reducible refine zT ?_ _) | (with_reducible refine zS ?_))); (case side2 => exact (zX HO262.out).2.1); rintro e w62 ⟨v265, rfl, ho0, hb⟩; refine ⟨_, rfl, ?_⟩; have n0_ := zO (zY (by (with_reducible repeat (first | apply zU | apply zW | apply zV)); exact HO_7.out) hb); have n1_ := zO (zY (by (with_reducible repeat (first | apply zU | apply zW | apply zV)); exact HO256.out) hb); have n2_ := zO (zY (by (with_reducible repeat (first | apply zU | apply zW | apply zV)); exact HO262.out) hb); have n3_ := zO (yA ho0 (zD (by repeat (first | (with_reducible first | exact HB.out | apply zA | apply zL | apply zB | refine zC ?_ GE231.out | refine zC ?_ GE240.out) | exact HB.out)))); have n4_ := zO (zG (g := gb231) (o := .cells #[.int .i64 0, .int .i64 0, .int .i64 0] 24 (0, 0)) (by (with_reducible repeat (first | refine zJ ?_ _ | refine zI ?_ | refine zF ?_ _)); exact BK231.out) hb); have n5_ := zO (zG (g := gb240) (o := .cells #[.int .i64 t236, .int .i64 t237, .int .i64 t238] 24 (0, 0)) (by (with_reducible repeat (first | refine zJ ?_ _ | refine zI ?_ | refine zF ?_ _)); exact BK240.out) hb); have n6_ := zO (zE (by repeat (first | (with_reducible first | exact HB.out | apply zA | apply zL | apply zB | refine zC ?_ GE231.out | refine zC ?_ GE240.out) | exact HB.out)) hb); clear HO_7; clear HO256; clear HO262; clear BK231; clear BK240; clear HB; have HO_7 := n0_; have HO256 := n1_; have HO262 := n2_; have HO266 := n3_; have BK231 := n4_; have BK240 := n5_; have HB := n6_; clear n0_ n1_ n2_ n3_ n4_ n5_ n6_; (try clear hb); (try clear hb2); (try clear hk); (try clear hi); (try clear ho0); obtain ⟨Ao63, co63, eo63⟩ := Kd.R_slice HO266.out; subst eo63) | ((with_reducible refine zM (f := 78) rfl ?_); refine goesL_ (some 68) rfl rfl Try.func78 (by kernel_rfl) rfl #[.slice Ao63 t263.length co63] rfl (by (try simp only [yK, yL, yM]); first | done | rfl | (simp only [yJ, yI]; rfl)) ?_; (with_reducible refine (impl_CheckCrc.calls kj27 _ _ t263 t267 true _ ?side1 ?side2 A53.out).mono ?_); (case side1 => repeat (first | exact (zX HO266.out).2.2 | (with_reducible refine zR ?_ _) | (with_reducible refine zT ?_ _) | (with_reducible refine zS ?_))); (case side2 => exact (zX HO266.out).2.1); rintro e w64 ⟨v269, rfl, ho0, hb⟩; refine ⟨_, rfl, ?_⟩; have n0_ := zO (zY (by (with_reducible repeat (first | apply zU | apply zW | apply zV)); exact HO_7.out) hb); have n1_ := zO (zY (by (with_reducible repeat (first | apply zU | apply zW | apply zV)); exact HO256.out) hb); have n2_ := zO (zY (by (with_reducible repeat (first | apply zU | apply zW | apply zV)); exact HO262.out) hb); have n3_ := zO (Kd.R_elder' (by (with_reducible repeat (first | apply zU | apply zW | apply zV)); exact HO266.out) (Kd.R_base ho0) hb); have n4_ := zO (yA (Kd.R_new' ho0 (Kd.R_lt (by (with_reducible repeat (first | apply zU | apply zW | apply zV)); exact HO266.out))) (zD (by repeat (first | (with_reducible first | exact HB.out | apply zA | apply zL | apply zB | refine zC ?_ GE231.out | refine zC ?_ GE240.out) | exact HB.out)))); have n5_ := zO (zG (g := gb231) (o := .cells #[.int .i64 0, .int .i64 0, .int .i64 0] 24 (0, 0)) (by (with_reducible repeat (first | refine zJ ?_ _ | refine zI ?_ | refine zF ?_ _)); exact BK231.out) hb); have n6_ := zO (zG (g := gb240) (o := .cells #[.int .i64 t236, .int .i64 t237, .int .i64 t238] 24 (0, 0)) (by (with_reducible repeat (first | refine zJ ?_ _ | refine zI ?_ | refine zF ?_ _)); exact BK240.out) hb); have n7_ := zO (zE (by repeat (first | (with_reducible first | exact HB.out | apply zA | apply zL | apply zB | refine zC ?_ GE231.out | refine zC ?_ GE240.out) | exact HB.out)) hb); clear HO_7; clear HO256; clear HO262; clear HO266; clear BK231; clear BK240; clear HB; have HO_7 := n0_; have HO256 := n1_; have HO262 := n2_; have HO266 := n3_; have HO270 := n4_; have BK231 := n5_; have BK240 := n6_; have HB := n7_; clear n0_ n1_ n2_ n3_ n4_ n5_ n6_ n7_; (try clear hb); (try clear hb2); (try clear hk); (try clear hi); (try clear ho0); have hcz65_0 : w64.cell? ⟨gb240, 0, none⟩ = some (.int .i64 t236) := (zH BK240.out 0).trans rfl; have hcz65_1 : w64.cell? ⟨gb240, 1, none⟩ = some (.int .i64 t237) := (zH BK240.out 1).trans rfl; have hcz65_2 : w64.cell? ⟨gb240, 2, none⟩ = some (.int .i64 t238) := (zH BK240.out 2).trans rfl; have hfz65_0 := zK BK240.out 0; have hfz65_1 := zK BK240.out 1; have hfz65_2 := zK BK240.out 2; have hcz66_0 : w64.cell? ⟨gb231, 0, none⟩ = some (.int .i64 0) := (zH BK231.out 0).trans rfl; have hcz66_1 : w64.cell? ⟨gb231, 1, none⟩ = some (.int .i64 0) := (zH BK231.out 1).trans rfl; have hcz66_2 : w64.cell? ⟨gb231, 2, none⟩ = some (.int .i64 0) := (zH BK231.out 2).trans rfl; have hfz66_0 := zK BK231.out 0; have hfz66_1 := zK BK231.out 1; have hfz66_2 := zK BK231.out 2))
          refine bodyPost_ret (results_ctt rfl _ _ gb231 24 #[.int .i64 t236, .int .i64 t237, .int .i64 t238] (0, 0) _ rfl (by (with_reducible repeat (first | refine zJ ?_ _ | refine zI ?_ | refine zF ?_ _)); refine blk_put (cs := #[.int .i64 t236, .int .i64 t237, .int .i64 0]) ?_ 2 _ rfl; (with_reducible repeat (first | refine zJ ?_ _ | refine zI ?_ | refine zF ?_ _)); refine blk_put (cs := #[.int .i64 t236, .int .i64 0, .int .i64 0]) ?_ 1 _ rfl; (with_reducible repeat (first | refine zJ ?_ _ | refine zI ?_ | refine zF ?_ _)); refine blk_put (cs := #[.int .i64 0, .int .i64 0, .int .i64 0]) ?_ 0 _ rfl; (with_reducible repeat (first | refine zJ ?_ _ | refine zI ?_ | refine zF ?_ _)); exact BK231.out) Try.underlying24 rfl (by kernel_rfl)) rfl ?_
          exact ⟨_, by first | rfl | (simp [errW_none, errW_some] <;> rfl) | (simp [*, errW_none, errW_some] <;> rfl), by (with_reducible repeat (first | apply zU | apply zW | apply zV)); exact Kd.R_mono (zZ (p := ⟨gb231, 2, none⟩) (zZ (p := ⟨gb231, 1, none⟩) (zZ (p := ⟨gb231, 0, none⟩) (Kd.R_types HO270.out BK231.out (by decide)) (fun _ hk => hk.2) (.int .i64 t236)) (fun _ hk => hk.2) (.int .i64 t237)) (fun _ hk => hk.2) (.int .i64 t238)) (fun _ hk => trivial), by repeat (first | (with_reducible first | exact HB.out | apply zA | apply zL | apply zB | refine zC ?_ GE231.out | refine zC ?_ GE240.out) | exact HB.out)⟩
         ·replace c54 := Bool.eq_false_iff.mpr c54
          subst c54
          have H1 : (some (t236, t237, t238, (([] : List Int)), 2)) = some (r1, r2, r3, r4, r5) := by rw [if_neg (show ¬ (false = true) by decide)] at H; exact H
          clear H
          have H := H1
          clear H1
          obtain ⟨y271, hy271⟩ : ∃ y_ : List Int, y_ = (([] : List Int)) := ⟨_, rfl⟩
          replace H : (some (t236, t237, t238, y271, 2)) = some (r1, r2, r3, r4, r5) := by first | (rw [hy271]; exact H) | exact H
          have Ny271 := zO hy271
          clear hy271
          simp only [Option.some.injEq, Prod.mk.injEq] at H
          obtain ⟨rfl, rfl, rfl, rfl, rfl⟩ := H
          obtain ⟨Ao67, co67, eo67⟩ := Kd.R_slice HO_7.out
          subst eo67
          go_wp2_with (first | ((with_reducible refine zM (f := 50) rfl ?_); refine goesL_ (some 47) rfl rfl Try.func50 (by kernel_rfl) rfl #[.slice Ao67 x7_27.length co67] rfl (by (try simp only [yK, yL, yM]); first | done | rfl | (simp only [yJ, yI]; rfl)) ?_; (with_reducible refine (impl_ViterbiDecode.calls kj27 _ _ x7_27 t253 t254 _ ?side1 ?side2 A41.out).mono ?_); (case side1 => repeat (first | exact (zX HO_7.out).2.2 | (with_reducible refine zR ?_ _) | (with_reducible refine zT ?_ _) | (with_reducible refine zS ?_))); (case side2 => exact (zX HO_7.out).2.1); rintro e w68 ⟨v255, rfl, ho0, hb⟩; refine ⟨_, rfl, ?_⟩; have n0_ := zO (Kd.R_elder' (by (with_reducible repeat (first | apply zU | apply zW | apply zV)); exact HO_7.out) (Kd.R_base ho0) hb); have n1_ := zO (yA (Kd.R_new' ho0 (Kd.R_lt (by (with_reducible repeat (first | apply zU | apply zW | apply zV)); exact HO_7.out))) (zD (by repeat (first | (with_reducible first | exact HB.out | apply zA | apply zL | apply zB | refine zC ?_ GE231.out | refine zC ?_ GE240.out) | exact HB.out)))); have n2_ := zO (zG (g := gb231) (o := .cells #[.int .i64 0, .int .i64 0, .int .i64 0] 24 (0, 0)) (by (with_reducible repeat (first | refine zJ ?_ _ | refine zI ?_ | refine zF ?_ _)); exact BK231.out) hb); have n3_ := zO (zG (g := gb240) (o := .cells #[.int .i64 t236, .int .i64 t237, .int .i64 t238] 24 (0, 0)) (by (with_reducible repeat (first | refine zJ ?_ _ | refine zI ?_ | refine zF ?_ _)); exact BK240.out) hb); have n4_ := zO (zE (by repeat (first | (with_reducible first | exact HB.out | apply zA | apply zL | apply zB | refine zC ?_ GE231.out | refine zC ?_ GE240.out) | exact HB.out)) hb); clear HO_7; clear BK231; clear BK240; clear HB; have HO_7 := n0_; have HO256 := n1_; have BK231 := n2_; have BK240 := n3_; have HB := n4_; clear n0_ n1_ n2_ n3_ n4_; (try clear hb); (try clear hb2); (try clear hk); (try clear hi); (try clear ho0); have hnb69 := NB240_231.out; have hnc69 := NB231_240.out; have hcz70_0 : w68.cell? ⟨gb240, 0, none⟩ = some (.int .i64 t236) := (zH BK240.out 0).trans rfl; have hcz70_1 : w68.cell? ⟨gb240, 1, none⟩ = some (.int .i64 t237) := (zH BK240.out 1).trans rfl; have hcz70_2 : w68.cell? ⟨gb240, 2, none⟩ = some (.int .i64 t238) := (zH BK240.out 2).trans rfl; have hfz70_0 := zK BK240.out 0; have hfz70_1 := zK BK240.out 1; have hfz70_2 := zK BK240.out 2; obtain ⟨Ao71, co71, eo71⟩ := Kd.R_slice HO256.out; subst eo71) | ((with_reducible refine zM (f := 130) rfl ?_); refine goesL_ (some 58) rfl rfl Try.func130 (by kernel_rfl) rfl #[.int .i64 t238, .slice Ao71 t253.length co71] rfl (by (try simp only [yK, yL, yM]); first | done | rfl | (simp only [yJ, yI]; rfl)) ?_; (with_reducible refine (impl_Scramble.calls kj27 t238 _ _ t253 t260 _ ?side1 ?side2 A50.out).mono ?_); (case side1 => repeat (first | exact (zX HO256.out).2.2 | (with_reducible refine zR ?_ _) | (with_reducible refine zT ?_ _) | (with_reducible refine zS ?_))); (case side2 => exact (zX HO256.out).2.1); rintro e w72 ⟨v261, rfl, ho0, hb⟩; refine ⟨_, rfl, ?_⟩; have n0_ := zO (Kd.R_elder' (by (with_reducible repeat (first | apply zU | apply zW | apply zV)); exact HO_7.out) (Kd.R_base ho0) hb); have n1_ := zO (Kd.R_elder' (by (with_reducible repeat (first | apply zU | apply zW | apply zV)); exact HO256.out) (Kd.R_base ho0) hb); have n2_ := zO (yA (Kd.R_new' (Kd.R_new' ho0 (Kd.R_lt (by (with_reducible repeat (first | apply zU | apply zW | apply zV)); exact HO_7.out))) (Kd.R_lt (by (with_reducible repeat (first | apply zU | apply zW | apply zV)); exact HO256.out))) (zD (by repeat (first | (with_reducible first | exact HB.out | apply zA | apply zL | apply zB | refine zC ?_ GE231.out | refine zC ?_ GE240.out) | exact HB.out)))); have n3_ := zO (zG (g := gb231) (o := .cells #[.int .i64 0, .int .i64 0, .int .i64 0] 24 (0, 0)) (by (with_reducible repeat (first | refine zJ ?_ _ | refine zI ?_ | refine zF ?_ _)); exact BK231.out) hb); have n4_ := zO (zG (g := gb240) (o := .cells #[.int .i64 t236, .int .i64 t237, .int .i64 t238] 24 (0, 0)) (by (with_reducible repeat (first | refine zJ ?_ _ | refine zI ?_ | refine zF ?_ _)); exact BK240.out) hb); have n5_ := zO (zE (by repeat (first | (with_reducible first | exact HB.out | apply zA | apply zL | apply zB | refine zC ?_ GE231.out | refine zC ?_ GE240.out) | exact HB.out)) hb); clear HO_7; clear HO256; clear BK231; clear BK240; clear HB; have HO_7 := n0_; have HO256 := n1_; have HO262 := n2_; have BK231 := n3_; have BK240 := n4_; have HB := n5_; clear n0_ n1_ n2_ n3_ n4_ n5_; (try clear hb); (try clear hb2); (try clear hk); (try clear hi); (try clear ho0); obtain ⟨Ao73, co73, eo73⟩ := Kd.R_slice HO262.out; subst eo73) | ((with_reducible refine zM (f := 129) rfl ?_); refine goesL_ (some 59) rfl rfl Try.func129 (by kernel_rfl) rfl #[.slice Ao73 t260.length co73] rfl (by (try simp only [yK, yL, yM]); first | done | rfl | (simp only [yJ, yI]; rfl)) ?_; (with_reducible refine (impl_BitsToBytes.calls kj27 _ _ t260 t263 true _ ?side1 ?side2 A51.out).mono ?_); (case side1 => repeat (first | exact (zX HO262.out).2.2 | (with_reducible refine zR ?_ _) | (with_reducible refine zT ?_ _) | (with_reducible refine zS ?_))); (case side2 => exact (zX HO262.out).2.1); rintro e w74 ⟨v265, rfl, ho0, hb⟩; refine ⟨_, rfl, ?_⟩; have n0_ := zO (zY (by (with_reducible repeat (first | apply zU | apply zW | apply zV)); exact HO_7.out) hb); have n1_ := zO (zY (by (with_reducible repeat (first | apply zU | apply zW | apply zV)); exact HO256.out) hb); have n2_ := zO (zY (by (with_reducible repeat (first | apply zU | apply zW | apply zV)); exact HO262.out) hb); have n3_ := zO (yA ho0 (zD (by repeat (first | (with_reducible first | exact HB.out | apply zA | apply zL | apply zB | refine zC ?_ GE231.out | refine zC ?_ GE240.out) | exact HB.out)))); have n4_ := zO (zG (g := gb231) (o := .cells #[.int .i64 0, .int .i64 0, .int .i64 0] 24 (0, 0)) (by (with_reducible repeat (first | refine zJ ?_ _ | refine zI ?_ | refine zF ?_ _)); exact BK231.out) hb); have n5_ := zO (zG (g := gb240) (o := .cells #[.int .i64 t236, .int .i64 t237, .int .i64 t238] 24 (0, 0)) (by (with_reducible repeat (first | refine zJ ?_ _ | refine zI ?_ | refine zF ?_ _)); exact BK240.out) hb); have n6_ := zO (zE (by repeat (first | (with_reducible first | exact HB.out | apply zA | apply zL | apply zB | refine zC ?_ GE231.out | refine zC ?_ GE240.out) | exact HB.out)) hb); clear HO_7; clear HO256; clear HO262; clear BK231; clear BK240; clear HB; have HO_7 := n0_; have HO256 := n1_; have HO262 := n2_; have HO266 := n3_; have BK231 := n4_; have BK240 := n5_; have HB := n6_; clear n0_ n1_ n2_ n3_ n4_ n5_ n6_; (try clear hb); (try clear hb2); (try clear hk); (try clear hi); (try clear ho0); obtain ⟨Ao75, co75, eo75⟩ := Kd.R_slice HO266.out; subst eo75) | ((with_reducible refine zM (f := 78) rfl ?_); refine goesL_ (some 68) rfl rfl Try.func78 (by kernel_rfl) rfl #[.slice Ao75 t263.length co75] rfl (by (try simp only [yK, yL, yM]); first | done | rfl | (simp only [yJ, yI]; rfl)) ?_; (with_reducible refine (impl_CheckCrc.calls kj27 _ _ t263 t267 false _ ?side1 ?side2 A53.out).mono ?_); (case side1 => repeat (first | exact (zX HO266.out).2.2 | (with_reducible refine zR ?_ _) | (with_reducible refine zT ?_ _) | (with_reducible refine zS ?_))); (case side2 => exact (zX HO266.out).2.1); rintro e w76 ⟨v269, rfl, ho0, hb⟩; refine ⟨_, rfl, ?_⟩; have n0_ := zO (zY (by (with_reducible repeat (first | apply zU | apply zW | apply zV)); exact HO_7.out) hb); have n1_ := zO (zY (by (with_reducible repeat (first | apply zU | apply zW | apply zV)); exact HO256.out) hb); have n2_ := zO (zY (by (with_reducible repeat (first | apply zU | apply zW | apply zV)); exact HO262.out) hb); have n3_ := zO (Kd.R_elder' (by (with_reducible repeat (first | apply zU | apply zW | apply zV)); exact HO266.out) (Kd.R_base ho0) hb); have n4_ := zO (yA (Kd.R_new' ho0 (Kd.R_lt (by (with_reducible repeat (first | apply zU | apply zW | apply zV)); exact HO266.out))) (zD (by repeat (first | (with_reducible first | exact HB.out | apply zA | apply zL | apply zB | refine zC ?_ GE231.out | refine zC ?_ GE240.out) | exact HB.out)))); have n5_ := zO (zG (g := gb231) (o := .cells #[.int .i64 0, .int .i64 0, .int .i64 0] 24 (0, 0)) (by (with_reducible repeat (first | refine zJ ?_ _ | refine zI ?_ | refine zF ?_ _)); exact BK231.out) hb); have n6_ := zO (zG (g := gb240) (o := .cells #[.int .i64 t236, .int .i64 t237, .int .i64 t238] 24 (0, 0)) (by (with_reducible repeat (first | refine zJ ?_ _ | refine zI ?_ | refine zF ?_ _)); exact BK240.out) hb); have n7_ := zO (zE (by repeat (first | (with_reducible first | exact HB.out | apply zA | apply zL | apply zB | refine zC ?_ GE231.out | refine zC ?_ GE240.out) | exact HB.out)) hb); clear HO_7; clear HO256; clear HO262; clear HO266; clear BK231; clear BK240; clear HB; have HO_7 := n0_; have HO256 := n1_; have HO262 := n2_; have HO266 := n3_; have HO270 := n4_; have BK231 := n5_; have BK240 := n6_; have HB := n7_; clear n0_ n1_ n2_ n3_ n4_ n5_ n6_ n7_; (try clear hb); (try clear hb2); (try clear hk); (try clear hi); (try clear ho0); have hcz77_0 : w76.cell? ⟨gb240, 0, none⟩ = some (.int .i64 t236) := (zH BK240.out 0).trans rfl; have hcz77_1 : w76.cell? ⟨gb240, 1, none⟩ = some (.int .i64 t237) := (zH BK240.out 1).trans rfl; have hcz77_2 : w76.cell? ⟨gb240, 2, none⟩ = some (.int .i64 t238) := (zH BK240.out 2).trans rfl; have hfz77_0 := zK BK240.out 0; have hfz77_1 := zK BK240.out 1; have hfz77_2 := zK BK240.out 2) | ((with_reducible refine zN (N := 74) rfl ?_); (try (refine gate_guard (by rfl) ?_; dsimp only)); refine Kd.R_lit (Kd.int .u8) _ 5 ?hg (N := 74) ?hd (xs := ([] : List Int)) (inner := []) (ok := fun _ => True) (okp := fun _ => True) ?hr ?hp (fun _ hk => hk) trivial (Below.refl _ _) (Nat.le_refl _) (by simp) ?_; (case hd => rfl); (case hg => rfl); (case hr => first | (go_simp; done) | (go_simp; rfl)); (case hp => exact (Reps.none _ _)); intro v272 w78 ho79 hb hg_ hnew_; clear hg_ hnew_; (first | rw [← Ny271.out] at ho79 | (simp only [Int.reduceToNat] at ho79; rw [← Ny271.out] at ho79)); have n0_ := zO (zY (by (with_reducible repeat (first | apply zU | apply zW | apply zV)); exact HO_7.out) hb); have n1_ := zO (zY (by (with_reducible repeat (first | apply zU | apply zW | apply zV)); exact HO256.out) hb); have n2_ := zO (zY (by (with_reducible repeat (first | apply zU | apply zW | apply zV)); exact HO262.out) hb); have n3_ := zO (Kd.R_elder' (by (with_reducible repeat (first | apply zU | apply zW | apply zV)); exact HO266.out) (Kd.R_base ho79) hb); have n4_ := zO (Kd.R_elder' (by (with_reducible repeat (first | apply zU | apply zW | apply zV)); exact HO270.out) (Kd.R_base ho79) hb); have n5_ := zO (yA (Kd.R_new' (Kd.R_new' ho79 (Kd.R_lt (by (with_reducible repeat (first | apply zU | apply zW | apply zV)); exact HO266.out))) (Kd.R_lt (by (with_reducible repeat (first | apply zU | apply zW | apply zV)); exact HO270.out))) (zD (by repeat (first | (with_reducible first | exact HB.out | apply zA | apply zL | apply zB | refine zC ?_ GE231.out | refine zC ?_ GE240.out) | exact HB.out)))); have n6_ := zO (zG (g := gb231) (o := .cells #[.int .i64 0, .int .i64 0, .int .i64 0] 24 (0, 0)) (by (with_reducible repeat (first | refine zJ ?_ _ | refine zI ?_ | refine zF ?_ _)); exact BK231.out) hb); have n7_ := zO (zG (g := gb240) (o := .cells #[.int .i64 t236, .int .i64 t237, .int .i64 t238] 24 (0, 0)) (by (with_reducible repeat (first | refine zJ ?_ _ | refine zI ?_ | refine zF ?_ _)); exact BK240.out) hb); have n8_ := zO (zE (by repeat (first | (with_reducible first | exact HB.out | apply zA | apply zL | apply zB | refine zC ?_ GE231.out | refine zC ?_ GE240.out) | exact HB.out)) hb); clear HO_7; clear HO256; clear HO262; clear HO266; clear HO270; clear BK231; clear BK240; clear HB; have HO_7 := n0_; have HO256 := n1_; have HO262 := n2_; have HO266 := n3_; have HO270 := n4_; have HO273 := n5_; have BK231 := n6_; have BK240 := n7_; have HB := n8_; clear n0_ n1_ n2_ n3_ n4_ n5_ n6_ n7_ n8_; clear hb ho79; have hcz80_0 : w78.cell? ⟨gb231, 0, none⟩ = some (.int .i64 0) := (zH BK231.out 0).trans rfl; have hcz80_1 : w78.cell? ⟨gb231, 1, none⟩ = some (.int .i64 0) := (zH BK231.out 1).trans rfl; have hcz80_2 : w78.cell? ⟨gb231, 2, none⟩ = some (.int .i64 0) := (zH BK231.out 2).trans rfl; have hfz80_0 := zK BK231.out 0; have hfz80_1 := zK BK231.out 1; have hfz80_2 := zK BK231.out 2))
          refine bodyPost_ret (results_ctt rfl _ _ gb231 24 #[.int .i64 t236, .int .i64 t237, .int .i64 t238] (0, 0) _ rfl (by (with_reducible repeat (first | refine zJ ?_ _ | refine zI ?_ | refine zF ?_ _)); refine blk_put (cs := #[.int .i64 t236, .int .i64 t237, .int .i64 0]) ?_ 2 _ rfl; (with_reducible repeat (first | refine zJ ?_ _ | refine zI ?_ | refine zF ?_ _)); refine blk_put (cs := #[.int .i64 t236, .int .i64 0, .int .i64 0]) ?_ 1 _ rfl; (with_reducible repeat (first | refine zJ ?_ _ | refine zI ?_ | refine zF ?_ _)); refine blk_put (cs := #[.int .i64 0, .int .i64 0, .int .i64 0]) ?_ 0 _ rfl; (with_reducible repeat (first | refine zJ ?_ _ | refine zI ?_ | refine zF ?_ _)); exact BK231.out) Try.underlying24 rfl (by kernel_rfl)) rfl ?_
          exact ⟨_, by first | rfl | (simp [errW_none, errW_some] <;> rfl) | (simp [*, errW_none, errW_some] <;> rfl), by (with_reducible repeat (first | apply zU | apply zW | apply zV)); exact Kd.R_mono (zZ (p := ⟨gb231, 2, none⟩) (zZ (p := ⟨gb231, 1, none⟩) (zZ (p := ⟨gb231, 0, none⟩) (Kd.R_types HO273.out BK231.out (by decide)) (fun _ hk => hk.2) (.int .i64 t236)) (fun _ hk => hk.2) (.int .i64 t237)) (fun _ hk => hk.2) (.int .i64 t238)) (fun _ hk => trivial), by repeat (first | (with_reducible first | exact HB.out | apply zA | apply zL | apply zB | refine zC ?_ GE231.out | refine zC ?_ GE240.out) | exact HB.out)⟩
        ·replace c52 := Bool.eq_false_iff.mpr c52
         subst c52
         have H1 : (some (t236, t237, t238, (([] : List Int)), 2)) = some (r1, r2, r3, r4, r5) := by rw [if_neg (show ¬ (false = true) by decide)] at H; exact H
         clear H
         have H := H1
         clear H1
         obtain ⟨y274, hy274⟩ : ∃ y_ : List Int, y_ = (([] : List Int)) := ⟨_, rfl⟩
         replace H : (some (t236, t237, t238, y274, 2)) = some (r1, r2, r3, r4, r5) := by first | (rw [hy274]; exact H) | exact H
         have Ny274 := zO hy274
         clear hy274
         simp only [Option.some.injEq, Prod.mk.injEq] at H
         obtain ⟨rfl, rfl, rfl, rfl, rfl⟩ := H
         obtain ⟨Ao81, co81, eo81⟩ := Kd.R_slice HO_7.out
         subst eo81
         go_wp2_with (first | ((with_reducible refine zM (f := 50) rfl ?_); refine goesL_ (some 47) rfl rfl Try.func50 (by kernel_rfl) rfl #[.slice Ao81 x7_27.length co81] rfl (by (try simp only [yK, yL, yM]); first | done | rfl | (simp only [yJ, yI]; rfl)) ?_; (with_reducible refine (impl_ViterbiDecode.calls kj27 _ _ x7_27 t253 t254 _ ?side1 ?side2 A41.out).mono ?_); (case side1 => repeat (first | exact (zX HO_7.out).2.2 | (with_reducible refine zR ?_ _) | (with_reducible refine zT ?_ _) | (with_reducible refine zS ?_))); (case side2 => exact (zX HO_7.out).2.1); rintro e w82 ⟨v255, rfl, ho0, hb⟩; refine ⟨_, rfl, ?_⟩; have n0_ := zO (Kd.R_elder' (by (with_reducible repeat (first | apply zU | apply zW | apply zV)); exact HO_7.out) (Kd.R_base ho0) hb); have n1_ := zO (yA (Kd.R_new' ho0 (Kd.R_lt (by (with_reducible repeat (first | apply zU | apply zW | apply zV)); exact HO_7.out))) (zD (by repeat (first | (with_reducible first | exact HB.out | apply zA | apply zL | apply zB | refine zC ?_ GE231.out | refine zC ?_ GE240.out) | exact HB.out)))); have n2_ := zO (zG (g := gb231) (o := .cells #[.int .i64 0, .int .i64 0, .int .i64 0] 24 (0, 0)) (by (with_reducible repeat (first | refine zJ ?_ _ | refine zI ?_ | refine zF ?_ _)); exact BK231.out) hb); have n3_ := zO (zG (g := gb240) (o := .cells #[.int .i64 t236, .int .i64 t237, .int .i64 t238] 24 (0, 0)) (by (with_reducible repeat (first | refine zJ ?_ _ | refine zI ?_ | refine zF ?_ _)); exact BK240.out) hb); have n4_ := zO (zE (by repeat (first | (with_reducible first | exact HB.out | apply zA | apply zL | apply zB | refine zC ?_ GE231.out | refine zC ?_ GE240.out) | exact HB.out)) hb); clear HO_7; clear BK231; clear BK240; clear HB; have HO_7 := n0_; have HO256 := n1_; have BK231 := n2_; have BK240 := n3_; have HB := n4_; clear n0_ n1_ n2_ n3_ n4_; (try clear hb); (try clear hb2); (try clear hk); (try clear hi); (try clear ho0); have hnb83 := NB240_231.out; have hnc83 := NB231_240.out; have hcz84_0 : w82.cell? ⟨gb240, 0, none⟩ = some (.int .i64 t236) := (zH BK240.out 0).trans rfl; have hcz84_1 : w82.cell? ⟨gb240, 1, none⟩ = some (.int .i64 t237) := (zH BK240.out 1).trans rfl; have hcz84_2 : w82.cell? ⟨gb240, 2, none⟩ = some (.int .i64 t238) := (zH BK240.out 2).trans rfl; have hfz84_0 := zK BK240.out 0; have hfz84_1 := zK BK240.out 1; have hfz84_2 := zK BK240.out 2; obtain ⟨Ao85, co85, eo85⟩ := Kd.R_slice HO256.out; subst eo85) | ((with_reducible refine zM (f := 130) rfl ?_); refine goesL_ (some 58) rfl rfl Try.func130 (by kernel_rfl) rfl #[.int .i64 t238, .slice Ao85 t253.length co85] rfl (by (try simp only [yK, yL, yM]); first | done | rfl | (simp only [yJ, yI]; rfl)) ?_; (with_reducible refine (impl_Scramble.calls kj27 t238 _ _ t253 t260 _ ?side1 ?side2 A50.out).mono ?_); (case side1 => repeat (first | exact (zX HO256.out).2.2 | (with_reducible refine zR ?_ _) | (with_reducible refine zT ?_ _) | (with_reducible refine zS ?_))); (case side2 => exact (zX HO256.out).2.1); rintro e w86 ⟨v261, rfl, ho0, hb⟩; refine ⟨_, rfl, ?_⟩; have n0_ := zO (Kd.R_elder' (by (with_reducible repeat (first | apply zU | apply zW | apply zV)); exact HO_7.out) (Kd.R_base ho0) hb); have n1_ := zO (Kd.R_elder' (by (with_reducible repeat (first | apply zU | apply zW | apply zV)); exact HO256.out) (Kd.R_base ho0) hb); have n2_ := zO (yA (Kd.R_new' (Kd.R_new' ho0 (Kd.R_lt (by (with_reducible repeat (first | apply zU | apply zW | apply zV)); exact HO_7.out))) (Kd.R_lt (by (with_reducible repeat (first | apply zU | apply zW | apply zV)); exact HO256.out))) (zD (by repeat (first | (with_reducible first | exact HB.out | apply zA | apply zL | apply zB | refine zC ?_ GE231.out | refine zC ?_ GE240.out) | exact HB.out)))); have n3_ := zO (zG (g := gb231) (o := .cells #[.int .i64 0, .int .i64 0, .int .i64 0] 24 (0, 0)) (by (with_reducible repeat (first | refine zJ ?_ _ | refine zI ?_ | refine zF ?_ _)); exact BK231.out) hb); have n4_ := zO (zG (g := gb240) (o := .cells #[.int .i64 t236, .int .i64 t237, .int .i64 t238] 24 (0, 0)) (by (with_reducible repeat (first | refine zJ ?_ _ | refine zI ?_ | refine zF ?_ _)); exact BK240.out) hb); have n5_ := zO (zE (by repeat (first | (with_reducible first | exact HB.out | apply zA | apply zL | apply zB | refine zC ?_ GE231.out | refine zC ?_ GE240.out) | exact HB.out)) hb); clear HO_7; clear HO256; clear BK231; clear BK240; clear HB; have HO_7 := n0_; have HO256 := n1_; have HO262 := n2_; have BK231 := n3_; have BK240 := n4_; have HB := n5_; clear n0_ n1_ n2_ n3_ n4_ n5_; (try clear hb); (try clear hb2); (try clear hk); (try clear hi); (try clear ho0); obtain ⟨Ao87, co87, eo87⟩ := Kd.R_slice HO262.out; subst eo87) | ((with_reducible refine zM (f := 129) rfl ?_); refine goesL_ (some 59) rfl rfl Try.func129 (by kernel_rfl) rfl #[.slice Ao87 t260.length co87] rfl (by (try simp only [yK, yL, yM]); first | done | rfl | (simp only [yJ, yI]; rfl)) ?_; (with_reducible refine (impl_BitsToBytes.calls kj27 _ _ t260 t263 false _ ?side1 ?side2 A51.out).mono ?_); (case side1 => repeat (first | exact (zX HO262.out).2.2 | (with_reducible refine zR ?_ _) | (with_reducible refine zT ?_ _) | (with_reducible refine zS ?_))); (case side2 => exact (zX HO262.out).2.1); rintro e w88 ⟨v265, rfl, ho0, hb⟩; refine ⟨_, rfl, ?_⟩; have n0_ := zO (zY (by (with_reducible repeat (first | apply zU | apply zW | apply zV)); exact HO_7.out) hb); have n1_ := zO (zY (by (with_reducible repeat (first | apply zU | apply zW | apply zV)); exact HO256.out) hb); have n2_ := zO (zY (by (with_reducible repeat (first | apply zU | apply zW | apply zV)); exact HO262.out) hb); have n3_ := zO (yA ho0 (zD (by repeat (first | (with_reducible first | exact HB.out | apply zA | apply zL | apply zB | refine zC ?_ GE231.out | refine zC ?_ GE240.out) | exact HB.out)))); have n4_ := zO (zG (g := gb231) (o := .cells #[.int .i64 0, .int .i64 0, .int .i64 0] 24 (0, 0)) (by (with_reducible repeat (first | refine zJ ?_ _ | refine zI ?_ | refine zF ?_ _)); exact BK231.out) hb); have n5_ := zO (zG (g := gb240) (o := .cells #[.int .i64 t236, .int .i64 t237, .int .i64 t238] 24 (0, 0)) (by (with_reducible repeat (first | refine zJ ?_ _ | refine zI ?_ | refine zF ?_ _)); exact BK240.out) hb); have n6_ := zO (zE (by repeat (first | (with_reducible first | exact HB.out | apply zA | apply zL | apply zB | refine zC ?_ GE231.out | refine zC ?_ GE240.out) | exact HB.out)) hb); clear HO_7; clear HO256; clear HO262; clear BK231; clear BK240; clear HB; have HO_7 := n0_; have HO256 := n1_; have HO262 := n2_; have HO266 := n3_; have BK231 := n4_; have BK240 := n5_; have HB := n6_; clear n0_ n1_ n2_ n3_ n4_ n5_ n6_; (try clear hb); (try clear hb2); (try clear hk); (try clear hi); (try clear ho0); have hcz89_0 : w88.cell? ⟨gb240, 0, none⟩ = some (.int .i64 t236) := (zH BK240.out 0).trans rfl; have hcz89_1 : w88.cell? ⟨gb240, 1, none⟩ = some (.int .i64 t237) := (zH BK240.out 1).trans rfl; have hcz89_2 : w88.cell? ⟨gb240, 2, none⟩ = some (.int .i64 t238) := (zH BK240.out 2).trans rfl; have hfz89_0 := zK BK240.out 0; have hfz89_1 := zK BK240.out 1; have hfz89_2 := zK BK240.out 2) | ((with_reducible refine zN (N := 65) rfl ?_); (try (refine gate_guard (by rfl) ?_; dsimp only)); refine Kd.R_lit (Kd.int .u8) _ 5 ?hg (N := 65) ?hd (xs := ([] : List Int)) (inner := []) (ok := fun _ => True) (okp := fun _ => True) ?hr ?hp (fun _ hk => hk) trivial (Below.refl _ _) (Nat.le_refl _) (by simp) ?_; (case hd => rfl); (case hg => rfl); (case hr => first | (go_simp; done) | (go_simp; rfl)); (case hp => exact (Reps.none _ _)); intro v275 w90 ho91 hb hg_ hnew_; clear hg_ hnew_; (first | rw [← Ny274.out] at ho91 | (simp only [Int.reduceToNat] at ho91; rw [← Ny274.out] at ho91)); have n0_ := zO (zY (by (with_reducible repeat (first | apply zU | apply zW | apply zV)); exact HO_7.out) hb); have n1_ := zO (zY (by (with_reducible repeat (first | apply zU | apply zW | apply zV)); exact HO256.out) hb); have n2_ := zO (zY (by (with_reducible repeat (first | apply zU | apply zW | apply zV)); exact HO262.out) hb); have n3_ := zO (Kd.R_elder' (by (with_reducible repeat (first | apply zU | apply zW | apply zV)); exact HO266.out) (Kd.R_base ho91) hb); have n4_ := zO (yA (Kd.R_new' ho91 (Kd.R_lt (by (with_reducible repeat (first | apply zU | apply zW | apply zV)); exact HO266.out))) (zD (by repeat (first | (with_reducible first | exact HB.out | apply zA | apply zL | apply zB | refine zC ?_ GE231.out | refine zC ?_ GE240.out) | exact HB.out)))); have n5_ := zO (zG (g := gb231) (o := .cells #[.int .i64 0, .int .i64 0, .int .i64 0] 24 (0, 0)) (by (with_reducible repeat (first | refine zJ ?_ _ | refine zI ?_ | refine zF ?_ _)); exact BK231.out) hb); have n6_ := zO (zG (g := gb240) (o := .cells #[.int .i64 t236, .int .i64 t237, .int .i64 t238] 24 (0, 0)) (by (with_reducible repeat (first | refine zJ ?_ _ | refine zI ?_ | refine zF ?_ _)); exact BK240.out) hb); have n7_ := zO (zE (by repeat (first | (with_reducible first | exact HB.out | apply zA | apply zL | apply zB | refine zC ?_ GE231.out | refine zC ?_ GE240.out) | exact HB.out)) hb); clear HO_7; clear HO256; clear HO262; clear HO266; clear BK231; clear BK240; clear HB; have HO_7 := n0_; have HO256 := n1_; have HO262 := n2_; have HO266 := n3_; have HO276 := n4_; have BK231 := n5_; have BK240 := n6_; have HB := n7_; clear n0_ n1_ n2_ n3_ n4_ n5_ n6_ n7_; clear hb ho91; have hcz92_0 : w90.cell? ⟨gb231, 0, none⟩ = some (.int .i64 0) := (zH BK231.out 0).trans rfl; have hcz92_1 : w90.cell? ⟨gb231, 1, none⟩ = some (.int .i64 0) := (zH BK231.out 1).trans rfl; have hcz92_2 : w90.cell? ⟨gb231, 2, none⟩ = some (.int .i64 0) := (zH BK231.out 2).trans rfl; have hfz92_0 := zK BK231.out 0; have hfz92_1 := zK BK231.out 1; have hfz92_2 := zK BK231.out 2))
         refine bodyPost_ret (results_ctt rfl _ _ gb231 24 #[.int .i64 t236, .int .i64 t237, .int .i64 t238] (0, 0) _ rfl (by (with_reducible repeat (first | refine zJ ?_ _ | refine zI ?_ | refine zF ?_ _)); refine blk_put (cs := #[.int .i64 t236, .int .i64 t237, .int .i64 0]) ?_ 2 _ rfl; (with_reducible repeat (first | refine zJ ?_ _ | refine zI ?_ | refine zF ?_ _)); refine blk_put (cs := #[.int .i64 t236, .int .i64 0, .int .i64 0]) ?_ 1 _ rfl; (with_reducible repeat (first | refine zJ ?_ _ | refine zI ?_ | refine zF ?_ _)); refine blk_put (cs := #[.int .i64 0, .int .i64 0, .int .i64 0]) ?_ 0 _ rfl; (with_reducible repeat (first | refine zJ ?_ _ | refine zI ?_ | refine zF ?_ _)); exact BK231.out) Try.underlying24 rfl (by kernel_rfl)) rfl ?_
         exact ⟨_, by first | rfl | (simp [errW_none, errW_some] <;> rfl) | (simp [*, errW_none, errW_some] <;> rfl), by (with_reducible repeat (first | apply zU | apply zW | apply zV)); exact Kd.R_mono (zZ (p := ⟨gb231, 2, none⟩) (zZ (p := ⟨gb231, 1, none⟩) (zZ (p := ⟨gb231, 0, none⟩) (Kd.R_types HO276.out BK231.out (by decide)) (fun _ hk => hk.2) (.int .i64 t236)) (fun _ hk => hk.2) (.int .i64 t237)) (fun _ hk => hk.2) (.int .i64 t238)) (fun _ hk => trivial), by repeat (first | (with_reducible first | exact HB.out | apply zA | apply zL | apply zB | refine zC ?_ GE231.out | refine zC ?_ GE240.out) | exact HB.out)⟩

end Go.Proofs.Ytldbmljooafkcaa.PFnFrameErrors
