/- Contracts of Go functions. Conditions: the arguments read as the Lean function's. Written by print2.py, shrink.py (this session's). -/
import Derived.Test.YtldbmljooafkcaaPFnExactReceiveFramex0
import Derived.Test.YtldbmljooafkcaaPFnExactReceiveFramex4
namespace Go.Proofs.Ytldbmljooafkcaa.PFnExactReceiveFrame
open Go.RowKit Go.Proofs.YtldbmljooafkcaaW.PrintWords Go.Proofs.YtldbmljooafkcaaW.PrintLast Go.Proofs.YtldbmljooafkcaaW.PrintMore
open Go.Proofs.YtldbmljooafkcaaW.PrintWords renaming below_alloc → zA, below_drew1 → zB, below_set → zC, below_size → zD, below_step → zE, pw_below_drewN → zL, gate_dst → zN
open Go.Proofs.YtldbmljooafkcaaW.PrintWords.Aside0 renaming mk → zO
open Go.Proofs.YtldbmljooafkcaaW.PrintWords.Kd renaming C_alloc → zR, C_drew → zS, C_drewN → zT, R_alloc → zU, R_drew → zV, R_drewN → zW, R_reads' → zX, R_lower → yA, N_alloc → yB, N_drewN → yC, N_drew → yD
open Option renaming bind_eq_some_iff → yE
open Go.World renaming drewN_drewN → yN
set_option maxHeartbeats 8000000
set_option maxRecDepth 100000
attribute [local go_sem] max2_int min2_int max_two min_two max_three min_three max_four min_four
set_option linter.unusedVariables false
set_option linter.unusedSimpArgs false

mutual
def spec_l7Costs.l0 : Nat → List Int → Int → List (List Int) → Int → Option ((List (List Int)))
 | 0, _, _, _, _ => none
 | k + 1, x0, x1, x5, x6 => if x6 < (wrap64 (x1 + 2)) then (spec_l7Costs.l1 k x0 x1 x5 x6 (([(-1), (-1), (-1), (-1)] : List Int)) 0) else (some x5)
def spec_l7Costs.l1 : Nat → List Int → Int → List (List Int) → Int → List Int → Int → Option ((List (List Int)))
 | 0, _, _, _, _, _, _ => none
 | k + 1, x0, x1, x5, x6, x7, x8 => if x8 < 4 then (spec_l7Costs.l2 k x0 x1 x5 x6 x7 x8 0) else (if x5.length < 5864062014805 then (spec_l7Costs.l0 k x0 x1 (x5 ++ [x7]) (wrap64 (x6 + 1))) else (none))
def spec_l7Costs.l2 : Nat → List Int → Int → List (List Int) → Int → List Int → Int → Int → Option ((List (List Int)))
 | 0, _, _, _, _, _, _, _ => none
 | k + 1, x0, x1, x5, x6, x7, x8, x9 => if x9 < 2 then (if 0 ≤ x6 then (if x6 < (x5.length : Int) then (if 0 ≤ x8 then (if x8 < ((rd_L2 x5 x6).length : Int) then (if (rd (rd_L2 x5 x6) x8) < 0 then (spec_l7Costs.j3 k x0 x1 x5 x6 x7 x8 x9 true) else (if x9 = 1 then (spec_l7Costs.j3 k x0 x1 x5 x6 x7 x8 x9 (decide (x6 ≥ x1))) else (spec_l7Costs.j3 k x0 x1 x5 x6 x7 x8 x9 false))) else (none)) else (none)) else (none)) else (none)) else (spec_l7Costs.l1 k x0 x1 x5 x6 x7 (wrap64 (x8 + 1)))
def spec_l7Costs.j3 : Nat → List Int → Int → List (List Int) → Int → List Int → Int → Int → Bool → Option ((List (List Int)))
 | 0, _, _, _, _, _, _, _, _ => none
 | k + 1, x0, x1, x5, x6, x7, x8, x9, x45 => if x45 = true then (spec_l7Costs.l2 k x0 x1 x5 x6 x7 x8 (wrap64 (x9 + 1))) else (if 0 ≤ x6 then (if x6 < (x5.length : Int) then (if 0 ≤ x8 then (if x8 < ((rd_L2 x5 x6).length : Int) then (if 0 ≤ (wrap64 (2 * x6)) then (if (wrap64 (2 * x6)) < (x0.length : Int) then (if 0 ≤ (wrap64 ((wrap64 (2 * x6)) + 1)) then (if (wrap64 ((wrap64 (2 * x6)) + 1)) < (x0.length : Int) then ((spec_BranchDistance.f k x8 x9 (rd x0 (wrap64 (2 * x6))) (rd x0 (wrap64 ((wrap64 (2 * x6)) + 1)))).bind fun t186 => ((spec_NextState.f x8 x9).bind fun t187 => (if 0 ≤ t187 then (if t187 < (x7.length : Int) then (if (rd x7 t187) < 0 then (spec_l7Costs.l2 k x0 x1 x5 x6 (x7.set (t187 : Int).toNat (wrap64 ((rd (rd_L2 x5 x6) x8) + t186))) x8 (wrap64 (x9 + 1))) else (if (wrap64 ((rd (rd_L2 x5 x6) x8) + t186)) < (rd x7 t187) then (spec_l7Costs.l2 k x0 x1 x5 x6 (x7.set (t187 : Int).toNat (wrap64 ((rd (rd_L2 x5 x6) x8) + t186))) x8 (wrap64 (x9 + 1))) else (spec_l7Costs.l2 k x0 x1 x5 x6 x7 x8 (wrap64 (x9 + 1))))) else (none)) else (none)))) else (none)) else (none)) else (none)) else (none)) else (none)) else (none)) else (none)) else (none))
end
def spec_l7Costs.f (k : Nat) (l0 : List Int) (a1 : Int) : Option ((List (List Int))) := spec_l7Costs.l0 k l0 a1 (([(([0, (-1), (-1), (-1)] : List Int))] : List (List Int))) 0
theorem spec_l7Costs.calls (k : Nat) (A0 : Option Addr) (c0 : Nat) (l0 : List Int) (a1 : Int) (r : List (List Int)) (w : World) (hr0 : Kd.C (Kd.int .i64) w A0 l0.length l0) (hc0 : l0.length ≤ c0) (h : spec_l7Costs.f k l0 a1 = some r) :
  Calls Try.prog 106 #[.slice A0 l0.length c0, .int .i64 a1] w fun e w' => ∃ v0_ : Value, e = .returned (v0_) ∧ Kd.N (Kd.slice 3 (Kd.int .i64)) 22 w' w.heap.size (fun k_ => (w.heap.size ≤ k_)) v0_ r ∧ Below w.heap.size w w' := by
 have HR0 := zO hr0
 have HC0 := zO hc0
 clear hr0 hc0
 have HB := zO (Below.refl w.heap.size w)
 have H : (spec_l7Costs.l0 k l0 a1 (([(([0, (-1), (-1), (-1)] : List Int))] : List (List Int))) 0) = some r := h
 clear h
 obtain ⟨y168, hy168⟩ : ∃ y_ : List Int, y_ = (([0, (-1), (-1), (-1)] : List Int)) := ⟨_, rfl⟩
 replace H : (spec_l7Costs.l0 k l0 a1 (([y168] : List (List Int))) 0) = some r := by first | (rw [hy168]; exact H) | exact H
 have Ny168 := zO hy168
 clear hy168
 obtain ⟨y171, hy171⟩ : ∃ y_ : List (List Int), y_ = (([y168] : List (List Int))) := ⟨_, rfl⟩
 replace H : (spec_l7Costs.l0 k l0 a1 y171 0) = some r := by first | (rw [hy171]; exact H) | exact H
 have Ny171 := zO hy171
 clear hy171
 have H' := zO H
 clear H
 go_enter Try.func106, Try.ntmps106
 go_wp2_with (first | ((with_reducible refine zN (N := 12) rfl ?_); refine Kd.R_lit (Kd.int .i64) _ 3 ?hg (N := 12) ?hd (xs := ([0, (-1), (-1), (-1)] : List Int)) (inner := [.int .i64 0, .int .i64 (-1), .int .i64 (-1), .int .i64 (-1)]) (ok := fun _ => True) (okp := fun _ => True) ?hr ?hp (fun _ hk => hk) trivial (Below.refl _ _) (Nat.le_refl _) (by simp) ?_; (case hd => rfl); (case hg => rfl); (case hr => first | (go_simp; done) | (go_simp; rfl)); (case hp => exact (Reps.one (show Kd.M (Kd.int .i64) _ _ _ 0 [.int .i64 0] from rfl) (Reps.one (show Kd.M (Kd.int .i64) _ _ _ (-1) [.int .i64 (-1)] from rfl) (Reps.one (show Kd.M (Kd.int .i64) _ _ _ (-1) [.int .i64 (-1)] from rfl) (Reps.one (show Kd.M (Kd.int .i64) _ _ _ (-1) [.int .i64 (-1)] from rfl) (Reps.none _ _)))))); intro v169 w3 ho4 hb hg_ hnew_; clear hg_ hnew_; (first | rw [← Ny168.out] at ho4 | (simp only [Int.reduceToNat] at ho4; rw [← Ny168.out] at ho4)); have n0_ := zO (yA (Kd.R_newM (M := fun k_ => (w.heap.size ≤ k_)) ho4 (zD (by repeat (first | exact HB.out | apply zA | apply zL | apply zB))) (fun k_ h_ => h_)) (zD (by repeat (first | exact HB.out | apply zA | apply zL | apply zB)))); have n1_ := zO (zE (by repeat (first | exact HB.out | apply zA | apply zL | apply zB)) hb); clear HB; have HO170 := n0_; have HB := n1_; clear n0_ n1_; clear hb ho4; obtain ⟨Ao5, co5, eo5⟩ := Kd.R_slice HO170.out; subst eo5) | ((with_reducible refine zN (N := 13) rfl ?_); refine Kd.N_lit (Kd.slice 3 (Kd.int .i64)) _ 22 ?hg (N' := 13) ?hd (xs := ([y168] : List (List Int))) (inner := [.slice Ao5 y168.length co5]) (ok := (fun k_ => (w.heap.size ≤ k_))) (okp := (fun k_ => (w.heap.size ≤ k_))) ?hr ?hp (fun _ hk => hk) ((show ∀ k_, w3.heap.size ≤ k_ → (fun k_ => (w.heap.size ≤ k_)) k_ from fun k_ hk => (Nat.le_trans (zD (by repeat (first | exact HB.out | apply zA | apply zL | apply zB))) hk)) _ (Nat.le_refl _)) (Below.refl _ _) (Nat.le_refl _) (by simp) ?_; (case hd => rfl); (case hg => rfl); (case hr => first | (go_simp; done) | (go_simp; rfl)); (case hp => exact (Reps.one (show Kd.FK (Kd.slice 3 (Kd.int .i64)) _ _ y168 [.slice Ao5 y168.length co5] from (Kd.FK_slice_mk (zX (Kd.R_mono (ok' := (fun k_ => (w.heap.size ≤ k_))) (HO170.out) (fun k_ hk => hk.1))).2.1 (Kd.R_F (Kd.R_mono (ok' := (fun k_ => (w.heap.size ≤ k_))) (HO170.out) (fun k_ hk => hk.1))))) (Reps.none _ _))); intro v172 w6 ho7 hb hg_ hnew_; clear hg_ hnew_; (first | rw [← Ny171.out] at ho7 | (simp only [Int.reduceToNat] at ho7; rw [← Ny171.out] at ho7)); have n0_ := zO (Kd.N_lower ho7 (zD (by repeat (first | exact HB.out | apply zA | apply zL | apply zB)))); have n1_ := zO (zE (by repeat (first | exact HB.out | apply zA | apply zL | apply zB)) hb); clear HB; clear HO170; have HO173 := n0_; have HB := n1_; clear n0_ n1_; clear hb ho7))
 repeat (go_quiet (first | ((with_reducible refine zN (N := 12) rfl ?_); refine Kd.R_lit (Kd.int .i64) _ 3 ?hg (N := 12) ?hd (xs := ([0, (-1), (-1), (-1)] : List Int)) (inner := [.int .i64 0, .int .i64 (-1), .int .i64 (-1), .int .i64 (-1)]) (ok := fun _ => True) (okp := fun _ => True) ?hr ?hp (fun _ hk => hk) trivial (Below.refl _ _) (Nat.le_refl _) (by simp) ?_; (case hd => rfl); (case hg => rfl); (case hr => first | (go_simp; done) | (go_simp; rfl)); (case hp => exact (Reps.one (show Kd.M (Kd.int .i64) _ _ _ 0 [.int .i64 0] from rfl) (Reps.one (show Kd.M (Kd.int .i64) _ _ _ (-1) [.int .i64 (-1)] from rfl) (Reps.one (show Kd.M (Kd.int .i64) _ _ _ (-1) [.int .i64 (-1)] from rfl) (Reps.one (show Kd.M (Kd.int .i64) _ _ _ (-1) [.int .i64 (-1)] from rfl) (Reps.none _ _)))))); intro v169 w3 ho4 hb hg_ hnew_; clear hg_ hnew_; (first | rw [← Ny168.out] at ho4 | (simp only [Int.reduceToNat] at ho4; rw [← Ny168.out] at ho4)); have n0_ := zO (yA (Kd.R_newM (M := fun k_ => (w.heap.size ≤ k_)) ho4 (zD (by repeat (first | exact HB.out | apply zA | apply zL | apply zB))) (fun k_ h_ => h_)) (zD (by repeat (first | exact HB.out | apply zA | apply zL | apply zB)))); have n1_ := zO (zE (by repeat (first | exact HB.out | apply zA | apply zL | apply zB)) hb); clear HB; have HO170 := n0_; have HB := n1_; clear n0_ n1_; clear hb ho4; obtain ⟨Ao5, co5, eo5⟩ := Kd.R_slice HO170.out; subst eo5) | ((with_reducible refine zN (N := 13) rfl ?_); refine Kd.N_lit (Kd.slice 3 (Kd.int .i64)) _ 22 ?hg (N' := 13) ?hd (xs := ([y168] : List (List Int))) (inner := [.slice Ao5 y168.length co5]) (ok := (fun k_ => (w.heap.size ≤ k_))) (okp := (fun k_ => (w.heap.size ≤ k_))) ?hr ?hp (fun _ hk => hk) ((show ∀ k_, w3.heap.size ≤ k_ → (fun k_ => (w.heap.size ≤ k_)) k_ from fun k_ hk => (Nat.le_trans (zD (by repeat (first | exact HB.out | apply zA | apply zL | apply zB))) hk)) _ (Nat.le_refl _)) (Below.refl _ _) (Nat.le_refl _) (by simp) ?_; (case hd => rfl); (case hg => rfl); (case hr => first | (go_simp; done) | (go_simp; rfl)); (case hp => exact (Reps.one (show Kd.FK (Kd.slice 3 (Kd.int .i64)) _ _ y168 [.slice Ao5 y168.length co5] from (Kd.FK_slice_mk (zX (Kd.R_mono (ok' := (fun k_ => (w.heap.size ≤ k_))) (HO170.out) (fun k_ hk => hk.1))).2.1 (Kd.R_F (Kd.R_mono (ok' := (fun k_ => (w.heap.size ≤ k_))) (HO170.out) (fun k_ hk => hk.1))))) (Reps.none _ _))); intro v172 w6 ho7 hb hg_ hnew_; clear hg_ hnew_; (first | rw [← Ny171.out] at ho7 | (simp only [Int.reduceToNat] at ho7; rw [← Ny171.out] at ho7)); have n0_ := zO (Kd.N_lower ho7 (zD (by repeat (first | exact HB.out | apply zA | apply zL | apply zB)))); have n1_ := zO (zE (by repeat (first | exact HB.out | apply zA | apply zL | apply zB)) hb); clear HB; clear HO170; have HO173 := n0_; have HB := n1_; clear n0_ n1_; clear hb ho7)); try go_wp2_with (first | ((with_reducible refine zN (N := 12) rfl ?_); refine Kd.R_lit (Kd.int .i64) _ 3 ?hg (N := 12) ?hd (xs := ([0, (-1), (-1), (-1)] : List Int)) (inner := [.int .i64 0, .int .i64 (-1), .int .i64 (-1), .int .i64 (-1)]) (ok := fun _ => True) (okp := fun _ => True) ?hr ?hp (fun _ hk => hk) trivial (Below.refl _ _) (Nat.le_refl _) (by simp) ?_; (case hd => rfl); (case hg => rfl); (case hr => first | (go_simp; done) | (go_simp; rfl)); (case hp => exact (Reps.one (show Kd.M (Kd.int .i64) _ _ _ 0 [.int .i64 0] from rfl) (Reps.one (show Kd.M (Kd.int .i64) _ _ _ (-1) [.int .i64 (-1)] from rfl) (Reps.one (show Kd.M (Kd.int .i64) _ _ _ (-1) [.int .i64 (-1)] from rfl) (Reps.one (show Kd.M (Kd.int .i64) _ _ _ (-1) [.int .i64 (-1)] from rfl) (Reps.none _ _)))))); intro v169 w3 ho4 hb hg_ hnew_; clear hg_ hnew_; (first | rw [← Ny168.out] at ho4 | (simp only [Int.reduceToNat] at ho4; rw [← Ny168.out] at ho4)); have n0_ := zO (yA (Kd.R_newM (M := fun k_ => (w.heap.size ≤ k_)) ho4 (zD (by repeat (first | exact HB.out | apply zA | apply zL | apply zB))) (fun k_ h_ => h_)) (zD (by repeat (first | exact HB.out | apply zA | apply zL | apply zB)))); have n1_ := zO (zE (by repeat (first | exact HB.out | apply zA | apply zL | apply zB)) hb); clear HB; have HO170 := n0_; have HB := n1_; clear n0_ n1_; clear hb ho4; obtain ⟨Ao5, co5, eo5⟩ := Kd.R_slice HO170.out; subst eo5) | ((with_reducible refine zN (N := 13) rfl ?_); refine Kd.N_lit (Kd.slice 3 (Kd.int .i64)) _ 22 ?hg (N' := 13) ?hd (xs := ([y168] : List (List Int))) (inner := [.slice Ao5 y168.length co5]) (ok := (fun k_ => (w.heap.size ≤ k_))) (okp := (fun k_ => (w.heap.size ≤ k_))) ?hr ?hp (fun _ hk => hk) ((show ∀ k_, w3.heap.size ≤ k_ → (fun k_ => (w.heap.size ≤ k_)) k_ from fun k_ hk => (Nat.le_trans (zD (by repeat (first | exact HB.out | apply zA | apply zL | apply zB))) hk)) _ (Nat.le_refl _)) (Below.refl _ _) (Nat.le_refl _) (by simp) ?_; (case hd => rfl); (case hg => rfl); (case hr => first | (go_simp; done) | (go_simp; rfl)); (case hp => exact (Reps.one (show Kd.FK (Kd.slice 3 (Kd.int .i64)) _ _ y168 [.slice Ao5 y168.length co5] from (Kd.FK_slice_mk (zX (Kd.R_mono (ok' := (fun k_ => (w.heap.size ≤ k_))) (HO170.out) (fun k_ hk => hk.1))).2.1 (Kd.R_F (Kd.R_mono (ok' := (fun k_ => (w.heap.size ≤ k_))) (HO170.out) (fun k_ hk => hk.1))))) (Reps.none _ _))); intro v172 w6 ho7 hb hg_ hnew_; clear hg_ hnew_; (first | rw [← Ny171.out] at ho7 | (simp only [Int.reduceToNat] at ho7; rw [← Ny171.out] at ho7)); have n0_ := zO (Kd.N_lower ho7 (zD (by repeat (first | exact HB.out | apply zA | apply zL | apply zB)))); have n1_ := zO (zE (by repeat (first | exact HB.out | apply zA | apply zL | apply zB)) hb); clear HB; clear HO170; have HO173 := n0_; have HB := n1_; clear n0_ n1_; clear hb ho7)))
 go_loopg [5, 6] k (fun kq v5 v6 w' => ∃ (x5_1 : List (List Int)) (x6_1 : Int), v6 = .int .i64 x6_1 ∧ Aside0 (spec_l7Costs.l0 kq l0 a1 x5_1 x6_1 = some r) ∧ Aside0 (kq ≤ k) ∧ Aside0 (Kd.N (Kd.slice 3 (Kd.int .i64)) 22 w' w.heap.size (fun k_ => (w.heap.size ≤ k_)) v5 x5_1) ∧ Aside0 (Below w.heap.size w w'))
 case atStart => exact ⟨(y171), (0), (by first | rfl | (simp; done) | (simp [*]; done)), H', ⟨Nat.le_refl _⟩, ⟨by (with_reducible repeat (first | apply yB | apply yC | apply yD)); exact HO173.out⟩, ⟨by repeat (first | exact HB.out | apply zA | apply zL | apply zB)⟩⟩
 case round =>
  clear H'
  try clear c1
  try clear p2
  obtain ⟨x5_1, x6_1, rfl, HA, HK1, HO_5, HB⟩ := hrel
  cases gk with
  | zero => exact absurd HA.out (by simp [spec_l7Costs.l0])
  | succ k1 =>
   have H := HA.out
   clear HA
   simp only [spec_l7Costs.l0] at H
   by_cases c8 : x6_1 < (wrap64 (a1 + 2))
   ·rw [if_pos c8] at H
    have c8b0 : decide (x6_1 < (wrap64 (a1 + 2))) = true := decide_eq_true c8
    clear c8
    obtain ⟨y174, hy174⟩ : ∃ y_ : List Int, y_ = (([(-1), (-1), (-1), (-1)] : List Int)) := ⟨_, rfl⟩
    replace H : (spec_l7Costs.l1 k1 l0 a1 x5_1 x6_1 y174 0) = some r := by first | (rw [hy174]; exact H) | exact H
    have Ny174 := zO hy174
    clear hy174
    have H' := zO H
    clear H
    go_wp2_with (first | ((with_reducible refine zN (N := 20) rfl ?_); refine Kd.R_lit (Kd.int .i64) _ 3 ?hg (N := 20) ?hd (xs := ([(-1), (-1), (-1), (-1)] : List Int)) (inner := [.int .i64 (-1), .int .i64 (-1), .int .i64 (-1), .int .i64 (-1)]) (ok := fun _ => True) (okp := fun _ => True) ?hr ?hp (fun _ hk => hk) trivial (Below.refl _ _) (Nat.le_refl _) (by simp) ?_; (case hd => rfl); (case hg => rfl); (case hr => first | (go_simp; done) | (go_simp; rfl)); (case hp => exact (Reps.one (show Kd.M (Kd.int .i64) _ _ _ (-1) [.int .i64 (-1)] from rfl) (Reps.one (show Kd.M (Kd.int .i64) _ _ _ (-1) [.int .i64 (-1)] from rfl) (Reps.one (show Kd.M (Kd.int .i64) _ _ _ (-1) [.int .i64 (-1)] from rfl) (Reps.one (show Kd.M (Kd.int .i64) _ _ _ (-1) [.int .i64 (-1)] from rfl) (Reps.none _ _)))))); intro v175 w9 ho10 hb hg_ hnew_; clear hg_ hnew_; (first | rw [← Ny174.out] at ho10 | (simp only [Int.reduceToNat] at ho10; rw [← Ny174.out] at ho10)); have n0_ := zO (Kd.N_elder' (by (with_reducible repeat (first | apply yB | apply yC | apply yD)); exact HO_5.out) (Kd.R_base ho10) hb); have n1_ := zO (yA (Kd.R_newM (M := fun k_ => (w.heap.size ≤ k_)) ho10 (zD (by repeat (first | exact HB.out | apply zA | apply zL | apply zB))) (fun k_ h_ => h_)) (zD (by repeat (first | exact HB.out | apply zA | apply zL | apply zB)))); have n2_ := zO (zE (by repeat (first | exact HB.out | apply zA | apply zL | apply zB)) hb); clear HO_5; clear HB; have HO_5 := n0_; have HO176 := n1_; have HB := n2_; clear n0_ n1_ n2_; clear hb ho10))
    repeat (go_quiet (first | ((with_reducible refine zN (N := 20) rfl ?_); refine Kd.R_lit (Kd.int .i64) _ 3 ?hg (N := 20) ?hd (xs := ([(-1), (-1), (-1), (-1)] : List Int)) (inner := [.int .i64 (-1), .int .i64 (-1), .int .i64 (-1), .int .i64 (-1)]) (ok := fun _ => True) (okp := fun _ => True) ?hr ?hp (fun _ hk => hk) trivial (Below.refl _ _) (Nat.le_refl _) (by simp) ?_; (case hd => rfl); (case hg => rfl); (case hr => first | (go_simp; done) | (go_simp; rfl)); (case hp => exact (Reps.one (show Kd.M (Kd.int .i64) _ _ _ (-1) [.int .i64 (-1)] from rfl) (Reps.one (show Kd.M (Kd.int .i64) _ _ _ (-1) [.int .i64 (-1)] from rfl) (Reps.one (show Kd.M (Kd.int .i64) _ _ _ (-1) [.int .i64 (-1)] from rfl) (Reps.one (show Kd.M (Kd.int .i64) _ _ _ (-1) [.int .i64 (-1)] from rfl) (Reps.none _ _)))))); intro v175 w9 ho10 hb hg_ hnew_; clear hg_ hnew_; (first | rw [← Ny174.out] at ho10 | (simp only [Int.reduceToNat] at ho10; rw [← Ny174.out] at ho10)); have n0_ := zO (Kd.N_elder' (by (with_reducible repeat (first | apply yB | apply yC | apply yD)); exact HO_5.out) (Kd.R_base ho10) hb); have n1_ := zO (yA (Kd.R_newM (M := fun k_ => (w.heap.size ≤ k_)) ho10 (zD (by repeat (first | exact HB.out | apply zA | apply zL | apply zB))) (fun k_ h_ => h_)) (zD (by repeat (first | exact HB.out | apply zA | apply zL | apply zB)))); have n2_ := zO (zE (by repeat (first | exact HB.out | apply zA | apply zL | apply zB)) hb); clear HO_5; clear HB; have HO_5 := n0_; have HO176 := n1_; have HB := n2_; clear n0_ n1_ n2_; clear hb ho10)); try go_wp2_with (first | ((with_reducible refine zN (N := 20) rfl ?_); refine Kd.R_lit (Kd.int .i64) _ 3 ?hg (N := 20) ?hd (xs := ([(-1), (-1), (-1), (-1)] : List Int)) (inner := [.int .i64 (-1), .int .i64 (-1), .int .i64 (-1), .int .i64 (-1)]) (ok := fun _ => True) (okp := fun _ => True) ?hr ?hp (fun _ hk => hk) trivial (Below.refl _ _) (Nat.le_refl _) (by simp) ?_; (case hd => rfl); (case hg => rfl); (case hr => first | (go_simp; done) | (go_simp; rfl)); (case hp => exact (Reps.one (show Kd.M (Kd.int .i64) _ _ _ (-1) [.int .i64 (-1)] from rfl) (Reps.one (show Kd.M (Kd.int .i64) _ _ _ (-1) [.int .i64 (-1)] from rfl) (Reps.one (show Kd.M (Kd.int .i64) _ _ _ (-1) [.int .i64 (-1)] from rfl) (Reps.one (show Kd.M (Kd.int .i64) _ _ _ (-1) [.int .i64 (-1)] from rfl) (Reps.none _ _)))))); intro v175 w9 ho10 hb hg_ hnew_; clear hg_ hnew_; (first | rw [← Ny174.out] at ho10 | (simp only [Int.reduceToNat] at ho10; rw [← Ny174.out] at ho10)); have n0_ := zO (Kd.N_elder' (by (with_reducible repeat (first | apply yB | apply yC | apply yD)); exact HO_5.out) (Kd.R_base ho10) hb); have n1_ := zO (yA (Kd.R_newM (M := fun k_ => (w.heap.size ≤ k_)) ho10 (zD (by repeat (first | exact HB.out | apply zA | apply zL | apply zB))) (fun k_ h_ => h_)) (zD (by repeat (first | exact HB.out | apply zA | apply zL | apply zB)))); have n2_ := zO (zE (by repeat (first | exact HB.out | apply zA | apply zL | apply zB)) hb); clear HO_5; clear HB; have HO_5 := n0_; have HO176 := n1_; have HB := n2_; clear n0_ n1_ n2_; clear hb ho10)))
    go_loopg [8] k1 (fun kq v8 w' => ∃ (x7_2 : List Int) (x8_2 : Int), v8 = .int .i64 x8_2 ∧ Aside0 (spec_l7Costs.l1 kq l0 a1 x5_1 x6_1 x7_2 x8_2 = some r) ∧ Aside0 (kq ≤ k1) ∧ Aside0 (Kd.N (Kd.slice 3 (Kd.int .i64)) 22 w' w.heap.size (fun k_ => (w.heap.size ≤ k_) ∧ some k_ ≠ (v175 : Value).ownBlock) u5 x5_1) ∧ Aside0 (Kd.R (Kd.int .i64) 3 w' w.heap.size (fun k_ => (w.heap.size ≤ k_)) v175 x7_2) ∧ Aside0 (Below w.heap.size w w'))
    case atStart => exact ⟨(y174), (0), (by first | rfl | (simp; done) | (simp [*]; done)), H', ⟨Nat.le_refl _⟩, ⟨by (with_reducible repeat (first | apply yB | apply yC | apply yD)); exact HO_5.out⟩, ⟨by (with_reducible repeat (first | apply zU | apply zW | apply zV)); exact Kd.R_mono HO176.out (fun _ hk => hk.1)⟩, ⟨by repeat (first | exact HB.out | apply zA | apply zL | apply zB)⟩⟩
    case round =>
     clear H'
     try clear c1
     try clear p2
     try clear p6
     try clear c8
     try clear c8b0
     try clear c10
     try clear p2
     obtain ⟨x7_2, x8_2, rfl, HA, HK2, HO_5, HO_7, HB⟩ := hrel
     cases gk with
     | zero => exact absurd HA.out (by simp [spec_l7Costs.l1])
     | succ k2 =>
      have H := HA.out
      clear HA
      simp only [spec_l7Costs.l1] at H
      by_cases c11 : x8_2 < 4
      ·rw [if_pos c11] at H
       have c11b0 : decide (x8_2 < 4) = true := decide_eq_true c11
       clear c11
       have H' := zO H
       clear H
       go_wp2
       repeat (go_quiet (fail); try go_wp2)
       go_loopg [9] k2 (fun kq v9 w' => ∃ (x7_3 : List Int) (x9_3 : Int), v9 = .int .i64 x9_3 ∧ Aside0 (spec_l7Costs.l2 kq l0 a1 x5_1 x6_1 x7_3 x8_2 x9_3 = some r) ∧ Aside0 (kq ≤ k2) ∧ Aside0 (Kd.N (Kd.slice 3 (Kd.int .i64)) 22 w' w.heap.size (fun k_ => (w.heap.size ≤ k_) ∧ some k_ ≠ (v175 : Value).ownBlock) u5 x5_1) ∧ Aside0 (Kd.R (Kd.int .i64) 3 w' w.heap.size (fun k_ => (w.heap.size ≤ k_)) v175 x7_3) ∧ Aside0 (Below w.heap.size w w'))
       case atStart => exact ⟨(x7_2), (0), (by first | rfl | (simp; done) | (simp [*]; done)), H', ⟨Nat.le_refl _⟩, ⟨by (with_reducible repeat (first | apply yB | apply yC | apply yD)); exact HO_5.out⟩, ⟨by (with_reducible repeat (first | apply zU | apply zW | apply zV)); exact HO_7.out⟩, ⟨by repeat (first | exact HB.out | apply zA | apply zL | apply zB)⟩⟩
       case round =>
        clear H'
        try clear c1
        try clear p2
        try clear p6
        try clear c8
        try clear c8b0
        try clear c10
        try clear c11
        try clear c11b0
        try clear p2
        try clear p6
        obtain ⟨x7_3, x9_3, rfl, HA, HK3, HO_5, HO_7, HB⟩ := hrel
        cases gk with
        | zero => exact absurd HA.out (by simp [spec_l7Costs.l2])
        | succ k3 =>
         have H := HA.out
         clear HA
         simp only [spec_l7Costs.l2] at H
         by_cases c12 : x9_3 < 2
         ·rw [if_pos c12] at H
          have c12b0 : decide (x9_3 < 2) = true := decide_eq_true c12
          clear c12
          have HC13 := zO H
          clear H
          go_upto_region 12 with (fail)
          repeat (go_quiet (fail); go_upto_region 12 with (fail))
          go_cut [45] (fun v45 wc => ∃ (kq : Nat) (x45_12 : Bool), v45 = .bool x45_12 ∧ Aside0 (spec_l7Costs.j3 kq l0 a1 x5_1 x6_1 x7_3 x8_2 x9_3 x45_12 = some r) ∧ Aside0 (kq ≤ k3) ∧ Aside0 (Kd.N (Kd.slice 3 (Kd.int .i64)) 22 wc w.heap.size (fun k_ => (w.heap.size ≤ k_) ∧ some k_ ≠ (v175 : Value).ownBlock) u5 x5_1) ∧ Aside0 (Kd.R (Kd.int .i64) 3 wc w.heap.size (fun k_ => (w.heap.size ≤ k_)) v175 x7_3) ∧ Aside0 (Below w.heap.size w wc))
          case first =>
           have H := HC13.out
           clear HC13
           by_cases c14 : 0 ≤ x6_1
           case neg => rw [if_neg c14] at H; exact absurd H (by simp)
           rw [if_pos c14] at H
           have c14b0 : decide (0 ≤ x6_1) = true := decide_eq_true c14
           clear c14
           (first | rw [c14b0] | (simp only [i64_w, i32_w]; rw [c14b0]) | skip)
           by_cases c15 : x6_1 < (x5_1.length : Int)
           case neg => rw [if_neg c15] at H; exact absurd H (by simp)
           rw [if_pos c15] at H
           have c15b0 : decide (x6_1 < (x5_1.length : Int)) = true := decide_eq_true c15
           clear c15
           by_cases c16 : 0 ≤ x8_2
           case neg => rw [if_neg c16] at H; exact absurd H (by simp)
           rw [if_pos c16] at H
           have c16b0 : decide (0 ≤ x8_2) = true := decide_eq_true c16
           clear c16
           by_cases c17 : x8_2 < ((rd_L2 x5_1 x6_1).length : Int)
           case neg => rw [if_neg c17] at H; exact absurd H (by simp)
           rw [if_pos c17] at H
           have c17b0 : decide (x8_2 < ((rd_L2 x5_1 x6_1).length : Int)) = true := decide_eq_true c17
           clear c17
           by_cases c18 : (rd (rd_L2 x5_1 x6_1) x8_2) < 0
           ·rw [if_pos c18] at H
            have c18b0 : decide ((rd (rd_L2 x5_1 x6_1) x8_2) < 0) = true := decide_eq_true c18
            clear c18
            have H' := zO H
            clear H
            obtain ⟨Ao19, co19, eo19⟩ := Kd.N_slice HO_5.out
            subst eo19
            have p180 : 0 ≤ (x6_1 : Int) := yO (by assumption)
            have q180 : x6_1 < (x5_1.length : Int) := yO (by assumption)
            obtain ⟨ad180, A180_0, c180_0, e180, hx180_0, hl180_0, hi180_0⟩ := at_L2 (Kd.N_reads' HO_5.out).2.2 x6_1 p180 q180
            cases e180
            obtain ⟨ce180, hce180, hMe180, hcc180⟩ := Kd.N_get HO_5.out [] x6_1 p180 (by first | exact q180 | exact yO (by assumption) | (have e_ := (Kd.N_reads' HO_5.out).1; omega))
            obtain ⟨ua180_0, uc180_0, rfl, ul180_0, ge180_0⟩ := Kd.FK_slice_open hMe180
            have hv180_0 := hcc180 0 _ rfl
            rw [Nat.add_zero, show ((Kd.slice 3 (Kd.int .i64))).sz = 1 from rfl, Nat.mul_one] at hv180_0
            replace hv180_0 := Option.some.inj (hv180_0.symm.trans hx180_0)
            injection hv180_0 with hva_ hvn_ hvc_
            rw [hva_] at ge180_0
            rw [hvc_] at ul180_0
            have HL180_0 := zO (show Kd.V (Kd.int .i64) 3 _ w.heap.size _ _ (rd_L2 x5_1 x6_1) from Kd.V_mk ul180_0 ge180_0)
            clear hva_ hvn_ hvc_ ge180_0 ul180_0
            clear hcc180 hce180
            have HR180_0 := zO hi180_0
            have HC180_0 := zO hl180_0
            clear hi180_0 hl180_0
            replace p180 := eq_true p180
            replace q180 := eq_true q180
            have p181 : 0 ≤ (x8_2 : Int) := yO (by assumption)
            have q181 : x8_2 < ((rd_L2 x5_1 x6_1).length : Int) := yO (by assumption)
            obtain ⟨ad181, e181, hx181_0⟩ := Kd.at_int (by repeat (first | (with_reducible exact HR180_0.out) | (with_reducible refine zR ?_ _) | (with_reducible refine zT ?_ _) | (with_reducible refine zS ?_) | exact HR180_0.out)) x8_2 p181 q181
            cases e181
            replace p181 := eq_true p181
            replace q181 := eq_true q181
            go_wp2
            repeat (go_quiet (fail); try go_wp2)
            go_meet
            case rel => exact ⟨_, (true), (by first | rfl | (simp; done) | (simp [*]; done)), H', ⟨by have := HK1.out; have := HK2.out; have := HK3.out; first | omega | exact Nat.le_refl _⟩, ⟨by (with_reducible repeat (first | apply yB | apply yC | apply yD)); exact HO_5.out⟩, ⟨by (with_reducible repeat (first | apply zU | apply zW | apply zV)); exact HO_7.out⟩, ⟨by repeat (first | exact HB.out | apply zA | apply zL | apply zB)⟩⟩
           ·rw [if_neg c18] at H
            have c18b0 : decide ((rd (rd_L2 x5_1 x6_1) x8_2) < 0) = false := decide_eq_false c18
            clear c18
            by_cases c20 : x9_3 = 1
            ·rw [if_pos c20] at H
             have c20b0 : (x9_3 == 1) = true := beq_iff_eq.mpr c20
             have c20b1 : (x9_3 != 1) = false := bne_eq_false_iff_eq.mpr c20
             clear c20
             have H' := zO H
             clear H
             obtain ⟨Ao21, co21, eo21⟩ := Kd.N_slice HO_5.out
             subst eo21
             have p180 : 0 ≤ (x6_1 : Int) := yO (by assumption)
             have q180 : x6_1 < (x5_1.length : Int) := yO (by assumption)
             obtain ⟨ad180, A180_0, c180_0, e180, hx180_0, hl180_0, hi180_0⟩ := at_L2 (Kd.N_reads' HO_5.out).2.2 x6_1 p180 q180
             cases e180
             obtain ⟨ce180, hce180, hMe180, hcc180⟩ := Kd.N_get HO_5.out [] x6_1 p180 (by first | exact q180 | exact yO (by assumption) | (have e_ := (Kd.N_reads' HO_5.out).1; omega))
             obtain ⟨ua180_0, uc180_0, rfl, ul180_0, ge180_0⟩ := Kd.FK_slice_open hMe180
             have hv180_0 := hcc180 0 _ rfl
             rw [Nat.add_zero, show ((Kd.slice 3 (Kd.int .i64))).sz = 1 from rfl, Nat.mul_one] at hv180_0
             replace hv180_0 := Option.some.inj (hv180_0.symm.trans hx180_0)
             injection hv180_0 with hva_ hvn_ hvc_
             rw [hva_] at ge180_0
             rw [hvc_] at ul180_0
             have HL180_0 := zO (show Kd.V (Kd.int .i64) 3 _ w.heap.size _ _ (rd_L2 x5_1 x6_1) from Kd.V_mk ul180_0 ge180_0)
             clear hva_ hvn_ hvc_ ge180_0 ul180_0
             clear hcc180 hce180
             have HR180_0 := zO hi180_0
             have HC180_0 := zO hl180_0
             clear hi180_0 hl180_0
             replace p180 := eq_true p180
             replace q180 := eq_true q180
             have p181 : 0 ≤ (x8_2 : Int) := yO (by assumption)
             have q181 : x8_2 < ((rd_L2 x5_1 x6_1).length : Int) := yO (by assumption)
             obtain ⟨ad181, e181, hx181_0⟩ := Kd.at_int (by repeat (first | (with_reducible exact HR180_0.out) | (with_reducible refine zR ?_ _) | (with_reducible refine zT ?_ _) | (with_reducible refine zS ?_) | exact HR180_0.out)) x8_2 p181 q181
             cases e181
             replace p181 := eq_true p181
             replace q181 := eq_true q181
             go_wp2
             repeat (go_quiet (fail); try go_wp2)
             go_meet
             case rel => exact ⟨_, (decide (x6_1 ≥ a1)), (by first | rfl | (simp; done) | (simp [*]; done)), H', ⟨by have := HK1.out; have := HK2.out; have := HK3.out; first | omega | exact Nat.le_refl _⟩, ⟨by (with_reducible repeat (first | apply yB | apply yC | apply yD)); exact HO_5.out⟩, ⟨by (with_reducible repeat (first | apply zU | apply zW | apply zV)); exact HO_7.out⟩, ⟨by repeat (first | exact HB.out | apply zA | apply zL | apply zB)⟩⟩
            ·rw [if_neg c20] at H
             have c20b0 : (x9_3 == 1) = false := beq_eq_false_iff_ne.mpr c20
             have c20b1 : (x9_3 != 1) = true := bne_iff_ne.mpr c20
             have H' := zO H
             clear H
             obtain ⟨Ao22, co22, eo22⟩ := Kd.N_slice HO_5.out
             subst eo22
             have p180 : 0 ≤ (x6_1 : Int) := yO (by assumption)
             have q180 : x6_1 < (x5_1.length : Int) := yO (by assumption)
             obtain ⟨ad180, A180_0, c180_0, e180, hx180_0, hl180_0, hi180_0⟩ := at_L2 (Kd.N_reads' HO_5.out).2.2 x6_1 p180 q180
             cases e180
             obtain ⟨ce180, hce180, hMe180, hcc180⟩ := Kd.N_get HO_5.out [] x6_1 p180 (by first | exact q180 | exact yO (by assumption) | (have e_ := (Kd.N_reads' HO_5.out).1; omega))
             obtain ⟨ua180_0, uc180_0, rfl, ul180_0, ge180_0⟩ := Kd.FK_slice_open hMe180
             have hv180_0 := hcc180 0 _ rfl
             rw [Nat.add_zero, show ((Kd.slice 3 (Kd.int .i64))).sz = 1 from rfl, Nat.mul_one] at hv180_0
             replace hv180_0 := Option.some.inj (hv180_0.symm.trans hx180_0)
             injection hv180_0 with hva_ hvn_ hvc_
             rw [hva_] at ge180_0
             rw [hvc_] at ul180_0
             have HL180_0 := zO (show Kd.V (Kd.int .i64) 3 _ w.heap.size _ _ (rd_L2 x5_1 x6_1) from Kd.V_mk ul180_0 ge180_0)
             clear hva_ hvn_ hvc_ ge180_0 ul180_0
             clear hcc180 hce180
             have HR180_0 := zO hi180_0
             have HC180_0 := zO hl180_0
             clear hi180_0 hl180_0
             replace p180 := eq_true p180
             replace q180 := eq_true q180
             have p181 : 0 ≤ (x8_2 : Int) := yO (by assumption)
             have q181 : x8_2 < ((rd_L2 x5_1 x6_1).length : Int) := yO (by assumption)
             obtain ⟨ad181, e181, hx181_0⟩ := Kd.at_int (by repeat (first | (with_reducible exact HR180_0.out) | (with_reducible refine zR ?_ _) | (with_reducible refine zT ?_ _) | (with_reducible refine zS ?_) | exact HR180_0.out)) x8_2 p181 q181
             cases e181
             replace p181 := eq_true p181
             replace q181 := eq_true q181
             go_wp2
             repeat (go_quiet (fail); try go_wp2)
             go_meet
             case rel => exact ⟨_, (false), (by first | rfl | (simp; done) | (simp [*]; done)), H', ⟨by have := HK1.out; have := HK2.out; have := HK3.out; first | omega | exact Nat.le_refl _⟩, ⟨by (with_reducible repeat (first | apply yB | apply yC | apply yD)); exact HO_5.out⟩, ⟨by (with_reducible repeat (first | apply zU | apply zW | apply zV)); exact HO_7.out⟩, ⟨by repeat (first | exact HB.out | apply zA | apply zL | apply zB)⟩⟩
          case rest =>
           clear HC13
           try clear c1
           try clear p1
           try clear q1
           try clear hx1
           try clear c2
           try clear p2
           try clear p6
           try clear c8
           try clear c8b0
           try clear c10
           try clear c11
           try clear c11b0
           try clear c12
           try clear c12b0
           try clear c14
           try clear c14b0
           try clear c15
           try clear c15b0
           try clear c16
           try clear c16b0
           try clear c17
           try clear c17b0
           try clear c18
           try clear c18b0
           try clear p18
           try clear q18
           try clear hx18
           try clear c20
           try clear c20b0
           try clear c20b1
           try clear hx180_0
           try clear hx181_0
           try clear p180
           try clear p181
           try clear p2
           try clear p6
           try clear q180
           try clear q181
           obtain ⟨kq, x45_12, rfl, HA, HJ12, HO_5, HO_7, HB⟩ := hcut
           cases kq with
           | zero => exact absurd HA.out (by simp [spec_l7Costs.j3])
           | succ kj12 =>
            have H := HA.out
            clear HA
            simp only [spec_l7Costs.j3] at H
            by_cases c23 : x45_12 = true
            ·subst c23
             have H1 : (spec_l7Costs.l2 kj12 l0 a1 x5_1 x6_1 x7_3 x8_2 (wrap64 (x9_3 + 1))) = some r := by rw [if_pos rfl] at H; exact H
             clear H
             have H := H1
             clear H1
             have H' := zO H
             clear H
             go_wp2
             repeat (go_quiet (fail); try go_wp2)
             go_roundg kj12
             case measure => have := HK1.out; have := HK2.out; have := HK3.out; have := HJ12.out; omega
             case rel => exact ⟨(x7_3), (wrap64 (x9_3 + 1)), (by first | rfl | (simp; done) | (simp [*]; done)), H', ⟨by have := HK1.out; have := HK2.out; have := HK3.out; have := HJ12.out; omega⟩, ⟨by (with_reducible repeat (first | apply yB | apply yC | apply yD)); exact HO_5.out⟩, ⟨by (with_reducible repeat (first | apply zU | apply zW | apply zV)); exact HO_7.out⟩, ⟨by repeat (first | exact HB.out | apply zA | apply zL | apply zB)⟩⟩
            ·replace c23 := Bool.eq_false_iff.mpr c23
             subst c23
             have H1 : (if 0 ≤ x6_1 then (if x6_1 < (x5_1.length : Int) then (if 0 ≤ x8_2 then (if x8_2 < ((rd_L2 x5_1 x6_1).length : Int) then (if 0 ≤ (wrap64 (2 * x6_1)) then (if (wrap64 (2 * x6_1)) < (l0.length : Int) then (if 0 ≤ (wrap64 ((wrap64 (2 * x6_1)) + 1)) then (if (wrap64 ((wrap64 (2 * x6_1)) + 1)) < (l0.length : Int) then ((spec_BranchDistance.f kj12 x8_2 x9_3 (rd l0 (wrap64 (2 * x6_1))) (rd l0 (wrap64 ((wrap64 (2 * x6_1)) + 1)))).bind fun t186 => ((spec_NextState.f x8_2 x9_3).bind fun t187 => (if 0 ≤ t187 then (if t187 < (x7_3.length : Int) then (if (rd x7_3 t187) < 0 then (spec_l7Costs.l2 kj12 l0 a1 x5_1 x6_1 (x7_3.set (t187 : Int).toNat (wrap64 ((rd (rd_L2 x5_1 x6_1) x8_2) + t186))) x8_2 (wrap64 (x9_3 + 1))) else (if (wrap64 ((rd (rd_L2 x5_1 x6_1) x8_2) + t186)) < (rd x7_3 t187) then (spec_l7Costs.l2 kj12 l0 a1 x5_1 x6_1 (x7_3.set (t187 : Int).toNat (wrap64 ((rd (rd_L2 x5_1 x6_1) x8_2) + t186))) x8_2 (wrap64 (x9_3 + 1))) else (spec_l7Costs.l2 kj12 l0 a1 x5_1 x6_1 x7_3 x8_2 (wrap64 (x9_3 + 1))))) else (none)) else (none)))) else (none)) else (none)) else (none)) else (none)) else (none)) else (none)) else (none)) else (none)) = some r := by rw [if_neg (show ¬ (false = true) by decide)] at H; exact H
             clear H
             have H := H1
             clear H1
             by_cases c24 : 0 ≤ x6_1
             case neg => rw [if_neg c24] at H; exact absurd H (by simp)
             rw [if_pos c24] at H
             have c24b0 : decide (0 ≤ x6_1) = true := decide_eq_true c24
             clear c24
             by_cases c25 : x6_1 < (x5_1.length : Int)
             case neg => rw [if_neg c25] at H; exact absurd H (by simp)
             rw [if_pos c25] at H
             have c25b0 : decide (x6_1 < (x5_1.length : Int)) = true := decide_eq_true c25
             clear c25
             by_cases c26 : 0 ≤ x8_2
             case neg => rw [if_neg c26] at H; exact absurd H (by simp)
             rw [if_pos c26] at H
             have c26b0 : decide (0 ≤ x8_2) = true := decide_eq_true c26
             clear c26
             by_cases c27 : x8_2 < ((rd_L2 x5_1 x6_1).length : Int)
             case neg => rw [if_neg c27] at H; exact absurd H (by simp)
             rw [if_pos c27] at H
             have c27b0 : decide (x8_2 < ((rd_L2 x5_1 x6_1).length : Int)) = true := decide_eq_true c27
             clear c27
             obtain ⟨ji28, hji28⟩ : ∃ j_ : Int, (wrap64 (2 * x6_1)) = j_ := ⟨_, rfl⟩
             replace H : (if 0 ≤ (ji28) then (if (ji28) < (l0.length : Int) then (if 0 ≤ (wrap64 ((ji28) + 1)) then (if (wrap64 ((ji28) + 1)) < (l0.length : Int) then ((spec_BranchDistance.f kj12 x8_2 x9_3 (rd l0 (ji28)) (rd l0 (wrap64 ((ji28) + 1)))).bind fun t186 => ((spec_NextState.f x8_2 x9_3).bind fun t187 => (if 0 ≤ t187 then (if t187 < (x7_3.length : Int) then (if (rd x7_3 t187) < 0 then (spec_l7Costs.l2 kj12 l0 a1 x5_1 x6_1 (x7_3.set (t187 : Int).toNat (wrap64 ((rd (rd_L2 x5_1 x6_1) x8_2) + t186))) x8_2 (wrap64 (x9_3 + 1))) else (if (wrap64 ((rd (rd_L2 x5_1 x6_1) x8_2) + t186)) < (rd x7_3 t187) then (spec_l7Costs.l2 kj12 l0 a1 x5_1 x6_1 (x7_3.set (t187 : Int).toNat (wrap64 ((rd (rd_L2 x5_1 x6_1) x8_2) + t186))) x8_2 (wrap64 (x9_3 + 1))) else (spec_l7Costs.l2 kj12 l0 a1 x5_1 x6_1 x7_3 x8_2 (wrap64 (x9_3 + 1))))) else (none)) else (none)))) else (none)) else (none)) else (none)) else (none)) = some r := by first | (rw [hji28] at H; exact H) | (simp only [hji28] at H ⊢; exact H)
             have hji28w : (IntKind.i64.wrap (2 * x6_1)) = ji28 := (i64_w _).trans hji28
             by_cases c29 : 0 ≤ (ji28)
             case neg => rw [if_neg c29] at H; exact absurd H (by simp)
             rw [if_pos c29] at H
             have c29b0 : decide (0 ≤ (ji28)) = true := decide_eq_true c29
             clear c29
             by_cases c30 : (ji28) < (l0.length : Int)
             case neg => rw [if_neg c30] at H; exact absurd H (by simp)
             rw [if_pos c30] at H
             have c30b0 : decide ((ji28) < (l0.length : Int)) = true := decide_eq_true c30
             clear c30
             obtain ⟨ji31, hji31⟩ : ∃ j_ : Int, (wrap64 ((ji28) + 1)) = j_ := ⟨_, rfl⟩
             replace H : (if 0 ≤ (ji31) then (if (ji31) < (l0.length : Int) then ((spec_BranchDistance.f kj12 x8_2 x9_3 (rd l0 (ji28)) (rd l0 (ji31))).bind fun t186 => ((spec_NextState.f x8_2 x9_3).bind fun t187 => (if 0 ≤ t187 then (if t187 < (x7_3.length : Int) then (if (rd x7_3 t187) < 0 then (spec_l7Costs.l2 kj12 l0 a1 x5_1 x6_1 (x7_3.set (t187 : Int).toNat (wrap64 ((rd (rd_L2 x5_1 x6_1) x8_2) + t186))) x8_2 (wrap64 (x9_3 + 1))) else (if (wrap64 ((rd (rd_L2 x5_1 x6_1) x8_2) + t186)) < (rd x7_3 t187) then (spec_l7Costs.l2 kj12 l0 a1 x5_1 x6_1 (x7_3.set (t187 : Int).toNat (wrap64 ((rd (rd_L2 x5_1 x6_1) x8_2) + t186))) x8_2 (wrap64 (x9_3 + 1))) else (spec_l7Costs.l2 kj12 l0 a1 x5_1 x6_1 x7_3 x8_2 (wrap64 (x9_3 + 1))))) else (none)) else (none)))) else (none)) else (none)) = some r := by first | (rw [hji31] at H; exact H) | (simp only [hji31] at H ⊢; exact H)
             have hji31w : (IntKind.i64.wrap ((ji28) + 1)) = ji31 := (i64_w _).trans hji31
             by_cases c32 : 0 ≤ (ji31)
             case neg => rw [if_neg c32] at H; exact absurd H (by simp)
             rw [if_pos c32] at H
             have c32b0 : decide (0 ≤ (ji31)) = true := decide_eq_true c32
             clear c32
             by_cases c33 : (ji31) < (l0.length : Int)
             case neg => rw [if_neg c33] at H; exact absurd H (by simp)
             rw [if_pos c33] at H
             have c33b0 : decide ((ji31) < (l0.length : Int)) = true := decide_eq_true c33
             clear c33
             replace H := yE.mp H
             obtain ⟨t186, A340, H⟩ := H
             replace H : ((spec_NextState.f x8_2 x9_3).bind fun t187 => (if 0 ≤ t187 then (if t187 < (x7_3.length : Int) then (if (rd x7_3 t187) < 0 then (spec_l7Costs.l2 kj12 l0 a1 x5_1 x6_1 (x7_3.set (t187 : Int).toNat (wrap64 ((rd (rd_L2 x5_1 x6_1) x8_2) + t186))) x8_2 (wrap64 (x9_3 + 1))) else (if (wrap64 ((rd (rd_L2 x5_1 x6_1) x8_2) + t186)) < (rd x7_3 t187) then (spec_l7Costs.l2 kj12 l0 a1 x5_1 x6_1 (x7_3.set (t187 : Int).toNat (wrap64 ((rd (rd_L2 x5_1 x6_1) x8_2) + t186))) x8_2 (wrap64 (x9_3 + 1))) else (spec_l7Costs.l2 kj12 l0 a1 x5_1 x6_1 x7_3 x8_2 (wrap64 (x9_3 + 1))))) else (none)) else (none))) = some r := H
             have A34 := zO A340
             clear A340
             replace H := yE.mp H
             obtain ⟨t187, A350, H⟩ := H
             replace H : (if 0 ≤ t187 then (if t187 < (x7_3.length : Int) then (if (rd x7_3 t187) < 0 then (spec_l7Costs.l2 kj12 l0 a1 x5_1 x6_1 (x7_3.set (t187 : Int).toNat (wrap64 ((rd (rd_L2 x5_1 x6_1) x8_2) + t186))) x8_2 (wrap64 (x9_3 + 1))) else (if (wrap64 ((rd (rd_L2 x5_1 x6_1) x8_2) + t186)) < (rd x7_3 t187) then (spec_l7Costs.l2 kj12 l0 a1 x5_1 x6_1 (x7_3.set (t187 : Int).toNat (wrap64 ((rd (rd_L2 x5_1 x6_1) x8_2) + t186))) x8_2 (wrap64 (x9_3 + 1))) else (spec_l7Costs.l2 kj12 l0 a1 x5_1 x6_1 x7_3 x8_2 (wrap64 (x9_3 + 1))))) else (none)) else (none)) = some r := H
             have A35 := zO A350
             clear A350
             by_cases c36 : 0 ≤ t187
             case neg => rw [if_neg c36] at H; exact absurd H (by simp)
             rw [if_pos c36] at H
             have c36b0 : decide (0 ≤ t187) = true := decide_eq_true c36
             clear c36
             by_cases c37 : t187 < (x7_3.length : Int)
             case neg => rw [if_neg c37] at H; exact absurd H (by simp)
             rw [if_pos c37] at H
             have c37b0 : decide (t187 < (x7_3.length : Int)) = true := decide_eq_true c37
             clear c37
             by_cases c38 : (rd x7_3 t187) < 0
             ·rw [if_pos c38] at H
              have c38b0 : decide ((rd x7_3 t187) < 0) = true := decide_eq_true c38
              clear c38
              obtain ⟨y189, hy189⟩ : ∃ y_ : List Int, y_ = (x7_3.set (t187 : Int).toNat (wrap64 ((rd (rd_L2 x5_1 x6_1) x8_2) + t186))) := ⟨_, rfl⟩
              replace H : (spec_l7Costs.l2 kj12 l0 a1 x5_1 x6_1 y189 x8_2 (wrap64 (x9_3 + 1))) = some r := by first | (rw [hy189]; exact H) | exact H
              have Ny189 := zO hy189
              clear hy189
              have H' := zO H
              clear H
              obtain ⟨Ao40, co40, eo40⟩ := Kd.N_slice HO_5.out
              subst eo40
              have p182 : 0 ≤ (x6_1 : Int) := yO (by assumption)
              have q182 : x6_1 < (x5_1.length : Int) := yO (by assumption)
              obtain ⟨ad182, A182_0, c182_0, e182, hx182_0, hl182_0, hi182_0⟩ := at_L2 (Kd.N_reads' HO_5.out).2.2 x6_1 p182 q182
              cases e182
              obtain ⟨ce182, hce182, hMe182, hcc182⟩ := Kd.N_get HO_5.out [] x6_1 p182 (by first | exact q182 | exact yO (by assumption) | (have e_ := (Kd.N_reads' HO_5.out).1; omega))
              obtain ⟨ua182_0, uc182_0, rfl, ul182_0, ge182_0⟩ := Kd.FK_slice_open hMe182
              have hv182_0 := hcc182 0 _ rfl
              rw [Nat.add_zero, show ((Kd.slice 3 (Kd.int .i64))).sz = 1 from rfl, Nat.mul_one] at hv182_0
              replace hv182_0 := Option.some.inj (hv182_0.symm.trans hx182_0)
              injection hv182_0 with hva_ hvn_ hvc_
              rw [hva_] at ge182_0
              rw [hvc_] at ul182_0
              have HL182_0 := zO (show Kd.V (Kd.int .i64) 3 _ w.heap.size _ _ (rd_L2 x5_1 x6_1) from Kd.V_mk ul182_0 ge182_0)
              clear hva_ hvn_ hvc_ ge182_0 ul182_0
              clear hcc182 hce182
              have HR182_0 := zO hi182_0
              have HC182_0 := zO hl182_0
              clear hi182_0 hl182_0
              replace p182 := eq_true p182
              replace q182 := eq_true q182
              have p183 : 0 ≤ (x8_2 : Int) := yO (by assumption)
              have q183 : x8_2 < ((rd_L2 x5_1 x6_1).length : Int) := yO (by assumption)
              obtain ⟨ad183, e183, hx183_0⟩ := Kd.at_int (by repeat (first | (with_reducible exact HR182_0.out) | (with_reducible refine zR ?_ _) | (with_reducible refine zT ?_ _) | (with_reducible refine zS ?_) | exact HR182_0.out)) x8_2 p183 q183
              cases e183
              replace p183 := eq_true p183
              replace q183 := eq_true q183
              have p184 : 0 ≤ ((ji28) : Int) := yO (by assumption)
              have q184 : (ji28) < (l0.length : Int) := yO (by assumption)
              obtain ⟨ad184, e184, hx184_0⟩ := Kd.at_int HR0.out (ji28) p184 q184
              cases e184
              replace hx184_0 := (HB.out.cell (World.block_lt_of_cell? w _ hx184_0)).trans hx184_0
              replace p184 := eq_true p184
              replace q184 := eq_true q184
              have p185 : 0 ≤ ((ji31) : Int) := yO (by assumption)
              have q185 : (ji31) < (l0.length : Int) := yO (by assumption)
              obtain ⟨ad185, e185, hx185_0⟩ := Kd.at_int HR0.out (ji31) p185 q185
              obtain rfl : ad184 = ad185 := (by injection e185)
              replace hx185_0 := (HB.out.cell (World.block_lt_of_cell? w _ hx185_0)).trans hx185_0
              replace p185 := eq_true p185
              replace q185 := eq_true q185
              go_wp2_with (first | (go_at_call 152; (with_reducible refine (spec_BranchDistance.calls kj12 x8_2 x9_3 (rd l0 (ji28)) (rd l0 (ji31)) t186 _ A34.out).mono ?_); rintro e w' ⟨rfl, ⟨nd, rfl⟩⟩; (try first | exact ⟨rfl, _, yN _ _ _⟩ | exact ⟨rfl, _, yQ _ _ _ _⟩)) | (go_at_call 114; (with_reducible refine (spec_NextState.calls x8_2 x9_3 t187 _ A35.out).mono ?_); rintro e w' ⟨rfl, ⟨nd, rfl⟩⟩; (try first | exact ⟨rfl, _, yN _ _ _⟩ | exact ⟨rfl, _, yQ _ _ _ _⟩); obtain ⟨Ao41, co41, eo41⟩ := Kd.R_slice HO_7.out; subst eo41; have p188 : 0 ≤ (t187 : Int) := yO (by assumption); have q188 : t187 < (x7_3.length : Int) := yO (by assumption); obtain ⟨ad188, e188, hx188_0⟩ := Kd.at_int (zX HO_7.out).2.2 t187 p188 q188; cases e188; replace p188 := eq_true p188; replace q188 := eq_true q188; have p39 : 0 ≤ (t187 : Int) := yO (by assumption); have q39 : (t187 : Int) < ((x7_3.length : Int) : Int) := yO (by assumption); obtain ⟨go39, co39, eo39, gb39, gl39, cl39, HG39⟩ := Kd.R_form HO_7.out (by omega); (first | cases eo39 | (injection eo39 with ea_ en_ ec_; (first | subst ea_ | (injection ea_ with ea_; subst ea_)); subst ec_; clear en_)); have GB39 := zO gb39; have GG39 := zO HG39; clear gb39 gl39 HG39; (first | simp only [add_plain] at hx188_0 | skip); obtain ⟨hx39_0, hf39_0⟩ := Kd.R_celln 0 HO_7.out (t187 : Int) p39 q39; replace p39 := eq_true p39; replace q39 := eq_true q39; obtain ⟨hy42_, hz42_⟩ := Kd.R_celln 0 HO_7.out (t187 : Int) (yO (by assumption)) (yO (by assumption)); have HP42 := Kd.R_putg HO_7.out (t187 : Int) (wrap64 ((rd (rd_L2 x5_1 x6_1) x8_2) + t186))) | ((with_reducible refine gate_store (t := 3) (p := 87) rfl ?_); (try (rw [drewN_self wc]; generalize hq_ : World.drewN wc _ = wc; have n0_ := zO (Kd.N_at hq_ HO_5.out); have n1_ := zO (Kd.R_at hq_ HO_7.out); have n2_ := zO (Kd.V_at hq_ HL182_0.out); have n3_ := zO (below_at hq_ HB.out); clear hq_ HO_5 HO_7 HL182_0 HB; have HO_5 := n0_; have HO_7 := n1_; have HL182_0 := n2_; have HB := n3_; clear n0_ n1_ n2_ n3_; (try (obtain ⟨hy42_, hz42_⟩ := Kd.R_celln 0 HO_7.out (t187 : Int) (yO (by assumption)) (yO (by assumption)))); (try (have HP42 := Kd.R_putg HO_7.out (t187 : Int) (wrap64 ((rd (rd_L2 x5_1 x6_1) x8_2) + t186)))))); refine store_event (t := 3) (p := 87) (v := ?vo_w43) (w1 := (wc.setCell ⟨go39, (t187 : Int).toNat, none⟩ (.int .i64 (wrap64 ((rd (rd_L2 x5_1 x6_1) x8_2) + t186))))) ?hg ?ho ?hn ?hr ?_; (case ho => rfl); (case hg => rfl); (case hn => rfl); (case hr => first | (go_simp; done) | (go_simp; rfl)); intro w43 hw; have hg : wc.grownBy w43 (some go39) := (by rw [hw]; exact HP42.2); have hp_ : Kd.R (Kd.int .i64) 3 w43 w.heap.size (fun k_ => (w.heap.size ≤ k_)) (.slice (some ⟨go39, 0, none⟩) x7_3.length co41) y189 := (by rw [hw, Ny189.out]; exact HP42.1); clear HP42; have n0_ := zO (Kd.N_afterv (v := (.slice (some ⟨go39, 0, none⟩) x7_3.length co41)) (v1 := (.slice (some ⟨go39, 0, none⟩) x7_3.length co41)) (ok := (fun k_ => (w.heap.size ≤ k_))) (by (with_reducible repeat (first | apply yB | apply yC | apply yD)); exact HO_5.out) hg (.inl rfl)); have n1_ := zO (hp_); have n2_ := zO (Kd.V_afterv (v := (.slice (some ⟨go39, 0, none⟩) x7_3.length co41)) (v1 := (.slice (some ⟨go39, 0, none⟩) x7_3.length co41)) (ok := (fun k_ => (w.heap.size ≤ k_) ∧ some k_ ≠ (.slice (some ad182) x5_1.length co40 : Value).ownBlock)) (by (with_reducible repeat (first | apply Kd.V_alloc | apply Kd.V_drewN | apply Kd.V_drew)); exact Kd.V_mono HL182_0.out (fun _ hk => ⟨⟨hk.1.1, hk.2⟩, hk.1.2⟩)) hg (.inl rfl)); have n3_ := zO ((by rw [hw]; exact zC (HB.out) GB39.out : Below w.heap.size w w43)); clear HO_5; clear HO_7; clear HL182_0; clear HB; have HO_5 := n0_; have HO_7 := n1_; have HL182_0 := n2_; have HB := n3_; clear n0_ n1_ n2_ n3_; clear hg hw hp_))
              repeat (go_quiet (first | (go_at_call 152; (with_reducible refine (spec_BranchDistance.calls kj12 x8_2 x9_3 (rd l0 (ji28)) (rd l0 (ji31)) t186 _ A34.out).mono ?_); rintro e w' ⟨rfl, ⟨nd, rfl⟩⟩; (try first | exact ⟨rfl, _, yN _ _ _⟩ | exact ⟨rfl, _, yQ _ _ _ _⟩)) | (go_at_call 114; (with_reducible refine (spec_NextState.calls x8_2 x9_3 t187 _ A35.out).mono ?_); rintro e w' ⟨rfl, ⟨nd, rfl⟩⟩; (try first | exact ⟨rfl, _, yN _ _ _⟩ | exact ⟨rfl, _, yQ _ _ _ _⟩); obtain ⟨Ao41, co41, eo41⟩ := Kd.R_slice HO_7.out; subst eo41; have p188 : 0 ≤ (t187 : Int) := yO (by assumption); have q188 : t187 < (x7_3.length : Int) := yO (by assumption); obtain ⟨ad188, e188, hx188_0⟩ := Kd.at_int (zX HO_7.out).2.2 t187 p188 q188; cases e188; replace p188 := eq_true p188; replace q188 := eq_true q188; have p39 : 0 ≤ (t187 : Int) := yO (by assumption); have q39 : (t187 : Int) < ((x7_3.length : Int) : Int) := yO (by assumption); obtain ⟨go39, co39, eo39, gb39, gl39, cl39, HG39⟩ := Kd.R_form HO_7.out (by omega); (first | cases eo39 | (injection eo39 with ea_ en_ ec_; (first | subst ea_ | (injection ea_ with ea_; subst ea_)); subst ec_; clear en_)); have GB39 := zO gb39; have GG39 := zO HG39; clear gb39 gl39 HG39; (first | simp only [add_plain] at hx188_0 | skip); obtain ⟨hx39_0, hf39_0⟩ := Kd.R_celln 0 HO_7.out (t187 : Int) p39 q39; replace p39 := eq_true p39; replace q39 := eq_true q39; obtain ⟨hy42_, hz42_⟩ := Kd.R_celln 0 HO_7.out (t187 : Int) (yO (by assumption)) (yO (by assumption)); have HP42 := Kd.R_putg HO_7.out (t187 : Int) (wrap64 ((rd (rd_L2 x5_1 x6_1) x8_2) + t186))) | ((with_reducible refine gate_store (t := 3) (p := 87) rfl ?_); (try (rw [drewN_self wc]; generalize hq_ : World.drewN wc _ = wc; have n0_ := zO (Kd.N_at hq_ HO_5.out); have n1_ := zO (Kd.R_at hq_ HO_7.out); have n2_ := zO (Kd.V_at hq_ HL182_0.out); have n3_ := zO (below_at hq_ HB.out); clear hq_ HO_5 HO_7 HL182_0 HB; have HO_5 := n0_; have HO_7 := n1_; have HL182_0 := n2_; have HB := n3_; clear n0_ n1_ n2_ n3_; (try (obtain ⟨hy42_, hz42_⟩ := Kd.R_celln 0 HO_7.out (t187 : Int) (yO (by assumption)) (yO (by assumption)))); (try (have HP42 := Kd.R_putg HO_7.out (t187 : Int) (wrap64 ((rd (rd_L2 x5_1 x6_1) x8_2) + t186)))))); refine store_event (t := 3) (p := 87) (v := ?vo_w43) (w1 := (wc.setCell ⟨go39, (t187 : Int).toNat, none⟩ (.int .i64 (wrap64 ((rd (rd_L2 x5_1 x6_1) x8_2) + t186))))) ?hg ?ho ?hn ?hr ?_; (case ho => rfl); (case hg => rfl); (case hn => rfl); (case hr => first | (go_simp; done) | (go_simp; rfl)); intro w43 hw; have hg : wc.grownBy w43 (some go39) := (by rw [hw]; exact HP42.2); have hp_ : Kd.R (Kd.int .i64) 3 w43 w.heap.size (fun k_ => (w.heap.size ≤ k_)) (.slice (some ⟨go39, 0, none⟩) x7_3.length co41) y189 := (by rw [hw, Ny189.out]; exact HP42.1); clear HP42; have n0_ := zO (Kd.N_afterv (v := (.slice (some ⟨go39, 0, none⟩) x7_3.length co41)) (v1 := (.slice (some ⟨go39, 0, none⟩) x7_3.length co41)) (ok := (fun k_ => (w.heap.size ≤ k_))) (by (with_reducible repeat (first | apply yB | apply yC | apply yD)); exact HO_5.out) hg (.inl rfl)); have n1_ := zO (hp_); have n2_ := zO (Kd.V_afterv (v := (.slice (some ⟨go39, 0, none⟩) x7_3.length co41)) (v1 := (.slice (some ⟨go39, 0, none⟩) x7_3.length co41)) (ok := (fun k_ => (w.heap.size ≤ k_) ∧ some k_ ≠ (.slice (some ad182) x5_1.length co40 : Value).ownBlock)) (by (with_reducible repeat (first | apply Kd.V_alloc | apply Kd.V_drewN | apply Kd.V_drew)); exact Kd.V_mono HL182_0.out (fun _ hk => ⟨⟨hk.1.1, hk.2⟩, hk.1.2⟩)) hg (.inl rfl)); have n3_ := zO ((by rw [hw]; exact zC (HB.out) GB39.out : Below w.heap.size w w43)); clear HO_5; clear HO_7; clear HL182_0; clear HB; have HO_5 := n0_; have HO_7 := n1_; have HL182_0 := n2_; have HB := n3_; clear n0_ n1_ n2_ n3_; clear hg hw hp_)); try go_wp2_with (first | (go_at_call 152; (with_reducible refine (spec_BranchDistance.calls kj12 x8_2 x9_3 (rd l0 (ji28)) (rd l0 (ji31)) t186 _ A34.out).mono ?_); rintro e w' ⟨rfl, ⟨nd, rfl⟩⟩; (try first | exact ⟨rfl, _, yN _ _ _⟩ | exact ⟨rfl, _, yQ _ _ _ _⟩)) | (go_at_call 114; (with_reducible refine (spec_NextState.calls x8_2 x9_3 t187 _ A35.out).mono ?_); rintro e w' ⟨rfl, ⟨nd, rfl⟩⟩; (try first | exact ⟨rfl, _, yN _ _ _⟩ | exact ⟨rfl, _, yQ _ _ _ _⟩); obtain ⟨Ao41, co41, eo41⟩ := Kd.R_slice HO_7.out; subst eo41; have p188 : 0 ≤ (t187 : Int) := yO (by assumption); have q188 : t187 < (x7_3.length : Int) := yO (by assumption); obtain ⟨ad188, e188, hx188_0⟩ := Kd.at_int (zX HO_7.out).2.2 t187 p188 q188; cases e188; replace p188 := eq_true p188; replace q188 := eq_true q188; have p39 : 0 ≤ (t187 : Int) := yO (by assumption); have q39 : (t187 : Int) < ((x7_3.length : Int) : Int) := yO (by assumption); obtain ⟨go39, co39, eo39, gb39, gl39, cl39, HG39⟩ := Kd.R_form HO_7.out (by omega); (first | cases eo39 | (injection eo39 with ea_ en_ ec_; (first | subst ea_ | (injection ea_ with ea_; subst ea_)); subst ec_; clear en_)); have GB39 := zO gb39; have GG39 := zO HG39; clear gb39 gl39 HG39; (first | simp only [add_plain] at hx188_0 | skip); obtain ⟨hx39_0, hf39_0⟩ := Kd.R_celln 0 HO_7.out (t187 : Int) p39 q39; replace p39 := eq_true p39; replace q39 := eq_true q39; obtain ⟨hy42_, hz42_⟩ := Kd.R_celln 0 HO_7.out (t187 : Int) (yO (by assumption)) (yO (by assumption)); have HP42 := Kd.R_putg HO_7.out (t187 : Int) (wrap64 ((rd (rd_L2 x5_1 x6_1) x8_2) + t186))) | ((with_reducible refine gate_store (t := 3) (p := 87) rfl ?_); (try (rw [drewN_self wc]; generalize hq_ : World.drewN wc _ = wc; have n0_ := zO (Kd.N_at hq_ HO_5.out); have n1_ := zO (Kd.R_at hq_ HO_7.out); have n2_ := zO (Kd.V_at hq_ HL182_0.out); have n3_ := zO (below_at hq_ HB.out); clear hq_ HO_5 HO_7 HL182_0 HB; have HO_5 := n0_; have HO_7 := n1_; have HL182_0 := n2_; have HB := n3_; clear n0_ n1_ n2_ n3_; (try (obtain ⟨hy42_, hz42_⟩ := Kd.R_celln 0 HO_7.out (t187 : Int) (yO (by assumption)) (yO (by assumption)))); (try (have HP42 := Kd.R_putg HO_7.out (t187 : Int) (wrap64 ((rd (rd_L2 x5_1 x6_1) x8_2) + t186)))))); refine store_event (t := 3) (p := 87) (v := ?vo_w43) (w1 := (wc.setCell ⟨go39, (t187 : Int).toNat, none⟩ (.int .i64 (wrap64 ((rd (rd_L2 x5_1 x6_1) x8_2) + t186))))) ?hg ?ho ?hn ?hr ?_; (case ho => rfl); (case hg => rfl); (case hn => rfl); (case hr => first | (go_simp; done) | (go_simp; rfl)); intro w43 hw; have hg : wc.grownBy w43 (some go39) := (by rw [hw]; exact HP42.2); have hp_ : Kd.R (Kd.int .i64) 3 w43 w.heap.size (fun k_ => (w.heap.size ≤ k_)) (.slice (some ⟨go39, 0, none⟩) x7_3.length co41) y189 := (by rw [hw, Ny189.out]; exact HP42.1); clear HP42; have n0_ := zO (Kd.N_afterv (v := (.slice (some ⟨go39, 0, none⟩) x7_3.length co41)) (v1 := (.slice (some ⟨go39, 0, none⟩) x7_3.length co41)) (ok := (fun k_ => (w.heap.size ≤ k_))) (by (with_reducible repeat (first | apply yB | apply yC | apply yD)); exact HO_5.out) hg (.inl rfl)); have n1_ := zO (hp_); have n2_ := zO (Kd.V_afterv (v := (.slice (some ⟨go39, 0, none⟩) x7_3.length co41)) (v1 := (.slice (some ⟨go39, 0, none⟩) x7_3.length co41)) (ok := (fun k_ => (w.heap.size ≤ k_) ∧ some k_ ≠ (.slice (some ad182) x5_1.length co40 : Value).ownBlock)) (by (with_reducible repeat (first | apply Kd.V_alloc | apply Kd.V_drewN | apply Kd.V_drew)); exact Kd.V_mono HL182_0.out (fun _ hk => ⟨⟨hk.1.1, hk.2⟩, hk.1.2⟩)) hg (.inl rfl)); have n3_ := zO ((by rw [hw]; exact zC (HB.out) GB39.out : Below w.heap.size w w43)); clear HO_5; clear HO_7; clear HL182_0; clear HB; have HO_5 := n0_; have HO_7 := n1_; have HL182_0 := n2_; have HB := n3_; clear n0_ n1_ n2_ n3_; clear hg hw hp_)))
              go_roundg kj12
              case measure => have := HK1.out; have := HK2.out; have := HK3.out; have := HJ12.out; omega
              case rel => exact ⟨(y189), (wrap64 (x9_3 + 1)), (by first | rfl | (simp; done) | (simp [*]; done)), H', ⟨by have := HK1.out; have := HK2.out; have := HK3.out; have := HJ12.out; omega⟩, ⟨by first | ((with_reducible repeat (first | apply yB | apply yC | apply yD)); exact HO_5.out) | exact yC (Kd.N_afterv HO_5.out HP42.2 (.inl rfl)) _⟩, ⟨by first | ((with_reducible repeat (first | apply zU | apply zW | apply zV)); exact HO_7.out) | (rw [Ny189.out]; exact zW HP42.1 _)⟩, ⟨by first | ((repeat (first | exact HB.out | apply zA | apply zL | apply zB)); done) | exact zC (zL HB.out _) GB39.out⟩⟩
             ·rw [if_neg c38] at H
              have c38b0 : decide ((rd x7_3 t187) < 0) = false := decide_eq_false c38
              clear c38
              by_cases c44 : (wrap64 ((rd (rd_L2 x5_1 x6_1) x8_2) + t186)) < (rd x7_3 t187)
              ·rw [if_pos c44] at H
               have c44b0 : decide ((wrap64 ((rd (rd_L2 x5_1 x6_1) x8_2) + t186)) < (rd x7_3 t187)) = true := decide_eq_true c44
               clear c44
               obtain ⟨y191, hy191⟩ : ∃ y_ : List Int, y_ = (x7_3.set (t187 : Int).toNat (wrap64 ((rd (rd_L2 x5_1 x6_1) x8_2) + t186))) := ⟨_, rfl⟩
               replace H : (spec_l7Costs.l2 kj12 l0 a1 x5_1 x6_1 y191 x8_2 (wrap64 (x9_3 + 1))) = some r := by first | (rw [hy191]; exact H) | exact H
               have Ny191 := zO hy191
               clear hy191
               have H' := zO H
               clear H
               obtain ⟨Ao46, co46, eo46⟩ := Kd.N_slice HO_5.out
               subst eo46
               have p182 : 0 ≤ (x6_1 : Int) := yO (by assumption)
               have q182 : x6_1 < (x5_1.length : Int) := yO (by assumption)
               obtain ⟨ad182, A182_0, c182_0, e182, hx182_0, hl182_0, hi182_0⟩ := at_L2 (Kd.N_reads' HO_5.out).2.2 x6_1 p182 q182
               cases e182
               obtain ⟨ce182, hce182, hMe182, hcc182⟩ := Kd.N_get HO_5.out [] x6_1 p182 (by first | exact q182 | exact yO (by assumption) | (have e_ := (Kd.N_reads' HO_5.out).1; omega))
               obtain ⟨ua182_0, uc182_0, rfl, ul182_0, ge182_0⟩ := Kd.FK_slice_open hMe182
               have hv182_0 := hcc182 0 _ rfl
               rw [Nat.add_zero, show ((Kd.slice 3 (Kd.int .i64))).sz = 1 from rfl, Nat.mul_one] at hv182_0
               replace hv182_0 := Option.some.inj (hv182_0.symm.trans hx182_0)
               injection hv182_0 with hva_ hvn_ hvc_
               rw [hva_] at ge182_0
               rw [hvc_] at ul182_0
               have HL182_0 := zO (show Kd.V (Kd.int .i64) 3 _ w.heap.size _ _ (rd_L2 x5_1 x6_1) from Kd.V_mk ul182_0 ge182_0)
               clear hva_ hvn_ hvc_ ge182_0 ul182_0
               clear hcc182 hce182
               have HR182_0 := zO hi182_0
               have HC182_0 := zO hl182_0
               clear hi182_0 hl182_0
               replace p182 := eq_true p182
               replace q182 := eq_true q182
               have p183 : 0 ≤ (x8_2 : Int) := yO (by assumption)
               have q183 : x8_2 < ((rd_L2 x5_1 x6_1).length : Int) := yO (by assumption)
               obtain ⟨ad183, e183, hx183_0⟩ := Kd.at_int (by repeat (first | (with_reducible exact HR182_0.out) | (with_reducible refine zR ?_ _) | (with_reducible refine zT ?_ _) | (with_reducible refine zS ?_) | exact HR182_0.out)) x8_2 p183 q183
               cases e183
               replace p183 := eq_true p183
               replace q183 := eq_true q183
               have p184 : 0 ≤ ((ji28) : Int) := yO (by assumption)
               have q184 : (ji28) < (l0.length : Int) := yO (by assumption)
               obtain ⟨ad184, e184, hx184_0⟩ := Kd.at_int HR0.out (ji28) p184 q184
               cases e184
               replace hx184_0 := (HB.out.cell (World.block_lt_of_cell? w _ hx184_0)).trans hx184_0
               replace p184 := eq_true p184
               replace q184 := eq_true q184
               have p185 : 0 ≤ ((ji31) : Int) := yO (by assumption)
               have q185 : (ji31) < (l0.length : Int) := yO (by assumption)
               obtain ⟨ad185, e185, hx185_0⟩ := Kd.at_int HR0.out (ji31) p185 q185
               obtain rfl : ad184 = ad185 := (by injection e185)
               replace hx185_0 := (HB.out.cell (World.block_lt_of_cell? w _ hx185_0)).trans hx185_0
               replace p185 := eq_true p185
               replace q185 := eq_true q185
               go_wp2_with (first | (go_at_call 152; (with_reducible refine (spec_BranchDistance.calls kj12 x8_2 x9_3 (rd l0 (ji28)) (rd l0 (ji31)) t186 _ A34.out).mono ?_); rintro e w' ⟨rfl, ⟨nd, rfl⟩⟩; (try first | exact ⟨rfl, _, yN _ _ _⟩ | exact ⟨rfl, _, yQ _ _ _ _⟩)) | (go_at_call 114; (with_reducible refine (spec_NextState.calls x8_2 x9_3 t187 _ A35.out).mono ?_); rintro e w' ⟨rfl, ⟨nd, rfl⟩⟩; (try first | exact ⟨rfl, _, yN _ _ _⟩ | exact ⟨rfl, _, yQ _ _ _ _⟩); obtain ⟨Ao47, co47, eo47⟩ := Kd.R_slice HO_7.out; subst eo47; have p188 : 0 ≤ (t187 : Int) := yO (by assumption); have q188 : t187 < (x7_3.length : Int) := yO (by assumption); obtain ⟨ad188, e188, hx188_0⟩ := Kd.at_int (zX HO_7.out).2.2 t187 p188 q188; cases e188; replace p188 := eq_true p188; replace q188 := eq_true q188; have p190 : 0 ≤ (t187 : Int) := yO (by assumption); have q190 : t187 < (x7_3.length : Int) := yO (by assumption); obtain ⟨ad190, e190, hx190_0⟩ := Kd.at_int (zX HO_7.out).2.2 t187 p190 q190; obtain rfl : ad188 = ad190 := (by injection e190); replace p190 := eq_true p190; replace q190 := eq_true q190; have p45 : 0 ≤ (t187 : Int) := yO (by assumption); have q45 : (t187 : Int) < ((x7_3.length : Int) : Int) := yO (by assumption); obtain ⟨go45, co45, eo45, gb45, gl45, cl45, HG45⟩ := Kd.R_form HO_7.out (by omega); (first | cases eo45 | (injection eo45 with ea_ en_ ec_; (first | subst ea_ | (injection ea_ with ea_; subst ea_)); subst ec_; clear en_)); have GB45 := zO gb45; have GG45 := zO HG45; clear gb45 gl45 HG45; (first | simp only [add_plain] at hx188_0 | skip); (first | simp only [add_plain] at hx190_0 | skip); obtain ⟨hx45_0, hf45_0⟩ := Kd.R_celln 0 HO_7.out (t187 : Int) p45 q45; replace p45 := eq_true p45; replace q45 := eq_true q45; obtain ⟨hy48_, hz48_⟩ := Kd.R_celln 0 HO_7.out (t187 : Int) (yO (by assumption)) (yO (by assumption)); have HP48 := Kd.R_putg HO_7.out (t187 : Int) (wrap64 ((rd (rd_L2 x5_1 x6_1) x8_2) + t186))) | ((with_reducible refine gate_store (t := 3) (p := 87) rfl ?_); (try (rw [drewN_self wc]; generalize hq_ : World.drewN wc _ = wc; have n0_ := zO (Kd.N_at hq_ HO_5.out); have n1_ := zO (Kd.R_at hq_ HO_7.out); have n2_ := zO (Kd.V_at hq_ HL182_0.out); have n3_ := zO (below_at hq_ HB.out); clear hq_ HO_5 HO_7 HL182_0 HB; have HO_5 := n0_; have HO_7 := n1_; have HL182_0 := n2_; have HB := n3_; clear n0_ n1_ n2_ n3_; (try (obtain ⟨hy48_, hz48_⟩ := Kd.R_celln 0 HO_7.out (t187 : Int) (yO (by assumption)) (yO (by assumption)))); (try (have HP48 := Kd.R_putg HO_7.out (t187 : Int) (wrap64 ((rd (rd_L2 x5_1 x6_1) x8_2) + t186)))))); refine store_event (t := 3) (p := 87) (v := ?vo_w49) (w1 := (wc.setCell ⟨go45, (t187 : Int).toNat, none⟩ (.int .i64 (wrap64 ((rd (rd_L2 x5_1 x6_1) x8_2) + t186))))) ?hg ?ho ?hn ?hr ?_; (case ho => rfl); (case hg => rfl); (case hn => rfl); (case hr => first | (go_simp; done) | (go_simp; rfl)); intro w49 hw; have hg : wc.grownBy w49 (some go45) := (by rw [hw]; exact HP48.2); have hp_ : Kd.R (Kd.int .i64) 3 w49 w.heap.size (fun k_ => (w.heap.size ≤ k_)) (.slice (some ⟨go45, 0, none⟩) x7_3.length co47) y191 := (by rw [hw, Ny191.out]; exact HP48.1); clear HP48; have n0_ := zO (Kd.N_afterv (v := (.slice (some ⟨go45, 0, none⟩) x7_3.length co47)) (v1 := (.slice (some ⟨go45, 0, none⟩) x7_3.length co47)) (ok := (fun k_ => (w.heap.size ≤ k_))) (by (with_reducible repeat (first | apply yB | apply yC | apply yD)); exact HO_5.out) hg (.inl rfl)); have n1_ := zO (hp_); have n2_ := zO (Kd.V_afterv (v := (.slice (some ⟨go45, 0, none⟩) x7_3.length co47)) (v1 := (.slice (some ⟨go45, 0, none⟩) x7_3.length co47)) (ok := (fun k_ => (w.heap.size ≤ k_) ∧ some k_ ≠ (.slice (some ad182) x5_1.length co46 : Value).ownBlock)) (by (with_reducible repeat (first | apply Kd.V_alloc | apply Kd.V_drewN | apply Kd.V_drew)); exact Kd.V_mono HL182_0.out (fun _ hk => ⟨⟨hk.1.1, hk.2⟩, hk.1.2⟩)) hg (.inl rfl)); have n3_ := zO ((by rw [hw]; exact zC (HB.out) GB45.out : Below w.heap.size w w49)); clear HO_5; clear HO_7; clear HL182_0; clear HB; have HO_5 := n0_; have HO_7 := n1_; have HL182_0 := n2_; have HB := n3_; clear n0_ n1_ n2_ n3_; clear hg hw hp_))
               repeat (go_quiet (first | (go_at_call 152; (with_reducible refine (spec_BranchDistance.calls kj12 x8_2 x9_3 (rd l0 (ji28)) (rd l0 (ji31)) t186 _ A34.out).mono ?_); rintro e w' ⟨rfl, ⟨nd, rfl⟩⟩; (try first | exact ⟨rfl, _, yN _ _ _⟩ | exact ⟨rfl, _, yQ _ _ _ _⟩)) | (go_at_call 114; (with_reducible refine (spec_NextState.calls x8_2 x9_3 t187 _ A35.out).mono ?_); rintro e w' ⟨rfl, ⟨nd, rfl⟩⟩; (try first | exact ⟨rfl, _, yN _ _ _⟩ | exact ⟨rfl, _, yQ _ _ _ _⟩); obtain ⟨Ao47, co47, eo47⟩ := Kd.R_slice HO_7.out; subst eo47; have p188 : 0 ≤ (t187 : Int) := yO (by assumption); have q188 : t187 < (x7_3.length : Int) := yO (by assumption); obtain ⟨ad188, e188, hx188_0⟩ := Kd.at_int (zX HO_7.out).2.2 t187 p188 q188; cases e188; replace p188 := eq_true p188; replace q188 := eq_true q188; have p190 : 0 ≤ (t187 : Int) := yO (by assumption); have q190 : t187 < (x7_3.length : Int) := yO (by assumption); obtain ⟨ad190, e190, hx190_0⟩ := Kd.at_int (zX HO_7.out).2.2 t187 p190 q190; obtain rfl : ad188 = ad190 := (by injection e190); replace p190 := eq_true p190; replace q190 := eq_true q190; have p45 : 0 ≤ (t187 : Int) := yO (by assumption); have q45 : (t187 : Int) < ((x7_3.length : Int) : Int) := yO (by assumption); obtain ⟨go45, co45, eo45, gb45, gl45, cl45, HG45⟩ := Kd.R_form HO_7.out (by omega); (first | cases eo45 | (injection eo45 with ea_ en_ ec_; (first | subst ea_ | (injection ea_ with ea_; subst ea_)); subst ec_; clear en_)); have GB45 := zO gb45; have GG45 := zO HG45; clear gb45 gl45 HG45; (first | simp only [add_plain] at hx188_0 | skip); (first | simp only [add_plain] at hx190_0 | skip); obtain ⟨hx45_0, hf45_0⟩ := Kd.R_celln 0 HO_7.out (t187 : Int) p45 q45; replace p45 := eq_true p45; replace q45 := eq_true q45; obtain ⟨hy48_, hz48_⟩ := Kd.R_celln 0 HO_7.out (t187 : Int) (yO (by assumption)) (yO (by assumption)); have HP48 := Kd.R_putg HO_7.out (t187 : Int) (wrap64 ((rd (rd_L2 x5_1 x6_1) x8_2) + t186))) | ((with_reducible refine gate_store (t := 3) (p := 87) rfl ?_); (try (rw [drewN_self wc]; generalize hq_ : World.drewN wc _ = wc; have n0_ := zO (Kd.N_at hq_ HO_5.out); have n1_ := zO (Kd.R_at hq_ HO_7.out); have n2_ := zO (Kd.V_at hq_ HL182_0.out); have n3_ := zO (below_at hq_ HB.out); clear hq_ HO_5 HO_7 HL182_0 HB; have HO_5 := n0_; have HO_7 := n1_; have HL182_0 := n2_; have HB := n3_; clear n0_ n1_ n2_ n3_; (try (obtain ⟨hy48_, hz48_⟩ := Kd.R_celln 0 HO_7.out (t187 : Int) (yO (by assumption)) (yO (by assumption)))); (try (have HP48 := Kd.R_putg HO_7.out (t187 : Int) (wrap64 ((rd (rd_L2 x5_1 x6_1) x8_2) + t186)))))); refine store_event (t := 3) (p := 87) (v := ?vo_w49) (w1 := (wc.setCell ⟨go45, (t187 : Int).toNat, none⟩ (.int .i64 (wrap64 ((rd (rd_L2 x5_1 x6_1) x8_2) + t186))))) ?hg ?ho ?hn ?hr ?_; (case ho => rfl); (case hg => rfl); (case hn => rfl); (case hr => first | (go_simp; done) | (go_simp; rfl)); intro w49 hw; have hg : wc.grownBy w49 (some go45) := (by rw [hw]; exact HP48.2); have hp_ : Kd.R (Kd.int .i64) 3 w49 w.heap.size (fun k_ => (w.heap.size ≤ k_)) (.slice (some ⟨go45, 0, none⟩) x7_3.length co47) y191 := (by rw [hw, Ny191.out]; exact HP48.1); clear HP48; have n0_ := zO (Kd.N_afterv (v := (.slice (some ⟨go45, 0, none⟩) x7_3.length co47)) (v1 := (.slice (some ⟨go45, 0, none⟩) x7_3.length co47)) (ok := (fun k_ => (w.heap.size ≤ k_))) (by (with_reducible repeat (first | apply yB | apply yC | apply yD)); exact HO_5.out) hg (.inl rfl)); have n1_ := zO (hp_); have n2_ := zO (Kd.V_afterv (v := (.slice (some ⟨go45, 0, none⟩) x7_3.length co47)) (v1 := (.slice (some ⟨go45, 0, none⟩) x7_3.length co47)) (ok := (fun k_ => (w.heap.size ≤ k_) ∧ some k_ ≠ (.slice (some ad182) x5_1.length co46 : Value).ownBlock)) (by (with_reducible repeat (first | apply Kd.V_alloc | apply Kd.V_drewN | apply Kd.V_drew)); exact Kd.V_mono HL182_0.out (fun _ hk => ⟨⟨hk.1.1, hk.2⟩, hk.1.2⟩)) hg (.inl rfl)); have n3_ := zO ((by rw [hw]; exact zC (HB.out) GB45.out : Below w.heap.size w w49)); clear HO_5; clear HO_7; clear HL182_0; clear HB; have HO_5 := n0_; have HO_7 := n1_; have HL182_0 := n2_; have HB := n3_; clear n0_ n1_ n2_ n3_; clear hg hw hp_)); try go_wp2_with (first | (go_at_call 152; (with_reducible refine (spec_BranchDistance.calls kj12 x8_2 x9_3 (rd l0 (ji28)) (rd l0 (ji31)) t186 _ A34.out).mono ?_); rintro e w' ⟨rfl, ⟨nd, rfl⟩⟩; (try first | exact ⟨rfl, _, yN _ _ _⟩ | exact ⟨rfl, _, yQ _ _ _ _⟩)) | (go_at_call 114; (with_reducible refine (spec_NextState.calls x8_2 x9_3 t187 _ A35.out).mono ?_); rintro e w' ⟨rfl, ⟨nd, rfl⟩⟩; (try first | exact ⟨rfl, _, yN _ _ _⟩ | exact ⟨rfl, _, yQ _ _ _ _⟩); obtain ⟨Ao47, co47, eo47⟩ := Kd.R_slice HO_7.out; subst eo47; have p188 : 0 ≤ (t187 : Int) := yO (by assumption); have q188 : t187 < (x7_3.length : Int) := yO (by assumption); obtain ⟨ad188, e188, hx188_0⟩ := Kd.at_int (zX HO_7.out).2.2 t187 p188 q188; cases e188; replace p188 := eq_true p188; replace q188 := eq_true q188; have p190 : 0 ≤ (t187 : Int) := yO (by assumption); have q190 : t187 < (x7_3.length : Int) := yO (by assumption); obtain ⟨ad190, e190, hx190_0⟩ := Kd.at_int (zX HO_7.out).2.2 t187 p190 q190; obtain rfl : ad188 = ad190 := (by injection e190); replace p190 := eq_true p190; replace q190 := eq_true q190; have p45 : 0 ≤ (t187 : Int) := yO (by assumption); have q45 : (t187 : Int) < ((x7_3.length : Int) : Int) := yO (by assumption); obtain ⟨go45, co45, eo45, gb45, gl45, cl45, HG45⟩ := Kd.R_form HO_7.out (by omega); (first | cases eo45 | (injection eo45 with ea_ en_ ec_; (first | subst ea_ | (injection ea_ with ea_; subst ea_)); subst ec_; clear en_)); have GB45 := zO gb45; have GG45 := zO HG45; clear gb45 gl45 HG45; (first | simp only [add_plain] at hx188_0 | skip); (first | simp only [add_plain] at hx190_0 | skip); obtain ⟨hx45_0, hf45_0⟩ := Kd.R_celln 0 HO_7.out (t187 : Int) p45 q45; replace p45 := eq_true p45; replace q45 := eq_true q45; obtain ⟨hy48_, hz48_⟩ := Kd.R_celln 0 HO_7.out (t187 : Int) (yO (by assumption)) (yO (by assumption)); have HP48 := Kd.R_putg HO_7.out (t187 : Int) (wrap64 ((rd (rd_L2 x5_1 x6_1) x8_2) + t186))) | ((with_reducible refine gate_store (t := 3) (p := 87) rfl ?_); (try (rw [drewN_self wc]; generalize hq_ : World.drewN wc _ = wc; have n0_ := zO (Kd.N_at hq_ HO_5.out); have n1_ := zO (Kd.R_at hq_ HO_7.out); have n2_ := zO (Kd.V_at hq_ HL182_0.out); have n3_ := zO (below_at hq_ HB.out); clear hq_ HO_5 HO_7 HL182_0 HB; have HO_5 := n0_; have HO_7 := n1_; have HL182_0 := n2_; have HB := n3_; clear n0_ n1_ n2_ n3_; (try (obtain ⟨hy48_, hz48_⟩ := Kd.R_celln 0 HO_7.out (t187 : Int) (yO (by assumption)) (yO (by assumption)))); (try (have HP48 := Kd.R_putg HO_7.out (t187 : Int) (wrap64 ((rd (rd_L2 x5_1 x6_1) x8_2) + t186)))))); refine store_event (t := 3) (p := 87) (v := ?vo_w49) (w1 := (wc.setCell ⟨go45, (t187 : Int).toNat, none⟩ (.int .i64 (wrap64 ((rd (rd_L2 x5_1 x6_1) x8_2) + t186))))) ?hg ?ho ?hn ?hr ?_; (case ho => rfl); (case hg => rfl); (case hn => rfl); (case hr => first | (go_simp; done) | (go_simp; rfl)); intro w49 hw; have hg : wc.grownBy w49 (some go45) := (by rw [hw]; exact HP48.2); have hp_ : Kd.R (Kd.int .i64) 3 w49 w.heap.size (fun k_ => (w.heap.size ≤ k_)) (.slice (some ⟨go45, 0, none⟩) x7_3.length co47) y191 := (by rw [hw, Ny191.out]; exact HP48.1); clear HP48; have n0_ := zO (Kd.N_afterv (v := (.slice (some ⟨go45, 0, none⟩) x7_3.length co47)) (v1 := (.slice (some ⟨go45, 0, none⟩) x7_3.length co47)) (ok := (fun k_ => (w.heap.size ≤ k_))) (by (with_reducible repeat (first | apply yB | apply yC | apply yD)); exact HO_5.out) hg (.inl rfl)); have n1_ := zO (hp_); have n2_ := zO (Kd.V_afterv (v := (.slice (some ⟨go45, 0, none⟩) x7_3.length co47)) (v1 := (.slice (some ⟨go45, 0, none⟩) x7_3.length co47)) (ok := (fun k_ => (w.heap.size ≤ k_) ∧ some k_ ≠ (.slice (some ad182) x5_1.length co46 : Value).ownBlock)) (by (with_reducible repeat (first | apply Kd.V_alloc | apply Kd.V_drewN | apply Kd.V_drew)); exact Kd.V_mono HL182_0.out (fun _ hk => ⟨⟨hk.1.1, hk.2⟩, hk.1.2⟩)) hg (.inl rfl)); have n3_ := zO ((by rw [hw]; exact zC (HB.out) GB45.out : Below w.heap.size w w49)); clear HO_5; clear HO_7; clear HL182_0; clear HB; have HO_5 := n0_; have HO_7 := n1_; have HL182_0 := n2_; have HB := n3_; clear n0_ n1_ n2_ n3_; clear hg hw hp_)))
               go_roundg kj12
               case measure => have := HK1.out; have := HK2.out; have := HK3.out; have := HJ12.out; omega
               case rel => exact ⟨(y191), (wrap64 (x9_3 + 1)), (by first | rfl | (simp; done) | (simp [*]; done)), H', ⟨by have := HK1.out; have := HK2.out; have := HK3.out; have := HJ12.out; omega⟩, ⟨by first | ((with_reducible repeat (first | apply yB | apply yC | apply yD)); exact HO_5.out) | exact yC (Kd.N_afterv HO_5.out HP48.2 (.inl rfl)) _⟩, ⟨by first | ((with_reducible repeat (first | apply zU | apply zW | apply zV)); exact HO_7.out) | (rw [Ny191.out]; exact zW HP48.1 _)⟩, ⟨by first | ((repeat (first | exact HB.out | apply zA | apply zL | apply zB)); done) | exact zC (zL HB.out _) GB45.out⟩⟩
              ·rw [if_neg c44] at H
               have c44b0 : decide ((wrap64 ((rd (rd_L2 x5_1 x6_1) x8_2) + t186)) < (rd x7_3 t187)) = false := decide_eq_false c44
               clear c44
               have H' := zO H
               clear H
               obtain ⟨Ao50, co50, eo50⟩ := Kd.N_slice HO_5.out
               subst eo50
               have p182 : 0 ≤ (x6_1 : Int) := yO (by assumption)
               have q182 : x6_1 < (x5_1.length : Int) := yO (by assumption)
               obtain ⟨ad182, A182_0, c182_0, e182, hx182_0, hl182_0, hi182_0⟩ := at_L2 (Kd.N_reads' HO_5.out).2.2 x6_1 p182 q182
               cases e182
               obtain ⟨ce182, hce182, hMe182, hcc182⟩ := Kd.N_get HO_5.out [] x6_1 p182 (by first | exact q182 | exact yO (by assumption) | (have e_ := (Kd.N_reads' HO_5.out).1; omega))
               obtain ⟨ua182_0, uc182_0, rfl, ul182_0, ge182_0⟩ := Kd.FK_slice_open hMe182
               have hv182_0 := hcc182 0 _ rfl
               rw [Nat.add_zero, show ((Kd.slice 3 (Kd.int .i64))).sz = 1 from rfl, Nat.mul_one] at hv182_0
               replace hv182_0 := Option.some.inj (hv182_0.symm.trans hx182_0)
               injection hv182_0 with hva_ hvn_ hvc_
               rw [hva_] at ge182_0
               rw [hvc_] at ul182_0
               have HL182_0 := zO (show Kd.V (Kd.int .i64) 3 _ w.heap.size _ _ (rd_L2 x5_1 x6_1) from Kd.V_mk ul182_0 ge182_0)
               clear hva_ hvn_ hvc_ ge182_0 ul182_0
               clear hcc182 hce182
               have HR182_0 := zO hi182_0
               have HC182_0 := zO hl182_0
               clear hi182_0 hl182_0
               replace p182 := eq_true p182
               replace q182 := eq_true q182
               have p183 : 0 ≤ (x8_2 : Int) := yO (by assumption)
               have q183 : x8_2 < ((rd_L2 x5_1 x6_1).length : Int) := yO (by assumption)
               obtain ⟨ad183, e183, hx183_0⟩ := Kd.at_int (by repeat (first | (with_reducible exact HR182_0.out) | (with_reducible refine zR ?_ _) | (with_reducible refine zT ?_ _) | (with_reducible refine zS ?_) | exact HR182_0.out)) x8_2 p183 q183
               cases e183
               replace p183 := eq_true p183
               replace q183 := eq_true q183
               have p184 : 0 ≤ ((ji28) : Int) := yO (by assumption)
               have q184 : (ji28) < (l0.length : Int) := yO (by assumption)
               obtain ⟨ad184, e184, hx184_0⟩ := Kd.at_int HR0.out (ji28) p184 q184
               cases e184
               replace hx184_0 := (HB.out.cell (World.block_lt_of_cell? w _ hx184_0)).trans hx184_0
               replace p184 := eq_true p184
               replace q184 := eq_true q184
               have p185 : 0 ≤ ((ji31) : Int) := yO (by assumption)
               have q185 : (ji31) < (l0.length : Int) := yO (by assumption)
               obtain ⟨ad185, e185, hx185_0⟩ := Kd.at_int HR0.out (ji31) p185 q185
               obtain rfl : ad184 = ad185 := (by injection e185)
               replace hx185_0 := (HB.out.cell (World.block_lt_of_cell? w _ hx185_0)).trans hx185_0
               replace p185 := eq_true p185
               replace q185 := eq_true q185
               go_wp2_with (first | (go_at_call 152; (with_reducible refine (spec_BranchDistance.calls kj12 x8_2 x9_3 (rd l0 (ji28)) (rd l0 (ji31)) t186 _ A34.out).mono ?_); rintro e w' ⟨rfl, ⟨nd, rfl⟩⟩; (try first | exact ⟨rfl, _, yN _ _ _⟩ | exact ⟨rfl, _, yQ _ _ _ _⟩)) | (go_at_call 114; (with_reducible refine (spec_NextState.calls x8_2 x9_3 t187 _ A35.out).mono ?_); rintro e w' ⟨rfl, ⟨nd, rfl⟩⟩; (try first | exact ⟨rfl, _, yN _ _ _⟩ | exact ⟨rfl, _, yQ _ _ _ _⟩); obtain ⟨Ao51, co51, eo51⟩ := Kd.R_slice HO_7.out; subst eo51; have p188 : 0 ≤ (t187 : Int) := yO (by assumption); have q188 : t187 < (x7_3.length : Int) := yO (by assumption); obtain ⟨ad188, e188, hx188_0⟩ := Kd.at_int (zX HO_7.out).2.2 t187 p188 q188; cases e188; replace p188 := eq_true p188; replace q188 := eq_true q188; have p190 : 0 ≤ (t187 : Int) := yO (by assumption); have q190 : t187 < (x7_3.length : Int) := yO (by assumption); obtain ⟨ad190, e190, hx190_0⟩ := Kd.at_int (zX HO_7.out).2.2 t187 p190 q190; obtain rfl : ad188 = ad190 := (by injection e190); replace p190 := eq_true p190; replace q190 := eq_true q190))
               repeat (go_quiet (first | (go_at_call 152; (with_reducible refine (spec_BranchDistance.calls kj12 x8_2 x9_3 (rd l0 (ji28)) (rd l0 (ji31)) t186 _ A34.out).mono ?_); rintro e w' ⟨rfl, ⟨nd, rfl⟩⟩; (try first | exact ⟨rfl, _, yN _ _ _⟩ | exact ⟨rfl, _, yQ _ _ _ _⟩)) | (go_at_call 114; (with_reducible refine (spec_NextState.calls x8_2 x9_3 t187 _ A35.out).mono ?_); rintro e w' ⟨rfl, ⟨nd, rfl⟩⟩; (try first | exact ⟨rfl, _, yN _ _ _⟩ | exact ⟨rfl, _, yQ _ _ _ _⟩); obtain ⟨Ao51, co51, eo51⟩ := Kd.R_slice HO_7.out; subst eo51; have p188 : 0 ≤ (t187 : Int) := yO (by assumption); have q188 : t187 < (x7_3.length : Int) := yO (by assumption); obtain ⟨ad188, e188, hx188_0⟩ := Kd.at_int (zX HO_7.out).2.2 t187 p188 q188; cases e188; replace p188 := eq_true p188; replace q188 := eq_true q188; have p190 : 0 ≤ (t187 : Int) := yO (by assumption); have q190 : t187 < (x7_3.length : Int) := yO (by assumption); obtain ⟨ad190, e190, hx190_0⟩ := Kd.at_int (zX HO_7.out).2.2 t187 p190 q190; obtain rfl : ad188 = ad190 := (by injection e190); replace p190 := eq_true p190; replace q190 := eq_true q190)); try go_wp2_with (first | (go_at_call 152; (with_reducible refine (spec_BranchDistance.calls kj12 x8_2 x9_3 (rd l0 (ji28)) (rd l0 (ji31)) t186 _ A34.out).mono ?_); rintro e w' ⟨rfl, ⟨nd, rfl⟩⟩; (try first | exact ⟨rfl, _, yN _ _ _⟩ | exact ⟨rfl, _, yQ _ _ _ _⟩)) | (go_at_call 114; (with_reducible refine (spec_NextState.calls x8_2 x9_3 t187 _ A35.out).mono ?_); rintro e w' ⟨rfl, ⟨nd, rfl⟩⟩; (try first | exact ⟨rfl, _, yN _ _ _⟩ | exact ⟨rfl, _, yQ _ _ _ _⟩); obtain ⟨Ao51, co51, eo51⟩ := Kd.R_slice HO_7.out; subst eo51; have p188 : 0 ≤ (t187 : Int) := yO (by assumption); have q188 : t187 < (x7_3.length : Int) := yO (by assumption); obtain ⟨ad188, e188, hx188_0⟩ := Kd.at_int (zX HO_7.out).2.2 t187 p188 q188; cases e188; replace p188 := eq_true p188; replace q188 := eq_true q188; have p190 : 0 ≤ (t187 : Int) := yO (by assumption); have q190 : t187 < (x7_3.length : Int) := yO (by assumption); obtain ⟨ad190, e190, hx190_0⟩ := Kd.at_int (zX HO_7.out).2.2 t187 p190 q190; obtain rfl : ad188 = ad190 := (by injection e190); replace p190 := eq_true p190; replace q190 := eq_true q190)))
               go_roundg kj12
               case measure => have := HK1.out; have := HK2.out; have := HK3.out; have := HJ12.out; omega
               case rel => exact ⟨(x7_3), (wrap64 (x9_3 + 1)), (by first | rfl | (simp; done) | (simp [*]; done)), H', ⟨by have := HK1.out; have := HK2.out; have := HK3.out; have := HJ12.out; omega⟩, ⟨by (with_reducible repeat (first | apply yB | apply yC | apply yD)); exact HO_5.out⟩, ⟨by (with_reducible repeat (first | apply zU | apply zW | apply zV)); exact HO_7.out⟩, ⟨by repeat (first | exact HB.out | apply zA | apply zL | apply zB)⟩⟩
         ·rw [if_neg c12] at H
          have c12b0 : decide (x9_3 < 2) = false := decide_eq_false c12
          clear c12
          have H' := zO H
          clear H
          go_wp2
          repeat (go_quiet (fail); try go_wp2)
          go_roundg k3
          case measure => have := HK1.out; have := HK2.out; have := HK3.out; omega
          case rel => exact ⟨(x7_3), (wrap64 (x8_2 + 1)), (by first | rfl | (simp; done) | (simp [*]; done)), H', ⟨by have := HK1.out; have := HK2.out; have := HK3.out; omega⟩, ⟨by (with_reducible repeat (first | apply yB | apply yC | apply yD)); exact HO_5.out⟩, ⟨by (with_reducible repeat (first | apply zU | apply zW | apply zV)); exact HO_7.out⟩, ⟨by repeat (first | exact HB.out | apply zA | apply zL | apply zB)⟩⟩
      ·rw [if_neg c11] at H
       have c11b0 : decide (x8_2 < 4) = false := decide_eq_false c11
       clear c11
       by_cases c52 : x5_1.length < 5864062014805
       case neg => rw [if_neg c52] at H; exact absurd H (by simp)
       rw [if_pos c52] at H
       have LMc52 := zO c52
       clear c52
       obtain ⟨y177, hy177⟩ : ∃ y_ : List (List Int), y_ = (x5_1 ++ [x7_2]) := ⟨_, rfl⟩
       replace H : (spec_l7Costs.l0 k2 l0 a1 y177 (wrap64 (x6_1 + 1))) = some r := by first | (rw [hy177]; exact H) | exact H
       have Ny177 := zO hy177
       clear hy177
       have H' := zO H
       clear H
       obtain ⟨Ao54, co54, eo54⟩ := Kd.R_slice HO_7.out
       subst eo54
       go_wp2_with (first | ((with_reducible refine gate_builtin (b := .append) (xs := #[.tmp 88, .tmp 90]) rfl ?_); at_builtin; refine Kd.N_append (Kd.slice 3 (Kd.int .i64)) (w0 := w) w.heap.size rfl (.tmp 88) (.tmp 90) 90 22 (.slice none 0 0) 24 rfl Try.underlying90 info22 rfl (by decide) (by omega) u5 x5_1 x7_2 [.slice Ao54 x7_2.length co54] (fun k_ => (w.heap.size ≤ k_)) (fun k_ => ((fun k_ => (w.heap.size ≤ k_))) k_ ∧ some k_ ≠ (u5 : Value).ownBlock) rfl rfl ?aP (fun _ hk => hk) ?aF ?aO ?aB ?aS ?aL ?_; (case aP => exact (Kd.FK_slice_mk (zX (Kd.R_mono (ok' := (fun k_ => ((fun k_ => (w.heap.size ≤ k_))) k_ ∧ some k_ ≠ (u5 : Value).ownBlock)) (Kd.R_apart' (HO_7.out) (Kd.N_typed HO_5.out) (by decide)) (fun k_ hk => ⟨hk.1, hk.2⟩))).2.1 (Kd.R_F (Kd.R_mono (ok' := (fun k_ => ((fun k_ => (w.heap.size ≤ k_))) k_ ∧ some k_ ≠ (u5 : Value).ownBlock)) (Kd.R_apart' (HO_7.out) (Kd.N_typed HO_5.out) (by decide)) (fun k_ hk => ⟨hk.1, hk.2⟩))))); (case aB => exact (by repeat (first | exact HB.out | apply zA | apply zL | apply zB))); (case aF => exact (fun k_ hk => (Nat.le_trans (zD (by repeat (first | exact HB.out | apply zA | apply zL | apply zB))) hk))); (case aO => exact (by (with_reducible repeat (first | apply yB | apply yC | apply yD)); exact Kd.N_mono HO_5.out (fun _ hk => hk.1))); (case aS => exact (zD (by repeat (first | exact HB.out | apply zA | apply zL | apply zB)))); (case aL => have := LMc52.out; omega); intro v178 w53 ho hb hg hat; rw [← Ny177.out] at ho; have n0_ := zO (hb); have n1_ := zO (ho); clear HB; clear HO_5; clear HO_7; have HB := n0_; have HO179 := n1_; clear n0_ n1_; clear ho hb hg hat))
       repeat (go_quiet (first | ((with_reducible refine gate_builtin (b := .append) (xs := #[.tmp 88, .tmp 90]) rfl ?_); at_builtin; refine Kd.N_append (Kd.slice 3 (Kd.int .i64)) (w0 := w) w.heap.size rfl (.tmp 88) (.tmp 90) 90 22 (.slice none 0 0) 24 rfl Try.underlying90 info22 rfl (by decide) (by omega) u5 x5_1 x7_2 [.slice Ao54 x7_2.length co54] (fun k_ => (w.heap.size ≤ k_)) (fun k_ => ((fun k_ => (w.heap.size ≤ k_))) k_ ∧ some k_ ≠ (u5 : Value).ownBlock) rfl rfl ?aP (fun _ hk => hk) ?aF ?aO ?aB ?aS ?aL ?_; (case aP => exact (Kd.FK_slice_mk (zX (Kd.R_mono (ok' := (fun k_ => ((fun k_ => (w.heap.size ≤ k_))) k_ ∧ some k_ ≠ (u5 : Value).ownBlock)) (Kd.R_apart' (HO_7.out) (Kd.N_typed HO_5.out) (by decide)) (fun k_ hk => ⟨hk.1, hk.2⟩))).2.1 (Kd.R_F (Kd.R_mono (ok' := (fun k_ => ((fun k_ => (w.heap.size ≤ k_))) k_ ∧ some k_ ≠ (u5 : Value).ownBlock)) (Kd.R_apart' (HO_7.out) (Kd.N_typed HO_5.out) (by decide)) (fun k_ hk => ⟨hk.1, hk.2⟩))))); (case aB => exact (by repeat (first | exact HB.out | apply zA | apply zL | apply zB))); (case aF => exact (fun k_ hk => (Nat.le_trans (zD (by repeat (first | exact HB.out | apply zA | apply zL | apply zB))) hk))); (case aO => exact (by (with_reducible repeat (first | apply yB | apply yC | apply yD)); exact Kd.N_mono HO_5.out (fun _ hk => hk.1))); (case aS => exact (zD (by repeat (first | exact HB.out | apply zA | apply zL | apply zB)))); (case aL => have := LMc52.out; omega); intro v178 w53 ho hb hg hat; rw [← Ny177.out] at ho; have n0_ := zO (hb); have n1_ := zO (ho); clear HB; clear HO_5; clear HO_7; have HB := n0_; have HO179 := n1_; clear n0_ n1_; clear ho hb hg hat)); try go_wp2_with (first | ((with_reducible refine gate_builtin (b := .append) (xs := #[.tmp 88, .tmp 90]) rfl ?_); at_builtin; refine Kd.N_append (Kd.slice 3 (Kd.int .i64)) (w0 := w) w.heap.size rfl (.tmp 88) (.tmp 90) 90 22 (.slice none 0 0) 24 rfl Try.underlying90 info22 rfl (by decide) (by omega) u5 x5_1 x7_2 [.slice Ao54 x7_2.length co54] (fun k_ => (w.heap.size ≤ k_)) (fun k_ => ((fun k_ => (w.heap.size ≤ k_))) k_ ∧ some k_ ≠ (u5 : Value).ownBlock) rfl rfl ?aP (fun _ hk => hk) ?aF ?aO ?aB ?aS ?aL ?_; (case aP => exact (Kd.FK_slice_mk (zX (Kd.R_mono (ok' := (fun k_ => ((fun k_ => (w.heap.size ≤ k_))) k_ ∧ some k_ ≠ (u5 : Value).ownBlock)) (Kd.R_apart' (HO_7.out) (Kd.N_typed HO_5.out) (by decide)) (fun k_ hk => ⟨hk.1, hk.2⟩))).2.1 (Kd.R_F (Kd.R_mono (ok' := (fun k_ => ((fun k_ => (w.heap.size ≤ k_))) k_ ∧ some k_ ≠ (u5 : Value).ownBlock)) (Kd.R_apart' (HO_7.out) (Kd.N_typed HO_5.out) (by decide)) (fun k_ hk => ⟨hk.1, hk.2⟩))))); (case aB => exact (by repeat (first | exact HB.out | apply zA | apply zL | apply zB))); (case aF => exact (fun k_ hk => (Nat.le_trans (zD (by repeat (first | exact HB.out | apply zA | apply zL | apply zB))) hk))); (case aO => exact (by (with_reducible repeat (first | apply yB | apply yC | apply yD)); exact Kd.N_mono HO_5.out (fun _ hk => hk.1))); (case aS => exact (zD (by repeat (first | exact HB.out | apply zA | apply zL | apply zB)))); (case aL => have := LMc52.out; omega); intro v178 w53 ho hb hg hat; rw [← Ny177.out] at ho; have n0_ := zO (hb); have n1_ := zO (ho); clear HB; clear HO_5; clear HO_7; have HB := n0_; have HO179 := n1_; clear n0_ n1_; clear ho hb hg hat)))
       go_roundg k2
       case measure => have := HK1.out; have := HK2.out; omega
       case rel => exact ⟨(y177), (wrap64 (x6_1 + 1)), (by first | rfl | (simp; done) | (simp [*]; done)), H', ⟨by have := HK1.out; have := HK2.out; omega⟩, ⟨by (with_reducible repeat (first | apply yB | apply yC | apply yD)); exact HO179.out⟩, ⟨by repeat (first | exact HB.out | apply zA | apply zL | apply zB)⟩⟩
   ·rw [if_neg c8] at H
    have c8b0 : decide (x6_1 < (wrap64 (a1 + 2))) = false := decide_eq_false c8
    clear c8
    obtain rfl := Option.some.inj H
    go_wp2
    repeat (go_quiet (fail); try go_wp2)
    go_ret
    exact ⟨_, by first | rfl | (simp [errW_none, errW_some] <;> rfl) | (simp [*, errW_none, errW_some] <;> rfl), by (with_reducible repeat (first | apply yB | apply yC | apply yD)); exact HO_5.out, by repeat (first | exact HB.out | apply zA | apply zL | apply zB)⟩

end Go.Proofs.Ytldbmljooafkcaa.PFnExactReceiveFrame
