/- Contracts of Go functions. Conditions: the arguments read as the Lean function's. Written by print2.py, shrink.py (this session's). -/
import Derived.Test.YtldbmljooafkcaaPFnExactReceiveFramex0
import Derived.Test.YtldbmljooafkcaaPFnExactReceiveFramex1
import Derived.Test.YtldbmljooafkcaaPFnExactReceiveFramex10
import Derived.Test.YtldbmljooafkcaaPFnExactReceiveFramex17
namespace Go.Proofs.Ytldbmljooafkcaa.PFnExactReceiveFrame
open Go.RowKit Go.Proofs.YtldbmljooafkcaaW.PrintWords Go.Proofs.YtldbmljooafkcaaW.PrintLast Go.Proofs.YtldbmljooafkcaaW.PrintMore
open Go.Proofs.YtldbmljooafkcaaW.PrintWords renaming below_alloc → zA, below_drew1 → zB, below_set → zC, below_size → zD, below_step → zE, blk_alloc → zF, blk_below → zG, blk_cell → zH, blk_drew → zI, blk_drewN → zJ, blk_frozen → zK, pw_below_drewN → zL, gate_callee → zM, gate_dst → zN
open Go.Proofs.YtldbmljooafkcaaW.PrintWords.Aside0 renaming mk → zO
open Go.Proofs.YtldbmljooafkcaaW.PrintWords.Drawn0 renaming refl → zP, step → zQ
open Go.Proofs.YtldbmljooafkcaaW.PrintWords.Kd renaming C_alloc → zR, C_drew → zS, C_drewN → zT, R_alloc → zU, R_drew → zV, R_drewN → zW, R_reads' → zX, R_below → zY, R_far → zZ, R_lower → yA
open Option renaming bind_eq_some_iff → yE
open List renaming setIfInBounds_toArray → yF, set_cons_zero → yG, set_cons_succ → yH, length_take → yI, length_drop → yJ, map_toArray → yK, map_cons → yL, map_nil → yM
set_option maxHeartbeats 8000000
set_option maxRecDepth 100000
attribute [local go_sem] max2_int min2_int max_two min_two max_three min_three max_four min_four
set_option linter.unusedVariables false
set_option linter.unusedSimpArgs false

def laws_heldByteS.l0 : Nat → List Int → Int → Int → Option (Int)
 | 0, _, _, _ => none
 | k + 1, x0, x1, x5 => if x5 < (x0.length : Int) then (if 0 ≤ x5 then (if (rd x0 x5) = ((x1) % 256) then (laws_heldByteS.l0 k x0 (wrap64 (x1 + 1)) (wrap64 (x5 + 1))) else (some (-1))) else (none)) else (some x1)
def laws_heldByteS.f (k : Nat) (l0 : List Int) (a1 : Int) : Option (Int) := laws_heldByteS.l0 k l0 a1 0
theorem laws_heldByteS.calls (k : Nat) (A0 : Option Addr) (c0 : Nat) (l0 : List Int) (a1 : Int) (r : Int) (w : World) (hr0 : Kd.C (Kd.int .u8) w A0 l0.length l0) (hc0 : l0.length ≤ c0) (h : laws_heldByteS.f k l0 a1 = some r) :
  Calls Try.prog 61 #[.slice A0 l0.length c0, .int .i64 a1] w fun e w' => e = .returned (.int .i64 r) ∧ Drawn0 w w' := by
 have HR0 := zO hr0
 have HC0 := zO hc0
 clear hr0 hc0
 have H : (laws_heldByteS.l0 k l0 a1 0) = some r := h
 clear h
 have H' := zO H
 clear H
 go_enter Try.func61, Try.ntmps61
 go_wp2
 go_loopg [1, 5] k (fun kq v1 v5 w' => ∃ (x1_1 : Int) (x5_1 : Int), v1 = .int .i64 x1_1 ∧ v5 = .int .i64 x5_1 ∧ Aside0 (laws_heldByteS.l0 kq l0 x1_1 x5_1 = some r) ∧ Aside0 (kq ≤ k) ∧ Drawn0 w w')
 case atStart => exact ⟨(a1), (0), (by first | rfl | (simp; done) | (simp [*]; done)), (by first | rfl | (simp; done) | (simp [*]; done)), H', ⟨Nat.le_refl _⟩, by repeat (first | exact zP _ | apply zQ)⟩
 case round =>
  clear H'
  try clear p2
  obtain ⟨x1_1, x5_1, rfl, rfl, HA, HK1, ⟨m1, rfl⟩⟩ := hrel
  cases gk with
  | zero => exact absurd HA.out (by simp [laws_heldByteS.l0])
  | succ k1 =>
   have H := HA.out
   clear HA
   simp only [laws_heldByteS.l0] at H
   by_cases c3 : x5_1 < (l0.length : Int)
   ·rw [if_pos c3] at H
    have c3b0 : decide (x5_1 < (l0.length : Int)) = true := decide_eq_true c3
    clear c3
    by_cases c4 : 0 ≤ x5_1
    case neg => rw [if_neg c4] at H; exact absurd H (by simp)
    rw [if_pos c4] at H
    have c4b0 : decide (0 ≤ x5_1) = true := decide_eq_true c4
    clear c4
    by_cases c5 : (rd l0 x5_1) = ((x1_1) % 256)
    ·rw [if_pos c5] at H
     have c5b0 : ((rd l0 x5_1) == ((x1_1) % 256)) = true := beq_iff_eq.mpr c5
     have c5b1 : ((rd l0 x5_1) != ((x1_1) % 256)) = false := bne_eq_false_iff_eq.mpr c5
     clear c5
     have H' := zO H
     clear H
     have p508 : 0 ≤ (x5_1 : Int) := yO (by assumption)
     have q508 : x5_1 < (l0.length : Int) := yO (by assumption)
     obtain ⟨ad508, e508, hx508_0⟩ := Kd.at_int HR0.out x5_1 p508 q508
     cases e508
     replace p508 := eq_true p508
     replace q508 := eq_true q508
     go_wp2
     go_roundg k1
     case measure => have := HK1.out; omega
     case rel => exact ⟨(wrap64 (x1_1 + 1)), (wrap64 (x5_1 + 1)), (by first | rfl | (simp; done) | (simp [*]; done)), (by first | rfl | (simp; done) | (simp [*]; done)), H', ⟨by have := HK1.out; omega⟩, by repeat (first | exact zP _ | apply zQ)⟩
    ·rw [if_neg c5] at H
     have c5b0 : ((rd l0 x5_1) == ((x1_1) % 256)) = false := beq_eq_false_iff_ne.mpr c5
     have c5b1 : ((rd l0 x5_1) != ((x1_1) % 256)) = true := bne_iff_ne.mpr c5
     obtain rfl := Option.some.inj H
     have p508 : 0 ≤ (x5_1 : Int) := yO (by assumption)
     have q508 : x5_1 < (l0.length : Int) := yO (by assumption)
     obtain ⟨ad508, e508, hx508_0⟩ := Kd.at_int HR0.out x5_1 p508 q508
     cases e508
     replace p508 := eq_true p508
     replace q508 := eq_true q508
     go_wp2
     go_ret
     exact ⟨by first | rfl | exact yP _ | (simp; done) | (simp [*]; done), by repeat (first | exact zP _ | apply zQ)⟩
   ·rw [if_neg c3] at H
    have c3b0 : decide (x5_1 < (l0.length : Int)) = false := decide_eq_false c3
    clear c3
    obtain rfl := Option.some.inj H
    go_wp2
    go_ret
    exact ⟨by first | rfl | exact yP _ | (simp; done) | (simp [*]; done), by repeat (first | exact zP _ | apply zQ)⟩

mutual
def laws_FnExactReceiveFrame.j0 : Nat → List Int → List Int → Int → List Int → List Int → Int → Bool → Int → Int → Int → Int → Int → Int → Option (Bool)
 | 0, _, _, _, _, _, _, _, _, _, _, _, _, _ => none
 | k + 1, x0, x4, x5, x6, x8, x9, x48, x520000, x520001, x520002, x531000, x531001, x531002 => if x48 = true then (none) else ((laws_toIntS.f k x0).bind fun t533 => ((laws_eqIntS.f k x6 t533).bind fun t536 => (if t536 = true then ((laws_markIntS.f k x6 1).bind fun bt537 => (if bt537.1 < 0 then (none) else ((laws_eqPhyHeader.f x531000 x531001 x531002 x520000 x520001 x520002).bind fun t539 => (if t539 = true then ((laws_eqByteS.f k x8 x4).bind fun t540 => (if t540 = true then (laws_FnExactReceiveFrame.j1 k x0 x4 x5 x8 (x9 != x5) x520000 x520001 x520002) else (none))) else (none))))) else (none))))
def laws_FnExactReceiveFrame.j1 : Nat → List Int → List Int → Int → List Int → Bool → Int → Int → Int → Option (Bool)
 | 0, _, _, _, _, _, _, _, _ => none
 | k + 1, x0, x4, x5, x8, x75, x520000, x520001, x520002 => if x75 = true then (none) else ((laws_markByteS.f k x8 1).bind fun bt541 => ((laws_heldByteS.f k bt541.2 1).bind fun t543 => (if t543 < 0 then (none) else (if t543 = bt541.1 then ((laws_toIntS.f k x0).bind fun t544 => ((impl_ReceiveFrame.f k t544).bind fun bt547 => ((laws_eqPhyHeader.f bt547.1 bt547.2.1 bt547.2.2.1 x520000 x520001 x520002).bind fun t555 => (if t555 = true then ((laws_eqByteS.f k bt547.2.2.2.1 x4).bind fun t556 => (if t556 = true then (laws_FnExactReceiveFrame.j2 k bt541.2 bt541.1 (bt547.2.2.2.2 != x5)) else (none))) else (none))))) else (none)))))
def laws_FnExactReceiveFrame.j2 : Nat → List Int → Int → Bool → Option (Bool)
 | 0, _, _, _ => none
 | k + 1, x8, x11, x108 => if x108 = true then (none) else ((laws_heldByteS.f k x8 1).bind fun t557 => (if t557 < 0 then (none) else (if t557 = x11 then (some true) else (none))))
end
def laws_FnExactReceiveFrame.f (k : Nat) (l0 : List Int) : Option (Bool) := if (l0.length : Int) > 1048576 then (some true) else ((laws_toIntS.f k l0).bind fun t509 => ((spec_ReceiveFrame.f k t509).bind fun bt512 => ((laws_toIntS.f k l0).bind fun t520 => ((impl_ReceiveFrame.f k t520).bind fun bt523 => ((laws_eqPhyHeader.f bt523.1 bt523.2.1 bt523.2.2.1 bt512.1 bt512.2.1 bt512.2.2.1).bind fun t531 => (if t531 = true then ((laws_eqByteS.f k bt523.2.2.2.1 bt512.2.2.2.1).bind fun t532 => (if t532 = true then (laws_FnExactReceiveFrame.j0 k l0 bt512.2.2.2.1 bt512.2.2.2.2 t520 bt523.2.2.2.1 bt523.2.2.2.2 (bt523.2.2.2.2 != bt512.2.2.2.2) bt512.1 bt512.2.1 bt512.2.2.1 bt523.1 bt523.2.1 bt523.2.2.1) else (none))) else (none)))))))
theorem laws_FnExactReceiveFrame.calls (k : Nat) (A0 : Option Addr) (c0 : Nat) (l0 : List Int) (r : Bool) (w : World) (hr0 : Kd.C (Kd.int .i64) w A0 l0.length l0) (hc0 : l0.length ≤ c0) (h : laws_FnExactReceiveFrame.f k l0 = some r) :
  Calls Try.prog 11 #[.slice A0 l0.length c0] w fun e w' => e = .returned (.bool r) ∧ Below w.heap.size w w' := by
 have hu24 := Try.underlying24
 have HR0 := zO hr0
 have HC0 := zO hc0
 clear hr0 hc0
 have HB := zO (Below.refl w.heap.size w)
 have H : (if (l0.length : Int) > 1048576 then (some true) else ((laws_toIntS.f k l0).bind fun t509 => ((spec_ReceiveFrame.f k t509).bind fun bt512 => ((laws_toIntS.f k l0).bind fun t520 => ((impl_ReceiveFrame.f k t520).bind fun bt523 => ((laws_eqPhyHeader.f bt523.1 bt523.2.1 bt523.2.2.1 bt512.1 bt512.2.1 bt512.2.2.1).bind fun t531 => (if t531 = true then ((laws_eqByteS.f k bt523.2.2.2.1 bt512.2.2.2.1).bind fun t532 => (if t532 = true then (laws_FnExactReceiveFrame.j0 k l0 bt512.2.2.2.1 bt512.2.2.2.2 t520 bt523.2.2.2.1 bt523.2.2.2.2 (bt523.2.2.2.2 != bt512.2.2.2.2) bt512.1 bt512.2.1 bt512.2.2.1 bt523.1 bt523.2.1 bt523.2.2.1) else (none))) else (none)))))))) = some r := h
 clear h
 by_cases c2 : (l0.length : Int) > 1048576
 ·rw [if_pos c2] at H
  have c2b0 : decide (1048576 < (l0.length : Int)) = true := decide_eq_true c2
  have c2b1 : decide (1048576 < l0.length) = true := decide_eq_true (by omega)
  clear c2
  obtain rfl := Option.some.inj H
  go_enter Try.func11, Try.ntmps11
  go_wp2
  go_ret
  exact ⟨by first | rfl | exact yP _ | (simp [errW_none, errW_some] <;> rfl) | (simp [*, errW_none, errW_some] <;> rfl), by repeat (first | exact HB.out | apply zA | apply zL | apply zB)⟩
 ·rw [if_neg c2] at H
  have c2b0 : decide (1048576 < (l0.length : Int)) = false := decide_eq_false c2
  have c2b1 : decide (1048576 < l0.length) = false := decide_eq_false (by omega)
  clear c2
  replace H := yE.mp H
  obtain ⟨t509, A30, H⟩ := H
  replace H : ((spec_ReceiveFrame.f k t509).bind fun bt512 => ((laws_toIntS.f k l0).bind fun t520 => ((impl_ReceiveFrame.f k t520).bind fun bt523 => ((laws_eqPhyHeader.f bt523.1 bt523.2.1 bt523.2.2.1 bt512.1 bt512.2.1 bt512.2.2.1).bind fun t531 => (if t531 = true then ((laws_eqByteS.f k bt523.2.2.2.1 bt512.2.2.2.1).bind fun t532 => (if t532 = true then (laws_FnExactReceiveFrame.j0 k l0 bt512.2.2.2.1 bt512.2.2.2.2 t520 bt523.2.2.2.1 bt523.2.2.2.2 (bt523.2.2.2.2 != bt512.2.2.2.2) bt512.1 bt512.2.1 bt512.2.2.1 bt523.1 bt523.2.1 bt523.2.2.1) else (none))) else (none)))))) = some r := H
  have A3 := zO A30
  clear A30
  replace H := yE.mp H
  obtain ⟨⟨t512, t513, t514, t515, t518⟩, A40, H⟩ := H
  replace H : ((laws_toIntS.f k l0).bind fun t520 => ((impl_ReceiveFrame.f k t520).bind fun bt523 => ((laws_eqPhyHeader.f bt523.1 bt523.2.1 bt523.2.2.1 t512 t513 t514).bind fun t531 => (if t531 = true then ((laws_eqByteS.f k bt523.2.2.2.1 t515).bind fun t532 => (if t532 = true then (laws_FnExactReceiveFrame.j0 k l0 t515 t518 t520 bt523.2.2.2.1 bt523.2.2.2.2 (bt523.2.2.2.2 != t518) t512 t513 t514 bt523.1 bt523.2.1 bt523.2.2.1) else (none))) else (none))))) = some r := H
  have A4 := zO A40
  clear A40
  replace H := yE.mp H
  obtain ⟨t520, A50, H⟩ := H
  replace H : ((impl_ReceiveFrame.f k t520).bind fun bt523 => ((laws_eqPhyHeader.f bt523.1 bt523.2.1 bt523.2.2.1 t512 t513 t514).bind fun t531 => (if t531 = true then ((laws_eqByteS.f k bt523.2.2.2.1 t515).bind fun t532 => (if t532 = true then (laws_FnExactReceiveFrame.j0 k l0 t515 t518 t520 bt523.2.2.2.1 bt523.2.2.2.2 (bt523.2.2.2.2 != t518) t512 t513 t514 bt523.1 bt523.2.1 bt523.2.2.1) else (none))) else (none)))) = some r := H
  have A5 := zO A50
  clear A50
  replace H := yE.mp H
  obtain ⟨⟨t523, t524, t525, t526, t529⟩, A60, H⟩ := H
  replace H : ((laws_eqPhyHeader.f t523 t524 t525 t512 t513 t514).bind fun t531 => (if t531 = true then ((laws_eqByteS.f k t526 t515).bind fun t532 => (if t532 = true then (laws_FnExactReceiveFrame.j0 k l0 t515 t518 t520 t526 t529 (t529 != t518) t512 t513 t514 t523 t524 t525) else (none))) else (none))) = some r := H
  have A6 := zO A60
  clear A60
  have HC7 := zO H
  clear H
  go_enter Try.func11, Try.ntmps11
  go_upto_region 6 with (first | ((with_reducible refine zM (f := 15) rfl ?_); refine goesL_ (some 21) rfl rfl Try.func15 (by kernel_rfl) rfl #[.slice A0 l0.length c0] rfl (by (try simp only [yK, yL, yM]); first | done | rfl | (simp only [yJ, yI]; rfl)) ?_; (with_reducible refine (laws_toIntS.calls k _ _ l0 t509 _ ?side1 ?side2 A3.out).mono ?_); (case side1 => repeat (first | exact HR0.out | (with_reducible refine zR ?_ _) | (with_reducible refine zT ?_ _) | (with_reducible refine zS ?_))); (case side2 => exact HC0.out); rintro e w8 ⟨v510, rfl, ho0, hb⟩; refine ⟨_, rfl, ?_⟩; have n0_ := zO (yA ho0 (zD (by repeat (first | exact HB.out | apply zA | apply zL | apply zB)))); have n1_ := zO (zE (by repeat (first | exact HB.out | apply zA | apply zL | apply zB)) hb); clear HB; have HO511 := n0_; have HB := n1_; clear n0_ n1_; (try clear hb); (try clear hb2); (try clear hk); (try clear hi); (try clear ho0); obtain ⟨Ao9, co9, eo9⟩ := Kd.R_slice HO511.out; subst eo9) | ((with_reducible refine zM (f := 59) rfl ?_); refine goesL_ (some 22) rfl rfl Try.func59 (by kernel_rfl) rfl #[.slice Ao9 t509.length co9] rfl (by (try simp only [yK, yL, yM]); first | done | rfl | (simp only [yJ, yI]; rfl)) ?_; (with_reducible refine (spec_ReceiveFrame.calls k _ _ t509 t512 t513 t514 t515 t518 _ ?side1 ?side2 A4.out).mono ?_); (case side1 => repeat (first | exact (zX HO511.out).2.2 | (with_reducible refine zR ?_ _) | (with_reducible refine zT ?_ _) | (with_reducible refine zS ?_))); (case side2 => exact (zX HO511.out).2.1); rintro e w10 ⟨v516, rfl, ho0, hb⟩; refine ⟨_, rfl, ?_⟩; have n0_ := zO (zY (by (with_reducible repeat (first | apply zU | apply zW | apply zV)); exact HO511.out) hb); have n1_ := zO (yA ho0 (zD (by repeat (first | exact HB.out | apply zA | apply zL | apply zB)))); have n2_ := zO (zE (by repeat (first | exact HB.out | apply zA | apply zL | apply zB)) hb); clear HO511; clear HB; have HO511 := n0_; have HO517 := n1_; have HB := n2_; clear n0_ n1_ n2_; (try clear hb); (try clear hb2); (try clear hk); (try clear hi); (try clear ho0)) | ((with_reducible refine zN (N := 3) rfl ?_); refine box_event ?hg (N := 3) ?hd (cs := #[.int .i64 0, .int .i64 0, .int .i64 0]) (t := 24) ?hr ?_; (case hd => rfl); (case hg => rfl); (case hr => first | (go_simp; done) | (go_simp; rfl)); intro gb519 hg w11 hbox hb; have n0_ := zO (zY (by (with_reducible repeat (first | apply zU | apply zW | apply zV)); exact HO511.out) hb); have n1_ := zO (zY (by (with_reducible repeat (first | apply zU | apply zW | apply zV)); exact HO517.out) hb); have n2_ := zO (zE (by repeat (first | exact HB.out | apply zA | apply zL | apply zB)) hb); have n3_ := zO (hbox); have n4_ := zO ((by rw [hg]; exact (zD (by repeat (first | exact HB.out | apply zA | apply zL | apply zB))) : w.heap.size ≤ gb519)); have n5_ := zO ((by rw [hg]; exact (zD (by repeat (first | exact HB.out | apply zA | apply zL | apply zB))) : w.heap.size ≤ gb519)); clear HO511; clear HO517; clear HB; have HO511 := n0_; have HO517 := n1_; have HB := n2_; have BK519 := n3_; have GW519 := n4_; have GE519 := n5_; clear n0_ n1_ n2_ n3_ n4_ n5_; clear hb hbox hg; have hcz12_0 : w11.cell? ⟨gb519, 0, none⟩ = some (.int .i64 0) := (zH BK519.out 0).trans rfl; have hcz12_1 : w11.cell? ⟨gb519, 1, none⟩ = some (.int .i64 0) := (zH BK519.out 1).trans rfl; have hcz12_2 : w11.cell? ⟨gb519, 2, none⟩ = some (.int .i64 0) := (zH BK519.out 2).trans rfl; have hfz12_0 := zK BK519.out 0; have hfz12_1 := zK BK519.out 1; have hfz12_2 := zK BK519.out 2) | ((with_reducible refine zM (f := 15) rfl ?_); refine goesL_ (some 27) rfl rfl Try.func15 (by kernel_rfl) rfl #[.slice A0 l0.length c0] rfl (by (try simp only [yK, yL, yM]); first | done | rfl | (simp only [yJ, yI]; rfl)) ?_; (with_reducible refine (laws_toIntS.calls k _ _ l0 t520 _ ?side1 ?side2 A5.out).mono ?_); (case side1 => exact Kd.C_below HR0.out (by repeat (first | (with_reducible first | exact HB.out | apply zA | apply zL | apply zB | refine zC ?_ GE519.out) | exact HB.out))); (case side2 => exact HC0.out); rintro e w13 ⟨v521, rfl, ho0, hb⟩; refine ⟨_, rfl, ?_⟩; have n0_ := zO (Kd.R_elder' (by (with_reducible repeat (first | apply zU | apply zW | apply zV)); exact (Kd.R_mono (zZ (p := ⟨gb519, 2, none⟩) (zZ (p := ⟨gb519, 1, none⟩) (zZ (p := ⟨gb519, 0, none⟩) (Kd.R_types HO511.out BK519.out (by decide)) (fun _ hk => hk.2) (.int .i64 t512)) (fun _ hk => hk.2) (.int .i64 t513)) (fun _ hk => hk.2) (.int .i64 t514)) (fun _ h_ => h_.1))) (Kd.R_base ho0) hb); have n1_ := zO (zY (by (with_reducible repeat (first | apply zU | apply zW | apply zV)); exact (Kd.R_mono (zZ (p := ⟨gb519, 2, none⟩) (zZ (p := ⟨gb519, 1, none⟩) (zZ (p := ⟨gb519, 0, none⟩) (Kd.R_types HO517.out BK519.out (by decide)) (fun _ hk => hk.2) (.int .i64 t512)) (fun _ hk => hk.2) (.int .i64 t513)) (fun _ hk => hk.2) (.int .i64 t514)) (fun _ h_ => h_.1))) hb); have n2_ := zO (yA (Kd.R_new' ho0 (Kd.R_lt (by (with_reducible repeat (first | apply zU | apply zW | apply zV)); exact (Kd.R_mono (zZ (p := ⟨gb519, 2, none⟩) (zZ (p := ⟨gb519, 1, none⟩) (zZ (p := ⟨gb519, 0, none⟩) (Kd.R_types HO511.out BK519.out (by decide)) (fun _ hk => hk.2) (.int .i64 t512)) (fun _ hk => hk.2) (.int .i64 t513)) (fun _ hk => hk.2) (.int .i64 t514)) (fun _ h_ => h_.1))))) (zD (by repeat (first | (with_reducible first | exact HB.out | apply zA | apply zL | apply zB | refine zC ?_ GE519.out) | exact HB.out)))); have n3_ := zO (zG (g := gb519) (o := .cells #[.int .i64 t512, .int .i64 t513, .int .i64 t514] 24 (0, 0)) (by (with_reducible repeat (first | refine zJ ?_ _ | refine zI ?_ | refine zF ?_ _)); refine blk_put (cs := #[.int .i64 t512, .int .i64 t513, .int .i64 0]) ?_ 2 _ rfl; (with_reducible repeat (first | refine zJ ?_ _ | refine zI ?_ | refine zF ?_ _)); refine blk_put (cs := #[.int .i64 t512, .int .i64 0, .int .i64 0]) ?_ 1 _ rfl; (with_reducible repeat (first | refine zJ ?_ _ | refine zI ?_ | refine zF ?_ _)); refine blk_put (cs := #[.int .i64 0, .int .i64 0, .int .i64 0]) ?_ 0 _ rfl; (with_reducible repeat (first | refine zJ ?_ _ | refine zI ?_ | refine zF ?_ _)); exact BK519.out) hb); have n4_ := zO (zE (by repeat (first | (with_reducible first | exact HB.out | apply zA | apply zL | apply zB | refine zC ?_ GE519.out) | exact HB.out)) hb); clear HO511; clear HO517; clear BK519; clear HB; have HO511 := n0_; have HO517 := n1_; have HO522 := n2_; have BK519 := n3_; have HB := n4_; clear n0_ n1_ n2_ n3_ n4_; (try clear hb); (try clear hb2); (try clear hk); (try clear hi); (try clear ho0); obtain ⟨Ao14, co14, eo14⟩ := Kd.R_slice HO522.out; subst eo14) | ((with_reducible refine zM (f := 60) rfl ?_); refine goesL_ (some 30) rfl rfl Try.func60 (by kernel_rfl) rfl #[.slice Ao14 t520.length co14] rfl (by (try simp only [yK, yL, yM]); first | done | rfl | (simp only [yJ, yI]; rfl)) ?_; (with_reducible refine (impl_ReceiveFrame.calls k _ _ t520 t523 t524 t525 t526 t529 _ ?side1 ?side2 A6.out).mono ?_); (case side1 => repeat (first | exact (zX HO522.out).2.2 | (with_reducible refine zR ?_ _) | (with_reducible refine zT ?_ _) | (with_reducible refine zS ?_))); (case side2 => exact (zX HO522.out).2.1); rintro e w15 ⟨v527, rfl, ho0, hb⟩; refine ⟨_, rfl, ?_⟩; have n0_ := zO (zY (by (with_reducible repeat (first | apply zU | apply zW | apply zV)); exact HO511.out) hb); have n1_ := zO (Kd.R_elder' (by (with_reducible repeat (first | apply zU | apply zW | apply zV)); exact HO517.out) (Kd.R_base ho0) hb); have n2_ := zO (zY (by (with_reducible repeat (first | apply zU | apply zW | apply zV)); exact HO522.out) hb); have n3_ := zO (yA (Kd.R_new' ho0 (Kd.R_lt (by (with_reducible repeat (first | apply zU | apply zW | apply zV)); exact HO517.out))) (zD (by repeat (first | (with_reducible first | exact HB.out | apply zA | apply zL | apply zB | refine zC ?_ GE519.out) | exact HB.out)))); have n4_ := zO (zG (g := gb519) (o := .cells #[.int .i64 t512, .int .i64 t513, .int .i64 t514] 24 (0, 0)) (by (with_reducible repeat (first | refine zJ ?_ _ | refine zI ?_ | refine zF ?_ _)); exact BK519.out) hb); have n5_ := zO (zE (by repeat (first | (with_reducible first | exact HB.out | apply zA | apply zL | apply zB | refine zC ?_ GE519.out) | exact HB.out)) hb); clear HO511; clear HO517; clear HO522; clear BK519; clear HB; have HO511 := n0_; have HO517 := n1_; have HO522 := n2_; have HO528 := n3_; have BK519 := n4_; have HB := n5_; clear n0_ n1_ n2_ n3_ n4_ n5_; (try clear hb); (try clear hb2); (try clear hk); (try clear hi); (try clear ho0)) | ((with_reducible refine zN (N := 7) rfl ?_); refine box_event ?hg (N := 7) ?hd (cs := #[.int .i64 0, .int .i64 0, .int .i64 0]) (t := 24) ?hr ?_; (case hd => rfl); (case hg => rfl); (case hr => first | (go_simp; done) | (go_simp; rfl)); intro gb530 hg w16 hbox hb; have n0_ := zO (zY (by (with_reducible repeat (first | apply zU | apply zW | apply zV)); exact HO511.out) hb); have n1_ := zO (zY (by (with_reducible repeat (first | apply zU | apply zW | apply zV)); exact HO517.out) hb); have n2_ := zO (zY (by (with_reducible repeat (first | apply zU | apply zW | apply zV)); exact HO522.out) hb); have n3_ := zO (zY (by (with_reducible repeat (first | apply zU | apply zW | apply zV)); exact HO528.out) hb); have n4_ := zO (zG (g := gb519) (o := .cells #[.int .i64 t512, .int .i64 t513, .int .i64 t514] 24 (0, 0)) (by (with_reducible repeat (first | refine zJ ?_ _ | refine zI ?_ | refine zF ?_ _)); exact BK519.out) hb); have n5_ := zO (zE (by repeat (first | (with_reducible first | exact HB.out | apply zA | apply zL | apply zB | refine zC ?_ GE519.out) | exact HB.out)) hb); have n6_ := zO (hbox); have n7_ := zO ((by rw [hg]; exact (zD (by repeat (first | (with_reducible first | exact HB.out | apply zA | apply zL | apply zB | refine zC ?_ GE519.out) | exact HB.out))) : w.heap.size ≤ gb530)); have n8_ := zO ((by rw [hg]; exact (zD (by repeat (first | (with_reducible first | exact HB.out | apply zA | apply zL | apply zB | refine zC ?_ GE519.out) | exact HB.out))) : w.heap.size ≤ gb530)); have n9_ := zO ((by rw [hg]; exact Nat.ne_of_lt (blk_lt (g := gb519) (o := .cells #[.int .i64 t512, .int .i64 t513, .int .i64 t514] 24 (0, 0)) (by (with_reducible repeat (first | refine zJ ?_ _ | refine zI ?_ | refine zF ?_ _)); exact BK519.out)) : gb519 ≠ gb530)); have n10_ := zO ((by rw [hg]; exact Nat.ne_of_gt (blk_lt (g := gb519) (o := .cells #[.int .i64 t512, .int .i64 t513, .int .i64 t514] 24 (0, 0)) (by (with_reducible repeat (first | refine zJ ?_ _ | refine zI ?_ | refine zF ?_ _)); exact BK519.out)) : gb530 ≠ gb519)); clear HO511; clear HO517; clear HO522; clear HO528; clear BK519; clear HB; have HO511 := n0_; have HO517 := n1_; have HO522 := n2_; have HO528 := n3_; have BK519 := n4_; have HB := n5_; have BK530 := n6_; have GW530 := n7_; have GE530 := n8_; have NB519_530 := n9_; have NB530_519 := n10_; clear n0_ n1_ n2_ n3_ n4_ n5_ n6_ n7_ n8_ n9_ n10_; clear hb hbox hg; have hnb17 := NB530_519.out; have hnc17 := NB519_530.out; have hcz18_0 : w16.cell? ⟨gb530, 0, none⟩ = some (.int .i64 0) := (zH BK530.out 0).trans rfl; have hcz18_1 : w16.cell? ⟨gb530, 1, none⟩ = some (.int .i64 0) := (zH BK530.out 1).trans rfl; have hcz18_2 : w16.cell? ⟨gb530, 2, none⟩ = some (.int .i64 0) := (zH BK530.out 2).trans rfl; have hfz18_0 := zK BK530.out 0; have hfz18_1 := zK BK530.out 1; have hfz18_2 := zK BK530.out 2))
  (try simp only [Act.put, yF, yG, yH])
  go_cut [48] (fun v48 wc => ∃ (kq : Nat) (x48_6 : Bool), v48 = .bool x48_6 ∧ Aside0 (laws_FnExactReceiveFrame.j0 kq l0 t515 t518 t520 t526 t529 x48_6 t512 t513 t514 t523 t524 t525 = some r) ∧ Aside0 (kq ≤ k) ∧ Aside0 (Kd.R (Kd.int .u8) 5 wc w.heap.size (fun k_ => some k_ ≠ (v527 : Value).ownBlock) v516 t515) ∧ Aside0 (Kd.R (Kd.int .i64) 3 wc w.heap.size (fun _ => True) (.slice Ao14 t520.length co14) t520) ∧ Aside0 (Kd.R (Kd.int .u8) 5 wc w.heap.size (fun k_ => some k_ ≠ (v516 : Value).ownBlock) v527 t526) ∧ Aside0 (wc.heap[gb519]? = some (.cells #[.int .i64 t512, .int .i64 t513, .int .i64 t514] 24 (0, 0))) ∧ Aside0 (wc.heap[gb530]? = some (.cells #[.int .i64 t523, .int .i64 t524, .int .i64 t525] 24 (0, 0))) ∧ Aside0 (Below w.heap.size w wc))
  case first =>
   have H := HC7.out
   clear HC7
   replace H := yE.mp H
   obtain ⟨t531, A190, H⟩ := H
   replace H : (if t531 = true then ((laws_eqByteS.f k t526 t515).bind fun t532 => (if t532 = true then (laws_FnExactReceiveFrame.j0 k l0 t515 t518 t520 t526 t529 (t529 != t518) t512 t513 t514 t523 t524 t525) else (none))) else (none)) = some r := H
   have A19 := zO A190
   clear A190
   by_cases c20 : t531 = true
   ·subst c20
    have H1 : ((laws_eqByteS.f k t526 t515).bind fun t532 => (if t532 = true then (laws_FnExactReceiveFrame.j0 k l0 t515 t518 t520 t526 t529 (t529 != t518) t512 t513 t514 t523 t524 t525) else (none))) = some r := by rw [if_pos rfl] at H; exact H
    clear H
    have H := H1
    clear H1
    replace H := yE.mp H
    obtain ⟨t532, A210, H⟩ := H
    replace H : (if t532 = true then (laws_FnExactReceiveFrame.j0 k l0 t515 t518 t520 t526 t529 (t529 != t518) t512 t513 t514 t523 t524 t525) else (none)) = some r := H
    have A21 := zO A210
    clear A210
    by_cases c22 : t532 = true
    ·subst c22
     have H1 : (laws_FnExactReceiveFrame.j0 k l0 t515 t518 t520 t526 t529 (t529 != t518) t512 t513 t514 t523 t524 t525) = some r := by rw [if_pos rfl] at H; exact H
     clear H
     have H := H1
     clear H1
     have H' := zO H
     clear H
     have hnb23 := NB530_519.out
     have hnc23 := NB519_530.out
     have hcz24_0 : w16.cell? ⟨gb530, 0, none⟩ = some (.int .i64 0) := (zH BK530.out 0).trans rfl
     have hcz24_1 : w16.cell? ⟨gb530, 1, none⟩ = some (.int .i64 0) := (zH BK530.out 1).trans rfl
     have hcz24_2 : w16.cell? ⟨gb530, 2, none⟩ = some (.int .i64 0) := (zH BK530.out 2).trans rfl
     have hfz24_0 := zK BK530.out 0
     have hfz24_1 := zK BK530.out 1
     have hfz24_2 := zK BK530.out 2
     have hcz25_0 : w16.cell? ⟨gb519, 0, none⟩ = some (.int .i64 t512) := (zH BK519.out 0).trans rfl
     have hcz25_1 : w16.cell? ⟨gb519, 1, none⟩ = some (.int .i64 t513) := (zH BK519.out 1).trans rfl
     have hcz25_2 : w16.cell? ⟨gb519, 2, none⟩ = some (.int .i64 t514) := (zH BK519.out 2).trans rfl
     have hfz25_0 := zK BK519.out 0
     have hfz25_1 := zK BK519.out 1
     have hfz25_2 := zK BK519.out 2
     go_wp2_with (first | ((with_reducible refine zM (f := 17) rfl ?_); refine goesL_ (some 36) rfl rfl Try.func17 (by kernel_rfl) rfl #[.agg #[.int .i64 t523, .int .i64 t524, .int .i64 t525], .agg #[.int .i64 t512, .int .i64 t513, .int .i64 t514]] rfl (by (try simp only [yK, yL, yM]); first | done | rfl | (simp only [yJ, yI]; rfl)) ?_; (with_reducible refine (laws_eqPhyHeader.calls t523 t524 t525 t512 t513 t514 true _ A19.out).mono ?_); rintro e w26 ⟨rfl, hb⟩; refine ⟨_, rfl, ?_⟩; have n0_ := zO (zY (by (with_reducible repeat (first | apply zU | apply zW | apply zV)); exact (Kd.R_mono (zZ (p := ⟨gb530, 2, none⟩) (zZ (p := ⟨gb530, 1, none⟩) (zZ (p := ⟨gb530, 0, none⟩) (Kd.R_types HO511.out BK530.out (by decide)) (fun _ hk => hk.2) (.int .i64 t523)) (fun _ hk => hk.2) (.int .i64 t524)) (fun _ hk => hk.2) (.int .i64 t525)) (fun _ h_ => h_.1))) hb); have n1_ := zO (zY (by (with_reducible repeat (first | apply zU | apply zW | apply zV)); exact (Kd.R_mono (zZ (p := ⟨gb530, 2, none⟩) (zZ (p := ⟨gb530, 1, none⟩) (zZ (p := ⟨gb530, 0, none⟩) (Kd.R_types HO517.out BK530.out (by decide)) (fun _ hk => hk.2) (.int .i64 t523)) (fun _ hk => hk.2) (.int .i64 t524)) (fun _ hk => hk.2) (.int .i64 t525)) (fun _ h_ => h_.1))) hb); have n2_ := zO (zY (by (with_reducible repeat (first | apply zU | apply zW | apply zV)); exact (Kd.R_mono (zZ (p := ⟨gb530, 2, none⟩) (zZ (p := ⟨gb530, 1, none⟩) (zZ (p := ⟨gb530, 0, none⟩) (Kd.R_types HO522.out BK530.out (by decide)) (fun _ hk => hk.2) (.int .i64 t523)) (fun _ hk => hk.2) (.int .i64 t524)) (fun _ hk => hk.2) (.int .i64 t525)) (fun _ h_ => h_.1))) hb); have n3_ := zO (zY (by (with_reducible repeat (first | apply zU | apply zW | apply zV)); exact (Kd.R_mono (zZ (p := ⟨gb530, 2, none⟩) (zZ (p := ⟨gb530, 1, none⟩) (zZ (p := ⟨gb530, 0, none⟩) (Kd.R_types HO528.out BK530.out (by decide)) (fun _ hk => hk.2) (.int .i64 t523)) (fun _ hk => hk.2) (.int .i64 t524)) (fun _ hk => hk.2) (.int .i64 t525)) (fun _ h_ => h_.1))) hb); have n4_ := zO (zG (g := gb519) (o := .cells #[.int .i64 t512, .int .i64 t513, .int .i64 t514] 24 (0, 0)) (by (with_reducible repeat (first | refine zJ ?_ _ | refine zI ?_ | refine zF ?_ _)); refine blk_far ?_ NB519_530.out _; (with_reducible repeat (first | refine zJ ?_ _ | refine zI ?_ | refine zF ?_ _)); refine blk_far ?_ NB519_530.out _; (with_reducible repeat (first | refine zJ ?_ _ | refine zI ?_ | refine zF ?_ _)); refine blk_far ?_ NB519_530.out _; (with_reducible repeat (first | refine zJ ?_ _ | refine zI ?_ | refine zF ?_ _)); exact BK519.out) hb); have n5_ := zO (zG (g := gb530) (o := .cells #[.int .i64 t523, .int .i64 t524, .int .i64 t525] 24 (0, 0)) (by (with_reducible repeat (first | refine zJ ?_ _ | refine zI ?_ | refine zF ?_ _)); refine blk_put (cs := #[.int .i64 t523, .int .i64 t524, .int .i64 0]) ?_ 2 _ rfl; (with_reducible repeat (first | refine zJ ?_ _ | refine zI ?_ | refine zF ?_ _)); refine blk_put (cs := #[.int .i64 t523, .int .i64 0, .int .i64 0]) ?_ 1 _ rfl; (with_reducible repeat (first | refine zJ ?_ _ | refine zI ?_ | refine zF ?_ _)); refine blk_put (cs := #[.int .i64 0, .int .i64 0, .int .i64 0]) ?_ 0 _ rfl; (with_reducible repeat (first | refine zJ ?_ _ | refine zI ?_ | refine zF ?_ _)); exact BK530.out) hb); have n6_ := zO (zE (by repeat (first | (with_reducible first | exact HB.out | apply zA | apply zL | apply zB | refine zC ?_ GE519.out | refine zC ?_ GE530.out) | exact HB.out)) hb); clear HO511; clear HO517; clear HO522; clear HO528; clear BK519; clear BK530; clear HB; have HO511 := n0_; have HO517 := n1_; have HO522 := n2_; have HO528 := n3_; have BK519 := n4_; have BK530 := n5_; have HB := n6_; clear n0_ n1_ n2_ n3_ n4_ n5_ n6_; (try clear hb); (try clear hb2); (try clear hk); (try clear hi); obtain ⟨Ao27, co27, eo27⟩ := Kd.R_slice HO528.out; subst eo27; obtain ⟨Ao28, co28, eo28⟩ := Kd.R_slice HO517.out; subst eo28) | (go_at_call 23; (with_reducible refine (laws_eqByteS.calls k _ _ t526 _ _ t515 true _ ?side1 ?side2 ?side3 ?side4 A21.out).mono ?_); (case side1 => repeat (first | exact (zX HO528.out).2.2 | (with_reducible refine zR ?_ _) | (with_reducible refine zT ?_ _) | (with_reducible refine zS ?_))); (case side2 => exact (zX HO528.out).2.1); (case side3 => repeat (first | exact (zX HO517.out).2.2 | (with_reducible refine zR ?_ _) | (with_reducible refine zT ?_ _) | (with_reducible refine zS ?_))); (case side4 => exact (zX HO517.out).2.1); rintro e w' ⟨rfl, ⟨nd, rfl⟩⟩))
     go_meet
     case rel => exact ⟨_, ((t529 != t518)), (by first | rfl | (simp; done) | (simp [*]; done)), H', ⟨by first | omega | exact Nat.le_refl _⟩, ⟨by (with_reducible repeat (first | apply zU | apply zW | apply zV)); exact Kd.R_mono HO517.out (fun _ hk => hk.2)⟩, ⟨by (with_reducible repeat (first | apply zU | apply zW | apply zV)); exact Kd.R_mono HO522.out (fun _ hk => trivial)⟩, ⟨by (with_reducible repeat (first | apply zU | apply zW | apply zV)); exact Kd.R_mono HO528.out (fun _ hk => hk.2)⟩, ⟨by (with_reducible repeat (first | refine zJ ?_ _ | refine zI ?_ | refine zF ?_ _)); exact BK519.out⟩, ⟨by (with_reducible repeat (first | refine zJ ?_ _ | refine zI ?_ | refine zF ?_ _)); exact BK530.out⟩, ⟨by repeat (first | (with_reducible first | exact HB.out | apply zA | apply zL | apply zB | refine zC ?_ GE519.out | refine zC ?_ GE530.out) | exact HB.out)⟩⟩
    ·replace c22 := Bool.eq_false_iff.mpr c22
     subst c22
     have H1 : (none) = some r := by rw [if_neg (show ¬ (false = true) by decide)] at H; exact H
     clear H
     have H := H1
     clear H1
     exact absurd H (by simp)
   ·replace c20 := Bool.eq_false_iff.mpr c20
    subst c20
    have H1 : (none) = some r := by rw [if_neg (show ¬ (false = true) by decide)] at H; exact H
    clear H
    have H := H1
    clear H1
    exact absurd H (by simp)
  case rest =>
   clear HC7
   try clear c1
   try clear c2
   try clear c2b0
   try clear c2b1
   try clear p2
   try clear c5
   try clear c6
   try clear c11
   try clear c15
   try clear c17
   try clear c20
   try clear c22
   try clear c23
   try clear hcz12_0
   try clear hcz12_1
   try clear hcz12_2
   try clear hcz18_0
   try clear hcz18_1
   try clear hcz18_2
   try clear hcz24_0
   try clear hcz24_1
   try clear hcz24_2
   try clear hcz25_0
   try clear hcz25_1
   try clear hcz25_2
   try clear hfz12_0
   try clear hfz12_1
   try clear hfz12_2
   try clear hfz18_0
   try clear hfz18_1
   try clear hfz18_2
   try clear hfz24_0
   try clear hfz24_1
   try clear hfz24_2
   try clear hfz25_0
   try clear hfz25_1
   try clear hfz25_2
   obtain ⟨kq, x48_6, rfl, HA, HJ6, HO_4, HO_6, HO_8, BK519, BK530, HB⟩ := hcut
   cases kq with
   | zero => exact absurd HA.out (by simp [laws_FnExactReceiveFrame.j0])
   | succ kj6 =>
    have H := HA.out
    clear HA
    simp only [laws_FnExactReceiveFrame.j0] at H
    by_cases c29 : x48_6 = true
    ·subst c29
     have H1 : (none) = some r := by rw [if_pos rfl] at H; exact H
     clear H
     have H := H1
     clear H1
     exact absurd H (by simp)
    ·replace c29 := Bool.eq_false_iff.mpr c29
     subst c29
     have H1 : ((laws_toIntS.f kj6 l0).bind fun t533 => ((laws_eqIntS.f kj6 t520 t533).bind fun t536 => (if t536 = true then ((laws_markIntS.f kj6 t520 1).bind fun bt537 => (if bt537.1 < 0 then (none) else ((laws_eqPhyHeader.f t523 t524 t525 t512 t513 t514).bind fun t539 => (if t539 = true then ((laws_eqByteS.f kj6 t526 t515).bind fun t540 => (if t540 = true then (laws_FnExactReceiveFrame.j1 kj6 l0 t515 t518 t526 (t529 != t518) t512 t513 t514) else (none))) else (none))))) else (none)))) = some r := by rw [if_neg (show ¬ (false = true) by decide)] at H; exact H
     clear H
     have H := H1
     clear H1
     replace H := yE.mp H
     obtain ⟨t533, A300, H⟩ := H
     replace H : ((laws_eqIntS.f kj6 t520 t533).bind fun t536 => (if t536 = true then ((laws_markIntS.f kj6 t520 1).bind fun bt537 => (if bt537.1 < 0 then (none) else ((laws_eqPhyHeader.f t523 t524 t525 t512 t513 t514).bind fun t539 => (if t539 = true then ((laws_eqByteS.f kj6 t526 t515).bind fun t540 => (if t540 = true then (laws_FnExactReceiveFrame.j1 kj6 l0 t515 t518 t526 (t529 != t518) t512 t513 t514) else (none))) else (none))))) else (none))) = some r := H
     have A30 := zO A300
     clear A300
     replace H := yE.mp H
     obtain ⟨t536, A310, H⟩ := H
     replace H : (if t536 = true then ((laws_markIntS.f kj6 t520 1).bind fun bt537 => (if bt537.1 < 0 then (none) else ((laws_eqPhyHeader.f t523 t524 t525 t512 t513 t514).bind fun t539 => (if t539 = true then ((laws_eqByteS.f kj6 t526 t515).bind fun t540 => (if t540 = true then (laws_FnExactReceiveFrame.j1 kj6 l0 t515 t518 t526 (t529 != t518) t512 t513 t514) else (none))) else (none))))) else (none)) = some r := H
     have A31 := zO A310
     clear A310
     by_cases c32 : t536 = true
     ·subst c32
      have H1 : ((laws_markIntS.f kj6 t520 1).bind fun bt537 => (if bt537.1 < 0 then (none) else ((laws_eqPhyHeader.f t523 t524 t525 t512 t513 t514).bind fun t539 => (if t539 = true then ((laws_eqByteS.f kj6 t526 t515).bind fun t540 => (if t540 = true then (laws_FnExactReceiveFrame.j1 kj6 l0 t515 t518 t526 (t529 != t518) t512 t513 t514) else (none))) else (none))))) = some r := by rw [if_pos rfl] at H; exact H
      clear H
      have H := H1
      clear H1
      replace H := yE.mp H
      obtain ⟨⟨t537, t538⟩, A330, H⟩ := H
      replace H : (if t537 < 0 then (none) else ((laws_eqPhyHeader.f t523 t524 t525 t512 t513 t514).bind fun t539 => (if t539 = true then ((laws_eqByteS.f kj6 t526 t515).bind fun t540 => (if t540 = true then (laws_FnExactReceiveFrame.j1 kj6 l0 t515 t518 t526 (t529 != t518) t512 t513 t514) else (none))) else (none)))) = some r := H
      have A33 := zO A330
      clear A330
      have HC34 := zO H
      clear H
      go_upto_region 12 with (first | ((with_reducible refine zM (f := 15) rfl ?_); refine goesL_ (some 51) rfl rfl Try.func15 (by kernel_rfl) rfl #[.slice A0 l0.length c0] rfl (by (try simp only [yK, yL, yM]); first | done | rfl | (simp only [yJ, yI]; rfl)) ?_; (with_reducible refine (laws_toIntS.calls kj6 _ _ l0 t533 _ ?side1 ?side2 A30.out).mono ?_); (case side1 => repeat (first | exact (Kd.C_below HR0.out HB.out) | (with_reducible refine zR ?_ _) | (with_reducible refine zT ?_ _) | (with_reducible refine zS ?_))); (case side2 => exact HC0.out); rintro e w35 ⟨v534, rfl, ho0, hb⟩; refine ⟨_, rfl, ?_⟩; have n0_ := zO (zY (by (with_reducible repeat (first | apply zU | apply zW | apply zV)); exact HO_4.out) hb); have n1_ := zO (Kd.R_elder' (by (with_reducible repeat (first | apply zU | apply zW | apply zV)); exact HO_6.out) (Kd.R_base ho0) hb); have n2_ := zO (zY (by (with_reducible repeat (first | apply zU | apply zW | apply zV)); exact HO_8.out) hb); have n3_ := zO (yA (Kd.R_new' ho0 (Kd.R_lt (by (with_reducible repeat (first | apply zU | apply zW | apply zV)); exact HO_6.out))) (zD (by repeat (first | (with_reducible first | exact HB.out | apply zA | apply zL | apply zB | refine zC ?_ GE519.out | refine zC ?_ GE530.out) | exact HB.out)))); have n4_ := zO (zG (g := gb519) (o := .cells #[.int .i64 t512, .int .i64 t513, .int .i64 t514] 24 (0, 0)) (by (with_reducible repeat (first | refine zJ ?_ _ | refine zI ?_ | refine zF ?_ _)); exact BK519.out) hb); have n5_ := zO (zG (g := gb530) (o := .cells #[.int .i64 t523, .int .i64 t524, .int .i64 t525] 24 (0, 0)) (by (with_reducible repeat (first | refine zJ ?_ _ | refine zI ?_ | refine zF ?_ _)); exact BK530.out) hb); have n6_ := zO (zE (by repeat (first | (with_reducible first | exact HB.out | apply zA | apply zL | apply zB | refine zC ?_ GE519.out | refine zC ?_ GE530.out) | exact HB.out)) hb); clear HO_4; clear HO_6; clear HO_8; clear BK519; clear BK530; clear HB; have HO_4 := n0_; have HO_6 := n1_; have HO_8 := n2_; have HO535 := n3_; have BK519 := n4_; have BK530 := n5_; have HB := n6_; clear n0_ n1_ n2_ n3_ n4_ n5_ n6_; (try clear hb); (try clear hb2); (try clear hk); (try clear hi); (try clear ho0); obtain ⟨Ao36, co36, eo36⟩ := Kd.R_slice HO535.out; subst eo36) | ((with_reducible refine zM (f := 18) rfl ?_); refine goesL_ (some 52) rfl rfl Try.func18 (by kernel_rfl) rfl #[.slice Ao14 t520.length co14, .slice Ao36 t533.length co36] rfl (by (try simp only [yK, yL, yM]); first | done | rfl | (simp only [yJ, yI]; rfl)) ?_; (with_reducible refine (laws_eqIntS.calls kj6 _ _ t520 _ _ t533 true _ ?side1 ?side2 ?side3 ?side4 A31.out).mono ?_); (case side1 => repeat (first | exact (zX HO_6.out).2.2 | (with_reducible refine zR ?_ _) | (with_reducible refine zT ?_ _) | (with_reducible refine zS ?_))); (case side2 => exact (zX HO_6.out).2.1); (case side3 => repeat (first | exact (zX HO535.out).2.2 | (with_reducible refine zR ?_ _) | (with_reducible refine zT ?_ _) | (with_reducible refine zS ?_))); (case side4 => exact (zX HO535.out).2.1); rintro e w' ⟨rfl, ⟨nd, rfl⟩⟩; refine ⟨_, rfl, ?_⟩) | ((with_reducible refine zM (f := 38) rfl ?_); refine goesL_ (some 56) rfl rfl Try.func38 (by kernel_rfl) rfl #[.slice Ao14 t520.length co14, .int .i64 1] rfl (by (try simp only [yK, yL, yM]); first | done | rfl | (simp only [yJ, yI]; rfl)) ?_; (with_reducible refine (laws_markIntS.calls kj6 (fun k_ => some k_ = (.slice Ao14 t520.length co14 : Value).ownBlock) (.slice Ao14 t520.length co14) t520 1 t537 t538 w _ ?side1 ?side2 A33.out).mono ?_); (case side1 => repeat (first | (with_reducible first | exact HB.out | apply zA | apply zL | apply zB | refine zC ?_ GE519.out | refine zC ?_ GE530.out) | exact HB.out)); (case side2 => exact Kd.R_tight rfl HO_6.out); rintro e w37 ⟨rfl, hy0, hb, hkp⟩; refine ⟨_, rfl, ?_⟩; have n0_ := zO (Kd.R_mono (ok' := fun k_ => some k_ ≠ (v527 : Value).ownBlock) (Kd.R_keptB ((Kd.R_apart' HO_4.out (Kd.R_typed HO_6.out) (by decide))) hkp (fun k_ hk_ hs_ => (hk_.2) hs_)) (fun k_ hk_ => hk_.1.1)); have n1_ := zO (Kd.R_reok rfl hy0 (fun k_ e_ => HO_6.out.1 k_ e_)); have n2_ := zO (Kd.R_mono (ok' := fun k_ => some k_ ≠ (v516 : Value).ownBlock) (Kd.R_keptB ((Kd.R_apart' HO_8.out (Kd.R_typed HO_6.out) (by decide))) hkp (fun k_ hk_ hs_ => (hk_.2) hs_)) (fun k_ hk_ => hk_.1.1)); have n3_ := zO (blk_kept (by (with_reducible repeat (first | refine zJ ?_ _ | refine zI ?_ | refine zF ?_ _)); exact BK519.out) hkp (fun hs_ => (fun e_ => (Kd.R_ne HO_6.out BK519.out (by decide)) e_) hs_)); have n4_ := zO (blk_kept (by (with_reducible repeat (first | refine zJ ?_ _ | refine zI ?_ | refine zF ?_ _)); exact BK530.out) hkp (fun hs_ => (fun e_ => (Kd.R_ne HO_6.out BK530.out (by decide)) e_) hs_)); have n5_ := zO (Kd.R_mono (ok' := fun k_ => some k_ ≠ (.slice Ao14 t520.length co14 : Value).ownBlock) (Kd.R_keptB (HO535.out) hkp (fun k_ hk_ hs_ => (hk_.2) hs_)) (fun k_ hk_ => hk_.1.2)); have n6_ := zO (hb); clear HO_4; clear HO_6; clear HO_8; clear BK519; clear BK530; clear HO535; clear HB; have HO_4 := n0_; have HO_6 := n1_; have HO_8 := n2_; have BK519 := n3_; have BK530 := n4_; have HO535 := n5_; have HB := n6_; clear n0_ n1_ n2_ n3_ n4_ n5_ n6_; (try clear hb); (try clear hkp); (try clear hy0)))
      (try simp only [Act.put, yF, yG, yH])
      go_cut [75] (fun v75 wc => ∃ (kq : Nat) (x75_33 : Bool), v75 = .bool x75_33 ∧ Aside0 (laws_FnExactReceiveFrame.j1 kq l0 t515 t518 t526 x75_33 t512 t513 t514 = some r) ∧ Aside0 (kq ≤ kj6) ∧ Aside0 (Kd.R (Kd.int .u8) 5 wc w.heap.size (fun k_ => some k_ ≠ (v527 : Value).ownBlock) v516 t515) ∧ Aside0 (Kd.R (Kd.int .u8) 5 wc w.heap.size (fun k_ => some k_ ≠ (v516 : Value).ownBlock) v527 t526) ∧ Aside0 (wc.heap[gb519]? = some (.cells #[.int .i64 t512, .int .i64 t513, .int .i64 t514] 24 (0, 0))) ∧ Aside0 (wc.heap[gb530]? = some (.cells #[.int .i64 t523, .int .i64 t524, .int .i64 t525] 24 (0, 0))) ∧ Aside0 (Below w.heap.size w wc))
      case first =>
       have H := HC34.out
       clear HC34
       by_cases c38 : t537 < 0
       ·rw [if_pos c38] at H
        exact absurd H (by simp)
       ·rw [if_neg c38] at H
        have c38b0 : decide (t537 < 0) = false := decide_eq_false c38
        clear c38
        (first | rw [c38b0] | (simp only [i64_w, i32_w]; rw [c38b0]) | skip)
        replace H := yE.mp H
        obtain ⟨t539, A390, H⟩ := H
        replace H : (if t539 = true then ((laws_eqByteS.f kj6 t526 t515).bind fun t540 => (if t540 = true then (laws_FnExactReceiveFrame.j1 kj6 l0 t515 t518 t526 (t529 != t518) t512 t513 t514) else (none))) else (none)) = some r := H
        have A39 := zO A390
        clear A390
        by_cases c40 : t539 = true
        ·subst c40
         have H1 : ((laws_eqByteS.f kj6 t526 t515).bind fun t540 => (if t540 = true then (laws_FnExactReceiveFrame.j1 kj6 l0 t515 t518 t526 (t529 != t518) t512 t513 t514) else (none))) = some r := by rw [if_pos rfl] at H; exact H
         clear H
         have H := H1
         clear H1
         replace H := yE.mp H
         obtain ⟨t540, A410, H⟩ := H
         replace H : (if t540 = true then (laws_FnExactReceiveFrame.j1 kj6 l0 t515 t518 t526 (t529 != t518) t512 t513 t514) else (none)) = some r := H
         have A41 := zO A410
         clear A410
         by_cases c42 : t540 = true
         ·subst c42
          have H1 : (laws_FnExactReceiveFrame.j1 kj6 l0 t515 t518 t526 (t529 != t518) t512 t513 t514) = some r := by rw [if_pos rfl] at H; exact H
          clear H
          have H := H1
          clear H1
          have H' := zO H
          clear H
          have hnb43 := NB530_519.out
          have hnc43 := NB519_530.out
          have hcz44_0 : w37.cell? ⟨gb530, 0, none⟩ = some (.int .i64 t523) := (zH BK530.out 0).trans rfl
          have hcz44_1 : w37.cell? ⟨gb530, 1, none⟩ = some (.int .i64 t524) := (zH BK530.out 1).trans rfl
          have hcz44_2 : w37.cell? ⟨gb530, 2, none⟩ = some (.int .i64 t525) := (zH BK530.out 2).trans rfl
          have hfz44_0 := zK BK530.out 0
          have hfz44_1 := zK BK530.out 1
          have hfz44_2 := zK BK530.out 2
          have hcz45_0 : w37.cell? ⟨gb519, 0, none⟩ = some (.int .i64 t512) := (zH BK519.out 0).trans rfl
          have hcz45_1 : w37.cell? ⟨gb519, 1, none⟩ = some (.int .i64 t513) := (zH BK519.out 1).trans rfl
          have hcz45_2 : w37.cell? ⟨gb519, 2, none⟩ = some (.int .i64 t514) := (zH BK519.out 2).trans rfl
          have hfz45_0 := zK BK519.out 0
          have hfz45_1 := zK BK519.out 1
          have hfz45_2 := zK BK519.out 2
          go_wp2_with (first | (go_at_call 17; (with_reducible refine (laws_eqPhyHeader.calls t523 t524 t525 t512 t513 t514 true _ A39.out).mono ?_); rintro e w46 ⟨rfl, hb⟩; have n0_ := zO (zY (by (with_reducible repeat (first | apply zU | apply zW | apply zV)); exact HO_4.out) hb); have n1_ := zO (zY (by (with_reducible repeat (first | apply zU | apply zW | apply zV)); exact HO_6.out) hb); have n2_ := zO (zY (by (with_reducible repeat (first | apply zU | apply zW | apply zV)); exact HO_8.out) hb); have n3_ := zO (zY (by (with_reducible repeat (first | apply zU | apply zW | apply zV)); exact HO535.out) hb); have n4_ := zO (zG (g := gb519) (o := .cells #[.int .i64 t512, .int .i64 t513, .int .i64 t514] 24 (0, 0)) (by (with_reducible repeat (first | refine zJ ?_ _ | refine zI ?_ | refine zF ?_ _)); exact BK519.out) hb); have n5_ := zO (zG (g := gb530) (o := .cells #[.int .i64 t523, .int .i64 t524, .int .i64 t525] 24 (0, 0)) (by (with_reducible repeat (first | refine zJ ?_ _ | refine zI ?_ | refine zF ?_ _)); exact BK530.out) hb); have n6_ := zO (zE (by repeat (first | (with_reducible first | exact HB.out | apply zA | apply zL | apply zB | refine zC ?_ GE519.out | refine zC ?_ GE530.out) | exact HB.out)) hb); clear HO_4; clear HO_6; clear HO_8; clear HO535; clear BK519; clear BK530; clear HB; have HO_4 := n0_; have HO_6 := n1_; have HO_8 := n2_; have HO535 := n3_; have BK519 := n4_; have BK530 := n5_; have HB := n6_; clear n0_ n1_ n2_ n3_ n4_ n5_ n6_; (try clear hb); (try clear hb2); (try clear hk); (try clear hi); obtain ⟨Ao47, co47, eo47⟩ := Kd.R_slice HO_8.out; subst eo47; obtain ⟨Ao48, co48, eo48⟩ := Kd.R_slice HO_4.out; subst eo48) | (go_at_call 23; (with_reducible refine (laws_eqByteS.calls kj6 _ _ t526 _ _ t515 true _ ?side1 ?side2 ?side3 ?side4 A41.out).mono ?_); (case side1 => repeat (first | exact (zX HO_8.out).2.2 | (with_reducible refine zR ?_ _) | (with_reducible refine zT ?_ _) | (with_reducible refine zS ?_))); (case side2 => exact (zX HO_8.out).2.1); (case side3 => repeat (first | exact (zX HO_4.out).2.2 | (with_reducible refine zR ?_ _) | (with_reducible refine zT ?_ _) | (with_reducible refine zS ?_))); (case side4 => exact (zX HO_4.out).2.1); rintro e w' ⟨rfl, ⟨nd, rfl⟩⟩))
          go_meet
          case rel => exact ⟨_, ((t529 != t518)), (by first | rfl | (simp; done) | (simp [*]; done)), H', ⟨by have := HJ6.out; first | omega | exact Nat.le_refl _⟩, ⟨by (with_reducible repeat (first | apply zU | apply zW | apply zV)); exact HO_4.out⟩, ⟨by (with_reducible repeat (first | apply zU | apply zW | apply zV)); exact HO_8.out⟩, ⟨by (with_reducible repeat (first | refine zJ ?_ _ | refine zI ?_ | refine zF ?_ _)); exact BK519.out⟩, ⟨by (with_reducible repeat (first | refine zJ ?_ _ | refine zI ?_ | refine zF ?_ _)); exact BK530.out⟩, ⟨by repeat (first | (with_reducible first | exact HB.out | apply zA | apply zL | apply zB | refine zC ?_ GE519.out | refine zC ?_ GE530.out) | exact HB.out)⟩⟩
         ·replace c42 := Bool.eq_false_iff.mpr c42
          subst c42
          have H1 : (none) = some r := by rw [if_neg (show ¬ (false = true) by decide)] at H; exact H
          clear H
          have H := H1
          clear H1
          exact absurd H (by simp)
        ·replace c40 := Bool.eq_false_iff.mpr c40
         subst c40
         have H1 : (none) = some r := by rw [if_neg (show ¬ (false = true) by decide)] at H; exact H
         clear H
         have H := H1
         clear H1
         exact absurd H (by simp)
      case rest =>
       clear HC34
       try clear c1
       try clear c2
       try clear c2b0
       try clear c2b1
       try clear p2
       try clear c3
       try clear c4
       try clear c5
       try clear c6
       try clear c11
       try clear c15
       try clear c17
       try clear c18
       try clear c20
       try clear c22
       try clear c23
       try clear c29
       try clear c32
       try clear c38
       try clear c38b0
       try clear c40
       try clear c42
       try clear c43
       try clear hcz12_0
       try clear hcz12_1
       try clear hcz12_2
       try clear hcz18_0
       try clear hcz18_1
       try clear hcz18_2
       try clear hcz24_0
       try clear hcz24_1
       try clear hcz24_2
       try clear hcz25_0
       try clear hcz25_1
       try clear hcz25_2
       try clear hcz44_0
       try clear hcz44_1
       try clear hcz44_2
       try clear hcz45_0
       try clear hcz45_1
       try clear hcz45_2
       try clear hfz12_0
       try clear hfz12_1
       try clear hfz12_2
       try clear hfz18_0
       try clear hfz18_1
       try clear hfz18_2
       try clear hfz24_0
       try clear hfz24_1
       try clear hfz24_2
       try clear hfz25_0
       try clear hfz25_1
       try clear hfz25_2
       try clear hfz44_0
       try clear hfz44_1
       try clear hfz44_2
       try clear hfz45_0
       try clear hfz45_1
       try clear hfz45_2
       try clear p2
       obtain ⟨kq, x75_33, rfl, HA, HJ33, HO_4, HO_8, BK519, BK530, HB⟩ := hcut
       cases kq with
       | zero => exact absurd HA.out (by simp [laws_FnExactReceiveFrame.j1])
       | succ kj33 =>
        have H := HA.out
        clear HA
        simp only [laws_FnExactReceiveFrame.j1] at H
        by_cases c49 : x75_33 = true
        ·subst c49
         have H1 : (none) = some r := by rw [if_pos rfl] at H; exact H
         clear H
         have H := H1
         clear H1
         exact absurd H (by simp)
        ·replace c49 := Bool.eq_false_iff.mpr c49
         subst c49
         have H1 : ((laws_markByteS.f kj33 t526 1).bind fun bt541 => ((laws_heldByteS.f kj33 bt541.2 1).bind fun t543 => (if t543 < 0 then (none) else (if t543 = bt541.1 then ((laws_toIntS.f kj33 l0).bind fun t544 => ((impl_ReceiveFrame.f kj33 t544).bind fun bt547 => ((laws_eqPhyHeader.f bt547.1 bt547.2.1 bt547.2.2.1 t512 t513 t514).bind fun t555 => (if t555 = true then ((laws_eqByteS.f kj33 bt547.2.2.2.1 t515).bind fun t556 => (if t556 = true then (laws_FnExactReceiveFrame.j2 kj33 bt541.2 bt541.1 (bt547.2.2.2.2 != t518)) else (none))) else (none))))) else (none))))) = some r := by rw [if_neg (show ¬ (false = true) by decide)] at H; exact H
         clear H
         have H := H1
         clear H1
         replace H := yE.mp H
         obtain ⟨⟨t541, t542⟩, A500, H⟩ := H
         replace H : ((laws_heldByteS.f kj33 t542 1).bind fun t543 => (if t543 < 0 then (none) else (if t543 = t541 then ((laws_toIntS.f kj33 l0).bind fun t544 => ((impl_ReceiveFrame.f kj33 t544).bind fun bt547 => ((laws_eqPhyHeader.f bt547.1 bt547.2.1 bt547.2.2.1 t512 t513 t514).bind fun t555 => (if t555 = true then ((laws_eqByteS.f kj33 bt547.2.2.2.1 t515).bind fun t556 => (if t556 = true then (laws_FnExactReceiveFrame.j2 kj33 t542 t541 (bt547.2.2.2.2 != t518)) else (none))) else (none))))) else (none)))) = some r := H
         have A50 := zO A500
         clear A500
         replace H := yE.mp H
         obtain ⟨t543, A510, H⟩ := H
         replace H : (if t543 < 0 then (none) else (if t543 = t541 then ((laws_toIntS.f kj33 l0).bind fun t544 => ((impl_ReceiveFrame.f kj33 t544).bind fun bt547 => ((laws_eqPhyHeader.f bt547.1 bt547.2.1 bt547.2.2.1 t512 t513 t514).bind fun t555 => (if t555 = true then ((laws_eqByteS.f kj33 bt547.2.2.2.1 t515).bind fun t556 => (if t556 = true then (laws_FnExactReceiveFrame.j2 kj33 t542 t541 (bt547.2.2.2.2 != t518)) else (none))) else (none))))) else (none))) = some r := H
         have A51 := zO A510
         clear A510
         by_cases c52 : t543 < 0
         ·rw [if_pos c52] at H
          exact absurd H (by simp)
         ·rw [if_neg c52] at H
          have c52b0 : decide (t543 < 0) = false := decide_eq_false c52
          clear c52
          by_cases c53 : t543 = t541
          case neg => rw [if_neg c53] at H; exact absurd H (by simp)
          rw [if_pos c53] at H
          have c53b0 : (t543 == t541) = true := beq_iff_eq.mpr c53
          have c53b1 : (t543 != t541) = false := bne_eq_false_iff_eq.mpr c53
          clear c53
          replace H := yE.mp H
          obtain ⟨t544, A540, H⟩ := H
          replace H : ((impl_ReceiveFrame.f kj33 t544).bind fun bt547 => ((laws_eqPhyHeader.f bt547.1 bt547.2.1 bt547.2.2.1 t512 t513 t514).bind fun t555 => (if t555 = true then ((laws_eqByteS.f kj33 bt547.2.2.2.1 t515).bind fun t556 => (if t556 = true then (laws_FnExactReceiveFrame.j2 kj33 t542 t541 (bt547.2.2.2.2 != t518)) else (none))) else (none)))) = some r := H
          have A54 := zO A540
          clear A540
          replace H := yE.mp H
          obtain ⟨⟨t547, t548, t549, t550, t553⟩, A550, H⟩ := H
          replace H : ((laws_eqPhyHeader.f t547 t548 t549 t512 t513 t514).bind fun t555 => (if t555 = true then ((laws_eqByteS.f kj33 t550 t515).bind fun t556 => (if t556 = true then (laws_FnExactReceiveFrame.j2 kj33 t542 t541 (t553 != t518)) else (none))) else (none))) = some r := H
          have A55 := zO A550
          clear A550
          have HC56 := zO H
          clear H
          obtain ⟨Ao57, co57, eo57⟩ := Kd.R_slice HO_8.out
          subst eo57
          go_upto_region 23 with (first | ((with_reducible refine zM (f := 24) rfl ?_); refine goesL_ (some 78) rfl rfl Try.func24 (by kernel_rfl) rfl #[.slice Ao57 t526.length co57, .int .i64 1] rfl (by (try simp only [yK, yL, yM]); first | done | rfl | (simp only [yJ, yI]; rfl)) ?_; (with_reducible refine (laws_markByteS.calls kj33 (fun k_ => some k_ = (.slice Ao57 t526.length co57 : Value).ownBlock) (.slice Ao57 t526.length co57) t526 1 t541 t542 w _ ?side1 ?side2 A50.out).mono ?_); (case side1 => repeat (first | (with_reducible first | exact HB.out | apply zA | apply zL | apply zB | refine zC ?_ GE519.out | refine zC ?_ GE530.out) | exact HB.out)); (case side2 => exact Kd.R_tight rfl HO_8.out); rintro e w58 ⟨rfl, hy0, hb, hkp⟩; refine ⟨_, rfl, ?_⟩; have n0_ := zO (Kd.R_mono (ok' := fun k_ => some k_ ≠ (.slice Ao57 t526.length co57 : Value).ownBlock) (Kd.R_keptB (HO_4.out) hkp (fun k_ hk_ hs_ => (hk_) hs_)) (fun k_ hk_ => hk_.1)); have n1_ := zO (Kd.R_reok rfl hy0 (fun k_ e_ => HO_8.out.1 k_ e_)); have n2_ := zO (blk_kept (by (with_reducible repeat (first | refine zJ ?_ _ | refine zI ?_ | refine zF ?_ _)); exact BK519.out) hkp (fun hs_ => (fun e_ => (Kd.R_ne HO_8.out BK519.out (by decide)) e_) hs_)); have n3_ := zO (blk_kept (by (with_reducible repeat (first | refine zJ ?_ _ | refine zI ?_ | refine zF ?_ _)); exact BK530.out) hkp (fun hs_ => (fun e_ => (Kd.R_ne HO_8.out BK530.out (by decide)) e_) hs_)); have n4_ := zO (hb); clear HO_4; clear HO_8; clear BK519; clear BK530; clear HB; have HO_4 := n0_; have HO_8 := n1_; have BK519 := n2_; have BK530 := n3_; have HB := n4_; clear n0_ n1_ n2_ n3_ n4_; (try clear hb); (try clear hkp); (try clear hy0)) | ((with_reducible refine zM (f := 61) rfl ?_); refine goesL_ (some 81) rfl rfl Try.func61 (by kernel_rfl) rfl #[.slice Ao57 t542.length co57, .int .i64 1] rfl (by (try simp only [yK, yL, yM]); first | done | (rw [show t542.length = t526.length from (zX HO_8.out).1.symm] <;> rfl) | rfl | (simp only [yJ, yI]; rfl)) ?_; (with_reducible refine (laws_heldByteS.calls kj33 _ _ t542 1 t543 _ ?side1 ?side2 A51.out).mono ?_); (case side1 => repeat (first | exact (zX HO_8.out).2.2 | (with_reducible refine zR ?_ _) | (with_reducible refine zT ?_ _) | (with_reducible refine zS ?_))); (case side2 => rw [show t542.length = t526.length from (zX HO_8.out).1.symm]; exact (zX HO_8.out).2.1); rintro e w' ⟨rfl, ⟨nd, rfl⟩⟩; refine ⟨_, rfl, ?_⟩; (try (rw [drewN_self w58]; generalize hq_ : World.drewN w58 _ = w58; have n0_ : Aside0 (Kd.R (Kd.int .u8) 5 w58 w.heap.size (fun k_ => some k_ ≠ (.slice Ao57 t526.length co57 : Value).ownBlock) v516 t515) := ⟨by rw [← hq_]; exact (by (with_reducible repeat (first | apply zU | apply zW | apply zV)); exact HO_4.out)⟩; have n1_ : Aside0 (Kd.R (Kd.int .u8) 5 w58 w.heap.size (fun k_ => some k_ ≠ (v516 : Value).ownBlock) (.slice Ao57 t526.length co57) t542) := ⟨by rw [← hq_]; exact (by (with_reducible repeat (first | apply zU | apply zW | apply zV)); exact HO_8.out)⟩; have n2_ : Aside0 (w58.heap[gb519]? = some (.cells #[.int .i64 t512, .int .i64 t513, .int .i64 t514] 24 (0, 0))) := ⟨by rw [← hq_]; exact (by (with_reducible repeat (first | refine zJ ?_ _ | refine zI ?_ | refine zF ?_ _)); exact BK519.out)⟩; have n3_ : Aside0 (w58.heap[gb530]? = some (.cells #[.int .i64 t523, .int .i64 t524, .int .i64 t525] 24 (0, 0))) := ⟨by rw [← hq_]; exact (by (with_reducible repeat (first | refine zJ ?_ _ | refine zI ?_ | refine zF ?_ _)); exact BK530.out)⟩; have n4_ : Aside0 (Below w.heap.size w w58) := ⟨by rw [← hq_]; exact (by repeat (first | (with_reducible first | exact HB.out | apply zA | apply zL | apply zB | refine zC ?_ GE519.out | refine zC ?_ GE530.out) | exact HB.out))⟩; clear HO_4 HO_8 BK519 BK530 HB hq_; have HO_4 := n0_; have HO_8 := n1_; have BK519 := n2_; have BK530 := n3_; have HB := n4_; clear n0_ n1_ n2_ n3_ n4_))) | ((with_reducible refine zM (f := 15) rfl ?_); refine goesL_ (some 89) rfl rfl Try.func15 (by kernel_rfl) rfl #[.slice A0 l0.length c0] rfl (by (try simp only [yK, yL, yM]); first | done | rfl | (simp only [yJ, yI]; rfl)) ?_; (with_reducible refine (laws_toIntS.calls kj33 _ _ l0 t544 _ ?side1 ?side2 A54.out).mono ?_); (case side1 => repeat (first | exact (Kd.C_below HR0.out HB.out) | (with_reducible refine zR ?_ _) | (with_reducible refine zT ?_ _) | (with_reducible refine zS ?_))); (case side2 => exact HC0.out); rintro e w59 ⟨v545, rfl, ho0, hb⟩; refine ⟨_, rfl, ?_⟩; have n0_ := zO (zY (by (with_reducible repeat (first | apply zU | apply zW | apply zV)); exact HO_4.out) hb); have n1_ := zO (zY (by (with_reducible repeat (first | apply zU | apply zW | apply zV)); exact HO_8.out) hb); have n2_ := zO (yA ho0 (zD (by repeat (first | (with_reducible first | exact HB.out | apply zA | apply zL | apply zB | refine zC ?_ GE519.out | refine zC ?_ GE530.out) | exact HB.out)))); have n3_ := zO (zG (g := gb519) (o := .cells #[.int .i64 t512, .int .i64 t513, .int .i64 t514] 24 (0, 0)) (by (with_reducible repeat (first | refine zJ ?_ _ | refine zI ?_ | refine zF ?_ _)); exact BK519.out) hb); have n4_ := zO (zG (g := gb530) (o := .cells #[.int .i64 t523, .int .i64 t524, .int .i64 t525] 24 (0, 0)) (by (with_reducible repeat (first | refine zJ ?_ _ | refine zI ?_ | refine zF ?_ _)); exact BK530.out) hb); have n5_ := zO (zE (by repeat (first | (with_reducible first | exact HB.out | apply zA | apply zL | apply zB | refine zC ?_ GE519.out | refine zC ?_ GE530.out) | exact HB.out)) hb); clear HO_4; clear HO_8; clear BK519; clear BK530; clear HB; have HO_4 := n0_; have HO_8 := n1_; have HO546 := n2_; have BK519 := n3_; have BK530 := n4_; have HB := n5_; clear n0_ n1_ n2_ n3_ n4_ n5_; (try clear hb); (try clear hb2); (try clear hk); (try clear hi); (try clear ho0); obtain ⟨Ao60, co60, eo60⟩ := Kd.R_slice HO546.out; subst eo60) | ((with_reducible refine zM (f := 60) rfl ?_); refine goesL_ (some 90) rfl rfl Try.func60 (by kernel_rfl) rfl #[.slice Ao60 t544.length co60] rfl (by (try simp only [yK, yL, yM]); first | done | rfl | (simp only [yJ, yI]; rfl)) ?_; (with_reducible refine (impl_ReceiveFrame.calls kj33 _ _ t544 t547 t548 t549 t550 t553 _ ?side1 ?side2 A55.out).mono ?_); (case side1 => repeat (first | exact (zX HO546.out).2.2 | (with_reducible refine zR ?_ _) | (with_reducible refine zT ?_ _) | (with_reducible refine zS ?_))); (case side2 => exact (zX HO546.out).2.1); rintro e w61 ⟨v551, rfl, ho0, hb⟩; refine ⟨_, rfl, ?_⟩; have n0_ := zO (Kd.R_elder' (by (with_reducible repeat (first | apply zU | apply zW | apply zV)); exact HO_4.out) (Kd.R_base ho0) hb); have n1_ := zO (Kd.R_elder' (by (with_reducible repeat (first | apply zU | apply zW | apply zV)); exact HO_8.out) (Kd.R_base ho0) hb); have n2_ := zO (zY (by (with_reducible repeat (first | apply zU | apply zW | apply zV)); exact HO546.out) hb); have n3_ := zO (yA (Kd.R_new' (Kd.R_new' ho0 (Kd.R_lt (by (with_reducible repeat (first | apply zU | apply zW | apply zV)); exact HO_4.out))) (Kd.R_lt (by (with_reducible repeat (first | apply zU | apply zW | apply zV)); exact HO_8.out))) (zD (by repeat (first | (with_reducible first | exact HB.out | apply zA | apply zL | apply zB | refine zC ?_ GE519.out | refine zC ?_ GE530.out) | exact HB.out)))); have n4_ := zO (zG (g := gb519) (o := .cells #[.int .i64 t512, .int .i64 t513, .int .i64 t514] 24 (0, 0)) (by (with_reducible repeat (first | refine zJ ?_ _ | refine zI ?_ | refine zF ?_ _)); exact BK519.out) hb); have n5_ := zO (zG (g := gb530) (o := .cells #[.int .i64 t523, .int .i64 t524, .int .i64 t525] 24 (0, 0)) (by (with_reducible repeat (first | refine zJ ?_ _ | refine zI ?_ | refine zF ?_ _)); exact BK530.out) hb); have n6_ := zO (zE (by repeat (first | (with_reducible first | exact HB.out | apply zA | apply zL | apply zB | refine zC ?_ GE519.out | refine zC ?_ GE530.out) | exact HB.out)) hb); clear HO_4; clear HO_8; clear HO546; clear BK519; clear BK530; clear HB; have HO_4 := n0_; have HO_8 := n1_; have HO546 := n2_; have HO552 := n3_; have BK519 := n4_; have BK530 := n5_; have HB := n6_; clear n0_ n1_ n2_ n3_ n4_ n5_ n6_; (try clear hb); (try clear hb2); (try clear hk); (try clear hi); (try clear ho0)) | ((with_reducible refine zN (N := 13) rfl ?_); refine box_event ?hg (N := 13) ?hd (cs := #[.int .i64 0, .int .i64 0, .int .i64 0]) (t := 24) ?hr ?_; (case hd => rfl); (case hg => rfl); (case hr => first | (go_simp; done) | (go_simp; rfl)); intro gb554 hg w62 hbox hb; have n0_ := zO (zY (by (with_reducible repeat (first | apply zU | apply zW | apply zV)); exact HO_4.out) hb); have n1_ := zO (zY (by (with_reducible repeat (first | apply zU | apply zW | apply zV)); exact HO_8.out) hb); have n2_ := zO (zY (by (with_reducible repeat (first | apply zU | apply zW | apply zV)); exact HO546.out) hb); have n3_ := zO (zY (by (with_reducible repeat (first | apply zU | apply zW | apply zV)); exact HO552.out) hb); have n4_ := zO (zG (g := gb519) (o := .cells #[.int .i64 t512, .int .i64 t513, .int .i64 t514] 24 (0, 0)) (by (with_reducible repeat (first | refine zJ ?_ _ | refine zI ?_ | refine zF ?_ _)); exact BK519.out) hb); have n5_ := zO (zG (g := gb530) (o := .cells #[.int .i64 t523, .int .i64 t524, .int .i64 t525] 24 (0, 0)) (by (with_reducible repeat (first | refine zJ ?_ _ | refine zI ?_ | refine zF ?_ _)); exact BK530.out) hb); have n6_ := zO (zE (by repeat (first | (with_reducible first | exact HB.out | apply zA | apply zL | apply zB | refine zC ?_ GE519.out | refine zC ?_ GE530.out) | exact HB.out)) hb); have n7_ := zO (hbox); have n8_ := zO ((by rw [hg]; exact (zD (by repeat (first | (with_reducible first | exact HB.out | apply zA | apply zL | apply zB | refine zC ?_ GE519.out | refine zC ?_ GE530.out) | exact HB.out))) : w.heap.size ≤ gb554)); have n9_ := zO ((by rw [hg]; exact (zD (by repeat (first | (with_reducible first | exact HB.out | apply zA | apply zL | apply zB | refine zC ?_ GE519.out | refine zC ?_ GE530.out) | exact HB.out))) : w.heap.size ≤ gb554)); have n10_ := zO ((by rw [hg]; exact Nat.ne_of_lt (blk_lt (g := gb519) (o := .cells #[.int .i64 t512, .int .i64 t513, .int .i64 t514] 24 (0, 0)) (by (with_reducible repeat (first | refine zJ ?_ _ | refine zI ?_ | refine zF ?_ _)); exact BK519.out)) : gb519 ≠ gb554)); have n11_ := zO ((by rw [hg]; exact Nat.ne_of_gt (blk_lt (g := gb519) (o := .cells #[.int .i64 t512, .int .i64 t513, .int .i64 t514] 24 (0, 0)) (by (with_reducible repeat (first | refine zJ ?_ _ | refine zI ?_ | refine zF ?_ _)); exact BK519.out)) : gb554 ≠ gb519)); have n12_ := zO ((by rw [hg]; exact Nat.ne_of_lt (blk_lt (g := gb530) (o := .cells #[.int .i64 t523, .int .i64 t524, .int .i64 t525] 24 (0, 0)) (by (with_reducible repeat (first | refine zJ ?_ _ | refine zI ?_ | refine zF ?_ _)); exact BK530.out)) : gb530 ≠ gb554)); have n13_ := zO ((by rw [hg]; exact Nat.ne_of_gt (blk_lt (g := gb530) (o := .cells #[.int .i64 t523, .int .i64 t524, .int .i64 t525] 24 (0, 0)) (by (with_reducible repeat (first | refine zJ ?_ _ | refine zI ?_ | refine zF ?_ _)); exact BK530.out)) : gb554 ≠ gb530)); clear HO_4; clear HO_8; clear HO546; clear HO552; clear BK519; clear BK530; clear HB; have HO_4 := n0_; have HO_8 := n1_; have HO546 := n2_; have HO552 := n3_; have BK519 := n4_; have BK530 := n5_; have HB := n6_; have BK554 := n7_; have GW554 := n8_; have GE554 := n9_; have NB519_554 := n10_; have NB554_519 := n11_; have NB530_554 := n12_; have NB554_530 := n13_; clear n0_ n1_ n2_ n3_ n4_ n5_ n6_ n7_ n8_ n9_ n10_ n11_ n12_ n13_; clear hb hbox hg; have hnb63 := NB554_519.out; have hnc63 := NB519_554.out; have hnb64 := NB554_530.out; have hnc64 := NB530_554.out; have hcz65_0 : w62.cell? ⟨gb554, 0, none⟩ = some (.int .i64 0) := (zH BK554.out 0).trans rfl; have hcz65_1 : w62.cell? ⟨gb554, 1, none⟩ = some (.int .i64 0) := (zH BK554.out 1).trans rfl; have hcz65_2 : w62.cell? ⟨gb554, 2, none⟩ = some (.int .i64 0) := (zH BK554.out 2).trans rfl; have hfz65_0 := zK BK554.out 0; have hfz65_1 := zK BK554.out 1; have hfz65_2 := zK BK554.out 2))
          (try simp only [Act.put, yF, yG, yH])
          go_cut [108] (fun v108 wc => ∃ (kq : Nat) (x108_55 : Bool), v108 = .bool x108_55 ∧ Aside0 (laws_FnExactReceiveFrame.j2 kq t542 t541 x108_55 = some r) ∧ Aside0 (kq ≤ kj33) ∧ Aside0 (Kd.R (Kd.int .u8) 5 wc w.heap.size (fun _ => True) (.slice Ao57 t526.length co57) t542) ∧ Aside0 (wc.heap[gb519]? = some (.cells #[.int .i64 t512, .int .i64 t513, .int .i64 t514] 24 (0, 0))) ∧ Aside0 (wc.heap[gb530]? = some (.cells #[.int .i64 t523, .int .i64 t524, .int .i64 t525] 24 (0, 0))) ∧ Aside0 (wc.heap[gb554]? = some (.cells #[.int .i64 t547, .int .i64 t548, .int .i64 t549] 24 (0, 0))) ∧ Aside0 (Below w.heap.size w wc))
          case first =>
           have H := HC56.out
           clear HC56
           replace H := yE.mp H
           obtain ⟨t555, A660, H⟩ := H
           replace H : (if t555 = true then ((laws_eqByteS.f kj33 t550 t515).bind fun t556 => (if t556 = true then (laws_FnExactReceiveFrame.j2 kj33 t542 t541 (t553 != t518)) else (none))) else (none)) = some r := H
           have A66 := zO A660
           clear A660
           by_cases c67 : t555 = true
           ·subst c67
            have H1 : ((laws_eqByteS.f kj33 t550 t515).bind fun t556 => (if t556 = true then (laws_FnExactReceiveFrame.j2 kj33 t542 t541 (t553 != t518)) else (none))) = some r := by rw [if_pos rfl] at H; exact H
            clear H
            have H := H1
            clear H1
            replace H := yE.mp H
            obtain ⟨t556, A680, H⟩ := H
            replace H : (if t556 = true then (laws_FnExactReceiveFrame.j2 kj33 t542 t541 (t553 != t518)) else (none)) = some r := H
            have A68 := zO A680
            clear A680
            by_cases c69 : t556 = true
            ·subst c69
             have H1 : (laws_FnExactReceiveFrame.j2 kj33 t542 t541 (t553 != t518)) = some r := by rw [if_pos rfl] at H; exact H
             clear H
             have H := H1
             clear H1
             have H' := zO H
             clear H
             have hnb70 := NB554_519.out
             have hnc70 := NB519_554.out
             have hnb71 := NB554_530.out
             have hnc71 := NB530_554.out
             have hcz72_0 : w62.cell? ⟨gb554, 0, none⟩ = some (.int .i64 0) := (zH BK554.out 0).trans rfl
             have hcz72_1 : w62.cell? ⟨gb554, 1, none⟩ = some (.int .i64 0) := (zH BK554.out 1).trans rfl
             have hcz72_2 : w62.cell? ⟨gb554, 2, none⟩ = some (.int .i64 0) := (zH BK554.out 2).trans rfl
             have hfz72_0 := zK BK554.out 0
             have hfz72_1 := zK BK554.out 1
             have hfz72_2 := zK BK554.out 2
             have hnb73 := NB519_530.out
             have hnc73 := NB530_519.out
             have hcz74_0 : w62.cell? ⟨gb519, 0, none⟩ = some (.int .i64 t512) := (zH BK519.out 0).trans rfl
             have hcz74_1 : w62.cell? ⟨gb519, 1, none⟩ = some (.int .i64 t513) := (zH BK519.out 1).trans rfl
             have hcz74_2 : w62.cell? ⟨gb519, 2, none⟩ = some (.int .i64 t514) := (zH BK519.out 2).trans rfl
             have hfz74_0 := zK BK519.out 0
             have hfz74_1 := zK BK519.out 1
             have hfz74_2 := zK BK519.out 2
             go_wp2_with (first | ((with_reducible refine zM (f := 17) rfl ?_); refine goesL_ (some 96) rfl rfl Try.func17 (by kernel_rfl) rfl #[.agg #[.int .i64 t547, .int .i64 t548, .int .i64 t549], .agg #[.int .i64 t512, .int .i64 t513, .int .i64 t514]] rfl (by (try simp only [yK, yL, yM]); first | done | rfl | (simp only [yJ, yI]; rfl)) ?_; (with_reducible refine (laws_eqPhyHeader.calls t547 t548 t549 t512 t513 t514 true _ A66.out).mono ?_); rintro e w75 ⟨rfl, hb⟩; refine ⟨_, rfl, ?_⟩; have n0_ := zO (zY (by (with_reducible repeat (first | apply zU | apply zW | apply zV)); exact (Kd.R_mono (zZ (p := ⟨gb554, 2, none⟩) (zZ (p := ⟨gb554, 1, none⟩) (zZ (p := ⟨gb554, 0, none⟩) (Kd.R_types HO_4.out BK554.out (by decide)) (fun _ hk => hk.2) (.int .i64 t547)) (fun _ hk => hk.2) (.int .i64 t548)) (fun _ hk => hk.2) (.int .i64 t549)) (fun _ h_ => h_.1))) hb); have n1_ := zO (zY (by (with_reducible repeat (first | apply zU | apply zW | apply zV)); exact (Kd.R_mono (zZ (p := ⟨gb554, 2, none⟩) (zZ (p := ⟨gb554, 1, none⟩) (zZ (p := ⟨gb554, 0, none⟩) (Kd.R_types HO_8.out BK554.out (by decide)) (fun _ hk => hk.2) (.int .i64 t547)) (fun _ hk => hk.2) (.int .i64 t548)) (fun _ hk => hk.2) (.int .i64 t549)) (fun _ h_ => h_.1))) hb); have n2_ := zO (zY (by (with_reducible repeat (first | apply zU | apply zW | apply zV)); exact (Kd.R_mono (zZ (p := ⟨gb554, 2, none⟩) (zZ (p := ⟨gb554, 1, none⟩) (zZ (p := ⟨gb554, 0, none⟩) (Kd.R_types HO546.out BK554.out (by decide)) (fun _ hk => hk.2) (.int .i64 t547)) (fun _ hk => hk.2) (.int .i64 t548)) (fun _ hk => hk.2) (.int .i64 t549)) (fun _ h_ => h_.1))) hb); have n3_ := zO (zY (by (with_reducible repeat (first | apply zU | apply zW | apply zV)); exact (Kd.R_mono (zZ (p := ⟨gb554, 2, none⟩) (zZ (p := ⟨gb554, 1, none⟩) (zZ (p := ⟨gb554, 0, none⟩) (Kd.R_types HO552.out BK554.out (by decide)) (fun _ hk => hk.2) (.int .i64 t547)) (fun _ hk => hk.2) (.int .i64 t548)) (fun _ hk => hk.2) (.int .i64 t549)) (fun _ h_ => h_.1))) hb); have n4_ := zO (zG (g := gb519) (o := .cells #[.int .i64 t512, .int .i64 t513, .int .i64 t514] 24 (0, 0)) (by (with_reducible repeat (first | refine zJ ?_ _ | refine zI ?_ | refine zF ?_ _)); refine blk_far ?_ NB519_554.out _; (with_reducible repeat (first | refine zJ ?_ _ | refine zI ?_ | refine zF ?_ _)); refine blk_far ?_ NB519_554.out _; (with_reducible repeat (first | refine zJ ?_ _ | refine zI ?_ | refine zF ?_ _)); refine blk_far ?_ NB519_554.out _; (with_reducible repeat (first | refine zJ ?_ _ | refine zI ?_ | refine zF ?_ _)); exact BK519.out) hb); have n5_ := zO (zG (g := gb530) (o := .cells #[.int .i64 t523, .int .i64 t524, .int .i64 t525] 24 (0, 0)) (by (with_reducible repeat (first | refine zJ ?_ _ | refine zI ?_ | refine zF ?_ _)); refine blk_far ?_ NB530_554.out _; (with_reducible repeat (first | refine zJ ?_ _ | refine zI ?_ | refine zF ?_ _)); refine blk_far ?_ NB530_554.out _; (with_reducible repeat (first | refine zJ ?_ _ | refine zI ?_ | refine zF ?_ _)); refine blk_far ?_ NB530_554.out _; (with_reducible repeat (first | refine zJ ?_ _ | refine zI ?_ | refine zF ?_ _)); exact BK530.out) hb); have n6_ := zO (zG (g := gb554) (o := .cells #[.int .i64 t547, .int .i64 t548, .int .i64 t549] 24 (0, 0)) (by (with_reducible repeat (first | refine zJ ?_ _ | refine zI ?_ | refine zF ?_ _)); refine blk_put (cs := #[.int .i64 t547, .int .i64 t548, .int .i64 0]) ?_ 2 _ rfl; (with_reducible repeat (first | refine zJ ?_ _ | refine zI ?_ | refine zF ?_ _)); refine blk_put (cs := #[.int .i64 t547, .int .i64 0, .int .i64 0]) ?_ 1 _ rfl; (with_reducible repeat (first | refine zJ ?_ _ | refine zI ?_ | refine zF ?_ _)); refine blk_put (cs := #[.int .i64 0, .int .i64 0, .int .i64 0]) ?_ 0 _ rfl; (with_reducible repeat (first | refine zJ ?_ _ | refine zI ?_ | refine zF ?_ _)); exact BK554.out) hb); have n7_ := zO (zE (by repeat (first | (with_reducible first | exact HB.out | apply zA | apply zL | apply zB | refine zC ?_ GE519.out | refine zC ?_ GE530.out | refine zC ?_ GE554.out) | exact HB.out)) hb); clear HO_4; clear HO_8; clear HO546; clear HO552; clear BK519; clear BK530; clear BK554; clear HB; have HO_4 := n0_; have HO_8 := n1_; have HO546 := n2_; have HO552 := n3_; have BK519 := n4_; have BK530 := n5_; have BK554 := n6_; have HB := n7_; clear n0_ n1_ n2_ n3_ n4_ n5_ n6_ n7_; (try clear hb); (try clear hb2); (try clear hk); (try clear hi); obtain ⟨Ao76, co76, eo76⟩ := Kd.R_slice HO552.out; subst eo76; obtain ⟨Ao77, co77, eo77⟩ := Kd.R_slice HO_4.out; subst eo77) | (go_at_call 23; (with_reducible refine (laws_eqByteS.calls kj33 _ _ t550 _ _ t515 true _ ?side1 ?side2 ?side3 ?side4 A68.out).mono ?_); (case side1 => repeat (first | exact (zX HO552.out).2.2 | (with_reducible refine zR ?_ _) | (with_reducible refine zT ?_ _) | (with_reducible refine zS ?_))); (case side2 => exact (zX HO552.out).2.1); (case side3 => repeat (first | exact (zX HO_4.out).2.2 | (with_reducible refine zR ?_ _) | (with_reducible refine zT ?_ _) | (with_reducible refine zS ?_))); (case side4 => exact (zX HO_4.out).2.1); rintro e w' ⟨rfl, ⟨nd, rfl⟩⟩))
             go_meet
             case rel => exact ⟨_, ((t553 != t518)), (by first | rfl | (simp; done) | (simp [*]; done)), H', ⟨by have := HJ6.out; have := HJ33.out; first | omega | exact Nat.le_refl _⟩, ⟨by (with_reducible repeat (first | apply zU | apply zW | apply zV)); exact Kd.R_mono HO_8.out (fun _ hk => trivial)⟩, ⟨by (with_reducible repeat (first | refine zJ ?_ _ | refine zI ?_ | refine zF ?_ _)); exact BK519.out⟩, ⟨by (with_reducible repeat (first | refine zJ ?_ _ | refine zI ?_ | refine zF ?_ _)); exact BK530.out⟩, ⟨by (with_reducible repeat (first | refine zJ ?_ _ | refine zI ?_ | refine zF ?_ _)); exact BK554.out⟩, ⟨by repeat (first | (with_reducible first | exact HB.out | apply zA | apply zL | apply zB | refine zC ?_ GE519.out | refine zC ?_ GE530.out | refine zC ?_ GE554.out) | exact HB.out)⟩⟩
            ·replace c69 := Bool.eq_false_iff.mpr c69
             subst c69
             have H1 : (none) = some r := by rw [if_neg (show ¬ (false = true) by decide)] at H; exact H
             clear H
             have H := H1
             clear H1
             exact absurd H (by simp)
           ·replace c67 := Bool.eq_false_iff.mpr c67
            subst c67
            have H1 : (none) = some r := by rw [if_neg (show ¬ (false = true) by decide)] at H; exact H
            clear H
            have H := H1
            clear H1
            exact absurd H (by simp)
          case rest =>
           clear HC56
           try clear c1
           try clear c2
           try clear c2b0
           try clear c2b1
           try clear p2
           try clear c3
           try clear c4
           try clear c5
           try clear c6
           try clear c7
           try clear c11
           try clear c15
           try clear c17
           try clear c18
           try clear c20
           try clear c22
           try clear c23
           try clear c24
           try clear c29
           try clear c32
           try clear c38
           try clear c38b0
           try clear c40
           try clear c42
           try clear c43
           try clear c49
           try clear c52
           try clear c52b0
           try clear c53
           try clear c53b0
           try clear c53b1
           try clear c59
           try clear c60
           try clear c61
           try clear c63
           try clear c64
           try clear c67
           try clear c69
           try clear c70
           try clear c71
           try clear c73
           try clear hcz12_0
           try clear hcz12_1
           try clear hcz12_2
           try clear hcz18_0
           try clear hcz18_1
           try clear hcz18_2
           try clear hcz24_0
           try clear hcz24_1
           try clear hcz24_2
           try clear hcz25_0
           try clear hcz25_1
           try clear hcz25_2
           try clear hcz44_0
           try clear hcz44_1
           try clear hcz44_2
           try clear hcz45_0
           try clear hcz45_1
           try clear hcz45_2
           try clear hcz65_0
           try clear hcz65_1
           try clear hcz65_2
           try clear hcz72_0
           try clear hcz72_1
           try clear hcz72_2
           try clear hcz74_0
           try clear hcz74_1
           try clear hcz74_2
           try clear hfz12_0
           try clear hfz12_1
           try clear hfz12_2
           try clear hfz18_0
           try clear hfz18_1
           try clear hfz18_2
           try clear hfz24_0
           try clear hfz24_1
           try clear hfz24_2
           try clear hfz25_0
           try clear hfz25_1
           try clear hfz25_2
           try clear hfz44_0
           try clear hfz44_1
           try clear hfz44_2
           try clear hfz45_0
           try clear hfz45_1
           try clear hfz45_2
           try clear hfz65_0
           try clear hfz65_1
           try clear hfz65_2
           try clear hfz72_0
           try clear hfz72_1
           try clear hfz72_2
           try clear hfz74_0
           try clear hfz74_1
           try clear hfz74_2
           try clear p2
           obtain ⟨kq, x108_55, rfl, HA, HJ55, HO_8, BK519, BK530, BK554, HB⟩ := hcut
           have hl8_55 := (zX HO_8.out).1
           rw [hl8_55] at HO_8
           (try simp only [hl8_55])
           (try simp only [hl8_55] at BK519)
           (try simp only [hl8_55] at BK530)
           (try simp only [hl8_55] at BK554)
           cases kq with
           | zero => exact absurd HA.out (by simp [laws_FnExactReceiveFrame.j2])
           | succ kj55 =>
            have H := HA.out
            clear HA
            simp only [laws_FnExactReceiveFrame.j2] at H
            by_cases c78 : x108_55 = true
            ·subst c78
             have H1 : (none) = some r := by rw [if_pos rfl] at H; exact H
             clear H
             have H := H1
             clear H1
             exact absurd H (by simp)
            ·replace c78 := Bool.eq_false_iff.mpr c78
             subst c78
             have H1 : ((laws_heldByteS.f kj55 t542 1).bind fun t557 => (if t557 < 0 then (none) else (if t557 = t541 then (some true) else (none)))) = some r := by rw [if_neg (show ¬ (false = true) by decide)] at H; exact H
             clear H
             have H := H1
             clear H1
             replace H := yE.mp H
             obtain ⟨t557, A790, H⟩ := H
             replace H : (if t557 < 0 then (none) else (if t557 = t541 then (some true) else (none))) = some r := H
             have A79 := zO A790
             clear A790
             by_cases c80 : t557 < 0
             ·rw [if_pos c80] at H
              exact absurd H (by simp)
             ·rw [if_neg c80] at H
              have c80b0 : decide (t557 < 0) = false := decide_eq_false c80
              clear c80
              by_cases c81 : t557 = t541
              case neg => rw [if_neg c81] at H; exact absurd H (by simp)
              rw [if_pos c81] at H
              have c81b0 : (t557 == t541) = true := beq_iff_eq.mpr c81
              have c81b1 : (t557 != t541) = false := bne_eq_false_iff_eq.mpr c81
              clear c81
              obtain rfl := Option.some.inj H
              go_wp2_with (first | ((with_reducible refine zM (f := 61) rfl ?_); refine goesL_ (some 111) rfl rfl Try.func61 (by kernel_rfl) rfl #[.slice Ao57 t542.length co57, .int .i64 1] rfl (by (try simp only [yK, yL, yM]); first | done | rfl | (simp only [yJ, yI]; rfl)) ?_; (with_reducible refine (laws_heldByteS.calls kj55 _ _ t542 1 t557 _ ?side1 ?side2 A79.out).mono ?_); (case side1 => repeat (first | exact (zX HO_8.out).2.2 | (with_reducible refine zR ?_ _) | (with_reducible refine zT ?_ _) | (with_reducible refine zS ?_))); (case side2 => exact (zX HO_8.out).2.1); rintro e w' ⟨rfl, ⟨nd, rfl⟩⟩; refine ⟨_, rfl, ?_⟩))
              go_ret
              exact ⟨by first | rfl | exact yP _ | (simp [errW_none, errW_some] <;> rfl) | (simp [*, errW_none, errW_some] <;> rfl), by repeat (first | (with_reducible first | exact HB.out | apply zA | apply zL | apply zB | refine zC ?_ GE519.out | refine zC ?_ GE530.out | refine zC ?_ GE554.out) | exact HB.out)⟩
     ·replace c32 := Bool.eq_false_iff.mpr c32
      subst c32
      have H1 : (none) = some r := by rw [if_neg (show ¬ (false = true) by decide)] at H; exact H
      clear H
      have H := H1
      clear H1
      exact absurd H (by simp)

/-- THE ONE PURE STATEMENT of laws_FnExactReceiveFrame: yours. -/
def laws_FnExactReceiveFrame.Pure : Prop := ∀ (l0 : List Int), l0.length ≤ maxLen → l0.length * 8 ≤ 140737488351232 → (∀ x ∈ l0, (Lit.int .i64 x).wf = true) → ∃ k, laws_FnExactReceiveFrame.f k l0 = some true
theorem laws_FnExactReceiveFrame.walk (P : laws_FnExactReceiveFrame.Pure) (a0 : Option Addr) (len0 cap0 : Nat) (z0 : List Int) (w : World) (w0 : (a0 = none ∧ len0 = 0 ∧ cap0 = 0 ∧ z0 = []) ∨ ∃ x, a0 = some x ∧ len0 ≤ cap0 ∧ cap0 ≤ maxLen ∧ z0.length = cap0 ∧ (∀ i, i < z0.length → w.cell? (x.add i) = some (.int .i64 (z0.getD i 0))) ∧ ∀ n ∈ z0, (Lit.int .i64 n).wf = true) (y0 : len0 * 8 ≤ 140737488351232) :
  Calls Try.prog 11 #[.slice a0 len0 cap0] w fun e w' => e = .returned (.bool true) ∧ Below w.heap.size w w' := by
 obtain ⟨l0, rfl, hr0, hm0, hw0, hc0⟩ := ReadsInt.ofRowC w0
 obtain ⟨k, h⟩ := P l0 hm0 y0 hw0
 refine (laws_FnExactReceiveFrame.calls k _ _ l0 true w (Kd.C_of_reads (d := (0 : Int)) (h1 := fun _ => rfl) hr0) hc0 h).mono ?_
 rintro e w' ⟨rfl, hd⟩
 exact ⟨rfl, hd⟩

end Go.Proofs.Ytldbmljooafkcaa.PFnExactReceiveFrame
