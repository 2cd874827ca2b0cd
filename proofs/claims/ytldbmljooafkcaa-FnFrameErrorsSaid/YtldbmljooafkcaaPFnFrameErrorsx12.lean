/- Contracts of Go functions. Conditions: the arguments read as the Lean function's. Written by print2.py, shrink.py (this session's). -/
import Derived.Test.YtldbmljooafkcaaPFnFrameErrorsx0
import Derived.Test.YtldbmljooafkcaaPFnFrameErrorsx11
namespace Go.Proofs.Ytldbmljooafkcaa.PFnFrameErrors
open Go.RowKit Go.Proofs.YtldbmljooafkcaaW.PrintWords Go.Proofs.YtldbmljooafkcaaW.PrintLast Go.Proofs.YtldbmljooafkcaaW.PrintMore
open Go.Proofs.YtldbmljooafkcaaW.PrintWords renaming below_alloc → zA, below_drew1 → zB, below_set → zC, below_size → zD, below_step → zE, blk_alloc → zF, blk_below → zG, blk_cell → zH, blk_drew → zI, blk_drewN → zJ, blk_frozen → zK, pw_below_drewN → zL, gate_callee → zM, gate_dst → zN
open Go.Proofs.YtldbmljooafkcaaW.PrintWords.Aside0 renaming mk → zO
open Go.Proofs.YtldbmljooafkcaaW.PrintWords.Drawn0 renaming refl → zP, step → zQ
open Go.Proofs.YtldbmljooafkcaaW.PrintWords.Kd renaming R_alloc → zU, R_drew → zV, R_drewN → zW, R_lower → yA
open Option renaming bind_eq_some_iff → yE
open List renaming length_take → yI, length_drop → yJ, map_toArray → yK, map_cons → yL, map_nil → yM
set_option maxHeartbeats 8000000
set_option maxRecDepth 100000
attribute [local go_sem] max2_int min2_int max_two min_two max_three min_three max_four min_four
set_option linter.unusedVariables false
set_option linter.unusedSimpArgs false

def spec_l1Below.f (s0_0 : List Int) (s0_1 : Int) (s0_2 : Int) (a1 : Int) : Option (Int × Int × Int) := if a1 ≤ 0 then (some (0, s0_1, s0_2)) else (if a1 ≤ 256 then ((spec_l1Byte.f s0_0 s0_1 s0_2).bind fun bt404 => (if a1 = 0 then (none) else (some (Int.tmod bt404.1 a1, bt404.2.1, bt404.2.2)))) else ((spec_l1Byte.f s0_0 s0_1 s0_2).bind fun bt407 => ((spec_l1Byte.f s0_0 bt407.2.1 bt407.2.2).bind fun bt410 => ((spec_l1Byte.f s0_0 bt410.2.1 bt410.2.2).bind fun bt413 => (if a1 = 0 then (none) else (some (Int.tmod (wrap64 ((wrap64 ((wrap64 (bt407.1 * 65536)) + (wrap64 (bt410.1 * 256)))) + bt413.1)) a1, bt413.2.1, bt413.2.2)))))))
theorem spec_l1Below.calls (g : Nat) (s0_0 : List Int) (s0_1 : Int) (s0_2 : Int) (a1 : Int) (r1 : Int) (r2 : Int) (r3 : Int) (w0 w : World) (hI : IsS114 w0 w g s0_0 s0_1 s0_2) (hB : Below w0.heap.size w0 w) (h : spec_l1Below.f s0_0 s0_1 s0_2 a1 = some (r1, r2, r3)) :
  Calls Try.prog 91 #[.pointer (some ⟨g, 0, none⟩), .int .i64 a1] w fun e w' => e = .returned (.int .i64 r1) ∧ IsS114 w0 w' g s0_0 r2 r3 ∧ Below w0.heap.size w0 w' ∧ KeepBut w w' g none := by
 have HI0 := zO hI
 have HK := zO (KeepBut.refl w g none)
 have HL := zO hB.size
 clear hI
 have HW0 := zO hB.size
 have HB := zO hB
 clear hB
 have H : (if a1 ≤ 0 then (some (0, s0_1, s0_2)) else (if a1 ≤ 256 then ((spec_l1Byte.f s0_0 s0_1 s0_2).bind fun bt404 => (if a1 = 0 then (none) else (some (Int.tmod bt404.1 a1, bt404.2.1, bt404.2.2)))) else ((spec_l1Byte.f s0_0 s0_1 s0_2).bind fun bt407 => ((spec_l1Byte.f s0_0 bt407.2.1 bt407.2.2).bind fun bt410 => ((spec_l1Byte.f s0_0 bt410.2.1 bt410.2.2).bind fun bt413 => (if a1 = 0 then (none) else (some (Int.tmod (wrap64 ((wrap64 ((wrap64 (bt407.1 * 65536)) + (wrap64 (bt410.1 * 256)))) + bt413.1)) a1, bt413.2.1, bt413.2.2)))))))) = some (r1, r2, r3) := h
 clear h
 by_cases c3 : a1 ≤ 0
 ·rw [if_pos c3] at H
  have c3b0 : decide (a1 ≤ 0) = true := decide_eq_true c3
  clear c3
  simp only [Option.some.injEq, Prod.mk.injEq] at H
  obtain ⟨rfl, rfl, rfl⟩ := H
  go_enter Try.func91, Try.ntmps91
  go_wp2
  go_ret
  exact ⟨by first | rfl | exact yP _ | (simp [errW_none, errW_some] <;> rfl) | (simp [*, errW_none, errW_some] <;> rfl), by repeat (first | (with_reducible first | exact HI0.out | apply IsS114.alloc | apply IsS114.drewN | apply IsS114.drew | apply IsS114.set_1 | apply IsS114.set_2) | exact HI0.out), by repeat (first | (with_reducible first | exact HB.out | apply zA | apply zL | apply zB | refine zC ?_ (IsS114.ge HI0.out)) | exact HB.out), by repeat (first | (with_reducible first | exact HK.out | apply KeepBut.set_ | apply keep_drewN | apply keep_drew | apply keep_alloc) | exact HK.out)⟩
 ·rw [if_neg c3] at H
  have c3b0 : decide (a1 ≤ 0) = false := decide_eq_false c3
  clear c3
  by_cases c4 : a1 ≤ 256
  ·rw [if_pos c4] at H
   have c4b0 : decide (a1 ≤ 256) = true := decide_eq_true c4
   clear c4
   replace H := yE.mp H
   obtain ⟨⟨t404, t405, t406⟩, A50, H⟩ := H
   replace H : (if a1 = 0 then (none) else (some (Int.tmod t404 a1, t405, t406))) = some (r1, r2, r3) := H
   have A5 := zO A50
   clear A50
   by_cases c6 : a1 = 0
   ·rw [if_pos c6] at H
    exact absurd H (by simp)
   ·rw [if_neg c6] at H
    have c6b0 : (a1 == 0) = false := beq_eq_false_iff_ne.mpr c6
    have c6b1 : (a1 != 0) = true := bne_iff_ne.mpr c6
    simp only [Option.some.injEq, Prod.mk.injEq] at H
    obtain ⟨rfl, rfl, rfl⟩ := H
    go_enter Try.func91, Try.ntmps91
    go_wp2_with (first | ((with_reducible refine zM (f := 146) rfl ?_); refine goesL_ (some 13) rfl rfl Try.func146 (by kernel_rfl) rfl #[.pointer (some ⟨g, 0, none⟩)] rfl (by (try simp only [yK, yL, yM]); first | done | rfl | (simp only [yJ, yI]; rfl)) ?_; (with_reducible refine (spec_l1Byte.calls g s0_0 s0_1 s0_2 t404 t405 t406 w0 _ ?side1 ?side2 A5.out).mono ?_); (case side1 => repeat (first | (with_reducible first | exact HI0.out | apply IsS114.alloc | apply IsS114.drewN | apply IsS114.drew | apply IsS114.set_1 | apply IsS114.set_2) | exact HI0.out)); (case side2 => repeat (first | (with_reducible first | exact HB.out | apply zA | apply zL | apply zB | refine zC ?_ (IsS114.ge HI0.out)) | exact HB.out)); rintro e w7 ⟨rfl, hi, hb, hk⟩; refine ⟨_, rfl, ?_⟩; have n0_ := zO (KeepBut.trans (by repeat (first | (with_reducible first | exact HK.out | apply KeepBut.set_ | apply keep_drewN | apply keep_drew | apply keep_alloc) | exact HK.out)) hk (.inl rfl)); have n1_ := zO (hb); have n2_ := zO (hi); clear HK; clear HB; clear HI0; have HK := n0_; have HB := n1_; have HI0 := n2_; clear n0_ n1_ n2_; (try clear hb); (try clear hb2); (try clear hk); (try clear hi)))
    go_ret
    exact ⟨by first | rfl | exact yP _ | (simp [errW_none, errW_some] <;> rfl) | (simp [*, errW_none, errW_some] <;> rfl), by repeat (first | (with_reducible first | exact HI0.out | apply IsS114.alloc | apply IsS114.drewN | apply IsS114.drew | apply IsS114.set_1 | apply IsS114.set_2) | exact HI0.out), by repeat (first | (with_reducible first | exact HB.out | apply zA | apply zL | apply zB | refine zC ?_ (IsS114.ge HI0.out)) | exact HB.out), by repeat (first | (with_reducible first | exact HK.out | apply KeepBut.set_ | apply keep_drewN | apply keep_drew | apply keep_alloc) | exact HK.out)⟩
  ·rw [if_neg c4] at H
   have c4b0 : decide (a1 ≤ 256) = false := decide_eq_false c4
   clear c4
   replace H := yE.mp H
   obtain ⟨⟨t407, t408, t409⟩, A80, H⟩ := H
   replace H : ((spec_l1Byte.f s0_0 t408 t409).bind fun bt410 => ((spec_l1Byte.f s0_0 bt410.2.1 bt410.2.2).bind fun bt413 => (if a1 = 0 then (none) else (some (Int.tmod (wrap64 ((wrap64 ((wrap64 (t407 * 65536)) + (wrap64 (bt410.1 * 256)))) + bt413.1)) a1, bt413.2.1, bt413.2.2))))) = some (r1, r2, r3) := H
   have A8 := zO A80
   clear A80
   replace H := yE.mp H
   obtain ⟨⟨t410, t411, t412⟩, A90, H⟩ := H
   replace H : ((spec_l1Byte.f s0_0 t411 t412).bind fun bt413 => (if a1 = 0 then (none) else (some (Int.tmod (wrap64 ((wrap64 ((wrap64 (t407 * 65536)) + (wrap64 (t410 * 256)))) + bt413.1)) a1, bt413.2.1, bt413.2.2)))) = some (r1, r2, r3) := H
   have A9 := zO A90
   clear A90
   replace H := yE.mp H
   obtain ⟨⟨t413, t414, t415⟩, A100, H⟩ := H
   replace H : (if a1 = 0 then (none) else (some (Int.tmod (wrap64 ((wrap64 ((wrap64 (t407 * 65536)) + (wrap64 (t410 * 256)))) + t413)) a1, t414, t415))) = some (r1, r2, r3) := H
   have A10 := zO A100
   clear A100
   by_cases c11 : a1 = 0
   ·rw [if_pos c11] at H
    exact absurd H (by simp)
   ·rw [if_neg c11] at H
    have c11b0 : (a1 == 0) = false := beq_eq_false_iff_ne.mpr c11
    have c11b1 : (a1 != 0) = true := bne_iff_ne.mpr c11
    simp only [Option.some.injEq, Prod.mk.injEq] at H
    obtain ⟨rfl, rfl, rfl⟩ := H
    go_enter Try.func91, Try.ntmps91
    go_wp2_with (first | ((with_reducible refine zM (f := 146) rfl ?_); refine goesL_ (some 17) rfl rfl Try.func146 (by kernel_rfl) rfl #[.pointer (some ⟨g, 0, none⟩)] rfl (by (try simp only [yK, yL, yM]); first | done | rfl | (simp only [yJ, yI]; rfl)) ?_; (with_reducible refine (spec_l1Byte.calls g s0_0 s0_1 s0_2 t407 t408 t409 w0 _ ?side1 ?side2 A8.out).mono ?_); (case side1 => repeat (first | (with_reducible first | exact HI0.out | apply IsS114.alloc | apply IsS114.drewN | apply IsS114.drew | apply IsS114.set_1 | apply IsS114.set_2) | exact HI0.out)); (case side2 => repeat (first | (with_reducible first | exact HB.out | apply zA | apply zL | apply zB | refine zC ?_ (IsS114.ge HI0.out)) | exact HB.out)); rintro e w12 ⟨rfl, hi, hb, hk⟩; refine ⟨_, rfl, ?_⟩; have n0_ := zO (KeepBut.trans (by repeat (first | (with_reducible first | exact HK.out | apply KeepBut.set_ | apply keep_drewN | apply keep_drew | apply keep_alloc) | exact HK.out)) hk (.inl rfl)); have n1_ := zO (hb); have n2_ := zO (hi); clear HK; clear HB; clear HI0; have HK := n0_; have HB := n1_; have HI0 := n2_; clear n0_ n1_ n2_; (try clear hb); (try clear hb2); (try clear hk); (try clear hi)) | ((with_reducible refine zM (f := 146) rfl ?_); refine goesL_ (some 19) rfl rfl Try.func146 (by kernel_rfl) rfl #[.pointer (some ⟨g, 0, none⟩)] rfl (by (try simp only [yK, yL, yM]); first | done | rfl | (simp only [yJ, yI]; rfl)) ?_; (with_reducible refine (spec_l1Byte.calls g s0_0 t408 t409 t410 t411 t412 w0 _ ?side1 ?side2 A9.out).mono ?_); (case side1 => repeat (first | (with_reducible first | exact HI0.out | apply IsS114.alloc | apply IsS114.drewN | apply IsS114.drew | apply IsS114.set_1 | apply IsS114.set_2) | exact HI0.out)); (case side2 => repeat (first | (with_reducible first | exact HB.out | apply zA | apply zL | apply zB | refine zC ?_ (IsS114.ge HI0.out)) | exact HB.out)); rintro e w13 ⟨rfl, hi, hb, hk⟩; refine ⟨_, rfl, ?_⟩; have n0_ := zO (KeepBut.trans (by repeat (first | (with_reducible first | exact HK.out | apply KeepBut.set_ | apply keep_drewN | apply keep_drew | apply keep_alloc) | exact HK.out)) hk (.inl rfl)); have n1_ := zO (hb); have n2_ := zO (hi); clear HK; clear HB; clear HI0; have HK := n0_; have HB := n1_; have HI0 := n2_; clear n0_ n1_ n2_; (try clear hb); (try clear hb2); (try clear hk); (try clear hi)) | ((with_reducible refine zM (f := 146) rfl ?_); refine goesL_ (some 21) rfl rfl Try.func146 (by kernel_rfl) rfl #[.pointer (some ⟨g, 0, none⟩)] rfl (by (try simp only [yK, yL, yM]); first | done | rfl | (simp only [yJ, yI]; rfl)) ?_; (with_reducible refine (spec_l1Byte.calls g s0_0 t411 t412 t413 t414 t415 w0 _ ?side1 ?side2 A10.out).mono ?_); (case side1 => repeat (first | (with_reducible first | exact HI0.out | apply IsS114.alloc | apply IsS114.drewN | apply IsS114.drew | apply IsS114.set_1 | apply IsS114.set_2) | exact HI0.out)); (case side2 => repeat (first | (with_reducible first | exact HB.out | apply zA | apply zL | apply zB | refine zC ?_ (IsS114.ge HI0.out)) | exact HB.out)); rintro e w14 ⟨rfl, hi, hb, hk⟩; refine ⟨_, rfl, ?_⟩; have n0_ := zO (KeepBut.trans (by repeat (first | (with_reducible first | exact HK.out | apply KeepBut.set_ | apply keep_drewN | apply keep_drew | apply keep_alloc) | exact HK.out)) hk (.inl rfl)); have n1_ := zO (hb); have n2_ := zO (hi); clear HK; clear HB; clear HI0; have HK := n0_; have HB := n1_; have HI0 := n2_; clear n0_ n1_ n2_; (try clear hb); (try clear hb2); (try clear hk); (try clear hi)))
    go_ret
    exact ⟨by first | rfl | exact yP _ | (simp [errW_none, errW_some] <;> rfl) | (simp [*, errW_none, errW_some] <;> rfl), by repeat (first | (with_reducible first | exact HI0.out | apply IsS114.alloc | apply IsS114.drewN | apply IsS114.drew | apply IsS114.set_1 | apply IsS114.set_2) | exact HI0.out), by repeat (first | (with_reducible first | exact HB.out | apply zA | apply zL | apply zB | refine zC ?_ (IsS114.ge HI0.out)) | exact HB.out), by repeat (first | (with_reducible first | exact HK.out | apply KeepBut.set_ | apply keep_drewN | apply keep_drew | apply keep_alloc) | exact HK.out)⟩

def spec_l1In.f (a0 : Int) (a1 : Int) (a2 : Int) : Option (Bool) := if a0 ≥ a1 then (some (decide (a0 ≤ a2))) else (some false)
theorem spec_l1In.calls (a0 : Int) (a1 : Int) (a2 : Int) (r : Bool) (w : World) (h : spec_l1In.f a0 a1 a2 = some r) :
  Calls Try.prog 95 #[.int .i64 a0, .int .i64 a1, .int .i64 a2] w fun e w' => e = .returned (.bool r) ∧ Drawn0 w w' := by
 have H : (if a0 ≥ a1 then (some (decide (a0 ≤ a2))) else (some false)) = some r := h
 clear h
 by_cases c4 : a0 ≥ a1
 ·rw [if_pos c4] at H
  have c4b0 : decide (a1 ≤ a0) = true := decide_eq_true c4
  clear c4
  obtain rfl := Option.some.inj H
  go_enter Try.func95, Try.ntmps95
  go_wp2
  go_ret
  exact ⟨by first | rfl | exact yP _ | (simp; done) | (simp [*]; done), by repeat (first | exact zP _ | apply zQ)⟩
 ·rw [if_neg c4] at H
  have c4b0 : decide (a1 ≤ a0) = false := decide_eq_false c4
  clear c4
  obtain rfl := Option.some.inj H
  go_enter Try.func95, Try.ntmps95
  go_wp2
  go_ret
  exact ⟨by first | rfl | exact yP _ | (simp; done) | (simp [*]; done), by repeat (first | exact zP _ | apply zQ)⟩

def spec_IsValidHeader.f (a0_0 : Int) (a0_1 : Int) (a0_2 : Int) : Option (Bool) := (spec_l1In.f a0_0 1 2).bind fun t417 => (if t417 = true then ((spec_l1In.f a0_1 0 120).bind fun t418 => (if t418 = true then ((spec_l1In.f a0_2 1 127).bind fun t419 => (some t419)) else (some false))) else (some false))
theorem spec_IsValidHeader.calls (a0_0 : Int) (a0_1 : Int) (a0_2 : Int) (r : Bool) (w : World) (h : spec_IsValidHeader.f a0_0 a0_1 a0_2 = some r) :
  Calls Try.prog 64 #[.agg #[.int .i64 a0_0, .int .i64 a0_1, .int .i64 a0_2]] w fun e w' => e = .returned (.bool r) ∧ Below w.heap.size w w' := by
 have hu24 := Try.underlying24
 have HB := zO (Below.refl w.heap.size w)
 have H : ((spec_l1In.f a0_0 1 2).bind fun t417 => (if t417 = true then ((spec_l1In.f a0_1 0 120).bind fun t418 => (if t418 = true then ((spec_l1In.f a0_2 1 127).bind fun t419 => (some t419)) else (some false))) else (some false))) = some r := h
 clear h
 replace H := yE.mp H
 obtain ⟨t417, A20, H⟩ := H
 replace H : (if t417 = true then ((spec_l1In.f a0_1 0 120).bind fun t418 => (if t418 = true then ((spec_l1In.f a0_2 1 127).bind fun t419 => (some t419)) else (some false))) else (some false)) = some r := H
 have A2 := zO A20
 clear A20
 by_cases c3 : t417 = true
 ·subst c3
  have H1 : ((spec_l1In.f a0_1 0 120).bind fun t418 => (if t418 = true then ((spec_l1In.f a0_2 1 127).bind fun t419 => (some t419)) else (some false))) = some r := by rw [if_pos rfl] at H; exact H
  clear H
  have H := H1
  clear H1
  replace H := yE.mp H
  obtain ⟨t418, A40, H⟩ := H
  replace H : (if t418 = true then ((spec_l1In.f a0_2 1 127).bind fun t419 => (some t419)) else (some false)) = some r := H
  have A4 := zO A40
  clear A40
  by_cases c5 : t418 = true
  ·subst c5
   have H1 : ((spec_l1In.f a0_2 1 127).bind fun t419 => (some t419)) = some r := by rw [if_pos rfl] at H; exact H
   clear H
   have H := H1
   clear H1
   replace H := yE.mp H
   obtain ⟨t419, A60, H⟩ := H
   replace H : (some t419) = some r := H
   have A6 := zO A60
   clear A60
   obtain rfl := Option.some.inj H
   go_enter Try.func64, Try.ntmps64
   go_wp2_with (first | ((with_reducible refine zN (N := 1) rfl ?_); refine box_event ?hg (N := 1) ?hd (cs := #[.int .i64 a0_0, .int .i64 a0_1, .int .i64 a0_2]) (t := 24) ?hr ?_; (case hd => rfl); (case hg => rfl); (case hr => first | (go_simp; done) | (go_simp; rfl)); intro gb416 hg w7 hbox hb; have n0_ := zO (zE (by repeat (first | exact HB.out | apply zA | apply zL | apply zB)) hb); have n1_ := zO (hbox); have n2_ := zO ((by rw [hg]; exact (zD (by repeat (first | exact HB.out | apply zA | apply zL | apply zB))) : w.heap.size ≤ gb416)); have n3_ := zO ((by rw [hg]; exact (zD (by repeat (first | exact HB.out | apply zA | apply zL | apply zB))) : w.heap.size ≤ gb416)); clear HB; have HB := n0_; have BK416 := n1_; have GW416 := n2_; have GE416 := n3_; clear n0_ n1_ n2_ n3_; clear hb hbox hg; have hcz8_0 : w7.cell? ⟨gb416, 0, none⟩ = some (.int .i64 a0_0) := (zH BK416.out 0).trans rfl; have hcz8_1 : w7.cell? ⟨gb416, 1, none⟩ = some (.int .i64 a0_1) := (zH BK416.out 1).trans rfl; have hcz8_2 : w7.cell? ⟨gb416, 2, none⟩ = some (.int .i64 a0_2) := (zH BK416.out 2).trans rfl; have hfz8_0 := zK BK416.out 0; have hfz8_1 := zK BK416.out 1; have hfz8_2 := zK BK416.out 2) | ((with_reducible refine zM (f := 95) rfl ?_); refine goesL_ (some 5) rfl rfl Try.func95 (by kernel_rfl) rfl #[.int .i64 a0_0, .int .i64 1, .int .i64 2] rfl (by (try simp only [yK, yL, yM]); first | done | rfl | (simp only [yJ, yI]; rfl)) ?_; (with_reducible refine (spec_l1In.calls a0_0 1 2 true _ A2.out).mono ?_); rintro e w' ⟨rfl, ⟨nd, rfl⟩⟩; refine ⟨_, rfl, ?_⟩) | (go_at_call 95; (with_reducible refine (spec_l1In.calls a0_1 0 120 true _ A4.out).mono ?_); rintro e w' ⟨rfl, ⟨nd, rfl⟩⟩) | (go_at_call 95; (with_reducible refine (spec_l1In.calls a0_2 1 127 t419 _ A6.out).mono ?_); rintro e w' ⟨rfl, ⟨nd, rfl⟩⟩))
   go_ret
   exact ⟨by first | rfl | exact yP _ | (simp [errW_none, errW_some] <;> rfl) | (simp [*, errW_none, errW_some] <;> rfl), by repeat (first | (with_reducible first | exact HB.out | apply zA | apply zL | apply zB | refine zC ?_ GE416.out) | exact HB.out)⟩
  ·replace c5 := Bool.eq_false_iff.mpr c5
   subst c5
   have H1 : (some false) = some r := by rw [if_neg (show ¬ (false = true) by decide)] at H; exact H
   clear H
   have H := H1
   clear H1
   obtain rfl := Option.some.inj H
   go_enter Try.func64, Try.ntmps64
   go_wp2_with (first | ((with_reducible refine zN (N := 1) rfl ?_); refine box_event ?hg (N := 1) ?hd (cs := #[.int .i64 a0_0, .int .i64 a0_1, .int .i64 a0_2]) (t := 24) ?hr ?_; (case hd => rfl); (case hg => rfl); (case hr => first | (go_simp; done) | (go_simp; rfl)); intro gb416 hg w9 hbox hb; have n0_ := zO (zE (by repeat (first | exact HB.out | apply zA | apply zL | apply zB)) hb); have n1_ := zO (hbox); have n2_ := zO ((by rw [hg]; exact (zD (by repeat (first | exact HB.out | apply zA | apply zL | apply zB))) : w.heap.size ≤ gb416)); have n3_ := zO ((by rw [hg]; exact (zD (by repeat (first | exact HB.out | apply zA | apply zL | apply zB))) : w.heap.size ≤ gb416)); clear HB; have HB := n0_; have BK416 := n1_; have GW416 := n2_; have GE416 := n3_; clear n0_ n1_ n2_ n3_; clear hb hbox hg; have hcz10_0 : w9.cell? ⟨gb416, 0, none⟩ = some (.int .i64 a0_0) := (zH BK416.out 0).trans rfl; have hcz10_1 : w9.cell? ⟨gb416, 1, none⟩ = some (.int .i64 a0_1) := (zH BK416.out 1).trans rfl; have hcz10_2 : w9.cell? ⟨gb416, 2, none⟩ = some (.int .i64 a0_2) := (zH BK416.out 2).trans rfl; have hfz10_0 := zK BK416.out 0; have hfz10_1 := zK BK416.out 1; have hfz10_2 := zK BK416.out 2) | ((with_reducible refine zM (f := 95) rfl ?_); refine goesL_ (some 5) rfl rfl Try.func95 (by kernel_rfl) rfl #[.int .i64 a0_0, .int .i64 1, .int .i64 2] rfl (by (try simp only [yK, yL, yM]); first | done | rfl | (simp only [yJ, yI]; rfl)) ?_; (with_reducible refine (spec_l1In.calls a0_0 1 2 true _ A2.out).mono ?_); rintro e w' ⟨rfl, ⟨nd, rfl⟩⟩; refine ⟨_, rfl, ?_⟩) | (go_at_call 95; (with_reducible refine (spec_l1In.calls a0_1 0 120 false _ A4.out).mono ?_); rintro e w' ⟨rfl, ⟨nd, rfl⟩⟩))
   go_ret
   exact ⟨by first | rfl | exact yP _ | (simp [errW_none, errW_some] <;> rfl) | (simp [*, errW_none, errW_some] <;> rfl), by repeat (first | (with_reducible first | exact HB.out | apply zA | apply zL | apply zB | refine zC ?_ GE416.out) | exact HB.out)⟩
 ·replace c3 := Bool.eq_false_iff.mpr c3
  subst c3
  have H1 : (some false) = some r := by rw [if_neg (show ¬ (false = true) by decide)] at H; exact H
  clear H
  have H := H1
  clear H1
  obtain rfl := Option.some.inj H
  go_enter Try.func64, Try.ntmps64
  go_wp2_with (first | ((with_reducible refine zN (N := 1) rfl ?_); refine box_event ?hg (N := 1) ?hd (cs := #[.int .i64 a0_0, .int .i64 a0_1, .int .i64 a0_2]) (t := 24) ?hr ?_; (case hd => rfl); (case hg => rfl); (case hr => first | (go_simp; done) | (go_simp; rfl)); intro gb416 hg w11 hbox hb; have n0_ := zO (zE (by repeat (first | exact HB.out | apply zA | apply zL | apply zB)) hb); have n1_ := zO (hbox); have n2_ := zO ((by rw [hg]; exact (zD (by repeat (first | exact HB.out | apply zA | apply zL | apply zB))) : w.heap.size ≤ gb416)); have n3_ := zO ((by rw [hg]; exact (zD (by repeat (first | exact HB.out | apply zA | apply zL | apply zB))) : w.heap.size ≤ gb416)); clear HB; have HB := n0_; have BK416 := n1_; have GW416 := n2_; have GE416 := n3_; clear n0_ n1_ n2_ n3_; clear hb hbox hg; have hcz12_0 : w11.cell? ⟨gb416, 0, none⟩ = some (.int .i64 a0_0) := (zH BK416.out 0).trans rfl; have hcz12_1 : w11.cell? ⟨gb416, 1, none⟩ = some (.int .i64 a0_1) := (zH BK416.out 1).trans rfl; have hcz12_2 : w11.cell? ⟨gb416, 2, none⟩ = some (.int .i64 a0_2) := (zH BK416.out 2).trans rfl; have hfz12_0 := zK BK416.out 0; have hfz12_1 := zK BK416.out 1; have hfz12_2 := zK BK416.out 2) | ((with_reducible refine zM (f := 95) rfl ?_); refine goesL_ (some 5) rfl rfl Try.func95 (by kernel_rfl) rfl #[.int .i64 a0_0, .int .i64 1, .int .i64 2] rfl (by (try simp only [yK, yL, yM]); first | done | rfl | (simp only [yJ, yI]; rfl)) ?_; (with_reducible refine (spec_l1In.calls a0_0 1 2 false _ A2.out).mono ?_); rintro e w' ⟨rfl, ⟨nd, rfl⟩⟩; refine ⟨_, rfl, ?_⟩))
  go_ret
  exact ⟨by first | rfl | exact yP _ | (simp [errW_none, errW_some] <;> rfl) | (simp [*, errW_none, errW_some] <;> rfl), by repeat (first | (with_reducible first | exact HB.out | apply zA | apply zL | apply zB | refine zC ?_ GE416.out) | exact HB.out)⟩

def spec_EncodedLength.f (a0 : Int) : Option (Int) := (spec_l1In.f a0 0 1000000000000).bind fun t420 => (if t420 = true then (some (wrap64 (2 * (wrap64 (a0 + 2))))) else (some 0))
theorem spec_EncodedLength.calls (a0 : Int) (r : Int) (w : World) (h : spec_EncodedLength.f a0 = some r) :
  Calls Try.prog 111 #[.int .i64 a0] w fun e w' => e = .returned (.int .i64 r) ∧ Drawn0 w w' := by
 have H : ((spec_l1In.f a0 0 1000000000000).bind fun t420 => (if t420 = true then (some (wrap64 (2 * (wrap64 (a0 + 2))))) else (some 0))) = some r := h
 clear h
 replace H := yE.mp H
 obtain ⟨t420, A20, H⟩ := H
 replace H : (if t420 = true then (some (wrap64 (2 * (wrap64 (a0 + 2))))) else (some 0)) = some r := H
 have A2 := zO A20
 clear A20
 by_cases c3 : t420 = true
 ·subst c3
  have H1 : (some (wrap64 (2 * (wrap64 (a0 + 2))))) = some r := by rw [if_pos rfl] at H; exact H
  clear H
  have H := H1
  clear H1
  obtain rfl := Option.some.inj H
  go_enter Try.func111, Try.ntmps111
  go_wp2_with (first | ((with_reducible refine zM (f := 95) rfl ?_); refine goesL_ (some 4) rfl rfl Try.func95 (by kernel_rfl) rfl #[.int .i64 a0, .int .i64 0, .int .i64 1000000000000] rfl (by (try simp only [yK, yL, yM]); first | done | rfl | (simp only [yJ, yI]; rfl)) ?_; (with_reducible refine (spec_l1In.calls a0 0 1000000000000 true _ A2.out).mono ?_); rintro e w' ⟨rfl, ⟨nd, rfl⟩⟩; refine ⟨_, rfl, ?_⟩))
  go_ret
  exact ⟨by first | rfl | exact yP _ | (simp; done) | (simp [*]; done), by repeat (first | exact zP _ | apply zQ)⟩
 ·replace c3 := Bool.eq_false_iff.mpr c3
  subst c3
  have H1 : (some 0) = some r := by rw [if_neg (show ¬ (false = true) by decide)] at H; exact H
  clear H
  have H := H1
  clear H1
  obtain rfl := Option.some.inj H
  go_enter Try.func111, Try.ntmps111
  go_wp2_with (first | ((with_reducible refine zM (f := 95) rfl ?_); refine goesL_ (some 4) rfl rfl Try.func95 (by kernel_rfl) rfl #[.int .i64 a0, .int .i64 0, .int .i64 1000000000000] rfl (by (try simp only [yK, yL, yM]); first | done | rfl | (simp only [yJ, yI]; rfl)) ?_; (with_reducible refine (spec_l1In.calls a0 0 1000000000000 false _ A2.out).mono ?_); rintro e w' ⟨rfl, ⟨nd, rfl⟩⟩; refine ⟨_, rfl, ?_⟩))
  go_ret
  exact ⟨by first | rfl | exact yP _ | (simp; done) | (simp [*]; done), by repeat (first | exact zP _ | apply zQ)⟩

def spec_PuncturedLength.f (a0 : Int) : Option (Int) := if a0 < 0 then (some 0) else (some (wrap64 (a0 - (wrap64 (Int.tdiv a0 4)))))
theorem spec_PuncturedLength.calls (a0 : Int) (r : Int) (w : World) (h : spec_PuncturedLength.f a0 = some r) :
  Calls Try.prog 156 #[.int .i64 a0] w fun e w' => e = .returned (.int .i64 r) ∧ Drawn0 w w' := by
 have H : (if a0 < 0 then (some 0) else (some (wrap64 (a0 - (wrap64 (Int.tdiv a0 4)))))) = some r := h
 clear h
 by_cases c2 : a0 < 0
 ·rw [if_pos c2] at H
  have c2b0 : decide (a0 < 0) = true := decide_eq_true c2
  clear c2
  obtain rfl := Option.some.inj H
  go_enter Try.func156, Try.ntmps156
  go_wp2
  go_ret
  exact ⟨by first | rfl | exact yP _ | (simp; done) | (simp [*]; done), by repeat (first | exact zP _ | apply zQ)⟩
 ·rw [if_neg c2] at H
  have c2b0 : decide (a0 < 0) = false := decide_eq_false c2
  clear c2
  obtain rfl := Option.some.inj H
  go_enter Try.func156, Try.ntmps156
  go_wp2
  go_ret
  exact ⟨by first | rfl | exact yP _ | (simp; done) | (simp [*]; done), by repeat (first | exact zP _ | apply zQ)⟩

def spec_PayloadSymbols.f (a0_0 : Int) (a0_1 : Int) (a0_2 : Int) : Option (Int) := (spec_IsValidHeader.f a0_0 a0_1 a0_2).bind fun t422 => (if t422 = true then ((spec_EncodedLength.f (wrap64 (8 * (wrap64 (a0_1 + 2))))).bind fun t423 => (if a0_0 = 2 then ((spec_PuncturedLength.f t423).bind fun t424 => (some t424)) else (some t423))) else (some 0))
theorem spec_PayloadSymbols.calls (a0_0 : Int) (a0_1 : Int) (a0_2 : Int) (r : Int) (w : World) (h : spec_PayloadSymbols.f a0_0 a0_1 a0_2 = some r) :
  Calls Try.prog 120 #[.agg #[.int .i64 a0_0, .int .i64 a0_1, .int .i64 a0_2]] w fun e w' => e = .returned (.int .i64 r) ∧ Below w.heap.size w w' := by
 have hu24 := Try.underlying24
 have HB := zO (Below.refl w.heap.size w)
 have H : ((spec_IsValidHeader.f a0_0 a0_1 a0_2).bind fun t422 => (if t422 = true then ((spec_EncodedLength.f (wrap64 (8 * (wrap64 (a0_1 + 2))))).bind fun t423 => (if a0_0 = 2 then ((spec_PuncturedLength.f t423).bind fun t424 => (some t424)) else (some t423))) else (some 0))) = some r := h
 clear h
 replace H := yE.mp H
 obtain ⟨t422, A20, H⟩ := H
 replace H : (if t422 = true then ((spec_EncodedLength.f (wrap64 (8 * (wrap64 (a0_1 + 2))))).bind fun t423 => (if a0_0 = 2 then ((spec_PuncturedLength.f t423).bind fun t424 => (some t424)) else (some t423))) else (some 0)) = some r := H
 have A2 := zO A20
 clear A20
 by_cases c3 : t422 = true
 ·subst c3
  have H1 : ((spec_EncodedLength.f (wrap64 (8 * (wrap64 (a0_1 + 2))))).bind fun t423 => (if a0_0 = 2 then ((spec_PuncturedLength.f t423).bind fun t424 => (some t424)) else (some t423))) = some r := by rw [if_pos rfl] at H; exact H
  clear H
  have H := H1
  clear H1
  replace H := yE.mp H
  obtain ⟨t423, A40, H⟩ := H
  replace H : (if a0_0 = 2 then ((spec_PuncturedLength.f t423).bind fun t424 => (some t424)) else (some t423)) = some r := H
  have A4 := zO A40
  clear A40
  by_cases c5 : a0_0 = 2
  ·rw [if_pos c5] at H
   have c5b0 : (a0_0 == 2) = true := beq_iff_eq.mpr c5
   have c5b1 : (a0_0 != 2) = false := bne_eq_false_iff_eq.mpr c5
   clear c5
   replace H := yE.mp H
   obtain ⟨t424, A60, H⟩ := H
   replace H : (some t424) = some r := H
   have A6 := zO A60
   clear A60
   obtain rfl := Option.some.inj H
   go_enter Try.func120, Try.ntmps120
   go_wp2_with (first | ((with_reducible refine zN (N := 1) rfl ?_); refine box_event ?hg (N := 1) ?hd (cs := #[.int .i64 a0_0, .int .i64 a0_1, .int .i64 a0_2]) (t := 24) ?hr ?_; (case hd => rfl); (case hg => rfl); (case hr => first | (go_simp; done) | (go_simp; rfl)); intro gb421 hg w7 hbox hb; have n0_ := zO (zE (by repeat (first | exact HB.out | apply zA | apply zL | apply zB)) hb); have n1_ := zO (hbox); have n2_ := zO ((by rw [hg]; exact (zD (by repeat (first | exact HB.out | apply zA | apply zL | apply zB))) : w.heap.size ≤ gb421)); have n3_ := zO ((by rw [hg]; exact (zD (by repeat (first | exact HB.out | apply zA | apply zL | apply zB))) : w.heap.size ≤ gb421)); clear HB; have HB := n0_; have BK421 := n1_; have GW421 := n2_; have GE421 := n3_; clear n0_ n1_ n2_ n3_; clear hb hbox hg; have hcz8_0 : w7.cell? ⟨gb421, 0, none⟩ = some (.int .i64 a0_0) := (zH BK421.out 0).trans rfl; have hcz8_1 : w7.cell? ⟨gb421, 1, none⟩ = some (.int .i64 a0_1) := (zH BK421.out 1).trans rfl; have hcz8_2 : w7.cell? ⟨gb421, 2, none⟩ = some (.int .i64 a0_2) := (zH BK421.out 2).trans rfl; have hfz8_0 := zK BK421.out 0; have hfz8_1 := zK BK421.out 1; have hfz8_2 := zK BK421.out 2) | ((with_reducible refine zM (f := 64) rfl ?_); refine goesL_ (some 5) rfl rfl Try.func64 (by kernel_rfl) rfl #[.agg #[.int .i64 a0_0, .int .i64 a0_1, .int .i64 a0_2]] rfl (by (try simp only [yK, yL, yM]); first | done | rfl | (simp only [yJ, yI]; rfl)) ?_; (with_reducible refine (spec_IsValidHeader.calls a0_0 a0_1 a0_2 true _ A2.out).mono ?_); rintro e w9 ⟨rfl, hb⟩; refine ⟨_, rfl, ?_⟩; have n0_ := zO (zG (g := gb421) (o := .cells #[.int .i64 a0_0, .int .i64 a0_1, .int .i64 a0_2] 24 (0, 0)) (by (with_reducible repeat (first | refine zJ ?_ _ | refine zI ?_ | refine zF ?_ _)); exact BK421.out) hb); have n1_ := zO (zE (by repeat (first | (with_reducible first | exact HB.out | apply zA | apply zL | apply zB | refine zC ?_ GE421.out) | exact HB.out)) hb); clear BK421; clear HB; have BK421 := n0_; have HB := n1_; clear n0_ n1_; (try clear hb); (try clear hb2); (try clear hk); (try clear hi); have hcz10_0 : w9.cell? ⟨gb421, 0, none⟩ = some (.int .i64 a0_0) := (zH BK421.out 0).trans rfl; have hcz10_1 : w9.cell? ⟨gb421, 1, none⟩ = some (.int .i64 a0_1) := (zH BK421.out 1).trans rfl; have hcz10_2 : w9.cell? ⟨gb421, 2, none⟩ = some (.int .i64 a0_2) := (zH BK421.out 2).trans rfl; have hfz10_0 := zK BK421.out 0; have hfz10_1 := zK BK421.out 1; have hfz10_2 := zK BK421.out 2) | ((with_reducible refine zM (f := 111) rfl ?_); refine goesL_ (some 11) rfl rfl Try.func111 (by kernel_rfl) rfl #[.int .i64 (wrap64 (8 * (wrap64 (a0_1 + 2))))] rfl (by (try simp only [yK, yL, yM]); first | done | rfl | (simp only [yJ, yI]; rfl)) ?_; (with_reducible refine (spec_EncodedLength.calls (wrap64 (8 * (wrap64 (a0_1 + 2)))) t423 _ A4.out).mono ?_); rintro e w' ⟨rfl, ⟨nd, rfl⟩⟩; refine ⟨_, rfl, ?_⟩) | ((with_reducible refine zM (f := 156) rfl ?_); refine goesL_ (some 16) rfl rfl Try.func156 (by kernel_rfl) rfl #[.int .i64 t423] rfl (by (try simp only [yK, yL, yM]); first | done | rfl | (simp only [yJ, yI]; rfl)) ?_; (with_reducible refine (spec_PuncturedLength.calls t423 t424 _ A6.out).mono ?_); rintro e w' ⟨rfl, ⟨nd, rfl⟩⟩; refine ⟨_, rfl, ?_⟩))
   go_ret
   exact ⟨by first | rfl | exact yP _ | (simp [errW_none, errW_some] <;> rfl) | (simp [*, errW_none, errW_some] <;> rfl), by repeat (first | (with_reducible first | exact HB.out | apply zA | apply zL | apply zB | refine zC ?_ GE421.out) | exact HB.out)⟩
  ·rw [if_neg c5] at H
   have c5b0 : (a0_0 == 2) = false := beq_eq_false_iff_ne.mpr c5
   have c5b1 : (a0_0 != 2) = true := bne_iff_ne.mpr c5
   obtain rfl := Option.some.inj H
   go_enter Try.func120, Try.ntmps120
   go_wp2_with (first | ((with_reducible refine zN (N := 1) rfl ?_); refine box_event ?hg (N := 1) ?hd (cs := #[.int .i64 a0_0, .int .i64 a0_1, .int .i64 a0_2]) (t := 24) ?hr ?_; (case hd => rfl); (case hg => rfl); (case hr => first | (go_simp; done) | (go_simp; rfl)); intro gb421 hg w11 hbox hb; have n0_ := zO (zE (by repeat (first | exact HB.out | apply zA | apply zL | apply zB)) hb); have n1_ := zO (hbox); have n2_ := zO ((by rw [hg]; exact (zD (by repeat (first | exact HB.out | apply zA | apply zL | apply zB))) : w.heap.size ≤ gb421)); have n3_ := zO ((by rw [hg]; exact (zD (by repeat (first | exact HB.out | apply zA | apply zL | apply zB))) : w.heap.size ≤ gb421)); clear HB; have HB := n0_; have BK421 := n1_; have GW421 := n2_; have GE421 := n3_; clear n0_ n1_ n2_ n3_; clear hb hbox hg; have hcz12_0 : w11.cell? ⟨gb421, 0, none⟩ = some (.int .i64 a0_0) := (zH BK421.out 0).trans rfl; have hcz12_1 : w11.cell? ⟨gb421, 1, none⟩ = some (.int .i64 a0_1) := (zH BK421.out 1).trans rfl; have hcz12_2 : w11.cell? ⟨gb421, 2, none⟩ = some (.int .i64 a0_2) := (zH BK421.out 2).trans rfl; have hfz12_0 := zK BK421.out 0; have hfz12_1 := zK BK421.out 1; have hfz12_2 := zK BK421.out 2) | ((with_reducible refine zM (f := 64) rfl ?_); refine goesL_ (some 5) rfl rfl Try.func64 (by kernel_rfl) rfl #[.agg #[.int .i64 a0_0, .int .i64 a0_1, .int .i64 a0_2]] rfl (by (try simp only [yK, yL, yM]); first | done | rfl | (simp only [yJ, yI]; rfl)) ?_; (with_reducible refine (spec_IsValidHeader.calls a0_0 a0_1 a0_2 true _ A2.out).mono ?_); rintro e w13 ⟨rfl, hb⟩; refine ⟨_, rfl, ?_⟩; have n0_ := zO (zG (g := gb421) (o := .cells #[.int .i64 a0_0, .int .i64 a0_1, .int .i64 a0_2] 24 (0, 0)) (by (with_reducible repeat (first | refine zJ ?_ _ | refine zI ?_ | refine zF ?_ _)); exact BK421.out) hb); have n1_ := zO (zE (by repeat (first | (with_reducible first | exact HB.out | apply zA | apply zL | apply zB | refine zC ?_ GE421.out) | exact HB.out)) hb); clear BK421; clear HB; have BK421 := n0_; have HB := n1_; clear n0_ n1_; (try clear hb); (try clear hb2); (try clear hk); (try clear hi); have hcz14_0 : w13.cell? ⟨gb421, 0, none⟩ = some (.int .i64 a0_0) := (zH BK421.out 0).trans rfl; have hcz14_1 : w13.cell? ⟨gb421, 1, none⟩ = some (.int .i64 a0_1) := (zH BK421.out 1).trans rfl; have hcz14_2 : w13.cell? ⟨gb421, 2, none⟩ = some (.int .i64 a0_2) := (zH BK421.out 2).trans rfl; have hfz14_0 := zK BK421.out 0; have hfz14_1 := zK BK421.out 1; have hfz14_2 := zK BK421.out 2) | ((with_reducible refine zM (f := 111) rfl ?_); refine goesL_ (some 11) rfl rfl Try.func111 (by kernel_rfl) rfl #[.int .i64 (wrap64 (8 * (wrap64 (a0_1 + 2))))] rfl (by (try simp only [yK, yL, yM]); first | done | rfl | (simp only [yJ, yI]; rfl)) ?_; (with_reducible refine (spec_EncodedLength.calls (wrap64 (8 * (wrap64 (a0_1 + 2)))) t423 _ A4.out).mono ?_); rintro e w' ⟨rfl, ⟨nd, rfl⟩⟩; refine ⟨_, rfl, ?_⟩))
   go_ret
   exact ⟨by first | rfl | exact yP _ | (simp [errW_none, errW_some] <;> rfl) | (simp [*, errW_none, errW_some] <;> rfl), by repeat (first | (with_reducible first | exact HB.out | apply zA | apply zL | apply zB | refine zC ?_ GE421.out) | exact HB.out)⟩
 ·replace c3 := Bool.eq_false_iff.mpr c3
  subst c3
  have H1 : (some 0) = some r := by rw [if_neg (show ¬ (false = true) by decide)] at H; exact H
  clear H
  have H := H1
  clear H1
  obtain rfl := Option.some.inj H
  go_enter Try.func120, Try.ntmps120
  go_wp2_with (first | ((with_reducible refine zN (N := 1) rfl ?_); refine box_event ?hg (N := 1) ?hd (cs := #[.int .i64 a0_0, .int .i64 a0_1, .int .i64 a0_2]) (t := 24) ?hr ?_; (case hd => rfl); (case hg => rfl); (case hr => first | (go_simp; done) | (go_simp; rfl)); intro gb421 hg w15 hbox hb; have n0_ := zO (zE (by repeat (first | exact HB.out | apply zA | apply zL | apply zB)) hb); have n1_ := zO (hbox); have n2_ := zO ((by rw [hg]; exact (zD (by repeat (first | exact HB.out | apply zA | apply zL | apply zB))) : w.heap.size ≤ gb421)); have n3_ := zO ((by rw [hg]; exact (zD (by repeat (first | exact HB.out | apply zA | apply zL | apply zB))) : w.heap.size ≤ gb421)); clear HB; have HB := n0_; have BK421 := n1_; have GW421 := n2_; have GE421 := n3_; clear n0_ n1_ n2_ n3_; clear hb hbox hg; have hcz16_0 : w15.cell? ⟨gb421, 0, none⟩ = some (.int .i64 a0_0) := (zH BK421.out 0).trans rfl; have hcz16_1 : w15.cell? ⟨gb421, 1, none⟩ = some (.int .i64 a0_1) := (zH BK421.out 1).trans rfl; have hcz16_2 : w15.cell? ⟨gb421, 2, none⟩ = some (.int .i64 a0_2) := (zH BK421.out 2).trans rfl; have hfz16_0 := zK BK421.out 0; have hfz16_1 := zK BK421.out 1; have hfz16_2 := zK BK421.out 2) | ((with_reducible refine zM (f := 64) rfl ?_); refine goesL_ (some 5) rfl rfl Try.func64 (by kernel_rfl) rfl #[.agg #[.int .i64 a0_0, .int .i64 a0_1, .int .i64 a0_2]] rfl (by (try simp only [yK, yL, yM]); first | done | rfl | (simp only [yJ, yI]; rfl)) ?_; (with_reducible refine (spec_IsValidHeader.calls a0_0 a0_1 a0_2 false _ A2.out).mono ?_); rintro e w17 ⟨rfl, hb⟩; refine ⟨_, rfl, ?_⟩; have n0_ := zO (zG (g := gb421) (o := .cells #[.int .i64 a0_0, .int .i64 a0_1, .int .i64 a0_2] 24 (0, 0)) (by (with_reducible repeat (first | refine zJ ?_ _ | refine zI ?_ | refine zF ?_ _)); exact BK421.out) hb); have n1_ := zO (zE (by repeat (first | (with_reducible first | exact HB.out | apply zA | apply zL | apply zB | refine zC ?_ GE421.out) | exact HB.out)) hb); clear BK421; clear HB; have BK421 := n0_; have HB := n1_; clear n0_ n1_; (try clear hb); (try clear hb2); (try clear hk); (try clear hi)))
  go_ret
  exact ⟨by first | rfl | exact yP _ | (simp [errW_none, errW_some] <;> rfl) | (simp [*, errW_none, errW_some] <;> rfl), by repeat (first | (with_reducible first | exact HB.out | apply zA | apply zL | apply zB | refine zC ?_ GE421.out) | exact HB.out)⟩

def spec_l1Bytes.l0 : Nat → Int → List Int → Int → List Int → Int → Int → Option (List Int × Int × Int)
 | 0, _, _, _, _, _, _ => none
 | k + 1, x1, x5, x6, x1000, x1001, x1002 => if x6 < x1 then ((spec_l1Byte.f x1000 x1001 x1002).bind fun bt428 => (if x5.length < 140737488355328 then (spec_l1Bytes.l0 k x1 (x5 ++ [(bt428.1) % 256]) (wrap64 (x6 + 1)) x1000 bt428.2.1 bt428.2.2) else (none))) else (some (x5, x1001, x1002))
def spec_l1Bytes.f (k : Nat) (s0_0 : List Int) (s0_1 : Int) (s0_2 : Int) (a1 : Int) : Option (List Int × Int × Int) := spec_l1Bytes.l0 k a1 (([] : List Int)) 0 s0_0 s0_1 s0_2
theorem spec_l1Bytes.calls (k : Nat) (g : Nat) (s0_0 : List Int) (s0_1 : Int) (s0_2 : Int) (a1 : Int) (r1 : List Int) (r2 : Int) (r3 : Int) (w0 w : World) (hI : IsS114 w0 w g s0_0 s0_1 s0_2) (hB : Below w0.heap.size w0 w) (h : spec_l1Bytes.f k s0_0 s0_1 s0_2 a1 = some (r1, r2, r3)) :
  Calls Try.prog 132 #[.pointer (some ⟨g, 0, none⟩), .int .i64 a1] w fun e w' => ∃ v0_ : Value, e = .returned (v0_) ∧ Kd.R (Kd.int .u8) 5 w' w.heap.size (fun _ => True) v0_ r1 ∧ IsS114 w0 w' g s0_0 r2 r3 ∧ Below w0.heap.size w0 w' ∧ KeepBut w w' g none := by
 have HI0 := zO hI
 have HK := zO (KeepBut.refl w g none)
 have HL := zO hB.size
 clear hI
 have HW0 := zO hB.size
 have HB := zO hB
 clear hB
 have H : (spec_l1Bytes.l0 k a1 (([] : List Int)) 0 s0_0 s0_1 s0_2) = some (r1, r2, r3) := h
 clear h
 obtain ⟨y425, hy425⟩ : ∃ y_ : List Int, y_ = (([] : List Int)) := ⟨_, rfl⟩
 replace H : (spec_l1Bytes.l0 k a1 y425 0 s0_0 s0_1 s0_2) = some (r1, r2, r3) := by first | (rw [hy425]; exact H) | exact H
 have Ny425 := zO hy425
 clear hy425
 have H' := zO H
 clear H
 go_enter Try.func132, Try.ntmps132
 go_wp2_with (first | ((with_reducible refine zN (N := 7) rfl ?_); refine Kd.R_lit (Kd.int .u8) _ 5 ?hg (N := 7) ?hd (xs := ([] : List Int)) (inner := []) (ok := fun _ => True) (okp := fun _ => True) ?hr ?hp (fun _ hk => hk) trivial (Below.refl _ _) (Nat.le_refl _) (by simp) ?_; (case hd => rfl); (case hg => rfl); (case hr => first | (go_simp; done) | (go_simp; rfl)); (case hp => exact (Reps.none _ _)); intro v426 w3 ho4 hb hg_ hnew_; clear hg_ hnew_; (first | rw [← Ny425.out] at ho4 | (simp only [Int.reduceToNat] at ho4; rw [← Ny425.out] at ho4)); have n0_ := zO (yA ho4 (keep_size (w := w) (g := g) (row := none) (by repeat (first | (with_reducible first | exact HK.out | apply KeepBut.set_ | apply keep_drewN | apply keep_drew | apply keep_alloc) | exact HK.out)))); have n1_ := zO (IsS114.below (by repeat (first | (with_reducible first | exact HI0.out | apply IsS114.alloc | apply IsS114.drewN | apply IsS114.drew | apply IsS114.set_1 | apply IsS114.set_2) | exact HI0.out)) hb); have n2_ := zO (KeepBut.trans (by repeat (first | (with_reducible first | exact HK.out | apply KeepBut.set_ | apply keep_drewN | apply keep_drew | apply keep_alloc) | exact HK.out)) (KeepBut.of_below hb g none) (.inl rfl)); have n3_ := zO (zE (by repeat (first | (with_reducible first | exact HB.out | apply zA | apply zL | apply zB | refine zC ?_ (IsS114.ge HI0.out)) | exact HB.out)) hb); clear HI0; clear HK; clear HB; have HO427 := n0_; have HI0 := n1_; have HK := n2_; have HB := n3_; clear n0_ n1_ n2_ n3_; clear hb ho4))
 go_loopg [5, 6] k (fun kq v5 v6 w' => ∃ (x5_1 : List Int) (x6_1 : Int) (x1001_1 : Int) (x1002_1 : Int), v6 = .int .i64 x6_1 ∧ Aside0 (spec_l1Bytes.l0 kq a1 x5_1 x6_1 s0_0 x1001_1 x1002_1 = some (r1, r2, r3)) ∧ Aside0 (kq ≤ k) ∧ Aside0 (Kd.R (Kd.int .u8) 5 w' w.heap.size (fun _ => True) v5 x5_1) ∧ Aside0 (IsS114 w0 w' g s0_0 x1001_1 x1002_1) ∧ Aside0 (KeepBut w w' g none) ∧ Aside0 (Below w0.heap.size w0 w'))
 case atStart => exact ⟨(y425), (0), (s0_1), (s0_2), (by first | rfl | (simp; done) | (simp [*]; done)), H', ⟨Nat.le_refl _⟩, ⟨by (with_reducible repeat (first | apply zU | apply zW | apply zV)); exact HO427.out⟩, ⟨by repeat (first | (with_reducible first | exact HI0.out | apply IsS114.alloc | apply IsS114.drewN | apply IsS114.drew | apply IsS114.set_1 | apply IsS114.set_2) | exact HI0.out)⟩, ⟨by repeat (first | (with_reducible first | exact HK.out | apply KeepBut.set_ | apply keep_drewN | apply keep_drew | apply keep_alloc) | exact HK.out)⟩, ⟨by repeat (first | (with_reducible first | exact HB.out | apply zA | apply zL | apply zB | refine zC ?_ (IsS114.ge HI0.out)) | exact HB.out)⟩⟩
 case round =>
  clear H'
  try clear c1
  try clear p2
  obtain ⟨x5_1, x6_1, x1001_1, x1002_1, rfl, HA, HK1, HO_5, HI0, HK, HB⟩ := hrel
  cases gk with
  | zero => exact absurd HA.out (by simp [spec_l1Bytes.l0])
  | succ k1 =>
   have H := HA.out
   clear HA
   simp only [spec_l1Bytes.l0] at H
   by_cases c5 : x6_1 < a1
   ·rw [if_pos c5] at H
    have c5b0 : decide (x6_1 < a1) = true := decide_eq_true c5
    clear c5
    replace H := yE.mp H
    obtain ⟨⟨t428, t429, t430⟩, A60, H⟩ := H
    replace H : (if x5_1.length < 140737488355328 then (spec_l1Bytes.l0 k1 a1 (x5_1 ++ [(t428) % 256]) (wrap64 (x6_1 + 1)) s0_0 t429 t430) else (none)) = some (r1, r2, r3) := H
    have A6 := zO A60
    clear A60
    by_cases c7 : x5_1.length < 140737488355328
    case neg => rw [if_neg c7] at H; exact absurd H (by simp)
    rw [if_pos c7] at H
    have LMc7 := zO c7
    clear c7
    obtain ⟨y431, hy431⟩ : ∃ y_ : List Int, y_ = (x5_1 ++ [(t428) % 256]) := ⟨_, rfl⟩
    replace H : (spec_l1Bytes.l0 k1 a1 y431 (wrap64 (x6_1 + 1)) s0_0 t429 t430) = some (r1, r2, r3) := by first | (rw [hy431]; exact H) | exact H
    have Ny431 := zO hy431
    clear hy431
    have H' := zO H
    clear H
    go_wp2_with (first | ((with_reducible refine zM (f := 146) rfl ?_); refine goesL_ (some 15) rfl rfl Try.func146 (by kernel_rfl) rfl #[.pointer (some ⟨g, 0, none⟩)] rfl (by (try simp only [yK, yL, yM]); first | done | rfl | (simp only [yJ, yI]; rfl)) ?_; (with_reducible refine (spec_l1Byte.calls g s0_0 x1001_1 x1002_1 t428 t429 t430 w0 _ ?side1 ?side2 A6.out).mono ?_); (case side1 => repeat (first | (with_reducible first | exact HI0.out | apply IsS114.alloc | apply IsS114.drewN | apply IsS114.drew | apply IsS114.set_1 | apply IsS114.set_2) | exact HI0.out)); (case side2 => repeat (first | (with_reducible first | exact HB.out | apply zA | apply zL | apply zB | refine zC ?_ (IsS114.ge HI0.out)) | exact HB.out)); rintro e w8 ⟨rfl, hi, hb, hk⟩; refine ⟨_, rfl, ?_⟩; have n0_ := zO (Kd.R_mono (Kd.R_keep (IsS114.apart (show IsS114 w0 _ g s0_0 x1001_1 x1002_1 from by repeat (first | (with_reducible first | exact HI0.out | apply IsS114.alloc | apply IsS114.drewN | apply IsS114.drew | apply IsS114.set_1 | apply IsS114.set_2) | exact HI0.out)) (by (with_reducible repeat (first | apply zU | apply zW | apply zV)); exact HO_5.out) (by decide)) hk (fun _ h => h.2)) (fun _ h => h.1)); have n1_ := zO (KeepBut.trans (by repeat (first | (with_reducible first | exact HK.out | apply KeepBut.set_ | apply keep_drewN | apply keep_drew | apply keep_alloc) | exact HK.out)) hk (.inl rfl)); have n2_ := zO (hb); have n3_ := zO (hi); clear HO_5; clear HK; clear HB; clear HI0; have HO_5 := n0_; have HK := n1_; have HB := n2_; have HI0 := n3_; clear n0_ n1_ n2_ n3_; (try clear hb); (try clear hb2); (try clear hk); (try clear hi)) | ((with_reducible refine gate_builtin (b := .append) (xs := #[.tmp 13, .tmp 17]) rfl ?_); at_builtin; refine Kd.R_append (Kd.int .u8) w.heap.size rfl (.tmp 13) (.tmp 17) 31 5 (.int .u8 0) 1 rfl Try.underlying31 info5 rfl (by decide) (by omega) u5 x5_1 ((t428) % 256) [.int .u8 ((t428) % 256)] (fun _ => True) (fun _ => False) rfl rfl ?aP (fun _ hk => hk.elim) ?aF ?aO (Below.refl _ _) ?aS ?aL ?_; (case aP => exact rfl); (case aF => exact (fun _ _ => trivial)); (case aO => exact (by (with_reducible repeat (first | apply zU | apply zW | apply zV)); exact HO_5.out)); (case aS => exact (keep_size (w := w) (g := g) (row := none) (by repeat (first | (with_reducible first | exact HK.out | apply KeepBut.set_ | apply keep_drewN | apply keep_drew | apply keep_alloc) | exact HK.out)))); (case aL => have := LMc7.out; omega); intro v432 w9 ho hb hg hat; rw [← Ny431.out] at ho; have n0_ := zO (IsS114.grown (by repeat (first | (with_reducible first | exact HI0.out | apply IsS114.alloc | apply IsS114.drewN | apply IsS114.drew | apply IsS114.set_1 | apply IsS114.set_2) | exact HI0.out)) hg (IsS114.own_ne HI0.out HO_5.out (by decide))); have n1_ := zO (below_weaken (by repeat (first | (with_reducible first | exact HB.out | apply zA | apply zL | apply zB | refine zC ?_ (IsS114.ge HI0.out)) | exact HB.out)) HL.out hb); have n2_ := zO (KeepBut.trans (by repeat (first | (with_reducible first | exact HK.out | apply KeepBut.set_ | apply keep_drewN | apply keep_drew | apply keep_alloc) | exact HK.out)) (KeepBut.of_grown hg g) (Kd.R_base2 HO_5.out)); have n3_ := zO (ho); clear HI0; clear HB; clear HK; clear HO_5; have HI0 := n0_; have HB := n1_; have HK := n2_; have HO433 := n3_; clear n0_ n1_ n2_ n3_; clear ho hb hg hat))
    go_roundg k1
    case measure => have := HK1.out; omega
    case rel => exact ⟨(y431), (wrap64 (x6_1 + 1)), (t429), (t430), (by first | rfl | (simp; done) | (simp [*]; done)), H', ⟨by have := HK1.out; omega⟩, ⟨by (with_reducible repeat (first | apply zU | apply zW | apply zV)); exact HO433.out⟩, ⟨by repeat (first | (with_reducible first | exact HI0.out | apply IsS114.alloc | apply IsS114.drewN | apply IsS114.drew | apply IsS114.set_1 | apply IsS114.set_2) | exact HI0.out)⟩, ⟨by repeat (first | (with_reducible first | exact HK.out | apply KeepBut.set_ | apply keep_drewN | apply keep_drew | apply keep_alloc) | exact HK.out)⟩, ⟨by repeat (first | (with_reducible first | exact HB.out | apply zA | apply zL | apply zB | refine zC ?_ (IsS114.ge HI0.out)) | exact HB.out)⟩⟩
   ·rw [if_neg c5] at H
    have c5b0 : decide (x6_1 < a1) = false := decide_eq_false c5
    clear c5
    simp only [Option.some.injEq, Prod.mk.injEq] at H
    obtain ⟨rfl, rfl, rfl⟩ := H
    go_wp2
    go_ret
    exact ⟨_, by first | rfl | (simp [errW_none, errW_some] <;> rfl) | (simp [*, errW_none, errW_some] <;> rfl), by (with_reducible repeat (first | apply zU | apply zW | apply zV)); exact HO_5.out, by repeat (first | (with_reducible first | exact HI0.out | apply IsS114.alloc | apply IsS114.drewN | apply IsS114.drew | apply IsS114.set_1 | apply IsS114.set_2) | exact HI0.out), by repeat (first | (with_reducible first | exact HB.out | apply zA | apply zL | apply zB | refine zC ?_ (IsS114.ge HI0.out)) | exact HB.out), by repeat (first | (with_reducible first | exact HK.out | apply KeepBut.set_ | apply keep_drewN | apply keep_drew | apply keep_alloc) | exact HK.out)⟩

def spec_l10Header.f (s0_0 : List Int) (s0_1 : Int) (s0_2 : Int) : Option (Int × Int × Int × Int × Int) := (spec_l1Below.f s0_0 s0_1 s0_2 2).bind fun bt435 => ((spec_l1Below.f s0_0 bt435.2.1 bt435.2.2 6).bind fun bt438 => ((spec_l1Below.f s0_0 bt438.2.1 bt438.2.2 127).bind fun bt441 => (some (wrap64 (1 + bt435.1), bt438.1, wrap64 (1 + bt441.1), bt441.2.1, bt441.2.2))))
theorem spec_l10Header.calls (g : Nat) (s0_0 : List Int) (s0_1 : Int) (s0_2 : Int) (r1 : Int) (r2 : Int) (r3 : Int) (r4 : Int) (r5 : Int) (w0 w : World) (hI : IsS114 w0 w g s0_0 s0_1 s0_2) (hB : Below w0.heap.size w0 w) (h : spec_l10Header.f s0_0 s0_1 s0_2 = some (r1, r2, r3, r4, r5)) :
  Calls Try.prog 166 #[.pointer (some ⟨g, 0, none⟩)] w fun e w' => e = .returned (.agg #[.int .i64 r1, .int .i64 r2, .int .i64 r3]) ∧ IsS114 w0 w' g s0_0 r4 r5 ∧ Below w0.heap.size w0 w' ∧ KeepBut w w' g none := by
 have hu24 := Try.underlying24
 have HI0 := zO hI
 have HK := zO (KeepBut.refl w g none)
 have HL := zO hB.size
 clear hI
 have HW0 := zO hB.size
 have HB := zO hB
 clear hB
 have H : ((spec_l1Below.f s0_0 s0_1 s0_2 2).bind fun bt435 => ((spec_l1Below.f s0_0 bt435.2.1 bt435.2.2 6).bind fun bt438 => ((spec_l1Below.f s0_0 bt438.2.1 bt438.2.2 127).bind fun bt441 => (some (wrap64 (1 + bt435.1), bt438.1, wrap64 (1 + bt441.1), bt441.2.1, bt441.2.2))))) = some (r1, r2, r3, r4, r5) := h
 clear h
 replace H := yE.mp H
 obtain ⟨⟨t435, t436, t437⟩, A20, H⟩ := H
 replace H : ((spec_l1Below.f s0_0 t436 t437 6).bind fun bt438 => ((spec_l1Below.f s0_0 bt438.2.1 bt438.2.2 127).bind fun bt441 => (some (wrap64 (1 + t435), bt438.1, wrap64 (1 + bt441.1), bt441.2.1, bt441.2.2)))) = some (r1, r2, r3, r4, r5) := H
 have A2 := zO A20
 clear A20
 replace H := yE.mp H
 obtain ⟨⟨t438, t439, t440⟩, A30, H⟩ := H
 replace H : ((spec_l1Below.f s0_0 t439 t440 127).bind fun bt441 => (some (wrap64 (1 + t435), t438, wrap64 (1 + bt441.1), bt441.2.1, bt441.2.2))) = some (r1, r2, r3, r4, r5) := H
 have A3 := zO A30
 clear A30
 replace H := yE.mp H
 obtain ⟨⟨t441, t442, t443⟩, A40, H⟩ := H
 replace H : (some (wrap64 (1 + t435), t438, wrap64 (1 + t441), t442, t443)) = some (r1, r2, r3, r4, r5) := H
 have A4 := zO A40
 clear A40
 simp only [Option.some.injEq, Prod.mk.injEq] at H
 obtain ⟨rfl, rfl, rfl, rfl, rfl⟩ := H
 go_enter Try.func166, Try.ntmps166
 go_wp2_with (first | ((with_reducible refine zN (N := 2) rfl ?_); refine box_event ?hg (N := 2) ?hd (cs := #[.int .i64 0, .int .i64 0, .int .i64 0]) (t := 24) ?hr ?_; (case hd => rfl); (case hg => rfl); (case hr => first | (go_simp; done) | (go_simp; rfl)); intro gb434 hg w5 hbox hb; have n0_ := zO (IsS114.below (by repeat (first | (with_reducible first | exact HI0.out | apply IsS114.alloc | apply IsS114.drewN | apply IsS114.drew | apply IsS114.set_1 | apply IsS114.set_2) | exact HI0.out)) hb); have n1_ := zO (KeepBut.trans (by repeat (first | (with_reducible first | exact HK.out | apply KeepBut.set_ | apply keep_drewN | apply keep_drew | apply keep_alloc) | exact HK.out)) (KeepBut.of_below hb g none) (.inl rfl)); have n2_ := zO (zE (by repeat (first | (with_reducible first | exact HB.out | apply zA | apply zL | apply zB | refine zC ?_ (IsS114.ge HI0.out)) | exact HB.out)) hb); have n3_ := zO (hbox); have n4_ := zO ((by rw [hg]; exact (keep_size (w := w) (g := g) (row := none) (by repeat (first | (with_reducible first | exact HK.out | apply KeepBut.set_ | apply keep_drewN | apply keep_drew | apply keep_alloc) | exact HK.out))) : w.heap.size ≤ gb434)); have n5_ := zO ((Nat.le_trans HW0.out (by rw [hg]; exact (keep_size (w := w) (g := g) (row := none) (by repeat (first | (with_reducible first | exact HK.out | apply KeepBut.set_ | apply keep_drewN | apply keep_drew | apply keep_alloc) | exact HK.out))) : w.heap.size ≤ gb434) : w0.heap.size ≤ gb434)); have n6_ := zO ((by rw [hg]; exact Nat.ne_of_lt (IsS114.lt (show IsS114 w0 _ g s0_0 s0_1 s0_2 from by repeat (first | (with_reducible first | exact HI0.out | apply IsS114.alloc | apply IsS114.drewN | apply IsS114.drew | apply IsS114.set_1 | apply IsS114.set_2) | exact HI0.out))) : g ≠ gb434)); have n7_ := zO ((by rw [hg]; exact Nat.ne_of_gt (IsS114.lt (show IsS114 w0 _ g s0_0 s0_1 s0_2 from by repeat (first | (with_reducible first | exact HI0.out | apply IsS114.alloc | apply IsS114.drewN | apply IsS114.drew | apply IsS114.set_1 | apply IsS114.set_2) | exact HI0.out))) : gb434 ≠ g)); clear HI0; clear HK; clear HB; have HI0 := n0_; have HK := n1_; have HB := n2_; have BK434 := n3_; have GW434 := n4_; have GE434 := n5_; have NB0_434 := n6_; have NB434_0 := n7_; clear n0_ n1_ n2_ n3_ n4_ n5_ n6_ n7_; clear hb hbox hg) | ((with_reducible refine zM (f := 91) rfl ?_); refine goesL_ (some 4) rfl rfl Try.func91 (by kernel_rfl) rfl #[.pointer (some ⟨g, 0, none⟩), .int .i64 2] rfl (by (try simp only [yK, yL, yM]); first | done | rfl | (simp only [yJ, yI]; rfl)) ?_; (with_reducible refine (spec_l1Below.calls g s0_0 s0_1 s0_2 2 t435 t436 t437 w0 _ ?side1 ?side2 A2.out).mono ?_); (case side1 => repeat (first | (with_reducible first | exact HI0.out | apply IsS114.alloc | apply IsS114.drewN | apply IsS114.drew | apply IsS114.set_1 | apply IsS114.set_2 | refine IsS114.far ?_ NB0_434.out _) | exact HI0.out)); (case side2 => repeat (first | (with_reducible first | exact HB.out | apply zA | apply zL | apply zB | refine zC ?_ (IsS114.ge HI0.out) | refine zC ?_ GE434.out) | exact HB.out)); rintro e w6 ⟨rfl, hi, hb, hk⟩; refine ⟨_, rfl, ?_⟩; have n0_ := zO (KeepBut.blk hk (g' := gb434) (o := .cells #[.int .i64 0, .int .i64 0, .int .i64 0] 24 (0, 0)) (by (with_reducible repeat (first | refine zJ ?_ _ | refine zI ?_ | refine zF ?_ _)); exact BK434.out) NB434_0.out (by simp)); have n1_ := zO (KeepBut.trans (by repeat (first | (with_reducible first | exact HK.out | apply KeepBut.set_ | apply keep_drewN | apply keep_drew | apply keep_alloc | refine keep_far ?_ GW434.out _) | exact HK.out)) hk (.inl rfl)); have n2_ := zO (hb); have n3_ := zO (hi); clear BK434; clear HK; clear HB; clear HI0; have BK434 := n0_; have HK := n1_; have HB := n2_; have HI0 := n3_; clear n0_ n1_ n2_ n3_; (try clear hb); (try clear hb2); (try clear hk); (try clear hi)) | ((with_reducible refine zM (f := 91) rfl ?_); refine goesL_ (some 7) rfl rfl Try.func91 (by kernel_rfl) rfl #[.pointer (some ⟨g, 0, none⟩), .int .i64 6] rfl (by (try simp only [yK, yL, yM]); first | done | rfl | (simp only [yJ, yI]; rfl)) ?_; (with_reducible refine (spec_l1Below.calls g s0_0 t436 t437 6 t438 t439 t440 w0 _ ?side1 ?side2 A3.out).mono ?_); (case side1 => repeat (first | (with_reducible first | exact HI0.out | apply IsS114.alloc | apply IsS114.drewN | apply IsS114.drew | apply IsS114.set_1 | apply IsS114.set_2 | refine IsS114.far ?_ NB0_434.out _) | exact HI0.out)); (case side2 => repeat (first | (with_reducible first | exact HB.out | apply zA | apply zL | apply zB | refine zC ?_ (IsS114.ge HI0.out) | refine zC ?_ GE434.out) | exact HB.out)); rintro e w7 ⟨rfl, hi, hb, hk⟩; refine ⟨_, rfl, ?_⟩; have n0_ := zO (KeepBut.blk hk (g' := gb434) (o := .cells #[.int .i64 0, .int .i64 0, .int .i64 0] 24 (0, 0)) (by (with_reducible repeat (first | refine zJ ?_ _ | refine zI ?_ | refine zF ?_ _)); exact BK434.out) NB434_0.out (by simp)); have n1_ := zO (KeepBut.trans (by repeat (first | (with_reducible first | exact HK.out | apply KeepBut.set_ | apply keep_drewN | apply keep_drew | apply keep_alloc | refine keep_far ?_ GW434.out _) | exact HK.out)) hk (.inl rfl)); have n2_ := zO (hb); have n3_ := zO (hi); clear BK434; clear HK; clear HB; clear HI0; have BK434 := n0_; have HK := n1_; have HB := n2_; have HI0 := n3_; clear n0_ n1_ n2_ n3_; (try clear hb); (try clear hb2); (try clear hk); (try clear hi)) | ((with_reducible refine zM (f := 91) rfl ?_); refine goesL_ (some 9) rfl rfl Try.func91 (by kernel_rfl) rfl #[.pointer (some ⟨g, 0, none⟩), .int .i64 127] rfl (by (try simp only [yK, yL, yM]); first | done | rfl | (simp only [yJ, yI]; rfl)) ?_; (with_reducible refine (spec_l1Below.calls g s0_0 t439 t440 127 t441 t442 t443 w0 _ ?side1 ?side2 A4.out).mono ?_); (case side1 => repeat (first | (with_reducible first | exact HI0.out | apply IsS114.alloc | apply IsS114.drewN | apply IsS114.drew | apply IsS114.set_1 | apply IsS114.set_2 | refine IsS114.far ?_ NB0_434.out _) | exact HI0.out)); (case side2 => repeat (first | (with_reducible first | exact HB.out | apply zA | apply zL | apply zB | refine zC ?_ (IsS114.ge HI0.out) | refine zC ?_ GE434.out) | exact HB.out)); rintro e w8 ⟨rfl, hi, hb, hk⟩; refine ⟨_, rfl, ?_⟩; have n0_ := zO (KeepBut.blk hk (g' := gb434) (o := .cells #[.int .i64 0, .int .i64 0, .int .i64 0] 24 (0, 0)) (by (with_reducible repeat (first | refine zJ ?_ _ | refine zI ?_ | refine zF ?_ _)); exact BK434.out) NB434_0.out (by simp)); have n1_ := zO (KeepBut.trans (by repeat (first | (with_reducible first | exact HK.out | apply KeepBut.set_ | apply keep_drewN | apply keep_drew | apply keep_alloc | refine keep_far ?_ GW434.out _) | exact HK.out)) hk (.inl rfl)); have n2_ := zO (hb); have n3_ := zO (hi); clear BK434; clear HK; clear HB; clear HI0; have BK434 := n0_; have HK := n1_; have HB := n2_; have HI0 := n3_; clear n0_ n1_ n2_ n3_; (try clear hb); (try clear hb2); (try clear hk); (try clear hi); have hnb9 := NB434_0.out; have hnc9 := NB0_434.out; have hcz10_0 : w8.cell? ⟨gb434, 0, none⟩ = some (.int .i64 0) := (zH BK434.out 0).trans rfl; have hcz10_1 : w8.cell? ⟨gb434, 1, none⟩ = some (.int .i64 0) := (zH BK434.out 1).trans rfl; have hcz10_2 : w8.cell? ⟨gb434, 2, none⟩ = some (.int .i64 0) := (zH BK434.out 2).trans rfl; have hfz10_0 := zK BK434.out 0; have hfz10_1 := zK BK434.out 1; have hfz10_2 := zK BK434.out 2))
 refine bodyPost_ret (results_cell_row rfl _ _ gb434 24 #[.int .i64 (wrap64 (1 + t435)), .int .i64 t438, .int .i64 (wrap64 (1 + t441))] (0, 0) _ rfl (by (with_reducible repeat (first | refine zJ ?_ _ | refine zI ?_ | refine zF ?_ _)); refine blk_put (cs := #[.int .i64 (wrap64 (1 + t435)), .int .i64 t438, .int .i64 0]) ?_ 2 _ rfl; (with_reducible repeat (first | refine zJ ?_ _ | refine zI ?_ | refine zF ?_ _)); refine blk_put (cs := #[.int .i64 (wrap64 (1 + t435)), .int .i64 0, .int .i64 0]) ?_ 1 _ rfl; (with_reducible repeat (first | refine zJ ?_ _ | refine zI ?_ | refine zF ?_ _)); refine blk_put (cs := #[.int .i64 0, .int .i64 0, .int .i64 0]) ?_ 0 _ rfl; (with_reducible repeat (first | refine zJ ?_ _ | refine zI ?_ | refine zF ?_ _)); exact BK434.out) Try.underlying24 rfl (by kernel_rfl)) rfl ?_
 exact ⟨by first | rfl | exact yP _ | (simp [errW_none, errW_some] <;> rfl) | (simp [*, errW_none, errW_some] <;> rfl), by repeat (first | (with_reducible first | exact HI0.out | apply IsS114.alloc | apply IsS114.drewN | apply IsS114.drew | apply IsS114.set_1 | apply IsS114.set_2 | refine IsS114.far ?_ NB0_434.out _) | exact HI0.out), by repeat (first | (with_reducible first | exact HB.out | apply zA | apply zL | apply zB | refine zC ?_ (IsS114.ge HI0.out) | refine zC ?_ GE434.out) | exact HB.out), by repeat (first | (with_reducible first | exact HK.out | apply KeepBut.set_ | apply keep_drewN | apply keep_drew | apply keep_alloc | refine keep_far ?_ GW434.out _) | exact HK.out)⟩

mutual
def spec_BytesToBits.l0 : Nat → List Int → List Int → Int → Option (List Int)
 | 0, _, _, _ => none
 | k + 1, x0, x3, x4 => if x4 < (x0.length : Int) then (spec_BytesToBits.l1 k x0 x3 x4 0) else (some x3)
def spec_BytesToBits.l1 : Nat → List Int → List Int → Int → Int → Option (List Int)
 | 0, _, _, _, _ => none
 | k + 1, x0, x3, x4, x5 => if x5 < 8 then (if 0 ≤ x4 then (if x4 < (x0.length : Int) then (if 0 ≤ x5 then (if x3.length < 17592186044416 then (spec_BytesToBits.l1 k x0 (x3 ++ [Go.bits .and .i64 (shr .i64 (wrap64 (rd x0 x4)) x5) 1]) x4 (wrap64 (x5 + 1))) else (none)) else (none)) else (none)) else (none)) else (spec_BytesToBits.l0 k x0 x3 (wrap64 (x4 + 1)))
end
def spec_BytesToBits.f (k : Nat) (l0 : List Int) : Option (List Int) := spec_BytesToBits.l0 k l0 (([] : List Int)) 0
theorem spec_BytesToBits.calls (k : Nat) (A0 : Option Addr) (c0 : Nat) (l0 : List Int) (r : List Int) (w : World) (hr0 : Kd.C (Kd.int .u8) w A0 l0.length l0) (hc0 : l0.length ≤ c0) (h : spec_BytesToBits.f k l0 = some r) :
  Calls Try.prog 41 #[.slice A0 l0.length c0] w fun e w' => ∃ v0_ : Value, e = .returned (v0_) ∧ Kd.R (Kd.int .i64) 3 w' w.heap.size (fun _ => True) v0_ r ∧ Below w.heap.size w w' := by
 have HR0 := zO hr0
 have HC0 := zO hc0
 clear hr0 hc0
 have HB := zO (Below.refl w.heap.size w)
 have H : (spec_BytesToBits.l0 k l0 (([] : List Int)) 0) = some r := h
 clear h
 obtain ⟨y444, hy444⟩ : ∃ y_ : List Int, y_ = (([] : List Int)) := ⟨_, rfl⟩
 replace H : (spec_BytesToBits.l0 k l0 y444 0) = some r := by first | (rw [hy444]; exact H) | exact H
 have Ny444 := zO hy444
 clear hy444
 have H' := zO H
 clear H
 go_enter Try.func41, Try.ntmps41
 go_wp2_with (first | ((with_reducible refine zN (N := 6) rfl ?_); refine Kd.R_lit (Kd.int .i64) _ 3 ?hg (N := 6) ?hd (xs := ([] : List Int)) (inner := []) (ok := fun _ => True) (okp := fun _ => True) ?hr ?hp (fun _ hk => hk) trivial (Below.refl _ _) (Nat.le_refl _) (by simp) ?_; (case hd => rfl); (case hg => rfl); (case hr => first | (go_simp; done) | (go_simp; rfl)); (case hp => exact (Reps.none _ _)); intro v445 w2 ho3 hb hg_ hnew_; clear hg_ hnew_; (first | rw [← Ny444.out] at ho3 | (simp only [Int.reduceToNat] at ho3; rw [← Ny444.out] at ho3)); have n0_ := zO (yA ho3 (zD (by repeat (first | exact HB.out | apply zA | apply zL | apply zB)))); have n1_ := zO (zE (by repeat (first | exact HB.out | apply zA | apply zL | apply zB)) hb); clear HB; have HO446 := n0_; have HB := n1_; clear n0_ n1_; clear hb ho3))
 go_loopg [3, 4] k (fun kq v3 v4 w' => ∃ (x3_1 : List Int) (x4_1 : Int), v4 = .int .i64 x4_1 ∧ Aside0 (spec_BytesToBits.l0 kq l0 x3_1 x4_1 = some r) ∧ Aside0 (kq ≤ k) ∧ Aside0 (Kd.R (Kd.int .i64) 3 w' w.heap.size (fun _ => True) v3 x3_1) ∧ Aside0 (Below w.heap.size w w'))
 case atStart => exact ⟨(y444), (0), (by first | rfl | (simp; done) | (simp [*]; done)), H', ⟨Nat.le_refl _⟩, ⟨by (with_reducible repeat (first | apply zU | apply zW | apply zV)); exact HO446.out⟩, ⟨by repeat (first | exact HB.out | apply zA | apply zL | apply zB)⟩⟩
 case round =>
  clear H'
  try clear p2
  obtain ⟨x3_1, x4_1, rfl, HA, HK1, HO_3, HB⟩ := hrel
  cases gk with
  | zero => exact absurd HA.out (by simp [spec_BytesToBits.l0])
  | succ k1 =>
   have H := HA.out
   clear HA
   simp only [spec_BytesToBits.l0] at H
   by_cases c4 : x4_1 < (l0.length : Int)
   ·rw [if_pos c4] at H
    have c4b0 : decide (x4_1 < (l0.length : Int)) = true := decide_eq_true c4
    clear c4
    have H' := zO H
    clear H
    go_wp2
    go_loopg [3, 5] k1 (fun kq v3 v5 w' => ∃ (x3_2 : List Int) (x5_2 : Int), v5 = .int .i64 x5_2 ∧ Aside0 (spec_BytesToBits.l1 kq l0 x3_2 x4_1 x5_2 = some r) ∧ Aside0 (kq ≤ k1) ∧ Aside0 (Kd.R (Kd.int .i64) 3 w' w.heap.size (fun _ => True) v3 x3_2) ∧ Aside0 (Below w.heap.size w w'))
    case atStart => exact ⟨(x3_1), (0), (by first | rfl | (simp; done) | (simp [*]; done)), H', ⟨Nat.le_refl _⟩, ⟨by (with_reducible repeat (first | apply zU | apply zW | apply zV)); exact HO_3.out⟩, ⟨by repeat (first | exact HB.out | apply zA | apply zL | apply zB)⟩⟩
    case round =>
     clear H'
     try clear p2
     try clear c4
     try clear c4b0
     try clear p2
     obtain ⟨x3_2, x5_2, rfl, HA, HK2, HO_3, HB⟩ := hrel
     cases gk with
     | zero => exact absurd HA.out (by simp [spec_BytesToBits.l1])
     | succ k2 =>
      have H := HA.out
      clear HA
      simp only [spec_BytesToBits.l1] at H
      by_cases c5 : x5_2 < 8
      ·rw [if_pos c5] at H
       have c5b0 : decide (x5_2 < 8) = true := decide_eq_true c5
       clear c5
       by_cases c6 : 0 ≤ x4_1
       case neg => rw [if_neg c6] at H; exact absurd H (by simp)
       rw [if_pos c6] at H
       have c6b0 : decide (0 ≤ x4_1) = true := decide_eq_true c6
       clear c6
       by_cases c7 : x4_1 < (l0.length : Int)
       case neg => rw [if_neg c7] at H; exact absurd H (by simp)
       rw [if_pos c7] at H
       have c7b0 : decide (x4_1 < (l0.length : Int)) = true := decide_eq_true c7
       clear c7
       by_cases c8 : 0 ≤ x5_2
       case neg => rw [if_neg c8] at H; exact absurd H (by simp)
       rw [if_pos c8] at H
       have c8b0 := eq_true c8
       have c8b1 : decide (0 ≤ x5_2) = true := decide_eq_true c8
       clear c8
       obtain ⟨ji9, hji9⟩ : ∃ j_ : Int, (shr .i64 (wrap64 (rd l0 x4_1)) x5_2) = j_ := ⟨_, rfl⟩
       replace H : (if x3_2.length < 17592186044416 then (spec_BytesToBits.l1 k2 l0 (x3_2 ++ [Go.bits .and .i64 (ji9) 1]) x4_1 (wrap64 (x5_2 + 1))) else (none)) = some r := by first | (rw [hji9] at H; exact H) | (simp only [hji9] at H ⊢; exact H)
       have hji9_ : ((wrap64 (rd l0 x4_1)) / 2 ^ min x5_2.toNat 64) = ji9 := hji9
       have hji9z : x5_2 ≤ 64 → ((wrap64 (rd l0 x4_1)) / 2 ^ x5_2.toNat) = ji9 := shr_small hji9
       by_cases c10 : x3_2.length < 17592186044416
       case neg => rw [if_neg c10] at H; exact absurd H (by simp)
       rw [if_pos c10] at H
       have LMc10 := zO c10
       clear c10
       obtain ⟨y448, hy448⟩ : ∃ y_ : List Int, y_ = (x3_2 ++ [Go.bits .and .i64 (ji9) 1]) := ⟨_, rfl⟩
       replace H : (spec_BytesToBits.l1 k2 l0 y448 x4_1 (wrap64 (x5_2 + 1))) = some r := by first | (rw [hy448]; exact H) | exact H
       have Ny448 := zO hy448
       clear hy448
       have H' := zO H
       clear H
       have p447 : 0 ≤ (x4_1 : Int) := yO (by assumption)
       have q447 : x4_1 < (l0.length : Int) := yO (by assumption)
       obtain ⟨ad447, e447, hx447_0⟩ := Kd.at_int HR0.out x4_1 p447 q447
       cases e447
       replace hx447_0 := (HB.out.cell (World.block_lt_of_cell? w _ hx447_0)).trans hx447_0
       replace p447 := eq_true p447
       replace q447 := eq_true q447
       go_wp2_with (first | ((with_reducible refine gate_builtin (b := .append) (xs := #[.tmp 17, .tmp 26]) rfl ?_); at_builtin; refine Kd.R_append (Kd.int .i64) (w0 := w) w.heap.size rfl (.tmp 17) (.tmp 26) 22 3 (.int .i64 0) 8 rfl Try.underlying22 info3 rfl (by decide) (by omega) u3 x3_2 (Go.bits .and .i64 (ji9) 1) [.int .i64 (Go.bits .and .i64 (ji9) 1)] (fun _ => True) (fun _ => False) rfl rfl ?aP (fun _ hk => hk.elim) ?aF ?aO ?aB ?aS ?aL ?_; (case aP => exact rfl); (case aB => exact (by repeat (first | exact HB.out | apply zA | apply zL | apply zB))); (case aF => exact (fun _ _ => trivial)); (case aO => exact (by (with_reducible repeat (first | apply zU | apply zW | apply zV)); exact HO_3.out)); (case aS => exact (zD (by repeat (first | exact HB.out | apply zA | apply zL | apply zB)))); (case aL => have := LMc10.out; omega); intro v449 w11 ho hb hg hat; rw [← Ny448.out] at ho; have n0_ := zO (hb); have n1_ := zO (ho); clear HB; clear HO_3; have HB := n0_; have HO450 := n1_; clear n0_ n1_; clear ho hb hg hat))
       go_roundg k2
       case measure => have := HK1.out; have := HK2.out; omega
       case rel => exact ⟨(y448), (wrap64 (x5_2 + 1)), (by first | rfl | (simp; done) | (simp [*]; done)), H', ⟨by have := HK1.out; have := HK2.out; omega⟩, ⟨by (with_reducible repeat (first | apply zU | apply zW | apply zV)); exact HO450.out⟩, ⟨by repeat (first | exact HB.out | apply zA | apply zL | apply zB)⟩⟩
      ·rw [if_neg c5] at H
       have c5b0 : decide (x5_2 < 8) = false := decide_eq_false c5
       clear c5
       have H' := zO H
       clear H
       go_wp2
       go_roundg k2
       case measure => have := HK1.out; have := HK2.out; omega
       case rel => exact ⟨(x3_2), (wrap64 (x4_1 + 1)), (by first | rfl | (simp; done) | (simp [*]; done)), H', ⟨by have := HK1.out; have := HK2.out; omega⟩, ⟨by (with_reducible repeat (first | apply zU | apply zW | apply zV)); exact HO_3.out⟩, ⟨by repeat (first | exact HB.out | apply zA | apply zL | apply zB)⟩⟩
   ·rw [if_neg c4] at H
    have c4b0 : decide (x4_1 < (l0.length : Int)) = false := decide_eq_false c4
    clear c4
    obtain rfl := Option.some.inj H
    go_wp2
    go_ret
    exact ⟨_, by first | rfl | (simp [errW_none, errW_some] <;> rfl) | (simp [*, errW_none, errW_some] <;> rfl), by (with_reducible repeat (first | apply zU | apply zW | apply zV)); exact HO_3.out, by repeat (first | exact HB.out | apply zA | apply zL | apply zB)⟩

def spec_IsBitString.l0 : Nat → List Int → Int → Option (Bool)
 | 0, _, _ => none
 | k + 1, x0, x3 => if x3 < (x0.length : Int) then (if 0 ≤ x3 then ((spec_l1In.f (rd x0 x3) 0 1).bind fun t452 => (if t452 = true then (spec_IsBitString.l0 k x0 (wrap64 (x3 + 1))) else (some false))) else (none)) else (some true)
def spec_IsBitString.f (k : Nat) (l0 : List Int) : Option (Bool) := spec_IsBitString.l0 k l0 0
theorem spec_IsBitString.calls (k : Nat) (A0 : Option Addr) (c0 : Nat) (l0 : List Int) (r : Bool) (w : World) (hr0 : Kd.C (Kd.int .i64) w A0 l0.length l0) (hc0 : l0.length ≤ c0) (h : spec_IsBitString.f k l0 = some r) :
  Calls Try.prog 112 #[.slice A0 l0.length c0] w fun e w' => e = .returned (.bool r) ∧ Drawn0 w w' := by
 have HR0 := zO hr0
 have HC0 := zO hc0
 clear hr0 hc0
 have H : (spec_IsBitString.l0 k l0 0) = some r := h
 clear h
 have H' := zO H
 clear H
 go_enter Try.func112, Try.ntmps112
 go_wp2
 go_loopg [3] k (fun kq v3 w' => ∃ (x3_1 : Int), v3 = .int .i64 x3_1 ∧ Aside0 (spec_IsBitString.l0 kq l0 x3_1 = some r) ∧ Aside0 (kq ≤ k) ∧ Drawn0 w w')
 case atStart => exact ⟨(0), (by first | rfl | (simp; done) | (simp [*]; done)), H', ⟨Nat.le_refl _⟩, by repeat (first | exact zP _ | apply zQ)⟩
 case round =>
  clear H'
  try clear c1
  obtain ⟨x3_1, rfl, HA, HK1, ⟨m1, rfl⟩⟩ := hrel
  cases gk with
  | zero => exact absurd HA.out (by simp [spec_IsBitString.l0])
  | succ k1 =>
   have H := HA.out
   clear HA
   simp only [spec_IsBitString.l0] at H
   by_cases c2 : x3_1 < (l0.length : Int)
   ·rw [if_pos c2] at H
    have c2b0 : decide (x3_1 < (l0.length : Int)) = true := decide_eq_true c2
    clear c2
    by_cases c3 : 0 ≤ x3_1
    case neg => rw [if_neg c3] at H; exact absurd H (by simp)
    rw [if_pos c3] at H
    have c3b0 : decide (0 ≤ x3_1) = true := decide_eq_true c3
    clear c3
    replace H := yE.mp H
    obtain ⟨t452, A40, H⟩ := H
    replace H : (if t452 = true then (spec_IsBitString.l0 k1 l0 (wrap64 (x3_1 + 1))) else (some false)) = some r := H
    have A4 := zO A40
    clear A40
    by_cases c5 : t452 = true
    ·subst c5
     have H1 : (spec_IsBitString.l0 k1 l0 (wrap64 (x3_1 + 1))) = some r := by rw [if_pos rfl] at H; exact H
     clear H
     have H := H1
     clear H1
     have H' := zO H
     clear H
     have p451 : 0 ≤ (x3_1 : Int) := yO (by assumption)
     have q451 : x3_1 < (l0.length : Int) := yO (by assumption)
     obtain ⟨ad451, e451, hx451_0⟩ := Kd.at_int HR0.out x3_1 p451 q451
     cases e451
     replace p451 := eq_true p451
     replace q451 := eq_true q451
     go_wp2_with (first | ((with_reducible refine zM (f := 95) rfl ?_); refine goesL_ (some 14) rfl rfl Try.func95 (by kernel_rfl) rfl #[.int .i64 (rd l0 x3_1), .int .i64 0, .int .i64 1] rfl (by (try simp only [yK, yL, yM]); first | done | rfl | (simp only [yJ, yI]; rfl)) ?_; (with_reducible refine (spec_l1In.calls (rd l0 x3_1) 0 1 true _ A4.out).mono ?_); rintro e w' ⟨rfl, ⟨nd, rfl⟩⟩; refine ⟨_, rfl, ?_⟩))
     go_roundg k1
     case measure => have := HK1.out; omega
     case rel => exact ⟨(wrap64 (x3_1 + 1)), (by first | rfl | (simp; done) | (simp [*]; done)), H', ⟨by have := HK1.out; omega⟩, by repeat (first | exact zP _ | apply zQ)⟩
    ·replace c5 := Bool.eq_false_iff.mpr c5
     subst c5
     have H1 : (some false) = some r := by rw [if_neg (show ¬ (false = true) by decide)] at H; exact H
     clear H
     have H := H1
     clear H1
     obtain rfl := Option.some.inj H
     have p451 : 0 ≤ (x3_1 : Int) := yO (by assumption)
     have q451 : x3_1 < (l0.length : Int) := yO (by assumption)
     obtain ⟨ad451, e451, hx451_0⟩ := Kd.at_int HR0.out x3_1 p451 q451
     cases e451
     replace p451 := eq_true p451
     replace q451 := eq_true q451
     go_wp2_with (first | ((with_reducible refine zM (f := 95) rfl ?_); refine goesL_ (some 14) rfl rfl Try.func95 (by kernel_rfl) rfl #[.int .i64 (rd l0 x3_1), .int .i64 0, .int .i64 1] rfl (by (try simp only [yK, yL, yM]); first | done | rfl | (simp only [yJ, yI]; rfl)) ?_; (with_reducible refine (spec_l1In.calls (rd l0 x3_1) 0 1 false _ A4.out).mono ?_); rintro e w' ⟨rfl, ⟨nd, rfl⟩⟩; refine ⟨_, rfl, ?_⟩))
     go_ret
     exact ⟨by first | rfl | exact yP _ | (simp; done) | (simp [*]; done), by repeat (first | exact zP _ | apply zQ)⟩
   ·rw [if_neg c2] at H
    have c2b0 : decide (x3_1 < (l0.length : Int)) = false := decide_eq_false c2
    clear c2
    obtain rfl := Option.some.inj H
    go_wp2
    go_ret
    exact ⟨by first | rfl | exact yP _ | (simp; done) | (simp [*]; done), by repeat (first | exact zP _ | apply zQ)⟩

def spec_OutputPair.f (a0 : Int) (a1 : Int) : Option (Int × Int) := (spec_l1In.f a0 0 3).bind fun t453 => (if t453 = true then ((spec_l1In.f a1 0 1).bind fun t454 => (if t454 = true then (some (Go.bits .xor .i64 (Go.bits .xor .i64 a1 (Go.bits .and .i64 a0 1)) (a0 / 2), Go.bits .xor .i64 a1 (a0 / 2))) else (some (0, 0)))) else (some (0, 0)))
theorem spec_OutputPair.calls (a0 : Int) (a1 : Int) (r1 : Int) (r2 : Int) (w : World) (h : spec_OutputPair.f a0 a1 = some (r1, r2)) :
  Calls Try.prog 113 #[.int .i64 a0, .int .i64 a1] w fun e w' => e = .returned (.tuple #[.int .i64 r1, .int .i64 r2]) ∧ Drawn0 w w' := by
 have H : ((spec_l1In.f a0 0 3).bind fun t453 => (if t453 = true then ((spec_l1In.f a1 0 1).bind fun t454 => (if t454 = true then (some (Go.bits .xor .i64 (Go.bits .xor .i64 a1 (Go.bits .and .i64 a0 1)) (a0 / 2), Go.bits .xor .i64 a1 (a0 / 2))) else (some (0, 0)))) else (some (0, 0)))) = some (r1, r2) := h
 clear h
 replace H := yE.mp H
 obtain ⟨t453, A30, H⟩ := H
 replace H : (if t453 = true then ((spec_l1In.f a1 0 1).bind fun t454 => (if t454 = true then (some (Go.bits .xor .i64 (Go.bits .xor .i64 a1 (Go.bits .and .i64 a0 1)) (a0 / 2), Go.bits .xor .i64 a1 (a0 / 2))) else (some (0, 0)))) else (some (0, 0))) = some (r1, r2) := H
 have A3 := zO A30
 clear A30
 by_cases c4 : t453 = true
 ·subst c4
  have H1 : ((spec_l1In.f a1 0 1).bind fun t454 => (if t454 = true then (some (Go.bits .xor .i64 (Go.bits .xor .i64 a1 (Go.bits .and .i64 a0 1)) (a0 / 2), Go.bits .xor .i64 a1 (a0 / 2))) else (some (0, 0)))) = some (r1, r2) := by rw [if_pos rfl] at H; exact H
  clear H
  have H := H1
  clear H1
  replace H := yE.mp H
  obtain ⟨t454, A50, H⟩ := H
  replace H : (if t454 = true then (some (Go.bits .xor .i64 (Go.bits .xor .i64 a1 (Go.bits .and .i64 a0 1)) (a0 / 2), Go.bits .xor .i64 a1 (a0 / 2))) else (some (0, 0))) = some (r1, r2) := H
  have A5 := zO A50
  clear A50
  by_cases c6 : t454 = true
  ·subst c6
   have H1 : (some (Go.bits .xor .i64 (Go.bits .xor .i64 a1 (Go.bits .and .i64 a0 1)) (a0 / 2), Go.bits .xor .i64 a1 (a0 / 2))) = some (r1, r2) := by rw [if_pos rfl] at H; exact H
   clear H
   have H := H1
   clear H1
   simp only [Option.some.injEq, Prod.mk.injEq] at H
   obtain ⟨rfl, rfl⟩ := H
   go_enter Try.func113, Try.ntmps113
   go_wp2_with (first | ((with_reducible refine zM (f := 95) rfl ?_); refine goesL_ (some 7) rfl rfl Try.func95 (by kernel_rfl) rfl #[.int .i64 a0, .int .i64 0, .int .i64 3] rfl (by (try simp only [yK, yL, yM]); first | done | rfl | (simp only [yJ, yI]; rfl)) ?_; (with_reducible refine (spec_l1In.calls a0 0 3 true _ A3.out).mono ?_); rintro e w' ⟨rfl, ⟨nd, rfl⟩⟩; refine ⟨_, rfl, ?_⟩) | (go_at_call 95; (with_reducible refine (spec_l1In.calls a1 0 1 true _ A5.out).mono ?_); rintro e w' ⟨rfl, ⟨nd, rfl⟩⟩))
   go_ret2
   exact ⟨by first | rfl | exact yP _ | (simp; done) | (simp [*]; done), by repeat (first | exact zP _ | apply zQ)⟩
  ·replace c6 := Bool.eq_false_iff.mpr c6
   subst c6
   have H1 : (some (0, 0)) = some (r1, r2) := by rw [if_neg (show ¬ (false = true) by decide)] at H; exact H
   clear H
   have H := H1
   clear H1
   simp only [Option.some.injEq, Prod.mk.injEq] at H
   obtain ⟨rfl, rfl⟩ := H
   go_enter Try.func113, Try.ntmps113
   go_wp2_with (first | ((with_reducible refine zM (f := 95) rfl ?_); refine goesL_ (some 7) rfl rfl Try.func95 (by kernel_rfl) rfl #[.int .i64 a0, .int .i64 0, .int .i64 3] rfl (by (try simp only [yK, yL, yM]); first | done | rfl | (simp only [yJ, yI]; rfl)) ?_; (with_reducible refine (spec_l1In.calls a0 0 3 true _ A3.out).mono ?_); rintro e w' ⟨rfl, ⟨nd, rfl⟩⟩; refine ⟨_, rfl, ?_⟩) | (go_at_call 95; (with_reducible refine (spec_l1In.calls a1 0 1 false _ A5.out).mono ?_); rintro e w' ⟨rfl, ⟨nd, rfl⟩⟩))
   go_ret2
   exact ⟨by first | rfl | exact yP _ | (simp; done) | (simp [*]; done), by repeat (first | exact zP _ | apply zQ)⟩
 ·replace c4 := Bool.eq_false_iff.mpr c4
  subst c4
  have H1 : (some (0, 0)) = some (r1, r2) := by rw [if_neg (show ¬ (false = true) by decide)] at H; exact H
  clear H
  have H := H1
  clear H1
  simp only [Option.some.injEq, Prod.mk.injEq] at H
  obtain ⟨rfl, rfl⟩ := H
  go_enter Try.func113, Try.ntmps113
  go_wp2_with (first | ((with_reducible refine zM (f := 95) rfl ?_); refine goesL_ (some 7) rfl rfl Try.func95 (by kernel_rfl) rfl #[.int .i64 a0, .int .i64 0, .int .i64 3] rfl (by (try simp only [yK, yL, yM]); first | done | rfl | (simp only [yJ, yI]; rfl)) ?_; (with_reducible refine (spec_l1In.calls a0 0 3 false _ A3.out).mono ?_); rintro e w' ⟨rfl, ⟨nd, rfl⟩⟩; refine ⟨_, rfl, ?_⟩))
  go_ret2
  exact ⟨by first | rfl | exact yP _ | (simp; done) | (simp [*]; done), by repeat (first | exact zP _ | apply zQ)⟩

def spec_NextState.f (a0 : Int) (a1 : Int) : Option (Int) := (spec_l1In.f a0 0 3).bind fun t455 => (if t455 = true then ((spec_l1In.f a1 0 1).bind fun t456 => (if t456 = true then (some (Go.bits .and .i64 (wrap64 ((wrap64 (2 * a0)) + a1)) 3)) else (some 0))) else (some 0))
theorem spec_NextState.calls (a0 : Int) (a1 : Int) (r : Int) (w : World) (h : spec_NextState.f a0 a1 = some r) :
  Calls Try.prog 114 #[.int .i64 a0, .int .i64 a1] w fun e w' => e = .returned (.int .i64 r) ∧ Drawn0 w w' := by
 have H : ((spec_l1In.f a0 0 3).bind fun t455 => (if t455 = true then ((spec_l1In.f a1 0 1).bind fun t456 => (if t456 = true then (some (Go.bits .and .i64 (wrap64 ((wrap64 (2 * a0)) + a1)) 3)) else (some 0))) else (some 0))) = some r := h
 clear h
 replace H := yE.mp H
 obtain ⟨t455, A30, H⟩ := H
 replace H : (if t455 = true then ((spec_l1In.f a1 0 1).bind fun t456 => (if t456 = true then (some (Go.bits .and .i64 (wrap64 ((wrap64 (2 * a0)) + a1)) 3)) else (some 0))) else (some 0)) = some r := H
 have A3 := zO A30
 clear A30
 by_cases c4 : t455 = true
 ·subst c4
  have H1 : ((spec_l1In.f a1 0 1).bind fun t456 => (if t456 = true then (some (Go.bits .and .i64 (wrap64 ((wrap64 (2 * a0)) + a1)) 3)) else (some 0))) = some r := by rw [if_pos rfl] at H; exact H
  clear H
  have H := H1
  clear H1
  replace H := yE.mp H
  obtain ⟨t456, A50, H⟩ := H
  replace H : (if t456 = true then (some (Go.bits .and .i64 (wrap64 ((wrap64 (2 * a0)) + a1)) 3)) else (some 0)) = some r := H
  have A5 := zO A50
  clear A50
  by_cases c6 : t456 = true
  ·subst c6
   have H1 : (some (Go.bits .and .i64 (wrap64 ((wrap64 (2 * a0)) + a1)) 3)) = some r := by rw [if_pos rfl] at H; exact H
   clear H
   have H := H1
   clear H1
   obtain rfl := Option.some.inj H
   go_enter Try.func114, Try.ntmps114
   go_wp2_with (first | ((with_reducible refine zM (f := 95) rfl ?_); refine goesL_ (some 6) rfl rfl Try.func95 (by kernel_rfl) rfl #[.int .i64 a0, .int .i64 0, .int .i64 3] rfl (by (try simp only [yK, yL, yM]); first | done | rfl | (simp only [yJ, yI]; rfl)) ?_; (with_reducible refine (spec_l1In.calls a0 0 3 true _ A3.out).mono ?_); rintro e w' ⟨rfl, ⟨nd, rfl⟩⟩; refine ⟨_, rfl, ?_⟩) | (go_at_call 95; (with_reducible refine (spec_l1In.calls a1 0 1 true _ A5.out).mono ?_); rintro e w' ⟨rfl, ⟨nd, rfl⟩⟩))
   go_ret
   exact ⟨by first | rfl | exact yP _ | (simp; done) | (simp [*]; done), by repeat (first | exact zP _ | apply zQ)⟩
  ·replace c6 := Bool.eq_false_iff.mpr c6
   subst c6
   have H1 : (some 0) = some r := by rw [if_neg (show ¬ (false = true) by decide)] at H; exact H
   clear H
   have H := H1
   clear H1
   obtain rfl := Option.some.inj H
   go_enter Try.func114, Try.ntmps114
   go_wp2_with (first | ((with_reducible refine zM (f := 95) rfl ?_); refine goesL_ (some 6) rfl rfl Try.func95 (by kernel_rfl) rfl #[.int .i64 a0, .int .i64 0, .int .i64 3] rfl (by (try simp only [yK, yL, yM]); first | done | rfl | (simp only [yJ, yI]; rfl)) ?_; (with_reducible refine (spec_l1In.calls a0 0 3 true _ A3.out).mono ?_); rintro e w' ⟨rfl, ⟨nd, rfl⟩⟩; refine ⟨_, rfl, ?_⟩) | (go_at_call 95; (with_reducible refine (spec_l1In.calls a1 0 1 false _ A5.out).mono ?_); rintro e w' ⟨rfl, ⟨nd, rfl⟩⟩))
   go_ret
   exact ⟨by first | rfl | exact yP _ | (simp; done) | (simp [*]; done), by repeat (first | exact zP _ | apply zQ)⟩
 ·replace c4 := Bool.eq_false_iff.mpr c4
  subst c4
  have H1 : (some 0) = some r := by rw [if_neg (show ¬ (false = true) by decide)] at H; exact H
  clear H
  have H := H1
  clear H1
  obtain rfl := Option.some.inj H
  go_enter Try.func114, Try.ntmps114
  go_wp2_with (first | ((with_reducible refine zM (f := 95) rfl ?_); refine goesL_ (some 6) rfl rfl Try.func95 (by kernel_rfl) rfl #[.int .i64 a0, .int .i64 0, .int .i64 3] rfl (by (try simp only [yK, yL, yM]); first | done | rfl | (simp only [yJ, yI]; rfl)) ?_; (with_reducible refine (spec_l1In.calls a0 0 3 false _ A3.out).mono ?_); rintro e w' ⟨rfl, ⟨nd, rfl⟩⟩; refine ⟨_, rfl, ?_⟩))
  go_ret
  exact ⟨by first | rfl | exact yP _ | (simp; done) | (simp [*]; done), by repeat (first | exact zP _ | apply zQ)⟩

end Go.Proofs.Ytldbmljooafkcaa.PFnFrameErrors
