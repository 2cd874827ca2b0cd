-- PRINTED BY print.sh 35421559b90ae4d0a3588c463048766b98c2df88dd9212a6774a882060cdf62d: not written by this session
import Derived.Test.YtkmkgkjinefcdaaPFnAirtimex0
import Derived.Test.YtkmkgkjinefcdaaPFnAirtimex1
namespace Go.Proofs.Ytkmkgkjinefcdaa.PFnAirtime
open Go.RowKit Go.Proofs.YtkmkgkjinefcdaaW.PrintWords Go.Proofs.YtkmkgkjinefcdaaW.PrintLast Go.Proofs.YtkmkgkjinefcdaaW.PrintMore
attribute [local go_sem] max2_int min2_int max_two min_two max_three min_three max_four min_four   -- for this text's walks alone
set_option linter.unusedVariables false
set_option linter.unusedSimpArgs false

/-! ### laws_FnAirtime: function 10 -/
mutual
def laws_FnAirtime.j0 : Nat → Int → Int → Int → Bool → Option (Bool)
  | 0, _, _, _, _ => none
  | k + 1, x3, x4, x5, x29 => if x29 = true then (if x5 = 0 then ((impl_ExchangeSlots.f k x3 x4 true).bind fun t149 => (if t149 = 0 then ((impl_IsValidRateIndex.f x3).bind fun t150 => (if x3 ≥ 0 then (some (t150 == (decide (x3 ≤ 3)))) else (some (t150 == false)))) else (some false))) else (some false)) else (if x3 < 3 then ((impl_FrameSlots.f k (wrap64 (x3 + 1)) x4).bind fun t151 => (if t151 > x5 then (laws_FnAirtime.j1 k x3 x4 x5 true) else (if x4 > 0 then ((impl_FrameSlots.f k x3 (wrap64 (x4 - 1))).bind fun t152 => (laws_FnAirtime.j1 k x3 x4 x5 (decide (t152 > x5)))) else (laws_FnAirtime.j1 k x3 x4 x5 false)))) else (if x4 > 0 then ((impl_FrameSlots.f k x3 (wrap64 (x4 - 1))).bind fun t153 => (laws_FnAirtime.j1 k x3 x4 x5 (decide (t153 > x5)))) else (laws_FnAirtime.j1 k x3 x4 x5 false)))
def laws_FnAirtime.j1 : Nat → Int → Int → Int → Bool → Option (Bool)
  | 0, _, _, _, _ => none
  | k + 1, x3, x4, x5, x70 => if x70 = true then (some false) else ((impl_BytesPerSlot.f x3).bind fun t154 => (if (wrap64 ((wrap64 (x5 - 1)) * t154)) ≥ x4 then (if x4 = 0 then ((impl_ExchangeSlots.f k x3 x4 false).bind fun t155 => (if t155 = (wrap64 (x5 + 1)) then ((impl_ExchangeSlots.f k x3 x4 true).bind fun t156 => (some (t156 == (wrap64 (x5 + 3))))) else (some false))) else ((impl_BytesPerSlot.f x3).bind fun t157 => (if (wrap64 ((wrap64 (x5 - 2)) * t157)) < x4 then ((impl_ExchangeSlots.f k x3 x4 false).bind fun t158 => (if t158 = (wrap64 (x5 + 1)) then ((impl_ExchangeSlots.f k x3 x4 true).bind fun t159 => (some (t159 == (wrap64 (x5 + 3))))) else (some false))) else (some false)))) else (some false)))
end
def laws_FnAirtime.f (k : Nat) (l0 : List Int) : Option (Bool) := (laws_big.f l0).bind fun t145 => (if t145 = true then (some true) else ((spec_DrawFrameSlots.f k l0).bind fun bt146 => ((impl_FrameSlots.f k bt146.1 bt146.2).bind fun t148 => (if bt146.1 < 0 then (laws_FnAirtime.j0 k bt146.1 bt146.2 t148 true) else (if bt146.1 > 3 then (laws_FnAirtime.j0 k bt146.1 bt146.2 t148 true) else (if bt146.2 < 0 then (laws_FnAirtime.j0 k bt146.1 bt146.2 t148 true) else (laws_FnAirtime.j0 k bt146.1 bt146.2 t148 (decide (bt146.2 > 1000000000000)))))))))
theorem laws_FnAirtime.mono_l : ∀ k, (∀ y0 y1 y2 y3, LeO (laws_FnAirtime.j0 k y0 y1 y2 y3) (laws_FnAirtime.j0 (k + 1) y0 y1 y2 y3)) ∧ (∀ y0 y1 y2 y3, LeO (laws_FnAirtime.j1 k y0 y1 y2 y3) (laws_FnAirtime.j1 (k + 1) y0 y1 y2 y3))
  | 0 => ⟨fun _ _ _ _ r h => by simp [laws_FnAirtime.j0] at h, fun _ _ _ _ r h => by simp [laws_FnAirtime.j1] at h⟩
  | k + 1 => by
    obtain ⟨ih0, ih1⟩ := laws_FnAirtime.mono_l k
    refine ⟨?_, ?_⟩
    · intro y0 y1 y2 y3
      unfold laws_FnAirtime.j0
      repeat' first
      | (with_reducible exact ih0 _ _ _ _)
      | (with_reducible exact ih1 _ _ _ _)
      | (with_reducible exact impl_ExchangeSlots.mono _ _ _ _)
      | (with_reducible exact impl_FrameSlots.mono _ _ _)
      | (with_reducible exact spec_DrawFrameSlots.mono _ _)
      | (with_reducible exact LeO.refl _)
      | (with_reducible exact LeO.none _)
      | (with_reducible refine LeO.ite ?_ ?_)
      | (with_reducible refine LeO.bind ?_ (fun _ => ?_))
      | exact ih0 _ _ _ _
      | exact ih1 _ _ _ _
      | exact impl_ExchangeSlots.mono _ _ _ _
      | exact impl_FrameSlots.mono _ _ _
      | exact spec_DrawFrameSlots.mono _ _
      | exact LeO.none _
      | refine LeO.ite ?_ ?_
      | refine LeO.bind ?_ (fun _ => ?_)
    · intro y0 y1 y2 y3
      unfold laws_FnAirtime.j1
      repeat' first
      | (with_reducible exact ih0 _ _ _ _)
      | (with_reducible exact ih1 _ _ _ _)
      | (with_reducible exact impl_ExchangeSlots.mono _ _ _ _)
      | (with_reducible exact impl_FrameSlots.mono _ _ _)
      | (with_reducible exact spec_DrawFrameSlots.mono _ _)
      | (with_reducible exact LeO.refl _)
      | (with_reducible exact LeO.none _)
      | (with_reducible refine LeO.ite ?_ ?_)
      | (with_reducible refine LeO.bind ?_ (fun _ => ?_))
      | exact ih0 _ _ _ _
      | exact ih1 _ _ _ _
      | exact impl_ExchangeSlots.mono _ _ _ _
      | exact impl_FrameSlots.mono _ _ _
      | exact spec_DrawFrameSlots.mono _ _
      | exact LeO.none _
      | refine LeO.ite ?_ ?_
      | refine LeO.bind ?_ (fun _ => ?_)
theorem laws_FnAirtime.mono : ∀ a0 k, LeO (laws_FnAirtime.f k a0) (laws_FnAirtime.f (k + 1) a0) := by
  intro a0 k
  obtain ⟨ih0, ih1⟩ := laws_FnAirtime.mono_l k
  unfold laws_FnAirtime.f
  repeat' first
      | (with_reducible exact ih0 _ _ _ _)
      | (with_reducible exact ih1 _ _ _ _)
      | (with_reducible exact impl_ExchangeSlots.mono _ _ _ _)
      | (with_reducible exact impl_FrameSlots.mono _ _ _)
      | (with_reducible exact spec_DrawFrameSlots.mono _ _)
      | (with_reducible exact LeO.refl _)
      | (with_reducible exact LeO.none _)
      | (with_reducible refine LeO.ite ?_ ?_)
      | (with_reducible refine LeO.bind ?_ (fun _ => ?_))
      | exact ih0 _ _ _ _
      | exact ih1 _ _ _ _
      | exact impl_ExchangeSlots.mono _ _ _ _
      | exact impl_FrameSlots.mono _ _ _
      | exact spec_DrawFrameSlots.mono _ _
      | exact LeO.none _
      | refine LeO.ite ?_ ?_
      | refine LeO.bind ?_ (fun _ => ?_)
set_option maxHeartbeats 8000000 in
set_option maxRecDepth 100000 in
theorem laws_FnAirtime.calls (k : Nat) (A0 : Option Addr) (c0 : Nat) (l0 : List Int) (r : Bool) (w : World) (hr0 : Kd.C (Kd.int .u8) w A0 l0.length l0) (hc0 : l0.length ≤ c0) (h : laws_FnAirtime.f k l0 = some r) :
    Calls Try.prog 10 #[.slice A0 l0.length c0] w fun e w' => e = .returned (.bool r) ∧ Below w.heap.size w w' := by
  have HR0 := Aside0.mk hr0
  have HC0 := Aside0.mk hc0
  clear hr0 hc0
  have HB := Aside0.mk (Below.refl w.heap.size w)
  have H : ((laws_big.f l0).bind fun t145 => (if t145 = true then (some true) else ((spec_DrawFrameSlots.f k l0).bind fun bt146 => ((impl_FrameSlots.f k bt146.1 bt146.2).bind fun t148 => (if bt146.1 < 0 then (laws_FnAirtime.j0 k bt146.1 bt146.2 t148 true) else (if bt146.1 > 3 then (laws_FnAirtime.j0 k bt146.1 bt146.2 t148 true) else (if bt146.2 < 0 then (laws_FnAirtime.j0 k bt146.1 bt146.2 t148 true) else (laws_FnAirtime.j0 k bt146.1 bt146.2 t148 (decide (bt146.2 > 1000000000000)))))))))) = some r := h
  clear h
  replace H := Option.bind_eq_some_iff.mp H
  obtain ⟨t145, A20, H⟩ := H
  replace H : (if t145 = true then (some true) else ((spec_DrawFrameSlots.f k l0).bind fun bt146 => ((impl_FrameSlots.f k bt146.1 bt146.2).bind fun t148 => (if bt146.1 < 0 then (laws_FnAirtime.j0 k bt146.1 bt146.2 t148 true) else (if bt146.1 > 3 then (laws_FnAirtime.j0 k bt146.1 bt146.2 t148 true) else (if bt146.2 < 0 then (laws_FnAirtime.j0 k bt146.1 bt146.2 t148 true) else (laws_FnAirtime.j0 k bt146.1 bt146.2 t148 (decide (bt146.2 > 1000000000000))))))))) = some r := H
  have A2 := Aside0.mk A20
  clear A20
  by_cases c3 : t145 = true
  · subst c3
    have H1 : (some true) = some r := by rw [if_pos rfl] at H; exact H
    clear H
    have H := H1
    clear H1
    obtain rfl := Option.some.inj H
    go_enter Try.func10, Try.ntmps10
    go_wp2_with (first | ((with_reducible refine gate_callee (f := 26) rfl ?_); refine goesL_ (some 7) rfl rfl Try.func26 (by kernel_rfl) rfl #[.slice A0 l0.length c0] rfl (by (try simp only [List.map_toArray, List.map_cons, List.map_nil]); first | done | rfl | (simp only [List.length_drop, List.length_take]; rfl)) ?_; (with_reducible refine (laws_big.calls _ _ l0 true _ ?side1 ?side2 A2.out).mono ?_); (case side1 => repeat (first | exact HR0.out | (with_reducible refine Kd.C_alloc ?_ _) | (with_reducible refine Kd.C_drewN ?_ _) | (with_reducible refine Kd.C_drew ?_))); (case side2 => exact HC0.out); rintro e w' ⟨rfl, ⟨nd, rfl⟩⟩; refine ⟨_, rfl, ?_⟩))
    go_ret
    exact ⟨by first | rfl | (simp [errW_none, errW_some] <;> rfl) | (simp [*, errW_none, errW_some] <;> rfl), by repeat (first | (with_reducible first | exact HB.out | apply below_alloc | apply pw_below_drewN | apply below_drew1) | exact HB.out)⟩
  · replace c3 := Bool.eq_false_iff.mpr c3
    subst c3
    have H1 : ((spec_DrawFrameSlots.f k l0).bind fun bt146 => ((impl_FrameSlots.f k bt146.1 bt146.2).bind fun t148 => (if bt146.1 < 0 then (laws_FnAirtime.j0 k bt146.1 bt146.2 t148 true) else (if bt146.1 > 3 then (laws_FnAirtime.j0 k bt146.1 bt146.2 t148 true) else (if bt146.2 < 0 then (laws_FnAirtime.j0 k bt146.1 bt146.2 t148 true) else (laws_FnAirtime.j0 k bt146.1 bt146.2 t148 (decide (bt146.2 > 1000000000000)))))))) = some r := by rw [if_neg (show ¬ (false = true) by decide)] at H; exact H
    clear H
    have H := H1
    clear H1
    replace H := Option.bind_eq_some_iff.mp H
    obtain ⟨⟨t146, t147⟩, A40, H⟩ := H
    replace H : ((impl_FrameSlots.f k t146 t147).bind fun t148 => (if t146 < 0 then (laws_FnAirtime.j0 k t146 t147 t148 true) else (if t146 > 3 then (laws_FnAirtime.j0 k t146 t147 t148 true) else (if t147 < 0 then (laws_FnAirtime.j0 k t146 t147 t148 true) else (laws_FnAirtime.j0 k t146 t147 t148 (decide (t147 > 1000000000000))))))) = some r := H
    have A4 := Aside0.mk A40
    clear A40
    replace H := Option.bind_eq_some_iff.mp H
    obtain ⟨t148, A50, H⟩ := H
    replace H : (if t146 < 0 then (laws_FnAirtime.j0 k t146 t147 t148 true) else (if t146 > 3 then (laws_FnAirtime.j0 k t146 t147 t148 true) else (if t147 < 0 then (laws_FnAirtime.j0 k t146 t147 t148 true) else (laws_FnAirtime.j0 k t146 t147 t148 (decide (t147 > 1000000000000)))))) = some r := H
    have A5 := Aside0.mk A50
    clear A50
    have HC6 := Aside0.mk H
    clear H
    go_enter Try.func10, Try.ntmps10
    go_upto_region 5 with (first | ((with_reducible refine gate_callee (f := 26) rfl ?_); refine goesL_ (some 7) rfl rfl Try.func26 (by kernel_rfl) rfl #[.slice A0 l0.length c0] rfl (by (try simp only [List.map_toArray, List.map_cons, List.map_nil]); first | done | rfl | (simp only [List.length_drop, List.length_take]; rfl)) ?_; (with_reducible refine (laws_big.calls _ _ l0 false _ ?side1 ?side2 A2.out).mono ?_); (case side1 => repeat (first | exact HR0.out | (with_reducible refine Kd.C_alloc ?_ _) | (with_reducible refine Kd.C_drewN ?_ _) | (with_reducible refine Kd.C_drew ?_))); (case side2 => exact HC0.out); rintro e w' ⟨rfl, ⟨nd, rfl⟩⟩; refine ⟨_, rfl, ?_⟩) | ((with_reducible refine gate_callee (f := 39) rfl ?_); refine goesL_ (some 10) rfl rfl Try.func39 (by kernel_rfl) rfl #[.slice A0 l0.length c0] rfl (by (try simp only [List.map_toArray, List.map_cons, List.map_nil]); first | done | rfl | (simp only [List.length_drop, List.length_take]; rfl)) ?_; (with_reducible refine (spec_DrawFrameSlots.calls k _ _ l0 t146 t147 _ ?side1 ?side2 A4.out).mono ?_); (case side1 => repeat (first | exact HR0.out | (with_reducible refine Kd.C_alloc ?_ _) | (with_reducible refine Kd.C_drewN ?_ _) | (with_reducible refine Kd.C_drew ?_))); (case side2 => exact HC0.out); rintro e w7 ⟨rfl, hb⟩; refine ⟨_, rfl, ?_⟩; have n0_ := Aside0.mk (below_step (by repeat (first | (with_reducible first | exact HB.out | apply below_alloc | apply pw_below_drewN | apply below_drew1) | exact HB.out)) hb); clear HB; have HB := n0_; clear n0_; (try clear hb); (try clear hb2); (try clear hk); (try clear hi)) | ((with_reducible refine gate_callee (f := 40) rfl ?_); refine goesL_ (some 15) rfl rfl Try.func40 (by kernel_rfl) rfl #[.int .i64 t146, .int .i64 t147] rfl (by (try simp only [List.map_toArray, List.map_cons, List.map_nil]); first | done | rfl | (simp only [List.length_drop, List.length_take]; rfl)) ?_; (with_reducible refine (impl_FrameSlots.calls k t146 t147 t148 _ A5.out).mono ?_); rintro e w' ⟨rfl, ⟨nd, rfl⟩⟩; refine ⟨_, rfl, ?_⟩))
    (try simp only [Act.put, List.setIfInBounds_toArray, List.set_cons_zero, List.set_cons_succ])
    go_cut [29] (fun v29 wc => ∃ (kq : Nat) (x29_5 : Bool), v29 = .bool x29_5 ∧ Aside0 (laws_FnAirtime.j0 kq t146 t147 t148 x29_5 = some r) ∧ Aside0 (kq ≤ k) ∧ Aside0 (Below w.heap.size w wc))
    case first =>
      have H := HC6.out
      clear HC6
      by_cases c8 : t146 < 0
      · rw [if_pos c8] at H
        have c8b0 : decide (t146 < 0) = true := decide_eq_true c8
        clear c8
        (first | rw [c8b0] | (simp only [i64_w, i32_w]; rw [c8b0]) | skip)
        have H' := Aside0.mk H
        clear H
        go_wp2
        go_meet
        case rel => exact ⟨_, (true), (by first | rfl | (simp; done) | (simp [*]; done)), H', ⟨by first | omega | exact Nat.le_refl _⟩, ⟨by repeat (first | (with_reducible first | exact HB.out | apply below_alloc | apply pw_below_drewN | apply below_drew1) | exact HB.out)⟩⟩
      · rw [if_neg c8] at H
        have c8b0 : decide (t146 < 0) = false := decide_eq_false c8
        clear c8
        (first | rw [c8b0] | (simp only [i64_w, i32_w]; rw [c8b0]) | skip)
        by_cases c9 : t146 > 3
        · rw [if_pos c9] at H
          have c9b0 : decide (3 < t146) = true := decide_eq_true c9
          clear c9
          have H' := Aside0.mk H
          clear H
          go_wp2
          go_meet
          case rel => exact ⟨_, (true), (by first | rfl | (simp; done) | (simp [*]; done)), H', ⟨by first | omega | exact Nat.le_refl _⟩, ⟨by repeat (first | (with_reducible first | exact HB.out | apply below_alloc | apply pw_below_drewN | apply below_drew1) | exact HB.out)⟩⟩
        · rw [if_neg c9] at H
          have c9b0 : decide (3 < t146) = false := decide_eq_false c9
          clear c9
          by_cases c10 : t147 < 0
          · rw [if_pos c10] at H
            have c10b0 : decide (t147 < 0) = true := decide_eq_true c10
            clear c10
            have H' := Aside0.mk H
            clear H
            go_wp2
            go_meet
            case rel => exact ⟨_, (true), (by first | rfl | (simp; done) | (simp [*]; done)), H', ⟨by first | omega | exact Nat.le_refl _⟩, ⟨by repeat (first | (with_reducible first | exact HB.out | apply below_alloc | apply pw_below_drewN | apply below_drew1) | exact HB.out)⟩⟩
          · rw [if_neg c10] at H
            have c10b0 : decide (t147 < 0) = false := decide_eq_false c10
            clear c10
            have H' := Aside0.mk H
            clear H
            go_wp2
            go_meet
            case rel => exact ⟨_, (decide (t147 > 1000000000000)), (by first | rfl | (simp; done) | (simp [*]; done)), H', ⟨by first | omega | exact Nat.le_refl _⟩, ⟨by repeat (first | (with_reducible first | exact HB.out | apply below_alloc | apply pw_below_drewN | apply below_drew1) | exact HB.out)⟩⟩
    case rest =>
      clear HC6
      try clear c1
      try clear c2
      try clear p2
      try clear c3
      try clear c4
      try clear c8
      try clear c8b0
      try clear c9
      try clear c9b0
      try clear c10
      try clear c10b0
      obtain ⟨kq, x29_5, rfl, HA, HJ5, HB⟩ := hcut
      cases kq with
      | zero => exact absurd HA.out (by simp [laws_FnAirtime.j0])
      | succ kj5 =>
        have H := HA.out
        clear HA
        simp only [laws_FnAirtime.j0] at H
        by_cases c11 : x29_5 = true
        · subst c11
          have H1 : (if t148 = 0 then ((impl_ExchangeSlots.f kj5 t146 t147 true).bind fun t149 => (if t149 = 0 then ((impl_IsValidRateIndex.f t146).bind fun t150 => (if t146 ≥ 0 then (some (t150 == (decide (t146 ≤ 3)))) else (some (t150 == false)))) else (some false))) else (some false)) = some r := by rw [if_pos rfl] at H; exact H
          clear H
          have H := H1
          clear H1
          by_cases c12 : t148 = 0
          · rw [if_pos c12] at H
            have c12b0 : (t148 == 0) = true := beq_iff_eq.mpr c12
            have c12b1 : (t148 != 0) = false := bne_eq_false_iff_eq.mpr c12
            clear c12
            replace H := Option.bind_eq_some_iff.mp H
            obtain ⟨t149, A130, H⟩ := H
            replace H : (if t149 = 0 then ((impl_IsValidRateIndex.f t146).bind fun t150 => (if t146 ≥ 0 then (some (t150 == (decide (t146 ≤ 3)))) else (some (t150 == false)))) else (some false)) = some r := H
            have A13 := Aside0.mk A130
            clear A130
            by_cases c14 : t149 = 0
            · rw [if_pos c14] at H
              have c14b0 : (t149 == 0) = true := beq_iff_eq.mpr c14
              have c14b1 : (t149 != 0) = false := bne_eq_false_iff_eq.mpr c14
              clear c14
              replace H := Option.bind_eq_some_iff.mp H
              obtain ⟨t150, A150, H⟩ := H
              replace H : (if t146 ≥ 0 then (some (t150 == (decide (t146 ≤ 3)))) else (some (t150 == false))) = some r := H
              have A15 := Aside0.mk A150
              clear A150
              by_cases c16 : t146 ≥ 0
              · rw [if_pos c16] at H
                have c16b0 : decide (0 ≤ t146) = true := decide_eq_true c16
                clear c16
                obtain rfl := Option.some.inj H
                go_wp2_with (first | (go_at_call 41; (with_reducible refine (impl_ExchangeSlots.calls kj5 t146 t147 true t149 _ A13.out).mono ?_); rintro e w' ⟨rfl, ⟨nd, rfl⟩⟩) | (go_at_call 42; (with_reducible refine (impl_IsValidRateIndex.calls t146 t150 _ A15.out).mono ?_); rintro e w' ⟨rfl, ⟨nd, rfl⟩⟩))
                go_ret
                exact ⟨by first | rfl | (simp [errW_none, errW_some] <;> rfl) | (simp [*, errW_none, errW_some] <;> rfl), by repeat (first | (with_reducible first | exact HB.out | apply below_alloc | apply pw_below_drewN | apply below_drew1) | exact HB.out)⟩
              · rw [if_neg c16] at H
                have c16b0 : decide (0 ≤ t146) = false := decide_eq_false c16
                clear c16
                obtain rfl := Option.some.inj H
                go_wp2_with (first | (go_at_call 41; (with_reducible refine (impl_ExchangeSlots.calls kj5 t146 t147 true t149 _ A13.out).mono ?_); rintro e w' ⟨rfl, ⟨nd, rfl⟩⟩) | (go_at_call 42; (with_reducible refine (impl_IsValidRateIndex.calls t146 t150 _ A15.out).mono ?_); rintro e w' ⟨rfl, ⟨nd, rfl⟩⟩))
                go_ret
                exact ⟨by first | rfl | (simp [errW_none, errW_some] <;> rfl) | (simp [*, errW_none, errW_some] <;> rfl), by repeat (first | (with_reducible first | exact HB.out | apply below_alloc | apply pw_below_drewN | apply below_drew1) | exact HB.out)⟩
            · rw [if_neg c14] at H
              have c14b0 : (t149 == 0) = false := beq_eq_false_iff_ne.mpr c14
              have c14b1 : (t149 != 0) = true := bne_iff_ne.mpr c14
              obtain rfl := Option.some.inj H
              go_wp2_with (first | (go_at_call 41; (with_reducible refine (impl_ExchangeSlots.calls kj5 t146 t147 true t149 _ A13.out).mono ?_); rintro e w' ⟨rfl, ⟨nd, rfl⟩⟩))
              go_ret
              exact ⟨by first | rfl | (simp [errW_none, errW_some] <;> rfl) | (simp [*, errW_none, errW_some] <;> rfl), by repeat (first | (with_reducible first | exact HB.out | apply below_alloc | apply pw_below_drewN | apply below_drew1) | exact HB.out)⟩
          · rw [if_neg c12] at H
            have c12b0 : (t148 == 0) = false := beq_eq_false_iff_ne.mpr c12
            have c12b1 : (t148 != 0) = true := bne_iff_ne.mpr c12
            obtain rfl := Option.some.inj H
            go_wp2
            go_ret
            exact ⟨by first | rfl | (simp [errW_none, errW_some] <;> rfl) | (simp [*, errW_none, errW_some] <;> rfl), by repeat (first | (with_reducible first | exact HB.out | apply below_alloc | apply pw_below_drewN | apply below_drew1) | exact HB.out)⟩
        · replace c11 := Bool.eq_false_iff.mpr c11
          subst c11
          have H1 : (if t146 < 3 then ((impl_FrameSlots.f kj5 (wrap64 (t146 + 1)) t147).bind fun t151 => (if t151 > t148 then (laws_FnAirtime.j1 kj5 t146 t147 t148 true) else (if t147 > 0 then ((impl_FrameSlots.f kj5 t146 (wrap64 (t147 - 1))).bind fun t152 => (laws_FnAirtime.j1 kj5 t146 t147 t148 (decide (t152 > t148)))) else (laws_FnAirtime.j1 kj5 t146 t147 t148 false)))) else (if t147 > 0 then ((impl_FrameSlots.f kj5 t146 (wrap64 (t147 - 1))).bind fun t153 => (laws_FnAirtime.j1 kj5 t146 t147 t148 (decide (t153 > t148)))) else (laws_FnAirtime.j1 kj5 t146 t147 t148 false))) = some r := by rw [if_neg (show ¬ (false = true) by decide)] at H; exact H
          clear H
          have H := H1
          clear H1
          have HC17 := Aside0.mk H
          clear H
          go_upto_region 7 with (fail)
          go_cut [70] (fun v70 wc => ∃ (kq : Nat) (x70_16 : Bool), v70 = .bool x70_16 ∧ Aside0 (laws_FnAirtime.j1 kq t146 t147 t148 x70_16 = some r) ∧ Aside0 (kq ≤ kj5) ∧ Aside0 (Below w.heap.size w wc))
          case first =>
            have H := HC17.out
            clear HC17
            by_cases c18 : t146 < 3
            · rw [if_pos c18] at H
              have c18b0 : decide (t146 < 3) = true := decide_eq_true c18
              clear c18
              (first | rw [c18b0] | (simp only [i64_w, i32_w]; rw [c18b0]) | skip)
              replace H := Option.bind_eq_some_iff.mp H
              obtain ⟨t151, A190, H⟩ := H
              replace H : (if t151 > t148 then (laws_FnAirtime.j1 kj5 t146 t147 t148 true) else (if t147 > 0 then ((impl_FrameSlots.f kj5 t146 (wrap64 (t147 - 1))).bind fun t152 => (laws_FnAirtime.j1 kj5 t146 t147 t148 (decide (t152 > t148)))) else (laws_FnAirtime.j1 kj5 t146 t147 t148 false))) = some r := H
              have A19 := Aside0.mk A190
              clear A190
              by_cases c20 : t151 > t148
              · rw [if_pos c20] at H
                have c20b0 : decide (t148 < t151) = true := decide_eq_true c20
                clear c20
                have H' := Aside0.mk H
                clear H
                go_wp2_with (first | (go_at_call 40; (with_reducible refine (impl_FrameSlots.calls kj5 (wrap64 (t146 + 1)) t147 t151 _ A19.out).mono ?_); rintro e w' ⟨rfl, ⟨nd, rfl⟩⟩))
                go_meet
                case rel => exact ⟨_, (true), (by first | rfl | (simp; done) | (simp [*]; done)), H', ⟨by have := HJ5.out; first | omega | exact Nat.le_refl _⟩, ⟨by repeat (first | (with_reducible first | exact HB.out | apply below_alloc | apply pw_below_drewN | apply below_drew1) | exact HB.out)⟩⟩
              · rw [if_neg c20] at H
                have c20b0 : decide (t148 < t151) = false := decide_eq_false c20
                clear c20
                by_cases c21 : t147 > 0
                · rw [if_pos c21] at H
                  have c21b0 : decide (0 < t147) = true := decide_eq_true c21
                  clear c21
                  replace H := Option.bind_eq_some_iff.mp H
                  obtain ⟨t152, A220, H⟩ := H
                  replace H : (laws_FnAirtime.j1 kj5 t146 t147 t148 (decide (t152 > t148))) = some r := H
                  have A22 := Aside0.mk A220
                  clear A220
                  have H' := Aside0.mk H
                  clear H
                  go_wp2_with (first | (go_at_call 40; (with_reducible refine (impl_FrameSlots.calls kj5 (wrap64 (t146 + 1)) t147 t151 _ A19.out).mono ?_); rintro e w' ⟨rfl, ⟨nd, rfl⟩⟩) | (go_at_call 40; (with_reducible refine (impl_FrameSlots.calls kj5 t146 (wrap64 (t147 - 1)) t152 _ A22.out).mono ?_); rintro e w' ⟨rfl, ⟨nd, rfl⟩⟩))
                  go_meet
                  case rel => exact ⟨_, (decide (t152 > t148)), (by first | rfl | (simp; done) | (simp [*]; done)), H', ⟨by have := HJ5.out; first | omega | exact Nat.le_refl _⟩, ⟨by repeat (first | (with_reducible first | exact HB.out | apply below_alloc | apply pw_below_drewN | apply below_drew1) | exact HB.out)⟩⟩
                · rw [if_neg c21] at H
                  have c21b0 : decide (0 < t147) = false := decide_eq_false c21
                  clear c21
                  have H' := Aside0.mk H
                  clear H
                  go_wp2_with (first | (go_at_call 40; (with_reducible refine (impl_FrameSlots.calls kj5 (wrap64 (t146 + 1)) t147 t151 _ A19.out).mono ?_); rintro e w' ⟨rfl, ⟨nd, rfl⟩⟩))
                  go_meet
                  case rel => exact ⟨_, (false), (by first | rfl | (simp; done) | (simp [*]; done)), H', ⟨by have := HJ5.out; first | omega | exact Nat.le_refl _⟩, ⟨by repeat (first | (with_reducible first | exact HB.out | apply below_alloc | apply pw_below_drewN | apply below_drew1) | exact HB.out)⟩⟩
            · rw [if_neg c18] at H
              have c18b0 : decide (t146 < 3) = false := decide_eq_false c18
              clear c18
              (first | rw [c18b0] | (simp only [i64_w, i32_w]; rw [c18b0]) | skip)
              by_cases c23 : t147 > 0
              · rw [if_pos c23] at H
                have c23b0 : decide (0 < t147) = true := decide_eq_true c23
                clear c23
                replace H := Option.bind_eq_some_iff.mp H
                obtain ⟨t153, A240, H⟩ := H
                replace H : (laws_FnAirtime.j1 kj5 t146 t147 t148 (decide (t153 > t148))) = some r := H
                have A24 := Aside0.mk A240
                clear A240
                have H' := Aside0.mk H
                clear H
                go_wp2_with (first | (go_at_call 40; (with_reducible refine (impl_FrameSlots.calls kj5 t146 (wrap64 (t147 - 1)) t153 _ A24.out).mono ?_); rintro e w' ⟨rfl, ⟨nd, rfl⟩⟩))
                go_meet
                case rel => exact ⟨_, (decide (t153 > t148)), (by first | rfl | (simp; done) | (simp [*]; done)), H', ⟨by have := HJ5.out; first | omega | exact Nat.le_refl _⟩, ⟨by repeat (first | (with_reducible first | exact HB.out | apply below_alloc | apply pw_below_drewN | apply below_drew1) | exact HB.out)⟩⟩
              · rw [if_neg c23] at H
                have c23b0 : decide (0 < t147) = false := decide_eq_false c23
                clear c23
                have H' := Aside0.mk H
                clear H
                go_wp2
                go_meet
                case rel => exact ⟨_, (false), (by first | rfl | (simp; done) | (simp [*]; done)), H', ⟨by have := HJ5.out; first | omega | exact Nat.le_refl _⟩, ⟨by repeat (first | (with_reducible first | exact HB.out | apply below_alloc | apply pw_below_drewN | apply below_drew1) | exact HB.out)⟩⟩
          case rest =>
            clear HC17
            try clear c1
            try clear c2
            try clear p2
            try clear c3
            try clear c4
            try clear p6
            try clear c8
            try clear c8b0
            try clear c9
            try clear c9b0
            try clear c10
            try clear c10b0
            try clear c11
            try clear c12
            try clear c12b0
            try clear c12b1
            try clear c14
            try clear c14b0
            try clear c14b1
            try clear c16
            try clear c16b0
            try clear c18
            try clear c18b0
            try clear c20
            try clear c20b0
            try clear c21
            try clear c21b0
            try clear c23
            try clear c23b0
            try clear p2
            obtain ⟨kq, x70_16, rfl, HA, HJ16, HB⟩ := hcut
            cases kq with
            | zero => exact absurd HA.out (by simp [laws_FnAirtime.j1])
            | succ kj16 =>
              have H := HA.out
              clear HA
              simp only [laws_FnAirtime.j1] at H
              by_cases c25 : x70_16 = true
              · subst c25
                have H1 : (some false) = some r := by rw [if_pos rfl] at H; exact H
                clear H
                have H := H1
                clear H1
                obtain rfl := Option.some.inj H
                go_wp2
                go_ret
                exact ⟨by first | rfl | (simp [errW_none, errW_some] <;> rfl) | (simp [*, errW_none, errW_some] <;> rfl), by repeat (first | (with_reducible first | exact HB.out | apply below_alloc | apply pw_below_drewN | apply below_drew1) | exact HB.out)⟩
              · replace c25 := Bool.eq_false_iff.mpr c25
                subst c25
                have H1 : ((impl_BytesPerSlot.f t146).bind fun t154 => (if (wrap64 ((wrap64 (t148 - 1)) * t154)) ≥ t147 then (if t147 = 0 then ((impl_ExchangeSlots.f kj16 t146 t147 false).bind fun t155 => (if t155 = (wrap64 (t148 + 1)) then ((impl_ExchangeSlots.f kj16 t146 t147 true).bind fun t156 => (some (t156 == (wrap64 (t148 + 3))))) else (some false))) else ((impl_BytesPerSlot.f t146).bind fun t157 => (if (wrap64 ((wrap64 (t148 - 2)) * t157)) < t147 then ((impl_ExchangeSlots.f kj16 t146 t147 false).bind fun t158 => (if t158 = (wrap64 (t148 + 1)) then ((impl_ExchangeSlots.f kj16 t146 t147 true).bind fun t159 => (some (t159 == (wrap64 (t148 + 3))))) else (some false))) else (some false)))) else (some false))) = some r := by rw [if_neg (show ¬ (false = true) by decide)] at H; exact H
                clear H
                have H := H1
                clear H1
                replace H := Option.bind_eq_some_iff.mp H
                obtain ⟨t154, A260, H⟩ := H
                replace H : (if (wrap64 ((wrap64 (t148 - 1)) * t154)) ≥ t147 then (if t147 = 0 then ((impl_ExchangeSlots.f kj16 t146 t147 false).bind fun t155 => (if t155 = (wrap64 (t148 + 1)) then ((impl_ExchangeSlots.f kj16 t146 t147 true).bind fun t156 => (some (t156 == (wrap64 (t148 + 3))))) else (some false))) else ((impl_BytesPerSlot.f t146).bind fun t157 => (if (wrap64 ((wrap64 (t148 - 2)) * t157)) < t147 then ((impl_ExchangeSlots.f kj16 t146 t147 false).bind fun t158 => (if t158 = (wrap64 (t148 + 1)) then ((impl_ExchangeSlots.f kj16 t146 t147 true).bind fun t159 => (some (t159 == (wrap64 (t148 + 3))))) else (some false))) else (some false)))) else (some false)) = some r := H
                have A26 := Aside0.mk A260
                clear A260
                by_cases c27 : (wrap64 ((wrap64 (t148 - 1)) * t154)) ≥ t147
                · rw [if_pos c27] at H
                  have c27b0 : decide (t147 ≤ (wrap64 ((wrap64 (t148 - 1)) * t154))) = true := decide_eq_true c27
                  clear c27
                  by_cases c28 : t147 = 0
                  · rw [if_pos c28] at H
                    have c28b0 : (t147 == 0) = true := beq_iff_eq.mpr c28
                    have c28b1 : (t147 != 0) = false := bne_eq_false_iff_eq.mpr c28
                    clear c28
                    replace H := Option.bind_eq_some_iff.mp H
                    obtain ⟨t155, A290, H⟩ := H
                    replace H : (if t155 = (wrap64 (t148 + 1)) then ((impl_ExchangeSlots.f kj16 t146 t147 true).bind fun t156 => (some (t156 == (wrap64 (t148 + 3))))) else (some false)) = some r := H
                    have A29 := Aside0.mk A290
                    clear A290
                    by_cases c30 : t155 = (wrap64 (t148 + 1))
                    · rw [if_pos c30] at H
                      have c30b0 : (t155 == (wrap64 (t148 + 1))) = true := beq_iff_eq.mpr c30
                      have c30b1 : (t155 != (wrap64 (t148 + 1))) = false := bne_eq_false_iff_eq.mpr c30
                      clear c30
                      replace H := Option.bind_eq_some_iff.mp H
                      obtain ⟨t156, A310, H⟩ := H
                      replace H : (some (t156 == (wrap64 (t148 + 3)))) = some r := H
                      have A31 := Aside0.mk A310
                      clear A310
                      obtain rfl := Option.some.inj H
                      go_wp2_with (first | ((with_reducible refine gate_callee (f := 43) rfl ?_); refine goesL_ (some 74) rfl rfl Try.func43 (by kernel_rfl) rfl #[.int .i64 t146] rfl (by (try simp only [List.map_toArray, List.map_cons, List.map_nil]); first | done | rfl | (simp only [List.length_drop, List.length_take]; rfl)) ?_; (with_reducible refine (impl_BytesPerSlot.calls t146 t154 _ A26.out).mono ?_); rintro e w' ⟨rfl, ⟨nd, rfl⟩⟩; refine ⟨_, rfl, ?_⟩) | (go_at_call 41; (with_reducible refine (impl_ExchangeSlots.calls kj16 t146 t147 false t155 _ A29.out).mono ?_); rintro e w' ⟨rfl, ⟨nd, rfl⟩⟩) | (go_at_call 41; (with_reducible refine (impl_ExchangeSlots.calls kj16 t146 t147 true t156 _ A31.out).mono ?_); rintro e w' ⟨rfl, ⟨nd, rfl⟩⟩))
                      go_ret
                      exact ⟨by first | rfl | (simp [errW_none, errW_some] <;> rfl) | (simp [*, errW_none, errW_some] <;> rfl), by repeat (first | (with_reducible first | exact HB.out | apply below_alloc | apply pw_below_drewN | apply below_drew1) | exact HB.out)⟩
                    · rw [if_neg c30] at H
                      have c30b0 : (t155 == (wrap64 (t148 + 1))) = false := beq_eq_false_iff_ne.mpr c30
                      have c30b1 : (t155 != (wrap64 (t148 + 1))) = true := bne_iff_ne.mpr c30
                      obtain rfl := Option.some.inj H
                      go_wp2_with (first | ((with_reducible refine gate_callee (f := 43) rfl ?_); refine goesL_ (some 74) rfl rfl Try.func43 (by kernel_rfl) rfl #[.int .i64 t146] rfl (by (try simp only [List.map_toArray, List.map_cons, List.map_nil]); first | done | rfl | (simp only [List.length_drop, List.length_take]; rfl)) ?_; (with_reducible refine (impl_BytesPerSlot.calls t146 t154 _ A26.out).mono ?_); rintro e w' ⟨rfl, ⟨nd, rfl⟩⟩; refine ⟨_, rfl, ?_⟩) | (go_at_call 41; (with_reducible refine (impl_ExchangeSlots.calls kj16 t146 t147 false t155 _ A29.out).mono ?_); rintro e w' ⟨rfl, ⟨nd, rfl⟩⟩))
                      go_ret
                      exact ⟨by first | rfl | (simp [errW_none, errW_some] <;> rfl) | (simp [*, errW_none, errW_some] <;> rfl), by repeat (first | (with_reducible first | exact HB.out | apply below_alloc | apply pw_below_drewN | apply below_drew1) | exact HB.out)⟩
                  · rw [if_neg c28] at H
                    have c28b0 : (t147 == 0) = false := beq_eq_false_iff_ne.mpr c28
                    have c28b1 : (t147 != 0) = true := bne_iff_ne.mpr c28
                    replace H := Option.bind_eq_some_iff.mp H
                    obtain ⟨t157, A320, H⟩ := H
                    replace H : (if (wrap64 ((wrap64 (t148 - 2)) * t157)) < t147 then ((impl_ExchangeSlots.f kj16 t146 t147 false).bind fun t158 => (if t158 = (wrap64 (t148 + 1)) then ((impl_ExchangeSlots.f kj16 t146 t147 true).bind fun t159 => (some (t159 == (wrap64 (t148 + 3))))) else (some false))) else (some false)) = some r := H
                    have A32 := Aside0.mk A320
                    clear A320
                    by_cases c33 : (wrap64 ((wrap64 (t148 - 2)) * t157)) < t147
                    · rw [if_pos c33] at H
                      have c33b0 : decide ((wrap64 ((wrap64 (t148 - 2)) * t157)) < t147) = true := decide_eq_true c33
                      clear c33
                      replace H := Option.bind_eq_some_iff.mp H
                      obtain ⟨t158, A340, H⟩ := H
                      replace H : (if t158 = (wrap64 (t148 + 1)) then ((impl_ExchangeSlots.f kj16 t146 t147 true).bind fun t159 => (some (t159 == (wrap64 (t148 + 3))))) else (some false)) = some r := H
                      have A34 := Aside0.mk A340
                      clear A340
                      by_cases c35 : t158 = (wrap64 (t148 + 1))
                      · rw [if_pos c35] at H
                        have c35b0 : (t158 == (wrap64 (t148 + 1))) = true := beq_iff_eq.mpr c35
                        have c35b1 : (t158 != (wrap64 (t148 + 1))) = false := bne_eq_false_iff_eq.mpr c35
                        clear c35
                        replace H := Option.bind_eq_some_iff.mp H
                        obtain ⟨t159, A360, H⟩ := H
                        replace H : (some (t159 == (wrap64 (t148 + 3)))) = some r := H
                        have A36 := Aside0.mk A360
                        clear A360
                        obtain rfl := Option.some.inj H
                        go_wp2_with (first | ((with_reducible refine gate_callee (f := 43) rfl ?_); refine goesL_ (some 74) rfl rfl Try.func43 (by kernel_rfl) rfl #[.int .i64 t146] rfl (by (try simp only [List.map_toArray, List.map_cons, List.map_nil]); first | done | rfl | (simp only [List.length_drop, List.length_take]; rfl)) ?_; (with_reducible refine (impl_BytesPerSlot.calls t146 t154 _ A26.out).mono ?_); rintro e w' ⟨rfl, ⟨nd, rfl⟩⟩; refine ⟨_, rfl, ?_⟩) | (go_at_call 43; (with_reducible refine (impl_BytesPerSlot.calls t146 t157 _ A32.out).mono ?_); rintro e w' ⟨rfl, ⟨nd, rfl⟩⟩) | (go_at_call 41; (with_reducible refine (impl_ExchangeSlots.calls kj16 t146 t147 false t158 _ A34.out).mono ?_); rintro e w' ⟨rfl, ⟨nd, rfl⟩⟩) | (go_at_call 41; (with_reducible refine (impl_ExchangeSlots.calls kj16 t146 t147 true t159 _ A36.out).mono ?_); rintro e w' ⟨rfl, ⟨nd, rfl⟩⟩))
                        go_ret
                        exact ⟨by first | rfl | (simp [errW_none, errW_some] <;> rfl) | (simp [*, errW_none, errW_some] <;> rfl), by repeat (first | (with_reducible first | exact HB.out | apply below_alloc | apply pw_below_drewN | apply below_drew1) | exact HB.out)⟩
                      · rw [if_neg c35] at H
                        have c35b0 : (t158 == (wrap64 (t148 + 1))) = false := beq_eq_false_iff_ne.mpr c35
                        have c35b1 : (t158 != (wrap64 (t148 + 1))) = true := bne_iff_ne.mpr c35
                        obtain rfl := Option.some.inj H
                        go_wp2_with (first | ((with_reducible refine gate_callee (f := 43) rfl ?_); refine goesL_ (some 74) rfl rfl Try.func43 (by kernel_rfl) rfl #[.int .i64 t146] rfl (by (try simp only [List.map_toArray, List.map_cons, List.map_nil]); first | done | rfl | (simp only [List.length_drop, List.length_take]; rfl)) ?_; (with_reducible refine (impl_BytesPerSlot.calls t146 t154 _ A26.out).mono ?_); rintro e w' ⟨rfl, ⟨nd, rfl⟩⟩; refine ⟨_, rfl, ?_⟩) | (go_at_call 43; (with_reducible refine (impl_BytesPerSlot.calls t146 t157 _ A32.out).mono ?_); rintro e w' ⟨rfl, ⟨nd, rfl⟩⟩) | (go_at_call 41; (with_reducible refine (impl_ExchangeSlots.calls kj16 t146 t147 false t158 _ A34.out).mono ?_); rintro e w' ⟨rfl, ⟨nd, rfl⟩⟩))
                        go_ret
                        exact ⟨by first | rfl | (simp [errW_none, errW_some] <;> rfl) | (simp [*, errW_none, errW_some] <;> rfl), by repeat (first | (with_reducible first | exact HB.out | apply below_alloc | apply pw_below_drewN | apply below_drew1) | exact HB.out)⟩
                    · rw [if_neg c33] at H
                      have c33b0 : decide ((wrap64 ((wrap64 (t148 - 2)) * t157)) < t147) = false := decide_eq_false c33
                      clear c33
                      obtain rfl := Option.some.inj H
                      go_wp2_with (first | ((with_reducible refine gate_callee (f := 43) rfl ?_); refine goesL_ (some 74) rfl rfl Try.func43 (by kernel_rfl) rfl #[.int .i64 t146] rfl (by (try simp only [List.map_toArray, List.map_cons, List.map_nil]); first | done | rfl | (simp only [List.length_drop, List.length_take]; rfl)) ?_; (with_reducible refine (impl_BytesPerSlot.calls t146 t154 _ A26.out).mono ?_); rintro e w' ⟨rfl, ⟨nd, rfl⟩⟩; refine ⟨_, rfl, ?_⟩) | (go_at_call 43; (with_reducible refine (impl_BytesPerSlot.calls t146 t157 _ A32.out).mono ?_); rintro e w' ⟨rfl, ⟨nd, rfl⟩⟩))
                      go_ret
                      exact ⟨by first | rfl | (simp [errW_none, errW_some] <;> rfl) | (simp [*, errW_none, errW_some] <;> rfl), by repeat (first | (with_reducible first | exact HB.out | apply below_alloc | apply pw_below_drewN | apply below_drew1) | exact HB.out)⟩
                · rw [if_neg c27] at H
                  have c27b0 : decide (t147 ≤ (wrap64 ((wrap64 (t148 - 1)) * t154))) = false := decide_eq_false c27
                  clear c27
                  obtain rfl := Option.some.inj H
                  go_wp2_with (first | ((with_reducible refine gate_callee (f := 43) rfl ?_); refine goesL_ (some 74) rfl rfl Try.func43 (by kernel_rfl) rfl #[.int .i64 t146] rfl (by (try simp only [List.map_toArray, List.map_cons, List.map_nil]); first | done | rfl | (simp only [List.length_drop, List.length_take]; rfl)) ?_; (with_reducible refine (impl_BytesPerSlot.calls t146 t154 _ A26.out).mono ?_); rintro e w' ⟨rfl, ⟨nd, rfl⟩⟩; refine ⟨_, rfl, ?_⟩))
                  go_ret
                  exact ⟨by first | rfl | (simp [errW_none, errW_some] <;> rfl) | (simp [*, errW_none, errW_some] <;> rfl), by repeat (first | (with_reducible first | exact HB.out | apply below_alloc | apply pw_below_drewN | apply below_drew1) | exact HB.out)⟩

/-- THE ONE PURE STATEMENT of laws_FnAirtime: yours. -/
def laws_FnAirtime.Pure : Prop := ∀ (l0 : List Int), l0.length ≤ maxLen → l0.length * 1 ≤ 140737488351232 → (∀ x ∈ l0, (Lit.int .u8 x).wf = true) → ∃ k, laws_FnAirtime.f k l0 = some true
theorem laws_FnAirtime.walk (P : laws_FnAirtime.Pure) (a0 : Option Addr) (len0 cap0 : Nat) (z0 : List Int) (w : World) (w0 : (a0 = none ∧ len0 = 0 ∧ cap0 = 0 ∧ z0 = []) ∨ ∃ x, a0 = some x ∧ len0 ≤ cap0 ∧ cap0 ≤ maxLen ∧ z0.length = cap0 ∧ (∀ i, i < z0.length → w.cell? (x.add i) = some (.int .u8 (z0.getD i 0))) ∧ ∀ n ∈ z0, (Lit.int .u8 n).wf = true) (y0 : len0 * 1 ≤ 140737488351232) :
    Calls Try.prog 10 #[.slice a0 len0 cap0] w fun e w' => e = .returned (.bool true) ∧ Below w.heap.size w w' := by
  obtain ⟨l0, rfl, hr0, hm0, hw0, hc0⟩ := ReadsInt.ofRowC w0
  obtain ⟨k, h⟩ := P l0 hm0 y0 hw0
  refine (laws_FnAirtime.calls k _ _ l0 true w (Kd.C_of_reads (d := (0 : Int)) (h1 := fun _ => rfl) hr0) hc0 h).mono ?_
  rintro e w' ⟨rfl, hd⟩
  exact ⟨rfl, hd⟩

end Go.Proofs.Ytkmkgkjinefcdaa.PFnAirtime
