/- Contracts of Go functions. Conditions: the arguments read as the Lean function's. Written by print2.py, shrink.py (this session's). -/
import Derived.Test.YtldbmljooafkcaaPFnFrameErrorsx0
import Derived.Test.YtldbmljooafkcaaPFnFrameErrorsx4
namespace Go.Proofs.Ytldbmljooafkcaa.PFnFrameErrors
open Go.RowKit Go.Proofs.YtldbmljooafkcaaW.PrintWords Go.Proofs.YtldbmljooafkcaaW.PrintLast Go.Proofs.YtldbmljooafkcaaW.PrintMore
open Go.Proofs.YtldbmljooafkcaaW.PrintWords renaming below_drew1 → zB, pw_below_drewN → zL, gate_dst → zN
open Go.Proofs.YtldbmljooafkcaaW.PrintWords.Aside0 renaming mk → zO
open Go.Proofs.YtldbmljooafkcaaW.PrintWords.Drawn0 renaming refl → zP, step → zQ
open Go.Proofs.YtldbmljooafkcaaW.PrintWords.Kd renaming C_alloc → zR, C_drew → zS, C_drewN → zT, R_drew → zV, R_drewN → zW, R_reads' → zX, R_below → zY
open Option renaming bind_eq_some_iff → yE
open List renaming setIfInBounds_toArray → yF, set_cons_zero → yG, set_cons_succ → yH, map_toArray → yK, map_cons → yL, map_nil → yM
set_option maxHeartbeats 8000000
set_option maxRecDepth 100000
attribute [local go_sem] max2_int min2_int max_two min_two max_three min_three max_four min_four
set_option linter.unusedVariables false
set_option linter.unusedSimpArgs false

/-- A row of the decoder's states: eight cells an element. -/
def svK : Kd (List Int) where
  sz := 8
  E := []
  K := fun _ s cs => s.length = 8 ∧ cs = nums .i64 s
  M := fun _ _ _ s cs => s.length = 8 ∧ cs = nums .i64 s
  K_len := fun h => by rw [h.2, nums_length, h.1]
  K_one := fun h u hu => by
    rw [h.2] at hu
    simp only [nums, List.mem_map] at hu
    obtain ⟨x, _, rfl⟩ := hu
    rfl
  K_below := fun _ h => h
  K_of_M := fun h => h
  M_mono := fun _ h => h
  M_bound := fun h => h
  M_move := fun _ h => h
  M_lower := fun _ h => h
def rdS (xs : List (List Int)) (i : Int) : List Int := xs.getD i.toNat []
def vitS (l0 : List Int) (n m : Int) : Nat → List (List Int) → Int → Option (List (List Int))
  | 0, _, _ => none
  | k + 1, st, i => if i < m then
      (if 0 ≤ i then (if i < (st.length : Int) then (if 2 * i + 1 < (l0.length : Int) then (if st.length < 2000 then
        (impl_extendSurvivors.f (rdS st i) (rd l0 (2 * i)) (rd l0 (2 * i + 1)) (decide (i ≥ n))).bind fun y => vitS l0 n m k (st ++ [y]) (wrap64 (i + 1))
        else none) else none) else none) else none)
      else some st
def vitT (st : List (List Int)) (n : Int) : Nat → List Int → Int → Int → Option (List Int)
  | 0, _, _, _ => none
  | k + 1, bits, s, i => if 0 < i then
      (if i < (st.length : Int) then (if 0 ≤ s then (if s < 4 then
        (if i ≤ n then (if i - 1 < (bits.length : Int) then vitT st n k (bits.set (i - 1).toNat (Go.bits .and .i64 s 1)) (rd (rdS st i) (4 + s)) (i - 1) else none)
         else vitT st n k bits (rd (rdS st i) (4 + s)) (i - 1))
        else none) else none) else none)
      else some bits
def vitB (k : Nat) (l0 : List Int) (n : Int) : Option (List Int × Int) :=
  if 0 ≤ n then if n ≤ 1000 then
    (vitS l0 n (n + 2) k [[0, -1, -1, -1, 0, 0, 0, 0]] 0).bind fun st => (vitT st n k (List.replicate n.toNat 0) 0 (n + 2)).bind fun bits =>
      if n + 2 < (st.length : Int) then some (bits, rd (rdS st (n + 2)) 0) else none
  else none else none
def impl_ViterbiDecode.f (k : Nat) (l0 : List Int) : Option (List Int × Int) :=
  (impl_InputLength.f k (l0.length : Int)).bind fun n => (impl_IsSymbolString.f k l0).bind fun b => if b = true then (if n < 0 then some ([], -1) else vitB k l0 n) else some ([], -1)
theorem vitS_mono (l0 : List Int) (n m : Int) : ∀ k st i, LeO (vitS l0 n m k st i) (vitS l0 n m (k + 1) st i)
  | 0, st, i => fun r h => by simp [vitS] at h
  | k + 1, st, i => by
    have ih := vitS_mono l0 n m k
    unfold vitS
    refine LeO.ite (LeO.ite (LeO.ite (LeO.ite (LeO.ite (LeO.bind (LeO.refl _) (fun y => ?_)) (LeO.refl _)) (LeO.refl _)) (LeO.refl _)) (LeO.refl _)) (LeO.refl _)
    exact ih _ _
theorem vitT_mono (st : List (List Int)) (n : Int) : ∀ k b s i, LeO (vitT st n k b s i) (vitT st n (k + 1) b s i)
  | 0, b, s, i => fun r h => by simp [vitT] at h
  | k + 1, b, s, i => by
    have ih := vitT_mono st n k
    unfold vitT
    exact LeO.ite (LeO.ite (LeO.ite (LeO.ite (LeO.ite (LeO.ite (ih _ _ _) (LeO.refl _)) (ih _ _ _)) (LeO.refl _)) (LeO.refl _)) (LeO.refl _)) (LeO.refl _)
theorem sv_info : (Try.prog.info? 97).map (fun i => (i.zero, i.size, i.bytes)) = some (some (.agg #[.int .i64 0, .int .i64 0, .int .i64 0, .int .i64 0, .int .i64 0, .int .i64 0, .int .i64 0, .int .i64 0]), 8, 64) := by kernel_rfl
theorem sv_lst (s : List Int) (h : s.length = 8) : nums .i64 s = [.int .i64 (rd s 0), .int .i64 (rd s 1), .int .i64 (rd s 2), .int .i64 (rd s 3), .int .i64 (rd s 4), .int .i64 (rd s 5), .int .i64 (rd s 6), .int .i64 (rd s 7)] := by
  match s, h with
  | [a, b, c, d, e, f, g, i], _ => rfl
theorem sv_row {W : World} {base : Nat} {ok : Nat → Prop} {v : Value} {st : List (List Int)} (h : svK.R 97 W base ok v st) (i : Int) (h0 : 0 ≤ i) (h1 : i < (st.length : Int)) :
    ∃ g cap, v = .slice (some ⟨g, 0, none⟩) st.length cap ∧ g < W.heap.size ∧ (rdS st i).length = 8 ∧ ∀ j : Nat, j < 8 → W.cell? ⟨g, i.toNat * 8 + j, none⟩ = some (.int .i64 ((rdS st i).getD j 0)) := by
  obtain ⟨g, cap, rfl, _, hg, _⟩ := Kd.R_form h (by omega)
  obtain ⟨_, _, hC⟩ := zX h
  obtain ⟨ad, c, ha, hcl, hK, hc⟩ := Kd.C_get hC [] i h0 h1
  injection ha with ha
  subst ha
  obtain ⟨hl, rfl⟩ : (rdS st i).length = 8 ∧ c = nums .i64 (rdS st i) := hK
  refine ⟨g, cap, rfl, hg, hl, fun j hj => ?_⟩
  have h2 := hc j (.int .i64 ((rdS st i).getD j 0)) (by
    have hj' : j < (rdS st i).length := by omega
    simp [nums, List.getD_eq_getElem?_getD, List.getElem?_eq_getElem hj'])
  rwa [add_plain] at h2
theorem sv_made {W : World} (base : Nat) (n : Int) {ok : Nat → Prop} (hfresh : ok W.heap.size) (h0 : 0 ≤ n) (h1 : n ≤ 2000) (hbase : base ≤ W.heap.size) :
    ∃ (obj : Obj), (Instr.makeSlice 94 (.int .i64 0) (.int .i64 n)).run Try.prog W = .ok (.slice (some ⟨W.heap.size, 0, none⟩) 0 n.toNat) (W.alloc obj) ∧ svK.R 97 (W.alloc obj) base ok (.slice (some ⟨W.heap.size, 0, none⟩) 0 n.toNat) [] := by
  obtain ⟨m, rfl⟩ := Int.eq_ofNat_of_zero_le h0
  obtain ⟨i0, hi, hzz⟩ := Option.map_eq_some_iff.1 sv_info
  simp only [Prod.mk.injEq] at hzz
  obtain ⟨hz0, hz1, hz2⟩ := hzz
  have hr := run_make (P := Try.prog) W 94 97 i0 _ Try.underlying94 hi hz0 .i64 .i64 0 (m : Int) (by omega) (by omega) (by rw [hz2]; omega) (by omega)
  refine ⟨_, hr, ⟨fun k hk => ?_, [], ⟨rfl, .inr ⟨W.heap.size, m, _, rfl, hbase, blk_new W _, Nat.zero_le _, ?_, ?_, ?_⟩⟩, Reps.none _ _⟩⟩
  · have : W.heap.size = k := by simpa [Value.ownBlock] using hk
    subst this
    exact hfresh
  · unfold maxLen
    omega
  · show (madeCells _ _).size = m * 8
    rw [size_madeCells, hz1]
    simp
  · simp
section
variable {ops : Array Oper} {rest : List Oper} {o : Oper} {a : Act} {Q : Exit → Act → World → Prop}
theorem sv_make {w0 W : World} (base : Nat) (hgd : o.guard = none) {N : Tmp} (_hd : o.dst = some N) (x y : Operand) (ho : o.op = .makeSlice 94 x y) (n : Int) (hx : a.eval x = .int .i64 0) (hy : a.eval y = .int .i64 n)
    {ok : Nat → Prop} (hfresh : ok W.heap.size) (h0 : 0 ≤ n) (h1 : n ≤ 2000) (HB : Below base w0 W) (hbase : base ≤ W.heap.size)
    (h : ∀ v1 w1, svK.R 97 w1 base ok v1 [] → Below base w0 w1 → wpList Try.prog ops Q rest (a.put o.dst v1) w1) : wpList Try.prog ops Q (o :: rest) a W := by
  obtain ⟨obj, hr, hR⟩ := sv_made (W := W) base n hfresh h0 h1 hbase
  refine Kd.event_run hgd (w1 := W.alloc obj) ?_ (h _ _ hR (HB.alloc hbase _))
  simp [execOp, ho, hx, hy, hr]
end
def impl_ViterbiDecode.T9 : Bool × List (List Nat × List Nat) := (true, [([], []), ([], []), ([], []), ([1, 2], [1, 2]), ([3], [3]), ([], []), ([], []), ([6], [6]), ([5, 7], [5, 7]), ([8], [8]), ([], []), ([], []), ([11], [11]), ([12], [12]), ([10, 13], [10, 13]), ([14], [14]), ([], []), ([], []), ([16, 17], [16, 17]), ([4, 9, 15, 18], [4, 9, 15, 18]), ([19], [19]), ([0, 20, 19], [0, 20]), ([21, 21, 0, 1, 2, 3, 4, 5, 6, 7, 8, 9, 10, 11, 12, 13, 14, 15, 16, 17, 18, 19, 20, 21], [0, 1, 21])])
def impl_ViterbiDecode.B9 : List Nat := [0, 0, 0, 6, 14, 0, 0, 64, 224, 480, 0, 0, 2048, 6144, 15360, 31744, 0, 0, 196608, 524286, 1048574, 2097151, 4194303]
theorem impl_ViterbiDecode.tab9 : rtab .any (opsOf Try.f50 9) = impl_ViterbiDecode.T9 := by kernel_rfl
theorem impl_ViterbiDecode.bits9 : waitsOk impl_ViterbiDecode.T9.2 impl_ViterbiDecode.B9 = true := by kernel_rfl
theorem impl_ViterbiDecode.calls (k : Nat) (A0 : Option Addr) (c0 : Nat) (l0 : List Int) (r1 : List Int) (r2 : Int) (w : World) (hr0 : Kd.C (Kd.int .i64) w A0 l0.length l0) (hc0 : l0.length ≤ c0) (h : impl_ViterbiDecode.f k l0 = some (r1, r2)) :
  Calls Try.prog 50 #[.slice A0 l0.length c0] w fun e w' => ∃ v0_ : Value, e = .returned (.tuple #[v0_, .int .i64 r2]) ∧ Kd.R (Kd.int .i64) 3 w' w.heap.size (fun _ => True) v0_ r1 ∧ Below w.heap.size w w' := by
 have HR0 := zO hr0
 have HC0 := zO hc0
 clear hr0 hc0
 unfold impl_ViterbiDecode.f at h
 obtain ⟨n, A10, h⟩ := yE.mp h
 obtain ⟨b, A20, h⟩ := yE.mp h
 have A1 := zO A10
 have A2 := zO A20
 clear A10 A20
 cases b with
 | false =>
  rw [if_neg (by decide)] at h
  simp only [Option.some.injEq, Prod.mk.injEq] at h
  obtain ⟨rfl, rfl⟩ := h
  go_enter Try.func50, Try.ntmps50
  go_wp2_with (first | (go_at_call 54; (with_reducible refine (impl_InputLength.calls k (l0.length : Int) n _ A1.out).mono ?_); rintro e w' ⟨rfl, ⟨nd, rfl⟩⟩) | (go_at_call 108; (with_reducible refine (impl_IsSymbolString.calls k _ _ l0 false _ ?side1 ?side2 A2.out).mono ?_); (case side1 => repeat (first | exact HR0.out | (with_reducible refine zR ?_ _) | (with_reducible refine zT ?_ _) | (with_reducible refine zS ?_))); (case side2 => exact HC0.out); rintro e w' ⟨rfl, ⟨nd, rfl⟩⟩) | ((with_reducible refine zN (N := 20) rfl ?_); refine Kd.R_lit (Kd.int .i64) (w0 := w) w.heap.size 3 ?hg (N := 20) ?hd (xs := ([] : List Int)) (inner := []) (ok := fun _ => True) (okp := fun _ => True) ?hr ?hp (fun _ hk => hk) trivial (by repeat (first | exact Below.refl _ _ | apply zL)) (by simp) (by simp) ?_; (case hd => rfl); (case hg => rfl); (case hr => first | (go_simp; done) | (go_simp; rfl)); (case hp => exact (Reps.none _ _)); intro v1 w1 ho1 hb1 hg_ hnew_; clear hg_ hnew_; have HO1 := zO ho1; have HB1 := zO hb1; clear ho1 hb1))
  go_ret2
  exact ⟨_, rfl, HO1.out, HB1.out⟩
 | true =>
  rw [if_pos rfl] at h
  by_cases c1 : n < 0
  · rw [if_pos c1] at h
    simp only [Option.some.injEq, Prod.mk.injEq] at h
    obtain ⟨rfl, rfl⟩ := h
    have c1b : decide (n < 0) = true := decide_eq_true c1
    clear c1
    go_enter Try.func50, Try.ntmps50
    go_wp2_with (first | (go_at_call 54; (with_reducible refine (impl_InputLength.calls k (l0.length : Int) n _ A1.out).mono ?_); rintro e w' ⟨rfl, ⟨nd, rfl⟩⟩) | (go_at_call 108; (with_reducible refine (impl_IsSymbolString.calls k _ _ l0 true _ ?side1 ?side2 A2.out).mono ?_); (case side1 => repeat (first | exact HR0.out | (with_reducible refine zR ?_ _) | (with_reducible refine zT ?_ _) | (with_reducible refine zS ?_))); (case side2 => exact HC0.out); rintro e w' ⟨rfl, ⟨nd, rfl⟩⟩) | ((with_reducible refine zN (N := 20) rfl ?_); refine Kd.R_lit (Kd.int .i64) (w0 := w) w.heap.size 3 ?hg (N := 20) ?hd (xs := ([] : List Int)) (inner := []) (ok := fun _ => True) (okp := fun _ => True) ?hr ?hp (fun _ hk => hk) trivial (by repeat (first | exact Below.refl _ _ | apply zL)) (by simp) (by simp) ?_; (case hd => rfl); (case hg => rfl); (case hr => first | (go_simp; done) | (go_simp; rfl)); (case hp => exact (Reps.none _ _)); intro v1 w1 ho1 hb1 hg_ hnew_; clear hg_ hnew_; have HO1 := zO ho1; have HB1 := zO hb1; clear ho1 hb1))
    go_ret2
    exact ⟨_, rfl, HO1.out, HB1.out⟩
  · rw [if_neg c1] at h
    unfold vitB at h
    by_cases n0 : 0 ≤ n
    · rw [if_pos n0] at h
      by_cases n1 : n ≤ 1000
      · rw [if_pos n1] at h
        have N0 := zO n0
        have N1 := zO n1
        have c1b : decide (n < 0) = false := decide_eq_false c1
        have hw1 : IntKind.i64.wrap (n + 2) = n + 2 := (i64_w _).trans (by unfold wrap64; omega)
        have hw2 : IntKind.i64.wrap (n + 2 + 1) = n + 2 + 1 := (i64_w _).trans (by unfold wrap64; omega)
        have H' := zO h
        clear c1 n0 n1 h
        go_enter Try.func50, Try.ntmps50
        go_wp2_with (first | (go_at_call 54; (with_reducible refine (impl_InputLength.calls k (l0.length : Int) n _ A1.out).mono ?_); rintro e w' ⟨rfl, ⟨nd, rfl⟩⟩) | (go_at_call 108; (with_reducible refine (impl_IsSymbolString.calls k _ _ l0 true _ ?side1 ?side2 A2.out).mono ?_); (case side1 => repeat (first | exact HR0.out | (with_reducible refine zR ?_ _) | (with_reducible refine zT ?_ _) | (with_reducible refine zS ?_))); (case side2 => exact HC0.out); rintro e w' ⟨rfl, ⟨nd, rfl⟩⟩) | ((with_reducible refine zN (N := 24) rfl ?_); refine sv_make (w0 := w) w.heap.size rfl (N := 24) rfl _ _ rfl (n + 2 + 1) rfl rfl (ok := fun _ => True) trivial (by have := N0.out; omega) (by have := N1.out; omega) (by repeat (first | exact Below.refl _ _ | apply zL)) (by simp) ?_; intro v1 w1 ho1 hb1; have HO1 := zO ho1; have HB1 := zO hb1; clear ho1 hb1) | ((with_reducible refine gate_builtin (b := .append) (xs := #[.tmp 25, .tmp 28]) rfl ?_); at_builtin; refine Kd.R_append svK w.heap.size rfl (.tmp 25) (.tmp 28) 94 97 _ 64 rfl Try.underlying94 sv_info rfl (by decide) (by decide) _ [] [0, -1, -1, -1, 0, 0, 0, 0] _ (fun _ => True) (fun _ => False) rfl rfl ⟨rfl, rfl⟩ (fun _ hk => hk.elim) (fun _ _ => trivial) HO1.out HB1.out HB1.out.size (by simp) ?_; intro v2 w2 ho2 hb2 hg2_ hat2_; clear hg2_ hat2_; have HO2 := zO ho2; have HB2 := zO hb2; clear ho2 hb2))
        go_loopg [5, 6] k (fun kq v5 v6 w' => ∃ (st : List (List Int)) (i : Int), v6 = .int .i64 i ∧ Aside0 ((vitS l0 n (n + 2) kq st i).bind (fun st => (vitT st n k (List.replicate n.toNat 0) 0 (n + 2)).bind fun bits => if n + 2 < (st.length : Int) then some (bits, rd (rdS st (n + 2)) 0) else none) = some (r1, r2)) ∧ Aside0 (kq ≤ k) ∧ Aside0 (svK.R 97 w' w.heap.size (fun _ => True) v5 st) ∧ Aside0 (Below w.heap.size w w'))
        case atStart => exact ⟨_, 0, rfl, H', ⟨Nat.le_refl _⟩, HO2, HB2⟩
        case round =>
         clear H'
         obtain ⟨st, i, rfl, HA, HK1, HO, HB⟩ := hrel
         cases gk with
         | zero => exact absurd HA.out (by simp [vitS])
         | succ k1 =>
          have H := HA.out
          clear HA
          simp only [vitS] at H
          by_cases c3 : i < n + 2
          · rw [if_pos c3] at H
            by_cases i0 : 0 ≤ i
            · rw [if_pos i0] at H
              by_cases i1 : i < (st.length : Int)
              · rw [if_pos i1] at H
                by_cases i2 : 2 * i + 1 < (l0.length : Int)
                · rw [if_pos i2] at H
                  by_cases i3 : st.length < 2000
                  · rw [if_pos i3, Option.bind_assoc] at H
                    obtain ⟨y, A30, H⟩ := yE.mp H
                    have A3 := zO A30
                    have H' := zO H
                    clear A30 H
                    have c3b : decide (i < n + 2) = true := decide_eq_true c3
                    have J3 := zO i3
                    have hml := HR0.out.2.1
                    have hx1 : IntKind.i64.wrap (2 * i) = 2 * i := (i64_w _).trans (by unfold wrap64; omega)
                    have hx2 : IntKind.i64.wrap (2 * i + 1) = 2 * i + 1 := (i64_w _).trans (by unfold wrap64; omega)
                    obtain ⟨g, cap, rfl, hgl, hsl, hsc⟩ := sv_row HO.out i i0 i1
                    have HSL := zO hsl
                    obtain ⟨ad1, rfl, hy1⟩ := Kd.at_int HR0.out (2 * i) (by omega) (by omega)
                    obtain ⟨ad2, ha2, hy2⟩ := Kd.at_int HR0.out (2 * i + 1) (by omega) i2
                    obtain rfl : ad1 = ad2 := (by injection ha2)
                    clear ha2
                    have hy1w := hy1
                    have hy2w := hy2
                    replace hy1 := (HB.out.cell (World.block_lt_of_cell? w _ hy1)).trans hy1
                    replace hy2 := (HB.out.cell (World.block_lt_of_cell? w _ hy2)).trans hy2
                    have s0 := hsc 0 (by omega)
                    have s1 := hsc 1 (by omega)
                    have s2 := hsc 2 (by omega)
                    have s3 := hsc 3 (by omega)
                    have s4 := hsc 4 (by omega)
                    have s5 := hsc 5 (by omega)
                    have s6 := hsc 6 (by omega)
                    have s7 := hsc 7 (by omega)
                    have p1 : (0 ≤ i) = True := eq_true i0
                    have q1 : (i < (st.length : Int)) = True := eq_true i1
                    have p2 : (0 ≤ 2 * i) = True := eq_true (by omega)
                    have q2 : (2 * i < (l0.length : Int)) = True := eq_true (by omega)
                    have p3 : (0 ≤ 2 * i + 1) = True := eq_true (by omega)
                    have q3 : (2 * i + 1 < (l0.length : Int)) = True := eq_true i2
                    have I0 := zO i0
                    clear hsc hsl c3 i0 i1 i2 i3 hml
                    try go_wp2
                    refine start_ (n := 23) (S := fun w' => w'.cell? ⟨g, i.toNat * 8, none⟩ = some (.int .i64 (rd (rdS st i) 0)) ∧ w'.cell? ⟨g, i.toNat * 8 + 1, none⟩ = some (.int .i64 (rd (rdS st i) 1)) ∧ w'.cell? ⟨g, i.toNat * 8 + 2, none⟩ = some (.int .i64 (rd (rdS st i) 2)) ∧ w'.cell? ⟨g, i.toNat * 8 + 3, none⟩ = some (.int .i64 (rd (rdS st i) 3)) ∧ w'.cell? ⟨g, i.toNat * 8 + 4, none⟩ = some (.int .i64 (rd (rdS st i) 4)) ∧ w'.cell? ⟨g, i.toNat * 8 + 5, none⟩ = some (.int .i64 (rd (rdS st i) 5)) ∧ w'.cell? ⟨g, i.toNat * 8 + 6, none⟩ = some (.int .i64 (rd (rdS st i) 6)) ∧ w'.cell? ⟨g, i.toNat * 8 + 7, none⟩ = some (.int .i64 (rd (rdS st i) 7)) ∧ w'.cell? (ad1.add (2 * i).toNat) = some (.int .i64 (rd l0 (2 * i))) ∧ w'.cell? (ad1.add (2 * i + 1).toNat) = some (.int .i64 (rd l0 (2 * i + 1)))) (ds := [21]) #[false, false, false, false, false, false, false, false, false, false, false, false, false, false, false, false, false, false, false, false, false, false, false] (by kernel_rfl) rfl rfl ⟨s0, s1, s2, s3, s4, s5, s6, s7, hy1, hy2⟩ (fun hHeld => ?_)
                    refine with_tabW impl_ViterbiDecode.tab9 impl_ViterbiDecode.bits9 (fun HT_ HW_ => ?_)
                    have HO_ := zO (zV HO.out)
                    have HB_ := zO (zB HB.out)
                    clear HO HB
                    have HO := HO_
                    have HB := HB_
                    clear HO_ HB_
                    generalize wr.drew = w9 at HO HB hHeld ⊢
                    refine pure_ (i := 0) (N := some 36) (v := ?_) (a' := ?_) #[true, false, false, false, false, false, false, false, false, false, false, false, false, false, false, false, false, false, false, false, false, false, false] rfl rfl (any_of HT_.out (by kernel_rfl)) (fun _ _ _ h => h) (Or.inl ⟨by rfl, ?_⟩) ?_ ?_; rotate_left
                    · intro w'
                      go_simp
                      with_reducible rfl
                    rotate_left
                    · simp only [Act.put, yF, yG, yH, i64_w, i32_w]
                      rfl
                    refine pure_ (i := 1) (N := some 37) (v := ?_) (a' := ?_) #[true, true, false, false, false, false, false, false, false, false, false, false, false, false, false, false, false, false, false, false, false, false, false] rfl rfl (any_of HT_.out (by kernel_rfl)) (fun _ _ _ h => h) (Or.inl ⟨by rfl, ?_⟩) ?_ ?_; rotate_left
                    · intro w'
                      go_simp
                      with_reducible rfl
                    rotate_left
                    · simp only [Act.put, yF, yG, yH, i64_w, i32_w]
                      rfl
                    refine pure_ (i := 2) (N := some 38) (v := ?_) (a' := ?_) #[true, true, true, false, false, false, false, false, false, false, false, false, false, false, false, false, false, false, false, false, false, false, false] rfl rfl (any_of HT_.out (by kernel_rfl)) (fun _ _ _ h => h) (Or.inl ⟨by rfl, ?_⟩) ?_ ?_; rotate_left
                    · intro w'
                      go_simp
                      with_reducible rfl
                    rotate_left
                    · simp only [Act.put, yF, yG, yH, i64_w, i32_w]
                      rfl
                    refine pure_ (i := 3) (N := some 39) (v := ?_) (a' := ?_) #[true, true, true, true, false, false, false, false, false, false, false, false, false, false, false, false, false, false, false, false, false, false, false] rfl rfl (any_of HT_.out (by kernel_rfl)) (fun _ _ _ h => h) (Or.inl ⟨by rfl, ?_⟩) ?_ ?_; rotate_left
                    · intro w'
                      go_simp
                      with_reducible rfl
                    rotate_left
                    · simp only [Act.put, yF, yG, yH, i64_w, i32_w]
                      rfl
                    refine pure_ (i := 5) (N := some 41) (v := ?_) (a' := ?_) #[true, true, true, true, false, true, false, false, false, false, false, false, false, false, false, false, false, false, false, false, false, false, false] rfl rfl (any_of HT_.out (by kernel_rfl)) (fun _ _ _ h => h) (Or.inl ⟨by rfl, ?_⟩) ?_ ?_; rotate_left
                    · intro w'
                      go_simp
                      with_reducible rfl
                    rotate_left
                    · simp only [Act.put, yF, yG, yH, i64_w, i32_w]
                      rfl
                    refine pure_ (i := 6) (N := some 42) (v := ?_) (a' := ?_) #[true, true, true, true, false, true, true, false, false, false, false, false, false, false, false, false, false, false, false, false, false, false, false] rfl rfl (any_of HT_.out (by kernel_rfl)) (fun _ _ _ h => h) (Or.inl ⟨by rfl, ?_⟩) ?_ ?_; rotate_left
                    · intro w'
                      go_simp
                      with_reducible rfl
                    rotate_left
                    · simp only [Act.put, yF, yG, yH, i64_w, i32_w]
                      rfl
                    refine pure_ (i := 7) (N := some 43) (v := ?_) (a' := ?_) #[true, true, true, true, false, true, true, true, false, false, false, false, false, false, false, false, false, false, false, false, false, false, false] rfl rfl (any_of HT_.out (by kernel_rfl)) (fun _ _ _ h => h) (Or.inl ⟨by rfl, ?_⟩) ?_ ?_; rotate_left
                    · intro w'
                      go_simp
                      with_reducible rfl
                    rotate_left
                    · simp only [Act.put, yF, yG, yH, i64_w, i32_w]
                      rfl
                    refine pure_ (i := 8) (N := some 44) (v := ?_) (a' := ?_) #[true, true, true, true, false, true, true, true, true, false, false, false, false, false, false, false, false, false, false, false, false, false, false] rfl rfl (any_of HT_.out (by kernel_rfl)) (fun _ _ _ h => h) (Or.inl ⟨by rfl, ?_⟩) ?_ ?_; rotate_left
                    · intro w'
                      go_simp
                      with_reducible rfl
                    rotate_left
                    · simp only [Act.put, yF, yG, yH, i64_w, i32_w]
                      rfl
                    refine pure_ (i := 10) (N := some 46) (v := ?_) (a' := ?_) #[true, true, true, true, false, true, true, true, true, false, true, false, false, false, false, false, false, false, false, false, false, false, false] rfl rfl (any_of HT_.out (by kernel_rfl)) (fun _ _ _ h => h) (Or.inl ⟨by rfl, ?_⟩) ?_ ?_; rotate_left
                    · intro w'
                      go_simp
                      with_reducible rfl
                    rotate_left
                    · simp only [Act.put, yF, yG, yH, i64_w, i32_w]
                      rfl
                    refine pure_ (i := 11) (N := some 47) (v := ?_) (a' := ?_) #[true, true, true, true, false, true, true, true, true, false, true, true, false, false, false, false, false, false, false, false, false, false, false] rfl rfl (any_of HT_.out (by kernel_rfl)) (fun _ _ _ h => h) (Or.inl ⟨by rfl, ?_⟩) ?_ ?_; rotate_left
                    · intro w'
                      go_simp
                      with_reducible rfl
                    rotate_left
                    · simp only [Act.put, yF, yG, yH, i64_w, i32_w]
                      rfl
                    refine pure_ (i := 12) (N := some 48) (v := ?_) (a' := ?_) #[true, true, true, true, false, true, true, true, true, false, true, true, true, false, false, false, false, false, false, false, false, false, false] rfl rfl (any_of HT_.out (by kernel_rfl)) (fun _ _ _ h => h) (Or.inl ⟨by rfl, ?_⟩) ?_ ?_; rotate_left
                    · intro w'
                      go_simp
                      with_reducible rfl
                    rotate_left
                    · simp only [Act.put, yF, yG, yH, i64_w, i32_w]
                      rfl
                    refine pure_ (i := 13) (N := some 49) (v := ?_) (a' := ?_) #[true, true, true, true, false, true, true, true, true, false, true, true, true, true, false, false, false, false, false, false, false, false, false] rfl rfl (any_of HT_.out (by kernel_rfl)) (fun _ _ _ h => h) (Or.inl ⟨by rfl, ?_⟩) ?_ ?_; rotate_left
                    · intro w'
                      go_simp
                      with_reducible rfl
                    rotate_left
                    · simp only [Act.put, yF, yG, yH, i64_w, i32_w]
                      rfl
                    refine pure_ (i := 14) (N := some 50) (v := ?_) (a' := ?_) #[true, true, true, true, false, true, true, true, true, false, true, true, true, true, true, false, false, false, false, false, false, false, false] rfl rfl (any_of HT_.out (by kernel_rfl)) (fun _ _ _ h => h) (Or.inl ⟨by rfl, ?_⟩) ?_ ?_; rotate_left
                    · intro w'
                      go_simp
                      with_reducible rfl
                    rotate_left
                    · simp only [Act.put, yF, yG, yH, i64_w, i32_w]
                      rfl
                    refine pure_ (i := 16) (N := some 52) (v := ?_) (a' := ?_) #[true, true, true, true, false, true, true, true, true, false, true, true, true, true, true, false, true, false, false, false, false, false, false] rfl rfl (any_of HT_.out (by kernel_rfl)) (fun _ _ _ h => h) (Or.inl ⟨by rfl, ?_⟩) ?_ ?_; rotate_left
                    · intro w'
                      go_simp
                      with_reducible rfl
                    rotate_left
                    · simp only [Act.put, yF, yG, yH, i64_w, i32_w]
                      rfl
                    refine pure_ (i := 17) (N := some 53) (v := ?_) (a' := ?_) #[true, true, true, true, false, true, true, true, true, false, true, true, true, true, true, false, true, true, false, false, false, false, false] rfl rfl (any_of HT_.out (by kernel_rfl)) (fun _ _ _ h => h) (Or.inl ⟨by rfl, ?_⟩) ?_ ?_; rotate_left
                    · intro w'
                      go_simp
                      with_reducible rfl
                    rotate_left
                    · simp only [Act.put, yF, yG, yH, i64_w, i32_w]
                      rfl
                    refine pure_ (i := 18) (N := some 54) (v := ?_) (a' := ?_) #[true, true, true, true, false, true, true, true, true, false, true, true, true, true, true, false, true, true, true, false, false, false, false] rfl rfl (any_of HT_.out (by kernel_rfl)) (fun _ _ _ h => h) (Or.inl ⟨by rfl, ?_⟩) ?_ ?_; rotate_left
                    · intro w'
                      go_simp
                      with_reducible rfl
                    rotate_left
                    · simp only [Act.put, yF, yG, yH, i64_w, i32_w]
                      rfl
                    refine take_ (i := 4) (N := some 40) (v := ?_) (a' := ?_) #[true, true, true, true, true, true, true, true, true, false, true, true, true, true, true, false, true, true, true, false, false, false, false] rfl rfl (take_ofW HT_.out HW_.out (by kernel_rfl)) (fun _ _ _ h => h) (Or.inl ⟨by rfl, ?_⟩) hHeld ?_ ?_; rotate_left
                    · rintro w' ⟨s0, s1, s2, s3, s4, s5, s6, s7, s8, s9⟩
                      go_simp
                      with_reducible rfl
                    rotate_left
                    · simp only [Act.put, yF, yG, yH, i64_w, i32_w]
                      rfl
                    refine take_ (i := 9) (N := some 45) (v := ?_) (a' := ?_) #[true, true, true, true, true, true, true, true, true, true, true, true, true, true, true, false, true, true, true, false, false, false, false] rfl rfl (take_ofW HT_.out HW_.out (by kernel_rfl)) (fun _ _ _ h => h) (Or.inl ⟨by rfl, ?_⟩) hHeld ?_ ?_; rotate_left
                    · rintro w' ⟨s0, s1, s2, s3, s4, s5, s6, s7, s8, s9⟩
                      go_simp
                      with_reducible rfl
                    rotate_left
                    · simp only [Act.put, yF, yG, yH, i64_w, i32_w]
                      rfl
                    refine take_ (i := 15) (N := some 51) (v := ?_) (a' := ?_) #[true, true, true, true, true, true, true, true, true, true, true, true, true, true, true, true, true, true, true, false, false, false, false] rfl rfl (take_ofW HT_.out HW_.out (by kernel_rfl)) (fun _ _ _ h => h) (Or.inl ⟨by rfl, ?_⟩) hHeld ?_ ?_; rotate_left
                    · rintro w' ⟨s0, s1, s2, s3, s4, s5, s6, s7, s8, s9⟩
                      go_simp
                      with_reducible rfl
                    rotate_left
                    · simp only [Act.put, yF, yG, yH, i64_w, i32_w]
                      rfl
                    refine one_ (i := 19) (N := some 55) #[true, true, true, true, true, true, true, true, true, true, true, true, true, true, true, true, true, true, true, true, false, false, false] rfl rfl (one_of HT_.out (by kernel_rfl)) (by decide) (fun K hK => ?_)
                    refine goes_ Try.func109 (by kernel_rfl) rfl #[svVal (rdS st i), .int .i64 (rd l0 (2 * i)), .int .i64 (rd l0 (2 * i + 1)), .bool (decide (i ≥ n))] (by rfl) rfl rfl (by simp only [yK, yL, yM]; rfl) ?_
                    with_reducible refine (impl_extendSurvivors.calls (rdS st i) (rd l0 (2 * i)) (rd l0 (2 * i + 1)) (decide (i ≥ n)) y _ A3.out).mono ?_
                    rintro e w4 ⟨rfl, hyl, hb4⟩
                    refine ⟨_, rfl, ?_⟩
                    unfold svVal
                    have HY := zO hyl
                    have HO4 := zO (zY HO.out hb4)
                    have HB4 := zO (below_then HB.out HB.out.size hb4)
                    clear hyl
                    refine hK.out _ _ ⟨pw_cell_below hb4 (hHeld.1), pw_cell_below hb4 (hHeld.2.1), pw_cell_below hb4 (hHeld.2.2.1), pw_cell_below hb4 (hHeld.2.2.2.1), pw_cell_below hb4 (hHeld.2.2.2.2.1), pw_cell_below hb4 (hHeld.2.2.2.2.2.1), pw_cell_below hb4 (hHeld.2.2.2.2.2.2.1), pw_cell_below hb4 (hHeld.2.2.2.2.2.2.2.1), pw_cell_below hb4 (hHeld.2.2.2.2.2.2.2.2.1), pw_cell_below hb4 (hHeld.2.2.2.2.2.2.2.2.2)⟩ (fun hHeld => ?_)
                    clear hK K
                    refine norm_ (a' := ?_) ?_ ?_; rotate_left
                    · show Act.put _ (some 55) _ = _
                      simp only [Act.put, yF, yG, yH, i64_w, i32_w]
                      rfl
                    refine one_ (i := 20) (N := some 56) #[true, true, true, true, true, true, true, true, true, true, true, true, true, true, true, true, true, true, true, true, true, false, false] rfl rfl (one_of HT_.out (by kernel_rfl)) (by decide) (fun K hK => ?_)
                    refine value_ (w1 := ?_) (v := ?_) (by rfl) rfl ?_ ?_
                    rotate_left 2
                    · go_simp
                      constructor
                      · rfl
                      · rfl
                    refine hK.out _ _ ⟨(World.cell?_alloc_lt _ _ _ (World.block_lt_of_cell? _ _ (hHeld.1))).trans (hHeld.1), (World.cell?_alloc_lt _ _ _ (World.block_lt_of_cell? _ _ (hHeld.2.1))).trans (hHeld.2.1), (World.cell?_alloc_lt _ _ _ (World.block_lt_of_cell? _ _ (hHeld.2.2.1))).trans (hHeld.2.2.1), (World.cell?_alloc_lt _ _ _ (World.block_lt_of_cell? _ _ (hHeld.2.2.2.1))).trans (hHeld.2.2.2.1), (World.cell?_alloc_lt _ _ _ (World.block_lt_of_cell? _ _ (hHeld.2.2.2.2.1))).trans (hHeld.2.2.2.2.1), (World.cell?_alloc_lt _ _ _ (World.block_lt_of_cell? _ _ (hHeld.2.2.2.2.2.1))).trans (hHeld.2.2.2.2.2.1), (World.cell?_alloc_lt _ _ _ (World.block_lt_of_cell? _ _ (hHeld.2.2.2.2.2.2.1))).trans (hHeld.2.2.2.2.2.2.1), (World.cell?_alloc_lt _ _ _ (World.block_lt_of_cell? _ _ (hHeld.2.2.2.2.2.2.2.1))).trans (hHeld.2.2.2.2.2.2.2.1), (World.cell?_alloc_lt _ _ _ (World.block_lt_of_cell? _ _ (hHeld.2.2.2.2.2.2.2.2.1))).trans (hHeld.2.2.2.2.2.2.2.2.1), (World.cell?_alloc_lt _ _ _ (World.block_lt_of_cell? _ _ (hHeld.2.2.2.2.2.2.2.2.2))).trans (hHeld.2.2.2.2.2.2.2.2.2)⟩ (fun hHeld => ?_)
                    clear hK K
                    refine norm_ (a' := ?_) ?_ ?_; rotate_left
                    · show Act.put _ (some 56) _ = _
                      simp only [Act.put, yF, yG, yH, i64_w, i32_w]
                      rfl
                    refine last_ (i := 21) (N := some 57) #[true, true, true, true, true, true, true, true, true, true, true, true, true, true, true, true, true, true, true, true, true, true, false] rfl rfl (one_of HT_.out (by kernel_rfl)) (by decide) (fun K hK => ?_)
                    refine Kd.R_append_step svK w.heap.size (by rfl) (.tmp 36) (.tmp 56) 94 97 _ 64 rfl Try.underlying94 sv_info rfl (by decide) (by decide) _ st y _ (fun _ => True) (fun _ => False) (by rfl) (by rfl) ⟨HY.out, (sv_lst y HY.out).symm⟩ (fun _ hk => hk.elim) (fun _ _ => trivial) HO4.out HB4.out HB4.out.size (by have := J3.out; omega) ?_
                    intro v6 w6 ho6 hb6 hg6 hat6
                    have HO6 := zO ho6
                    have HB6 := zO hb6
                    clear ho6 hb6 hg6 hat6
                    refine hK.out _ _ ?_
                    clear hK K
                    refine norm_ (a' := ?_) ?_ ?_; rotate_left
                    · show Act.put _ (some 57) _ = _
                      simp only [Act.put, yF, yG, yH, i64_w, i32_w]
                      rfl
                    refine pure_ (i := 22) (N := some 5) (v := ?_) (a' := ?_) #[true, true, true, true, true, true, true, true, true, true, true, true, true, true, true, true, true, true, true, true, true, true, true] rfl rfl (any_of HT_.out (by kernel_rfl)) (fun _ _ _ h => h) (Or.inl ⟨by rfl, ?_⟩) ?_ ?_; rotate_left
                    · intro w'
                      go_simp
                      with_reducible rfl
                    rotate_left
                    · simp only [Act.put, yF, yG, yH, i64_w, i32_w]
                      rfl
                    refine done_ (done_of HT_.out (by kernel_rfl)) ?_
                    go_wp2
                    go_roundg k1
                    case measure => omega
                    case rel => exact ⟨_, wrap64 (i + 1), (by first | rfl | (simp; done) | (simp [*]; done)), H', ⟨by have := HK1.out; omega⟩, HO6, HB6⟩
                  · rw [if_neg i3] at H
                    exact absurd H (by simp)
                · rw [if_neg i2] at H
                  exact absurd H (by simp)
              · rw [if_neg i1] at H
                exact absurd H (by simp)
            · rw [if_neg i0] at H
              exact absurd H (by simp)
          · rw [if_neg c3, Option.bind_some] at H
            have c3b : decide (i < n + 2) = false := decide_eq_false c3
            have HA := zO H
            clear c3 H
            obtain ⟨bits, A40, H⟩ := yE.mp HA.out
            have A4 := zO A40
            by_cases m1 : n + 2 < (st.length : Int)
            · rw [if_pos m1] at H
              simp only [Option.some.injEq, Prod.mk.injEq] at H
              obtain ⟨rfl, rfl⟩ := H
              have M1 := zO m1
              clear HA A40 m1
              go_wp2_with (first | ((with_reducible refine zN (N := 59) rfl ?_); refine Kd.R_make (Kd.int .i64) (w0 := w) w.heap.size 3 rfl (N := 59) rfl 22 _ _ rfl n rfl rfl Try.underlying22 (.int .i64 0) 8 info3 rfl (by decide) (by omega) 0 (ok := fun _ => True) (okp := fun _ => True) rfl (fun _ hk => hk) trivial N0.out (by have := N0.out; have := N1.out; omega) HB.out HB.out.size ?_; intro v3 w3 ho3 hb3 hg3 hnew3; have HO3 := zO ho3; have HB3 := zO hb3; have HS3 := zO (Kd.R_grown HO.out hg3 (fun _ _ => by simp)); clear ho3 hb3 hg3 hnew3))
              go_loopg [8, 9] k (fun kq v8 v9 w' => ∃ (bs : List Int) (s i : Int), v8 = .int .i64 s ∧ v9 = .int .i64 i ∧ Aside0 (vitT st n kq bs s i = some bits) ∧ Aside0 (kq ≤ k) ∧ Aside0 (svK.R 97 w' w.heap.size (fun _ => True) u5 st) ∧ Aside0 (Kd.R (Kd.int .i64) 3 w' w.heap.size (fun _ => True) v3 bs) ∧ Aside0 (Below w.heap.size w w'))
              case atStart => exact ⟨_, 0, n + 2, rfl, rfl, A4, ⟨Nat.le_refl _⟩, HS3, HO3, HB3⟩
              case round =>
               clear A4 HS3 HO3 HB3 c3b
               obtain ⟨bs, s, i, rfl, rfl, HA, HK2, HS, HR, HB⟩ := hrel
               cases gk with
               | zero => exact absurd HA.out (by simp [vitT])
               | succ k2 =>
                have H := HA.out
                clear HA
                simp only [vitT] at H
                by_cases c4 : 0 < i
                · rw [if_pos c4] at H
                  have c4b : decide (0 < i) = true := decide_eq_true c4
                  by_cases i1 : i < (st.length : Int)
                  · rw [if_pos i1] at H
                    by_cases s0 : 0 ≤ s
                    · rw [if_pos s0] at H
                      by_cases s1 : s < 4
                      · rw [if_pos s1] at H
                        obtain ⟨g, cap, rfl, hgl, hsl, hsc⟩ := sv_row HS.out i (by omega) i1
                        have hml : st.length ≤ 9223372036854775807 := Kd.C_max (zX HS.out).2.2
                        obtain ⟨j, hj⟩ : ∃ j : Int, i - 1 = j := ⟨_, rfl⟩
                        have hw3 : IntKind.i64.wrap (i - 1) = j := (i64_w _).trans (by unfold wrap64; omega)
                        rw [hj] at H
                        have p1 : (0 ≤ i) = True := eq_true (by omega)
                        have q1 : (i < (st.length : Int)) = True := eq_true i1
                        have p2 : (0 ≤ s) = True := eq_true s0
                        have q2 : (s < 4) = True := eq_true s1
                        by_cases c5 : i ≤ n
                        · rw [if_pos c5] at H
                          have c5b : decide (i ≤ n) = true := decide_eq_true c5
                          by_cases b1 : j < (bs.length : Int)
                          · rw [if_pos b1] at H
                            have H' := zO H
                            clear H
                            obtain ⟨g2, cap2, rfl, hgb2, hgl2, _⟩ := Kd.R_form HR.out (by omega)
                            have GB := zO hgb2
                            clear hgb2
                            obtain ⟨hy, hz⟩ := Kd.R_celln 0 HR.out j (by omega) b1
                            have HP := Kd.R_putg HR.out j (Go.bits .and .i64 s 1)
                            have HS2 := Kd.R_over HS.out HR.out (by intro q hq; simp [svK] at hq; omega) HP.2
                            obtain ⟨g3, cap3, hv3, _, _, hsc3⟩ := sv_row HS2 i (by omega) i1
                            obtain ⟨rfl, rfl⟩ : g = g3 ∧ cap = cap3 := by
                              injection hv3 with e1 _ e3
                              injection e1 with e1
                              injection e1 with e1
                              exact ⟨e1, e3⟩
                            have x1 : (wr.setCell ⟨g2, j.toNat, none⟩ (.int .i64 (Go.bits .and .i64 s 1))).cell? ⟨g, i.toNat * 8 + 4 + s.toNat, none⟩ = some (.int .i64 (rd (rdS st i) (4 + s))) := by
                              have h9 := hsc3 (4 + s.toNat) (by omega)
                              rw [← Nat.add_assoc] at h9
                              rw [h9, show rd (rdS st i) (4 + s) = (rdS st i).getD (4 + s).toNat 0 from rfl, show (4 + s).toNat = 4 + s.toNat by omega]
                            have p3 : (0 ≤ j) = True := eq_true (by omega)
                            have q3 : (j < (bs.length : Int)) = True := eq_true b1
                            have I1 := zO i1
                            clear hj hsc hsc3 hsl c4 c5 b1 s0 s1 i1 hgl hgl2 hv3 hml
                            have HP1 := zO HP.1
                            have HP2 := zO HP.2
                            have HS3 := zO HS2
                            clear HP HS2
                            go_wp2
                            go_roundg k2
                            case measure => omega
                            case rel => exact ⟨_, _, _, rfl, rfl, H', ⟨by have := HK2.out; omega⟩, HS3, HP1, ⟨HB.out.setCell (by have := GB.out; exact this) _⟩⟩
                          · rw [if_neg b1] at H
                            exact absurd H (by simp)
                        · rw [if_neg c5] at H
                          have c5b : decide (i ≤ n) = false := decide_eq_false c5
                          have H' := zO H
                          have x1 : wr.cell? ⟨g, i.toNat * 8 + 4 + s.toNat, none⟩ = some (.int .i64 (rd (rdS st i) (4 + s))) := by
                            have h9 := hsc (4 + s.toNat) (by omega)
                            rw [← Nat.add_assoc] at h9
                            rw [h9, show rd (rdS st i) (4 + s) = (rdS st i).getD (4 + s).toNat 0 from rfl, show (4 + s).toNat = 4 + s.toNat by omega]
                          clear H hsc hsl c4 c5 s0 s1 i1 hgl hml hj
                          go_wp2
                          go_roundg k2
                          case measure => omega
                          case rel => exact ⟨_, _, _, rfl, rfl, H', ⟨by have := HK2.out; omega⟩, HS, HR, HB⟩
                      · rw [if_neg s1] at H
                        exact absurd H (by simp)
                    · rw [if_neg s0] at H
                      exact absurd H (by simp)
                  · rw [if_neg i1] at H
                    exact absurd H (by simp)
                · rw [if_neg c4] at H
                  obtain rfl := Option.some.inj H
                  have c4b : decide (0 < i) = false := decide_eq_false c4
                  clear c4 H
                  have n0 := N0.out
                  obtain ⟨g, cap, rfl, hgl, hsl, hsc⟩ := sv_row HS.out (n + 2) (by omega) M1.out
                  have x0 : wr.cell? ⟨g, (n + 2).toNat * 8, none⟩ = some (.int .i64 (rd (rdS st (n + 2)) 0)) := hsc 0 (by omega)
                  have p1 : (0 ≤ n + 2) = True := eq_true (by omega)
                  have q1 : (n + 2 < (st.length : Int)) = True := eq_true M1.out
                  clear n0 hsc hgl hsl
                  go_wp2
                  go_quiet (fail)
                  go_wp2
                  go_ret2
                  exact ⟨_, rfl, zW HR.out _, zL HB.out _⟩
            · rw [if_neg m1] at H
              exact absurd H (by simp)
      · rw [if_neg n1] at h
        exact absurd h (by simp)
    · rw [if_neg n0] at h
      exact absurd h (by simp)

def impl_copyBytes.f (a0 : List Int) : Option (List Int) := if a0.length ≤ 281474976710656 then some a0 else none
theorem impl_copyBytes.size : (Try.prog.info? 5).map (·.size) = some 1 := by kernel_rfl
theorem impl_copyBytes.calls (A0 : Option Addr) (c0 : Nat) (l0 : List Int) (r : List Int) (w : World) (hr0 : Kd.C (Kd.int .u8) w A0 l0.length l0) (hc0 : l0.length ≤ c0) (h : impl_copyBytes.f l0 = some r) :
    Calls Try.prog 80 #[.slice A0 l0.length c0] w fun e w' => ∃ v0_ : Value, e = .returned (v0_) ∧ Kd.R (Kd.int .u8) 5 w' w.heap.size (fun _ => True) v0_ r ∧ Below w.heap.size w w' := by
  unfold impl_copyBytes.f at h
  by_cases hb : l0.length ≤ 281474976710656
  · rw [if_pos hb] at h
    obtain rfl := Option.some.inj h
    have HR := zO hr0
    have HL := zO hb
    have h0 : (0 : Int) ≤ (l0.length : Int) := by omega
    have hl : (l0.length : Int).toNat * 1 ≤ 281474976710656 := by rw [Int.toNat_natCast]; omega
    clear hr0 h hb hc0
    have H0 := zO h0
    have H1 := zO hl
    clear h0 hl
    go_enter Try.func80, Try.ntmps80
    go_wp2_with (first | ((with_reducible refine zN (N := 6) rfl ?_); refine Kd.R_make (Kd.int .u8) _ 5 rfl (N := 6) rfl 31 _ _ rfl (l0.length : Int) rfl rfl Try.underlying31 (.int .u8 0) 1 info5 rfl (by decide) (by omega) 0 (ok := fun _ => True) (okp := fun _ => True) rfl (fun _ hk => hk) trivial H0.out H1.out (Below.refl _ _) (Nat.le_refl _) ?_; intro v1 w1 ho hb1 hg_ hnew_; clear hg_ hnew_; have HO := zO ho; have HB := zO hb1; clear ho hb1) | (refine Kd.R_copy_all .u8 w.heap.size 5 rfl (.tmp 7) (.tmp 8) 31 rfl Try.underlying31 impl_copyBytes.size _ A0 c0 _ l0 rfl rfl HO.out (Kd.C_below HR.out HB.out) (by simp) HB.out ?_; intro w2 ho2 hb2; have HO2 := zO ho2; have HB2 := zO hb2; clear ho2 hb2))
    go_ret
    exact ⟨_, rfl, HO2.out, HB2.out⟩
  · rw [if_neg hb] at h
    exact absurd h (by simp)

def impl_EqualBytes.l0 : Nat → List Int → List Int → Int → Int → Option (Bool)
  | 0, _, _, _, _ => none
  | k + 1, x0, x1, x12, x13 => if x13 < x12 then (if 0 ≤ x13 then (if x13 < (x0.length : Int) then (if x13 < (x1.length : Int) then (if (rd x0 x13) = (rd x1 x13) then (impl_EqualBytes.l0 k x0 x1 x12 (wrap64 (x13 + 1))) else (some false)) else (none)) else (none)) else (none)) else (some true)
def impl_EqualBytes.f (k : Nat) (l0 : List Int) (l1 : List Int) : Option (Bool) := if (l0.length : Int) = (l1.length : Int) then (impl_EqualBytes.l0 k l0 l1 (l0.length : Int) 0) else (some false)
theorem impl_EqualBytes.calls (k : Nat) (A0 : Option Addr) (c0 : Nat) (l0 : List Int) (A1 : Option Addr) (c1 : Nat) (l1 : List Int) (r : Bool) (w : World) (hr0 : Kd.C (Kd.int .u8) w A0 l0.length l0) (hc0 : l0.length ≤ c0) (hr1 : Kd.C (Kd.int .u8) w A1 l1.length l1) (hc1 : l1.length ≤ c1) (h : impl_EqualBytes.f k l0 l1 = some r) :
    Calls Try.prog 82 #[.slice A0 l0.length c0, .slice A1 l1.length c1] w fun e w' => e = .returned (.bool r) ∧ Drawn0 w w' := by
  have HR0 := zO hr0
  have HC0 := zO hc0
  clear hr0 hc0
  have HR1 := zO hr1
  have HC1 := zO hc1
  clear hr1 hc1
  have H : (if (l0.length : Int) = (l1.length : Int) then (impl_EqualBytes.l0 k l0 l1 (l0.length : Int) 0) else (some false)) = some r := h
  clear h
  by_cases c3 : (l0.length : Int) = (l1.length : Int)
  · rw [if_pos c3] at H
    have c3b0 : ((l0.length : Int) == (l1.length : Int)) = true := beq_iff_eq.mpr c3
    have c3b1 : ((l0.length : Int) != (l1.length : Int)) = false := bne_eq_false_iff_eq.mpr c3
    have c3b2 : (l0.length == l1.length) = true := by first | simpa using c3 | (simp at c3 ⊢; omega)
    clear c3
    have H' := zO H
    clear H
    go_enter Try.func82, Try.ntmps82
    go_wp2
    repeat (go_quiet (fail); try go_wp2)
    go_loopg [13] k (fun kq v13 w' => ∃ (x13_1 : Int), v13 = .int .i64 x13_1 ∧ Aside0 (impl_EqualBytes.l0 kq l0 l1 (l0.length : Int) x13_1 = some r) ∧ Aside0 (kq ≤ k) ∧ Drawn0 w w')
    case atStart => exact ⟨(0), (by first | rfl | (simp; done) | (simp [*]; done)), H', ⟨Nat.le_refl _⟩, by repeat (first | exact zP _ | apply zQ)⟩
    case round =>
      clear H'
      try clear c1
      try clear p2
      try clear c3
      try clear c3b0
      try clear c3b1
      try clear c3b2
      obtain ⟨x13_1, rfl, HA, HK1, ⟨m1, rfl⟩⟩ := hrel
      cases gk with
      | zero => exact absurd HA.out (by simp [impl_EqualBytes.l0])
      | succ k1 =>
        have H := HA.out
        clear HA
        simp only [impl_EqualBytes.l0] at H
        by_cases c4 : x13_1 < (l0.length : Int)
        · rw [if_pos c4] at H
          have c4b0 : decide (x13_1 < (l0.length : Int)) = true := decide_eq_true c4
          clear c4
          by_cases c5 : 0 ≤ x13_1
          · rw [if_pos c5] at H
            have c5b0 : decide (0 ≤ x13_1) = true := decide_eq_true c5
            clear c5
            by_cases c6 : x13_1 < (l0.length : Int)
            · rw [if_pos c6] at H
              have c6b0 : decide (x13_1 < (l0.length : Int)) = true := decide_eq_true c6
              clear c6
              by_cases c7 : x13_1 < (l1.length : Int)
              · rw [if_pos c7] at H
                have c7b0 : decide (x13_1 < (l1.length : Int)) = true := decide_eq_true c7
                clear c7
                by_cases c8 : (rd l0 x13_1) = (rd l1 x13_1)
                · rw [if_pos c8] at H
                  have c8b0 : ((rd l0 x13_1) == (rd l1 x13_1)) = true := beq_iff_eq.mpr c8
                  have c8b1 : ((rd l0 x13_1) != (rd l1 x13_1)) = false := bne_eq_false_iff_eq.mpr c8
                  clear c8
                  have H' := zO H
                  clear H
                  have p152 : 0 ≤ (x13_1 : Int) := yO (by assumption)
                  have q152 : x13_1 < (l0.length : Int) := yO (by assumption)
                  obtain ⟨ad152, e152, hx152_0⟩ := Kd.at_int HR0.out x13_1 p152 q152
                  cases e152
                  replace p152 := eq_true p152
                  replace q152 := eq_true q152
                  have p153 : 0 ≤ (x13_1 : Int) := yO (by assumption)
                  have q153 : x13_1 < (l1.length : Int) := yO (by assumption)
                  obtain ⟨ad153, e153, hx153_0⟩ := Kd.at_int HR1.out x13_1 p153 q153
                  cases e153
                  replace p153 := eq_true p153
                  replace q153 := eq_true q153
                  go_wp2
                  repeat (go_quiet (fail); try go_wp2)
                  go_roundg k1
                  case measure => have := HK1.out; omega
                  case rel => exact ⟨(wrap64 (x13_1 + 1)), (by first | rfl | (simp; done) | (simp [*]; done)), H', ⟨by have := HK1.out; omega⟩, by repeat (first | exact zP _ | apply zQ)⟩
                · rw [if_neg c8] at H
                  have c8b0 : ((rd l0 x13_1) == (rd l1 x13_1)) = false := beq_eq_false_iff_ne.mpr c8
                  have c8b1 : ((rd l0 x13_1) != (rd l1 x13_1)) = true := bne_iff_ne.mpr c8
                  obtain rfl := Option.some.inj H
                  have p152 : 0 ≤ (x13_1 : Int) := yO (by assumption)
                  have q152 : x13_1 < (l0.length : Int) := yO (by assumption)
                  obtain ⟨ad152, e152, hx152_0⟩ := Kd.at_int HR0.out x13_1 p152 q152
                  cases e152
                  replace p152 := eq_true p152
                  replace q152 := eq_true q152
                  have p153 : 0 ≤ (x13_1 : Int) := yO (by assumption)
                  have q153 : x13_1 < (l1.length : Int) := yO (by assumption)
                  obtain ⟨ad153, e153, hx153_0⟩ := Kd.at_int HR1.out x13_1 p153 q153
                  cases e153
                  replace p153 := eq_true p153
                  replace q153 := eq_true q153
                  go_wp2
                  repeat (go_quiet (fail); try go_wp2)
                  go_ret
                  exact ⟨by first | rfl | exact yP _ | (simp; done) | (simp [*]; done), by repeat (first | exact zP _ | apply zQ)⟩
              · rw [if_neg c7] at H
                exact absurd H (by simp)
            · rw [if_neg c6] at H
              exact absurd H (by simp)
          · rw [if_neg c5] at H
            exact absurd H (by simp)
        · rw [if_neg c4] at H
          have c4b0 : decide (x13_1 < (l0.length : Int)) = false := decide_eq_false c4
          clear c4
          obtain rfl := Option.some.inj H
          go_wp2
          repeat (go_quiet (fail); try go_wp2)
          go_ret
          exact ⟨by first | rfl | exact yP _ | (simp; done) | (simp [*]; done), by repeat (first | exact zP _ | apply zQ)⟩
  · rw [if_neg c3] at H
    have c3b0 : ((l0.length : Int) == (l1.length : Int)) = false := beq_eq_false_iff_ne.mpr c3
    have c3b1 : ((l0.length : Int) != (l1.length : Int)) = true := bne_iff_ne.mpr c3
    have c3b2 : (l0.length == l1.length) = false := by first | simpa using c3 | (simp at c3 ⊢; omega)
    obtain rfl := Option.some.inj H
    go_enter Try.func82, Try.ntmps82
    go_wp2
    repeat (go_quiet (fail); try go_wp2)
    go_ret
    exact ⟨by first | rfl | exact yP _ | (simp; done) | (simp [*]; done), by repeat (first | exact zP _ | apply zQ)⟩

end Go.Proofs.Ytldbmljooafkcaa.PFnFrameErrors
