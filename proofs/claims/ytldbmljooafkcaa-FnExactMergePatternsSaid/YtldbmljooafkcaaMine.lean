/-
  Words for the contracts of Go functions: 'make([]T, 0, c)' of whole numbers leaves an empty row of the call's own; 'copy' onto such a row.
  Conditions: those of each theorem.
-/
import Derived.Test.YtldbmljooafkcaaWMore
import Derived.Test.YtldbmljooafkcaaWNEv
import Derived.Laws.MakeOwn
import Derived.Laws.CopyOwn
set_option linter.unusedVariables false
set_option linter.unusedSimpArgs false
namespace Go.Proofs.YtldbmljooafkcaaW.PrintWords.Kd
open Go Go.RowKit Go.Proofs.YtldbmljooafkcaaW.PrintWords
section
variable {P : Program} {ops : Array Oper} {rest : List Oper} {o : Oper} {a : Act} {Q : Exit → Act → World → Prop} {Kc : Act → World → Prop}
theorem made0 {W : World} (k : IntKind) (base e : Nat) (t : TypeId) (n : Int)
    (ht : P.underlying t = some (.slice e)) (z : Value) (bytes : Nat) (hinfo : (P.info? e).map (fun i => (i.zero, i.size, i.bytes)) = some (some z, 1, bytes)) (hb0 : 0 < bytes)
    {ok : Nat → Prop} (hfresh : ok W.heap.size) (h0 : 0 ≤ n) (hl : n.toNat * bytes ≤ 281474976710656) (hbase : base ≤ W.heap.size) :
    ∃ (obj : Obj), (Instr.makeSlice t (.int .i64 0) (.int .i64 n)).run P W = .ok (.slice (some ⟨W.heap.size, 0, none⟩) 0 n.toNat) (W.alloc obj) ∧ (Kd.int k).R e (W.alloc obj) base ok (.slice (some ⟨W.heap.size, 0, none⟩) 0 n.toNat) [] := by
  obtain ⟨m, rfl⟩ := Int.eq_ofNat_of_zero_le h0
  simp only [Int.toNat_natCast] at hl ⊢
  obtain ⟨i0, hi, hzz⟩ := Option.map_eq_some_iff.1 hinfo
  simp only [Prod.mk.injEq] at hzz
  obtain ⟨hz0, hz1, hz2⟩ := hzz
  have hm : m ≤ 281474976710656 := Nat.le_trans (Nat.le_mul_of_pos_right _ hb0) hl
  have hr := run_make (P := P) W t e i0 z ht hi hz0 .i64 .i64 0 (m : Int) (by omega) (by omega)
    (by
      have h3 : ((i0.bytes * m : Nat) : Int) ≤ 281474976710656 := by rw [hz2, Nat.mul_comm]; omega
      rwa [Int.natCast_mul] at h3) (by omega)
  obtain ⟨w', hr', ho, _⟩ := run_make_own (P := P) W base t e i0 z 1 ht hi hz0 hz1 .i64 .i64 m (by rw [hz2, Nat.mul_comm]; exact hl) (by unfold maxLen; omega) hbase
  rw [hr] at hr'
  injection hr' with _ hw
  subst hw
  refine ⟨_, hr, R_of_own (enc := Value.int k) (h1 := fun _ => rfl) ho (fun q hq => ?_)⟩
  have : W.heap.size = q := by simpa [Value.ownBlock] using hq
  subst this
  exact hfresh
theorem R_make0 {w0 W : World} (k : IntKind) (base e : Nat) (hgd : o.guard = none) {N : Tmp} (_hd : o.dst = some N) (t : TypeId) (x y : Operand) (ho : o.op = .makeSlice t x y) (n : Int) (hx : a.eval x = .int .i64 0) (hy : a.eval y = .int .i64 n)
    (ht : P.underlying t = some (.slice e)) (z : Value) (bytes : Nat) (hinfo : (P.info? e).map (fun i => (i.zero, i.size, i.bytes)) = some (some z, 1, bytes)) (hb0 : 0 < bytes)
    {ok : Nat → Prop} (hfresh : ok W.heap.size) (h0 : 0 ≤ n) (hl : n.toNat * bytes ≤ 281474976710656) (HB : Below base w0 W) (hbase : base ≤ W.heap.size)
    (h : ∀ v1 w1, (Kd.int k).R e w1 base ok v1 [] → Below base w0 w1 → W.grownBy w1 none → (∃ b, v1.ownBlock = some b ∧ W.heap.size ≤ b) → wpList P ops Q rest (a.put o.dst v1) w1) : wpList P ops Q (o :: rest) a W := by
  obtain ⟨obj, hr, hR⟩ := made0 (P := P) (W := W) k base e t n ht z bytes hinfo hb0 (ok := ok) hfresh h0 hl hbase
  refine event_run hgd (w1 := W.alloc obj) ?_ (h _ _ hR (HB.alloc hbase _) (World.grownBy_alloc W _ none) ⟨W.heap.size, by simp [Value.ownBlock], Nat.le_refl _⟩)
  simp [execOp, ho, hx, hy, hr]
theorem R_make0_step {w0 W : World} (k : IntKind) (base e : Nat) (hw : Region.wanted o (yielded ops a.tmps) = true) {N : Tmp} (_hd : o.dst = some N) (t : TypeId) (x y : Operand) (ho : o.op = .makeSlice t x y) (n : Int) (hx : a.eval x = .int .i64 0) (hy : a.eval y = .int .i64 n)
    (ht : P.underlying t = some (.slice e)) (z : Value) (bytes : Nat) (hinfo : (P.info? e).map (fun i => (i.zero, i.size, i.bytes)) = some (some z, 1, bytes)) (hb0 : 0 < bytes)
    {ok : Nat → Prop} (hfresh : ok W.heap.size) (h0 : 0 ≤ n) (hl : n.toNat * bytes ≤ 281474976710656) (HB : Below base w0 W) (hbase : base ≤ W.heap.size)
    (h : ∀ v1 w1, (Kd.int k).R e w1 base ok v1 [] → Below base w0 w1 → W.grownBy w1 none → (∃ b, v1.ownBlock = some b ∧ W.heap.size ≤ b) → Kc (a.put o.dst v1) w1) : if Region.wanted o (yielded ops a.tmps) = true then Oper.wp P o a W Kc Q else Kc (a.put o.dst undef) W := by
  obtain ⟨obj, hr, hR⟩ := made0 (P := P) (W := W) k base e t n ht z bytes hinfo hb0 (ok := ok) hfresh h0 hl hbase
  refine event_step hw (w1 := W.alloc obj) ?_ (h _ _ hR (HB.alloc hbase _) (World.grownBy_alloc W _ none) ⟨W.heap.size, by simp [Value.ownBlock], Nat.le_refl _⟩)
  simp [execOp, ho, hx, hy, hr]
/-- 'copy' of a whole row that is read onto a row of the call's own that is as long. -/
theorem R_copy_all {w0 W : World} (k : IntKind) (base e : Nat) (hgd : o.guard = none) (d s : Operand) (t : TypeId) (ho : o.op = .call { callee := .builtin .copy, args := #[d, s], argTypes := #[t, t] })
    (ht : P.underlying t = some (.slice e)) (hsz : (P.info? e).map (·.size) = some 1) (v : Value) (A : Option Addr) (c : Nat) (xs ys : List Int) {ok : Nat → Prop} (hd : a.eval d = v) (hs : a.eval s = .slice A ys.length c)
    (HO : (Kd.int k).R e W base ok v xs) (HR : (Kd.int k).C W A ys.length ys) (hl : xs.length = ys.length) (HB : Below base w0 W)
    (h : ∀ w1, (Kd.int k).R e w1 base ok v ys → Below base w0 w1 → wpList P ops Q rest (a.put o.dst (goInt ys.length)) w1) : wpList P ops Q (o :: rest) a W := by
  have hown := own_of_R (enc := Value.int k) (h1 := fun _ => rfl) HO
  have hrd := reads_of_C (enc := Value.int k) (d := (0 : Int)) (h1 := fun _ => rfl) HR
  have hle : (encs (Value.int k) ys).length = ys.length := by simp [encs]
  have hone : ∀ u ∈ encs (Value.int k) ys, u.oneCell' = true := by
    intro u hu
    simp only [encs, List.mem_map] at hu
    obtain ⟨q, _, rfl⟩ := hu
    rfl
  rcases hown.2 with ⟨rfl, hz⟩ | ⟨g, cap, cur, rfl, hbg, hh, hnc, hcm, hcs, htk⟩
  · have hy : ys = [] := List.eq_nil_of_length_eq_zero (by omega)
    have hx : xs = [] := List.eq_nil_of_length_eq_zero hz
    subst hy
    subst hx
    exact wpList_copy_nothing hgd d s t t ho e ht hsz none A 0 0 _ c hd hs (by simp) (h W HO HB)
  · refine wpList_copy_splice hgd d s t t ho e ht hsz (some ⟨g, 0, none⟩) A xs.length cap ys.length c hd hs g 0 cur.toList e (by simpa using hh) (encs (Value.int k) ys) (by rw [hle, hl]; simp) (fun hp => ⟨rfl, ?_⟩) (by have h9 : cur.toList.length = cap * 1 := hcs; rw [hle, h9]; omega) hone base w0 HB hbg ?_
    · obtain ⟨ad, he, hc⟩ := hrd.2.2 (by omega)
      refine ⟨ad, he, fun j u hj => ?_⟩
      simp only [encs, List.getElem?_map] at hj
      cases hq : ys[j]? with
      | none => simp [hq] at hj
      | some q =>
        have hjl : j < ys.length := (List.getElem?_eq_some_iff.1 hq).1
        have h2 := hc j hjl
        rw [List.getD_eq_getElem?_getD, hq] at h2
        simp [hq] at hj
        rw [h2, ← hj]
        rfl
    · intro w1 hw hb
      rw [hle]
      refine h w1 (R_of_own (enc := Value.int k) (h1 := fun _ => rfl) ⟨by rw [hle]; omega, .inr ⟨g, cap, _, by rw [hl], hbg, hw.out, by omega, hcm, ?_, ?_⟩⟩ (fun q hq => HO.1 q hq)) hb
      · simp [splice, hle]
        omega
      · simp [splice, hle]
end
end Go.Proofs.YtldbmljooafkcaaW.PrintWords.Kd
