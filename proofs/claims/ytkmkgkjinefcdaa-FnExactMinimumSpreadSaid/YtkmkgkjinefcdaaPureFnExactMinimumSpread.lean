/-
  The program's MinimumSpread and the reference's agree at every count and number of columns.
  Conditions: none beyond the given statement's own.
-/
import Derived.Test.YtkmkgkjinefcdaaPFnExactMinimumSpreadx1
set_option linter.unusedVariables false
set_option linter.unusedSimpArgs false
namespace Go.Proofs.Ytkmkgkjinefcdaa.Pure
open Go.RowKit Go.Proofs.Ytkmkgkjinefcdaa.PFnExactMinimumSpread Go.Proofs.YtkmkgkjinefcdaaW.PrintWords Go.Proofs.YtkmkgkjinefcdaaW.PrintLast Go.Proofs.YtkmkgkjinefcdaaW.PrintMore

theorem in_some (x a b : Int) : impl_InRange.f x a b = some (decide (a ≤ x ∧ x ≤ b)) := by
  unfold impl_InRange.f
  by_cases h : a ≤ x <;> simp [h]

theorem l1_some (x a b : Int) : spec_l1In.f x a b = some (decide (a ≤ x ∧ x ≤ b)) := by
  unfold spec_l1In.f
  by_cases h : a ≤ x <;> simp [h]

theorem min_some (a b : Int) : impl_Min.f a b = some (if b < a then b else a) := by
  unfold impl_Min.f
  split <;> rfl
theorem smin_some (a b : Int) : spec_Min.f a b = some (if b < a then b else a) := by
  unfold spec_Min.f
  split <;> rfl
theorem isInter_some (a b : Int) : impl_isInterleaver.f a b = some (decide ((1 ≤ b ∧ b ≤ 64) ∧ (0 ≤ a ∧ a ≤ 10000))) := by
  unfold impl_isInterleaver.f
  by_cases h : 1 ≤ b ∧ b ≤ 64 <;> simp [in_some, h]
theorem l8_some (a b : Int) : spec_l8Ok.f a b = some (decide ((1 ≤ b ∧ b ≤ 64) ∧ (0 ≤ a ∧ a ≤ 10000))) := by
  unfold spec_l8Ok.f
  by_cases h : 1 ≤ b ∧ b ≤ 64 <;> simp [l1_some, h]
theorem idx_same (a b c : Int) : spec_InterleavedIndex.f a b c = impl_InterleavedIndex.f a b c := by
  unfold spec_InterleavedIndex.f impl_InterleavedIndex.f
  simp only [isInter_some, l8_some, in_some, l1_some, min_some, smin_some]
theorem idx_some (a b c : Int) : ∃ r, impl_InterleavedIndex.f a b c = some r := by
  unfold impl_InterleavedIndex.f
  simp only [isInter_some, in_some, min_some, Option.bind_some]
  by_cases h : (1 ≤ b ∧ b ≤ 64) ∧ (0 ≤ a ∧ a ≤ 10000)
  · rw [if_pos (by simpa using h)]
    split
    · rw [if_neg (by omega)]
      exact ⟨_, rfl⟩
    · exact ⟨_, rfl⟩
  · rw [if_neg (by simpa using h)]
    exact ⟨_, rfl⟩

theorem evp {α : Type} {c : Prop} [Decidable c] {A B : Nat → Option α} {r : α} (hc : c) (h : Ev A r) : Ev (fun k => if c then A k else B k) r :=
  Ev.congr (fun k => if_pos hc) h
theorem evn {α : Type} {c : Prop} [Decidable c] {A B : Nat → Option α} {r : α} (hc : ¬ c) (h : Ev B r) : Ev (fun k => if c then A k else B k) r :=
  Ev.congr (fun k => if_neg hc) h
theorem evs {α β : Type} {g : Option α} {a : α} {f : Nat → α → Option β} {r : β} (hg : g = some a) (h : Ev (fun k => f k a) r) : Ev (fun k => g.bind (f k)) r :=
  Ev.congr (fun k => by rw [hg]; rfl) h
theorem evc {α : Type} {g : Option α} {r : α} (h : g = some r) : Ev (fun _ => g) r := ⟨0, fun _ _ => h⟩
theorem ev_eq {α : Type} {g : Nat → Option α} {r r' : α} (h : Ev g r) (e : r = r') : Ev g r' := e ▸ h
theorem w64 {n : Int} (h0 : -9223372036854775808 ≤ n) (h1 : n ≤ 9223372036854775807) : wrap64 n = n := by
  unfold wrap64
  omega
theorem w64s {n : Int} (h0 : -1000000000000000000 ≤ n) (h1 : n ≤ 1000000000000000000) : wrap64 n = n := w64 (by omega) (by omega)
theorem ev1 {α : Type} {g : Nat → Option α} {r : α} (h : Ev (fun k => g (k + 1)) r) : Ev g r := Ev.step (fun _ => rfl) h
theorem dt {p : Prop} [Decidable p] (h : p) : decide p = true := decide_eq_true h
theorem dnt {p : Prop} [Decidable p] (h : ¬ p) : ¬ (decide p = true) := by simp [h]
theorem ntd {p : Prop} [Decidable p] (h : ¬ p) : (!decide p) = true := by simp [h]
theorem ntt {p : Prop} [Decidable p] (h : p) : ¬ ((!decide p) = true) := by simp [h]
theorem evk {α : Type} {g : Nat → Option α} {r : α} (h : ∀ k, g k = some r) : Ev g r := ⟨0, fun k _ => h k⟩

/-- The place of a symbol: in plain numbers. -/
def idxS (a b x : Int) : Int := x * (a / b) + (if a % b < x then a % b else x)
def idxF (a b c : Int) : Int := idxS a b (c % b) + c / b
theorem idx_upper (a b c : Int) (hb : 1 ≤ b) (hc : 0 ≤ c ∧ c < a) : idxF a b c < idxS a b (c % b + 1) ∧ idxS a b (c % b) ≤ idxF a b c := by
  have h1 : b * (c / b) + c % b = c := Int.mul_ediv_add_emod c b
  have h2 : b * (a / b) + a % b = a := Int.mul_ediv_add_emod a b
  have m1 : 0 ≤ c % b := Int.emod_nonneg _ (by omega)
  have m2 : c % b < b := Int.emod_lt_of_pos _ (by omega)
  have m3 : 0 ≤ a % b := Int.emod_nonneg _ (by omega)
  have m4 : a % b < b := Int.emod_lt_of_pos _ (by omega)
  have d1 : 0 ≤ a / b := Int.ediv_nonneg (by omega) (by omega)
  have d3 : 0 ≤ c / b := Int.ediv_nonneg hc.1 (by omega)
  unfold idxF idxS
  generalize c % b = x at *
  generalize a % b = y at *
  generalize a / b = z at *
  generalize c / b = u at *
  rw [Int.add_mul]
  by_cases hxy : x < y
  · have hu : u ≤ z := by
      rcases Int.lt_or_le z u with h | h
      · exfalso
        have : b * (z + 1) ≤ b * u := Int.mul_le_mul_of_nonneg_left (by omega) (by omega)
        rw [Int.mul_add] at this
        omega
      · exact h
    rw [if_neg (by omega), if_neg (by omega)]
    omega
  · have hu : u < z := by
      rcases Int.lt_or_le u z with h | h
      · exact h
      · exfalso
        have : b * z ≤ b * u := Int.mul_le_mul_of_nonneg_left (by omega) (by omega)
        omega
    rw [if_pos (show y < x + 1 by omega)]
    have e : (if y < x then y else x) = y := by split <;> omega
    rw [e]
    omega
theorem idxS_mono (a b x x' : Int) (hb : 1 ≤ b) (ha : 0 ≤ a) (h : x ≤ x') : idxS a b x ≤ idxS a b x' := by
  unfold idxS
  have d1 : 0 ≤ a / b := Int.ediv_nonneg ha (by omega)
  have : x * (a / b) ≤ x' * (a / b) := Int.mul_le_mul_of_nonneg_right h d1
  split <;> split <;> omega
theorem idxF_range (a b c : Int) (hb : 1 ≤ b) (hc : 0 ≤ c ∧ c < a) : 0 ≤ idxF a b c ∧ idxF a b c < a := by
  obtain ⟨h1, h2⟩ := idx_upper a b c hb hc
  have m1 : 0 ≤ c % b := Int.emod_nonneg _ (by omega)
  have m2 : c % b < b := Int.emod_lt_of_pos _ (by omega)
  have m3 : 0 ≤ a % b := Int.emod_nonneg _ (by omega)
  have m4 : a % b < b := Int.emod_lt_of_pos _ (by omega)
  have k1 := idxS_mono a b 0 (c % b) hb (by omega) m1
  have k2 := idxS_mono a b (c % b + 1) b hb (by omega) (by omega)
  have e0 : idxS a b 0 = 0 := by
    unfold idxS
    rw [Int.zero_mul, if_neg (by omega)]
    omega
  have e1 : idxS a b b = a := by
    unfold idxS
    rw [if_pos m4]
    exact Int.mul_ediv_add_emod a b
  omega
theorem idxF_inj (a b c c' : Int) (hb : 1 ≤ b) (hc : 0 ≤ c ∧ c < a) (hc' : 0 ≤ c' ∧ c' < a) (h : idxF a b c = idxF a b c') : c = c' := by
  obtain ⟨h1, h2⟩ := idx_upper a b c hb hc
  obtain ⟨h3, h4⟩ := idx_upper a b c' hb hc'
  have e : c % b = c' % b := by
    rcases Int.lt_trichotomy (c % b) (c' % b) with k | k | k
    · have := idxS_mono a b (c % b + 1) (c' % b) hb (by omega) (by omega)
      omega
    · exact k
    · have := idxS_mono a b (c' % b + 1) (c % b) hb (by omega) (by omega)
      omega
  have e2 : c / b = c' / b := by
    unfold idxF at h
    rw [e] at h
    omega
  have h5 : b * (c / b) + c % b = c := Int.mul_ediv_add_emod c b
  have h6 : b * (c' / b) + c' % b = c' := Int.mul_ediv_add_emod c' b
  rw [← h5, ← h6, e, e2]
theorem idx_is (a b c : Int) (hb : 1 ≤ b ∧ b ≤ 64) (ha : 0 ≤ a ∧ a ≤ 10000) (hc : 0 ≤ c ∧ c < a) : impl_InterleavedIndex.f a b c = some (idxF a b c) := by
  have hr := idxF_range a b c hb.1 hc
  unfold impl_InterleavedIndex.f
  simp only [isInter_some, in_some, min_some, Option.bind_some]
  rw [if_pos (by simpa using ⟨hb, ha⟩), if_pos (by rw [w64s (by omega) (by omega)]; simp; omega), if_neg (by omega)]
  have e1 : Int.tmod c b = c % b := Int.tmod_eq_emod_of_nonneg hc.1
  have e2 : Int.tmod a b = a % b := Int.tmod_eq_emod_of_nonneg ha.1
  have e3 : Int.tdiv a b = a / b := Int.tdiv_eq_ediv_of_nonneg ha.1
  have e4 : Int.tdiv c b = c / b := Int.tdiv_eq_ediv_of_nonneg hc.1
  rw [e1, e2, e3, e4]
  unfold idxF idxS at *
  have m1 : 0 ≤ c % b := Int.emod_nonneg _ (by omega)
  have m2 : c % b < b := Int.emod_lt_of_pos _ (by omega)
  have m3 : 0 ≤ a % b := Int.emod_nonneg _ (by omega)
  have m4 : a % b < b := Int.emod_lt_of_pos _ (by omega)
  have d1 : 0 ≤ a / b := Int.ediv_nonneg ha.1 (by omega)
  have d2 : a / b ≤ a := Int.ediv_le_self _ ha.1
  have d3 : 0 ≤ c / b := Int.ediv_nonneg hc.1 (by omega)
  have d4 : c / b ≤ c := Int.ediv_le_self _ hc.1
  generalize c % b = x at *
  generalize a % b = y at *
  generalize a / b = z at *
  generalize c / b = u at *
  have hx : 0 ≤ x * z := Int.mul_nonneg m1 d1
  have hx2 : x * z ≤ 64 * 10000 := Int.mul_le_mul (by omega) (by omega) d1 (by omega)
  rw [w64s (n := z) (by omega) (by omega), w64s (n := u) (by omega) (by omega)]
  have hmn : 0 ≤ (if y < x then y else x) ∧ (if y < x then y else x) ≤ 64 := by split <;> omega
  generalize (if y < x then y else x) = q at *
  generalize x * z = v at *
  rw [w64s (n := v) (by omega) (by omega), w64s (n := v + q) (by omega) (by omega), w64s (n := v + q + u) (by omega) (by omega)]

theorem wf64 {a : Int} (h : (Lit.int .i64 a).wf = true) : -9223372036854775808 ≤ a ∧ a ≤ 9223372036854775807 := by
  simpa [Lit.wf, IntKind.min, IntKind.max, IntKind.bits, IntKind.signed] using h
theorem wf8 {a : Int} (h : (Lit.int .u8 a).wf = true) : 0 ≤ a ∧ a ≤ 255 := by
  simpa [Lit.wf, IntKind.min, IntKind.max, IntKind.bits, IntKind.signed] using h

theorem max_some (a b : Int) : impl_Max.f a b = some (if b > a then b else a) := by
  unfold impl_Max.f
  split <;> rfl
theorem smax_some (a b : Int) : spec_Max.f a b = some (if b > a then b else a) := by
  unfold spec_Max.f
  split <;> rfl
theorem spread_loop (a b : Int) (hb : 1 ≤ b ∧ b ≤ 64) (ha : 2 ≤ a ∧ a ≤ 10000) : ∀ (d i : Nat) (m : Int), (i : Int) + d + 1 = a → 0 ≤ m ∧ m ≤ 10000 → 1 ≤ i →
    ∃ r, Ev (fun k => spec_MinimumSpread.l0 k a b m i) r ∧ Ev (fun k => impl_MinimumSpread.l0 k a b m i) r := by
  intro d
  induction d with
  | zero =>
    intro i m hi hm h1
    refine ⟨m, ev1 (evn (by rw [w64s (by omega) (by omega)]; omega) (ev1 (evk fun _ => rfl))), ev1 (evn (by rw [w64s (by omega) (by omega)]; omega) (evc rfl))⟩
  | succ d ih =>
    intro i m hi hm h1
    have hx := idx_is a b i hb (by omega) (by omega)
    have hy := idx_is a b (i + 1) hb (by omega) (by omega)
    have hxr := idxF_range a b i hb.1 (by omega)
    have hyr := idxF_range a b (i + 1) hb.1 (by omega)
    generalize idxF a b i = x at *
    generalize idxF a b (i + 1) = y at *
    have hw : wrap64 ((i : Int) + 1) = (i : Int) + 1 := w64s (by omega) (by omega)
    have hs : ∀ t : Int, t = (if y > x then y else x) - (if y < x then y else x) → t = (if wrap64 (-(wrap64 (y - x))) > wrap64 (y - x) then wrap64 (-(wrap64 (y - x))) else wrap64 (y - x)) := by
      intro t ht
      rw [w64s (n := y - x) (by omega) (by omega), w64s (n := -(y - x)) (by omega) (by omega)]
      split <;> split at ht <;> split at ht <;> omega
    generalize ht : (if y > x then y else x) - (if y < x then y else x) = t at *
    have hs := hs t rfl
    have ht0 : 0 ≤ t ∧ t ≤ 10000 := by split at ht <;> split at ht <;> omega
    by_cases hlt : t < m
    · obtain ⟨r, h2, h3⟩ := ih (i + 1) t (by omega) ht0 (by omega)
      refine ⟨r, ?_, ?_⟩
      · refine ev1 (evp (by rw [hw]; omega) (evs (l8_some _ _) (ev1 (evp (by simp; omega) (evs (by rw [idx_same]; exact hx) (evs (by rw [hw, idx_same]; exact hy) (evs (smax_some _ _) (evs (smin_some _ _) (evn (by omega) ?_)))))))))
        rw [ht, w64s (n := t) (by omega) (by omega), hw]
        exact evp hlt h2
      · refine ev1 (evp (by rw [hw]; omega) (evs (by rw [hw]; exact hy) (evs hx (evs (max_some _ _) (evs (min_some _ _) ?_)))))
        rw [← hs, if_pos hlt, hw]
        exact h3
    · obtain ⟨r, h2, h3⟩ := ih (i + 1) m (by omega) hm (by omega)
      refine ⟨r, ?_, ?_⟩
      · refine ev1 (evp (by rw [hw]; omega) (evs (l8_some _ _) (ev1 (evp (by simp; omega) (evs (by rw [idx_same]; exact hx) (evs (by rw [hw, idx_same]; exact hy) (evs (smax_some _ _) (evs (smin_some _ _) (evn (by omega) ?_)))))))))
        rw [ht, w64s (n := t) (by omega) (by omega), hw]
        exact evn hlt h2
      · refine ev1 (evp (by rw [hw]; omega) (evs (by rw [hw]; exact hy) (evs hx (evs (max_some _ _) (evs (min_some _ _) ?_)))))
        rw [← hs, if_neg hlt, hw]
        exact h3
theorem spread_ev (a b : Int) (ha' : (Lit.int .i64 a).wf = true) : ∃ r, Ev (fun k => spec_MinimumSpread.f k a b) r ∧ Ev (fun k => impl_MinimumSpread.f k a b) r := by
  have hwf := wf64 ha'
  unfold spec_MinimumSpread.f impl_MinimumSpread.f
  by_cases hb : (1 ≤ b ∧ b ≤ 64) ∧ (0 ≤ a ∧ a ≤ 10000)
  · by_cases ha : 2 ≤ a
    · have hx := idx_is a b 0 hb.1 (by omega) (by omega)
      have hy := idx_is a b 1 hb.1 (by omega) (by omega)
      have hxr := idxF_range a b 0 hb.1.1 (by omega)
      have hyr := idxF_range a b 1 hb.1.1 (by omega)
      generalize idxF a b 0 = x at *
      generalize idxF a b 1 = y at *
      have hw : wrap64 ((0 : Int) + 1) = 1 := w64s (by omega) (by omega)
      have hs : (if y > x then y else x) - (if y < x then y else x) = (if wrap64 (-(wrap64 (y - x))) > wrap64 (y - x) then wrap64 (-(wrap64 (y - x))) else wrap64 (y - x)) := by
        rw [w64s (n := y - x) (by omega) (by omega), w64s (n := -(y - x)) (by omega) (by omega)]
        split <;> split <;> split <;> omega
      have ht0 : 0 ≤ (if y > x then y else x) - (if y < x then y else x) ∧ (if y > x then y else x) - (if y < x then y else x) < a := by split <;> split <;> omega
      generalize ht : (if y > x then y else x) - (if y < x then y else x) = t at *
      obtain ⟨r, h1, h2⟩ := spread_loop a b hb.1 (by omega) (a - 2).toNat 1 t (by omega) (by omega) (by omega)
      refine ⟨r, ?_, ?_⟩
      · refine ev1 (evp (by rw [hw]; omega) (evs (l8_some _ _) (ev1 (evp (by simp; omega) (evs (by rw [idx_same]; exact hx) (evs (by rw [hw, idx_same]; exact hy) (evs (smax_some _ _) (evs (smin_some _ _) (evp rfl ?_)))))))))
        rw [ht, w64s (n := t) (by omega) (by omega), hw]
        exact h1
      · refine evs (isInter_some _ _) (evp (by simpa using hb) (ev1 (evn (by simpa using ha) (ev1 (evp (by rw [hw]; omega) (evs (by rw [hw]; exact hy) (evs hx (evs (max_some _ _) (evs (min_some _ _) ?_)))))))))
        rw [← hs, if_pos (by omega), hw]
        exact h2
    · refine ⟨0, ?_, ?_⟩
      · exact ev1 (evn (by rw [w64s (by omega) (by omega)]; omega) (ev1 (evk fun _ => rfl)))
      · exact evs (isInter_some _ _) (evp (by simpa using hb) (ev1 (evp (by simpa using (by omega : a < 2)) (evc rfl))))
  · refine ⟨0, ?_, ?_⟩
    · refine ev1 ?_
      by_cases h1 : wrap64 (0 + 1) < a
      · exact evp h1 (evs (l8_some _ _) (ev1 (evn (by simpa using hb) (evc rfl))))
      · exact evn h1 (ev1 (evk fun _ => rfl))
    · exact evs (isInter_some _ _) (evn (by simpa using hb) (ev1 (evk fun _ => rfl)))
theorem FnExactMinimumSpread : laws_FnExactMinimumSpread.Pure := by
  intro a b ha _
  refine Ev.rounds (r := true) ?_
  obtain ⟨r, h1, h2⟩ := spread_ev a b ha
  unfold laws_FnExactMinimumSpread.f
  exact Ev.bind h1 (Ev.bind h2 (evp rfl (evc rfl)))

end Go.Proofs.Ytkmkgkjinefcdaa.Pure
