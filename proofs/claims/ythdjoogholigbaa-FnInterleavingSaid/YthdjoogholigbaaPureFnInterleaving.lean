/-
  Interleaving is a permutation that deinterleaving undoes, at every drawn list of symbols and number of columns.
  Conditions: none beyond the given statement's own.
-/
import Derived.Test.YthdjoogholigbaaPFnInterleavingx3
set_option linter.unusedVariables false
set_option linter.unusedSimpArgs false
namespace Go.Proofs.Ythdjoogholigbaa.Pure
open Go.RowKit Go.Proofs.Ythdjoogholigbaa.PFnInterleaving Go.Proofs.YthdjoogholigbaaW.PrintWords Go.Proofs.YthdjoogholigbaaW.PrintLast Go.Proofs.YthdjoogholigbaaW.PrintMore

theorem in_some (x a b : Int) : impl_InRange.f x a b = some (decide (a ≤ x ∧ x ≤ b)) := by
  unfold impl_InRange.f
  by_cases h : a ≤ x <;> simp [h]

theorem min_some (a b : Int) : impl_Min.f a b = some (if b < a then b else a) := by
  unfold impl_Min.f
  split <;> rfl
theorem isInter_some (a b : Int) : impl_isInterleaver.f a b = some (decide ((1 ≤ b ∧ b ≤ 64) ∧ (0 ≤ a ∧ a ≤ 10000))) := by
  unfold impl_isInterleaver.f
  by_cases h : 1 ≤ b ∧ b ≤ 64 <;> simp [in_some, h]
theorem idx_some (a b c : Int) : ∃ r, impl_InterleavedIndex.f a b c = some r := by
  unfold impl_InterleavedIndex.f
  simp only [isInter_some, in_some, min_some, Option.bind_some]
  by_cases h : (1 ≤ b ∧ b ≤ 64) ∧ (0 ≤ a ∧ a ≤ 10000)
  · rw [if_pos (by simpa using h)]
    split
    · rw [if_neg (by omega)]
      exact ⟨_, rfl⟩
    · exact ⟨_, rfl⟩
  · rw [if_neg (by simpa using h)]
    exact ⟨_, rfl⟩

theorem evp {α : Type} {c : Prop} [Decidable c] {A B : Nat → Option α} {r : α} (hc : c) (h : Ev A r) : Ev (fun k => if c then A k else B k) r :=
  Ev.congr (fun k => if_pos hc) h
theorem evn {α : Type} {c : Prop} [Decidable c] {A B : Nat → Option α} {r : α} (hc : ¬ c) (h : Ev B r) : Ev (fun k => if c then A k else B k) r :=
  Ev.congr (fun k => if_neg hc) h
theorem evs {α β : Type} {g : Option α} {a : α} {f : Nat → α → Option β} {r : β} (hg : g = some a) (h : Ev (fun k => f k a) r) : Ev (fun k => g.bind (f k)) r :=
  Ev.congr (fun k => by rw [hg]; rfl) h
theorem evc {α : Type} {g : Option α} {r : α} (h : g = some r) : Ev (fun _ => g) r := ⟨0, fun _ _ => h⟩
theorem ev_eq {α : Type} {g : Nat → Option α} {r r' : α} (h : Ev g r) (e : r = r') : Ev g r' := e ▸ h
theorem w64 {n : Int} (h0 : -9223372036854775808 ≤ n) (h1 : n ≤ 9223372036854775807) : wrap64 n = n := by
  unfold wrap64
  omega
theorem w64s {n : Int} (h0 : -1000000000000000000 ≤ n) (h1 : n ≤ 1000000000000000000) : wrap64 n = n := w64 (by omega) (by omega)
theorem ev1 {α : Type} {g : Nat → Option α} {r : α} (h : Ev (fun k => g (k + 1)) r) : Ev g r := Ev.step (fun _ => rfl) h
theorem dt {p : Prop} [Decidable p] (h : p) : decide p = true := decide_eq_true h
theorem dnt {p : Prop} [Decidable p] (h : ¬ p) : ¬ (decide p = true) := by simp [h]
theorem ntd {p : Prop} [Decidable p] (h : ¬ p) : (!decide p) = true := by simp [h]
theorem ntt {p : Prop} [Decidable p] (h : p) : ¬ ((!decide p) = true) := by simp [h]
theorem evk {α : Type} {g : Nat → Option α} {r : α} (h : ∀ k, g k = some r) : Ev g r := ⟨0, fun k _ => h k⟩
theorem dec_iff {p q : Prop} [Decidable p] [Decidable q] (h : p ↔ q) : decide p = decide q := by
  by_cases hq : q
  · rw [decide_eq_true hq, decide_eq_true (h.2 hq)]
  · rw [decide_eq_false hq, decide_eq_false (fun hp => hq (h.1 hp))]

/-- The place of a symbol: in plain numbers. -/
def idxS (a b x : Int) : Int := x * (a / b) + (if a % b < x then a % b else x)
def idxF (a b c : Int) : Int := idxS a b (c % b) + c / b
theorem idx_upper (a b c : Int) (hb : 1 ≤ b) (hc : 0 ≤ c ∧ c < a) : idxF a b c < idxS a b (c % b + 1) ∧ idxS a b (c % b) ≤ idxF a b c := by
  have h1 : b * (c / b) + c % b = c := Int.mul_ediv_add_emod c b
  have h2 : b * (a / b) + a % b = a := Int.mul_ediv_add_emod a b
  have m1 : 0 ≤ c % b := Int.emod_nonneg _ (by omega)
  have m2 : c % b < b := Int.emod_lt_of_pos _ (by omega)
  have m3 : 0 ≤ a % b := Int.emod_nonneg _ (by omega)
  have m4 : a % b < b := Int.emod_lt_of_pos _ (by omega)
  have d1 : 0 ≤ a / b := Int.ediv_nonneg (by omega) (by omega)
  have d3 : 0 ≤ c / b := Int.ediv_nonneg hc.1 (by omega)
  unfold idxF idxS
  generalize c % b = x at *
  generalize a % b = y at *
  generalize a / b = z at *
  generalize c / b = u at *
  rw [Int.add_mul]
  by_cases hxy : x < y
  · have hu : u ≤ z := by
      rcases Int.lt_or_le z u with h | h
      · exfalso
        have : b * (z + 1) ≤ b * u := Int.mul_le_mul_of_nonneg_left (by omega) (by omega)
        rw [Int.mul_add] at this
        omega
      · exact h
    rw [if_neg (by omega), if_neg (by omega)]
    omega
  · have hu : u < z := by
      rcases Int.lt_or_le u z with h | h
      · exact h
      · exfalso
        have : b * z ≤ b * u := Int.mul_le_mul_of_nonneg_left (by omega) (by omega)
        omega
    rw [if_pos (show y < x + 1 by omega)]
    have e : (if y < x then y else x) = y := by split <;> omega
    rw [e]
    omega
theorem idxS_mono (a b x x' : Int) (hb : 1 ≤ b) (ha : 0 ≤ a) (h : x ≤ x') : idxS a b x ≤ idxS a b x' := by
  unfold idxS
  have d1 : 0 ≤ a / b := Int.ediv_nonneg ha (by omega)
  have : x * (a / b) ≤ x' * (a / b) := Int.mul_le_mul_of_nonneg_right h d1
  split <;> split <;> omega
theorem idxF_range (a b c : Int) (hb : 1 ≤ b) (hc : 0 ≤ c ∧ c < a) : 0 ≤ idxF a b c ∧ idxF a b c < a := by
  obtain ⟨h1, h2⟩ := idx_upper a b c hb hc
  have m1 : 0 ≤ c % b := Int.emod_nonneg _ (by omega)
  have m2 : c % b < b := Int.emod_lt_of_pos _ (by omega)
  have m3 : 0 ≤ a % b := Int.emod_nonneg _ (by omega)
  have m4 : a % b < b := Int.emod_lt_of_pos _ (by omega)
  have k1 := idxS_mono a b 0 (c % b) hb (by omega) m1
  have k2 := idxS_mono a b (c % b + 1) b hb (by omega) (by omega)
  have e0 : idxS a b 0 = 0 := by
    unfold idxS
    rw [Int.zero_mul, if_neg (by omega)]
    omega
  have e1 : idxS a b b = a := by
    unfold idxS
    rw [if_pos m4]
    exact Int.mul_ediv_add_emod a b
  omega
theorem idxF_inj (a b c c' : Int) (hb : 1 ≤ b) (hc : 0 ≤ c ∧ c < a) (hc' : 0 ≤ c' ∧ c' < a) (h : idxF a b c = idxF a b c') : c = c' := by
  obtain ⟨h1, h2⟩ := idx_upper a b c hb hc
  obtain ⟨h3, h4⟩ := idx_upper a b c' hb hc'
  have e : c % b = c' % b := by
    rcases Int.lt_trichotomy (c % b) (c' % b) with k | k | k
    · have := idxS_mono a b (c % b + 1) (c' % b) hb (by omega) (by omega)
      omega
    · exact k
    · have := idxS_mono a b (c' % b + 1) (c % b) hb (by omega) (by omega)
      omega
  have e2 : c / b = c' / b := by
    unfold idxF at h
    rw [e] at h
    omega
  have h5 : b * (c / b) + c % b = c := Int.mul_ediv_add_emod c b
  have h6 : b * (c' / b) + c' % b = c' := Int.mul_ediv_add_emod c' b
  rw [← h5, ← h6, e, e2]
theorem idx_is (a b c : Int) (hb : 1 ≤ b ∧ b ≤ 64) (ha : 0 ≤ a ∧ a ≤ 10000) (hc : 0 ≤ c ∧ c < a) : impl_InterleavedIndex.f a b c = some (idxF a b c) := by
  have hr := idxF_range a b c hb.1 hc
  unfold impl_InterleavedIndex.f
  simp only [isInter_some, in_some, min_some, Option.bind_some]
  rw [if_pos (by simpa using ⟨hb, ha⟩), if_pos (by rw [w64s (by omega) (by omega)]; simp; omega), if_neg (by omega)]
  have e1 : Int.tmod c b = c % b := Int.tmod_eq_emod_of_nonneg hc.1
  have e2 : Int.tmod a b = a % b := Int.tmod_eq_emod_of_nonneg ha.1
  have e3 : Int.tdiv a b = a / b := Int.tdiv_eq_ediv_of_nonneg ha.1
  have e4 : Int.tdiv c b = c / b := Int.tdiv_eq_ediv_of_nonneg hc.1
  rw [e1, e2, e3, e4]
  unfold idxF idxS at *
  have m1 : 0 ≤ c % b := Int.emod_nonneg _ (by omega)
  have m2 : c % b < b := Int.emod_lt_of_pos _ (by omega)
  have m3 : 0 ≤ a % b := Int.emod_nonneg _ (by omega)
  have m4 : a % b < b := Int.emod_lt_of_pos _ (by omega)
  have d1 : 0 ≤ a / b := Int.ediv_nonneg ha.1 (by omega)
  have d2 : a / b ≤ a := Int.ediv_le_self _ ha.1
  have d3 : 0 ≤ c / b := Int.ediv_nonneg hc.1 (by omega)
  have d4 : c / b ≤ c := Int.ediv_le_self _ hc.1
  generalize c % b = x at *
  generalize a % b = y at *
  generalize a / b = z at *
  generalize c / b = u at *
  have hx : 0 ≤ x * z := Int.mul_nonneg m1 d1
  have hx2 : x * z ≤ 64 * 10000 := Int.mul_le_mul (by omega) (by omega) d1 (by omega)
  rw [w64s (n := z) (by omega) (by omega), w64s (n := u) (by omega) (by omega)]
  have hmn : 0 ≤ (if y < x then y else x) ∧ (if y < x then y else x) ≤ 64 := by split <;> omega
  generalize (if y < x then y else x) = q at *
  generalize x * z = v at *
  rw [w64s (n := v) (by omega) (by omega), w64s (n := v + q) (by omega) (by omega), w64s (n := v + q + u) (by omega) (by omega)]

theorem rd_nat (l : List Int) (i : Nat) : rd l (i : Int) = l.getD i 0 := by
  unfold rd
  rw [Int.toNat_natCast]
theorem rd_mem {l : List Int} {i : Nat} (h : i < l.length) : l.getD i 0 ∈ l := by
  rw [List.getD_eq_getElem?_getD, List.getElem?_eq_getElem h]
  exact List.getElem_mem h
theorem list_ext {a b : List Int} (hl : a.length = b.length) (h : ∀ i, i < a.length → a.getD i 0 = b.getD i 0) : a = b := by
  apply List.ext_getElem hl
  intro i h1 h2
  have := h i h1
  rw [List.getD_eq_getElem?_getD, List.getD_eq_getElem?_getD, List.getElem?_eq_getElem h1, List.getElem?_eq_getElem h2] at this
  simpa using this
theorem getD_set (l : List Int) (i j : Nat) (v : Int) : (l.set i v).getD j 0 = if i = j ∧ j < l.length then v else l.getD j 0 := by
  rw [List.getD_eq_getElem?_getD, List.getElem?_set, List.getD_eq_getElem?_getD]
  by_cases h : i = j
  · subst h
    by_cases h2 : i < l.length
    · simp [h2]
    · simp [h2]
  · simp [h]

def ipl (l : List Int) (b : Int) (c : Nat) : Nat := (idxF (l.length : Int) b (c : Int)).toNat
def intGo (l : List Int) (b : Int) : Nat → Nat → List Int → List Int
  | 0, _, x => x
  | d + 1, i, x => intGo l b d (i + 1) (x.set (ipl l b i) (l.getD i 0))
def deGo (l : List Int) (b : Int) : Nat → Nat → List Int → List Int
  | 0, _, x => x
  | d + 1, i, x => deGo l b d (i + 1) (x.set i (l.getD (ipl l b i) 0))
theorem intGo_length (l : List Int) (b : Int) : ∀ (d i : Nat) (x : List Int), (intGo l b d i x).length = x.length
  | 0, _, _ => rfl
  | d + 1, i, x => by
    unfold intGo
    rw [intGo_length l b d]
    simp
theorem deGo_length (l : List Int) (b : Int) : ∀ (d i : Nat) (x : List Int), (deGo l b d i x).length = x.length
  | 0, _, _ => rfl
  | d + 1, i, x => by
    unfold deGo
    rw [deGo_length l b d]
    simp
theorem ipl_lt (l : List Int) (b : Int) (hb : 1 ≤ b) (c : Nat) (h : c < l.length) : ipl l b c < l.length ∧ ((ipl l b c : Nat) : Int) = idxF (l.length : Int) b (c : Int) := by
  have := idxF_range (l.length : Int) b (c : Int) hb (by omega)
  unfold ipl
  omega
theorem ipl_inj (l : List Int) (b : Int) (hb : 1 ≤ b) (c e : Nat) (h : c < l.length) (h' : e < l.length) (q : ipl l b c = ipl l b e) : c = e := by
  have h1 := (ipl_lt l b hb c h).2
  have h2 := (ipl_lt l b hb e h').2
  have := idxF_inj (l.length : Int) b (c : Int) (e : Int) hb (by omega) (by omega) (by omega)
  omega
theorem step_up (f : Int → Int) (p : Int) : ∀ n : Nat, f 0 ≤ p → p < f n → ∃ x : Nat, x < n ∧ f (x : Int) ≤ p ∧ p < f ((x : Int) + 1)
  | 0, h0, h1 => absurd h1 (by simp; omega)
  | n + 1, h0, h1 => by
    by_cases h : f (n : Int) ≤ p
    · exact ⟨n, by omega, h, by simpa using h1⟩
    · obtain ⟨x, hx, h2, h3⟩ := step_up f p n h0 (by omega)
      exact ⟨x, by omega, h2, h3⟩
theorem idxF_surj (a b p : Int) (hb : 1 ≤ b) (hp : 0 ≤ p ∧ p < a) : ∃ c : Int, (0 ≤ c ∧ c < a) ∧ idxF a b c = p := by
  have m3 : 0 ≤ a % b := Int.emod_nonneg _ (by omega)
  have m4 : a % b < b := Int.emod_lt_of_pos _ (by omega)
  have d1 : 0 ≤ a / b := Int.ediv_nonneg (by omega) (by omega)
  have e0 : idxS a b 0 = 0 := by
    unfold idxS
    rw [Int.zero_mul, if_neg (by omega)]
    omega
  have e1 : idxS a b b = a := by
    unfold idxS
    rw [if_pos m4]
    exact Int.mul_ediv_add_emod a b
  obtain ⟨x, hx, h2, h3⟩ := step_up (idxS a b) p b.toNat (by omega) (by rw [show ((b.toNat : Nat) : Int) = b by omega, e1]; omega)
  have hu : 0 ≤ p - idxS a b x := by omega
  have hm : ((p - idxS a b x) * b + x) % b = x := by
    rw [Int.add_comm, Int.add_mul_emod_self_right]
    exact Int.emod_eq_of_lt (by omega) (by omega)
  have hd : ((p - idxS a b x) * b + x) / b = p - idxS a b x := by
    rw [Int.add_comm, Int.add_mul_ediv_right _ _ (by omega), Int.ediv_eq_zero_of_lt (by omega) (by omega)]
    omega
  have hlt : (p - idxS a b x) * b + x < a := by
    have e2 : b * (a / b) + a % b = a := Int.mul_ediv_add_emod a b
    have e3 : idxS a b ((x : Int) + 1) = idxS a b x + a / b + (if (x : Int) < a % b then 1 else 0) := by
      unfold idxS
      rw [Int.add_mul, Int.one_mul]
      split <;> split <;> split <;> omega
    rw [e3] at h3
    have hu2 : p - idxS a b x < a / b + (if (x : Int) < a % b then 1 else 0) := by omega
    clear hm hd hu e3 h3 h2
    generalize p - idxS a b x = u at *
    by_cases hxy : (x : Int) < a % b
    · rw [if_pos hxy] at hu2
      have : u * b ≤ (a / b) * b := Int.mul_le_mul_of_nonneg_right (by omega) (by omega)
      rw [Int.mul_comm (a / b) b] at this
      omega
    · rw [if_neg hxy] at hu2
      have : (u + 1) * b ≤ (a / b) * b := Int.mul_le_mul_of_nonneg_right (by omega) (by omega)
      rw [Int.mul_comm (a / b) b, Int.add_mul] at this
      omega
  refine ⟨(p - idxS a b x) * b + x, ⟨?_, hlt⟩, ?_⟩
  · have := Int.mul_nonneg hu (show 0 ≤ b by omega)
    omega
  · unfold idxF
    rw [hm, hd]
    omega
theorem ipl_surj (l : List Int) (b : Int) (hb : 1 ≤ b) (p : Nat) (hp : p < l.length) : ∃ c : Nat, c < l.length ∧ ipl l b c = p := by
  obtain ⟨c, hc, e⟩ := idxF_surj (l.length : Int) b (p : Int) hb (by omega)
  obtain ⟨c, rfl⟩ := Int.eq_ofNat_of_zero_le hc.1
  refine ⟨c, by omega, ?_⟩
  unfold ipl
  rw [e]
  omega
theorem intGo_at (l : List Int) (b : Int) (hb : 1 ≤ b) : ∀ (d i : Nat) (x : List Int), i + d = l.length → x.length = l.length → (∀ j, j < i → x.getD (ipl l b j) 0 = l.getD j 0) → ∀ j, j < l.length → (intGo l b d i x).getD (ipl l b j) 0 = l.getD j 0 := by
  intro d
  induction d with
  | zero =>
    intro i x hi hx hj j h
    exact hj j (by omega)
  | succ d ih =>
    intro i x hi hx hj j h
    unfold intGo
    refine ih (i + 1) _ (by omega) (by simpa using hx) (fun j hj' => ?_) j h
    have := (ipl_lt l b hb j (by omega)).1
    rw [getD_set]
    by_cases e : i = j
    · subst e
      rw [if_pos ⟨rfl, by omega⟩]
    · rw [if_neg (fun q => e (ipl_inj l b hb i j (by omega) (by omega) q.1))]
      exact hj j (by omega)
theorem deGo_at (l : List Int) (b : Int) : ∀ (d i : Nat) (x : List Int), i + d = l.length → x.length = l.length → (∀ j, j < i → x.getD j 0 = l.getD (ipl l b j) 0) → ∀ j, j < l.length → (deGo l b d i x).getD j 0 = l.getD (ipl l b j) 0 := by
  intro d
  induction d with
  | zero =>
    intro i x hi hx hj j h
    exact hj j (by omega)
  | succ d ih =>
    intro i x hi hx hj j h
    unfold deGo
    refine ih (i + 1) _ (by omega) (by simpa using hx) (fun j hj' => ?_) j h
    rw [getD_set]
    by_cases e : i = j
    · subst e
      rw [if_pos ⟨rfl, by omega⟩]
    · rw [if_neg (fun q => e q.1)]
      exact hj j (by omega)
def intL (l : List Int) (b : Int) : List Int := if (1 ≤ b ∧ b ≤ 64) ∧ (0 ≤ (l.length : Int) ∧ (l.length : Int) ≤ 10000) then intGo l b l.length 0 l else l
def deL (l : List Int) (b : Int) : List Int := if (1 ≤ b ∧ b ≤ 64) ∧ (0 ≤ (l.length : Int) ∧ (l.length : Int) ≤ 10000) then deGo l b l.length 0 l else l
theorem intL_length (l : List Int) (b : Int) : (intL l b).length = l.length := by
  unfold intL
  split
  · exact intGo_length _ _ _ _ _
  · rfl
theorem deL_length (l : List Int) (b : Int) : (deL l b).length = l.length := by
  unfold deL
  split
  · exact deGo_length _ _ _ _ _
  · rfl

theorem iint_loop (l : List Int) (b : Int) (hb : 1 ≤ b ∧ b ≤ 64) (hn : l.length ≤ 10000) : ∀ (d i : Nat) (x : List Int), i + d = l.length → x.length = l.length → Ev (fun k => impl_Interleave.l0 k l b x l l.length i) (intGo l b d i x) := by
  intro d
  induction d with
  | zero =>
    intro i x hi hx
    exact ev1 (evn (by omega) (evc rfl))
  | succ d ih =>
    intro i x hi hx
    obtain ⟨h1, h2⟩ := ipl_lt l b hb.1 i (by omega)
    refine ev1 (evp (by omega) (evp (by omega) (evp (by omega) (evs (idx_is _ _ _ hb (by omega) (by omega)) ?_))))
    rw [← h2, rd_nat, w64s (n := (i : Int) + 1) (by omega) (by omega), Int.toNat_natCast]
    exact evp (by omega) (evp (by omega) (ih (i + 1) _ (by omega) (by simpa using hx)))
theorem iint_ev (l : List Int) (b : Int) (hn : l.length ≤ 4000000) : Ev (fun k => impl_Interleave.f k l b) (intL l b) := by
  unfold impl_Interleave.f intL
  refine evs (show impl_copyInts.f l = some l from if_pos (by omega)) (evs (isInter_some _ _) ?_)
  by_cases h : (1 ≤ b ∧ b ≤ 64) ∧ (0 ≤ (l.length : Int) ∧ (l.length : Int) ≤ 10000)
  · rw [if_pos h]
    exact evp (dt h) (iint_loop l b h.1 (by omega) l.length 0 l (by omega) rfl)
  · rw [if_neg h]
    exact evn (dnt h) (evc rfl)

theorem ide_loop (l : List Int) (b : Int) (hb : 1 ≤ b ∧ b ≤ 64) (hn : l.length ≤ 10000) : ∀ (d i : Nat) (x : List Int), i + d = l.length → x.length = l.length → Ev (fun k => impl_Deinterleave.l0 k l b x l.length i) (deGo l b d i x) := by
  intro d
  induction d with
  | zero =>
    intro i x hi hx
    exact ev1 (evn (by omega) (evc rfl))
  | succ d ih =>
    intro i x hi hx
    obtain ⟨h1, h2⟩ := ipl_lt l b hb.1 i (by omega)
    refine ev1 (evp (by omega) (evs (idx_is _ _ _ hb (by omega) (by omega)) ?_))
    rw [← h2, rd_nat, w64s (n := (i : Int) + 1) (by omega) (by omega), Int.toNat_natCast]
    exact evp (by omega) (evp (by omega) (evp (by omega) (evp (by omega) (ih (i + 1) _ (by omega) (by simpa using hx)))))
theorem ide_ev (l : List Int) (b : Int) (hn : l.length ≤ 4000000) : Ev (fun k => impl_Deinterleave.f k l b) (deL l b) := by
  unfold impl_Deinterleave.f deL
  refine evs (show impl_copyInts.f l = some l from if_pos (by omega)) (evs (isInter_some _ _) ?_)
  by_cases h : (1 ≤ b ∧ b ≤ 64) ∧ (0 ≤ (l.length : Int) ∧ (l.length : Int) ≤ 10000)
  · rw [if_pos h]
    exact evp (dt h) (ide_loop l b h.1 (by omega) l.length 0 l (by omega) rfl)
  · rw [if_neg h]
    exact evn (dnt h) (evc rfl)

theorem rdB_nat (s : List Bool) (i : Nat) : rdOf false s (i : Int) = s.getD i false := by
  unfold rdOf
  rw [Int.toNat_natCast]
theorem getDB_set (l : List Bool) (i j : Nat) (v : Bool) : (l.set i v).getD j false = if i = j ∧ j < l.length then v else l.getD j false := by
  rw [List.getD_eq_getElem?_getD, List.getElem?_set, List.getD_eq_getElem?_getD]
  by_cases h : i = j
  · subst h
    by_cases h2 : i < l.length
    · simp [h2]
    · simp [h2]
  · simp [h]
theorem ptrue_loop (x : List Int) (hn : x.length ≤ 1048576) (hr : ∀ j, j < x.length → 0 ≤ x.getD j 0 ∧ x.getD j 0 < x.length) (hd : ∀ i j, i < j → j < x.length → x.getD i 0 ≠ x.getD j 0) : ∀ (d i : Nat) (s : List Bool), i + d = x.length → s.length = x.length →
    (∀ p : Nat, s.getD p false = true → ∃ j, j < i ∧ x.getD j 0 = (p : Int)) → Ev (fun k => impl_IsPermutation.l0 k x s x x.length i) true := by
  intro d
  induction d with
  | zero =>
    intro i s hi hs hm
    exact ev1 (evn (by omega) (evc rfl))
  | succ d ih =>
    intro i s hi hs hm
    have h := hr i (by omega)
    obtain ⟨p, hp⟩ := Int.eq_ofNat_of_zero_le h.1
    have hrd : rd x (i : Int) = (p : Int) := by rw [rd_nat, hp]
    refine ev1 (evp (by omega) (evp (by omega) (evp (by omega) ?_)))
    rw [hrd]
    refine evn (by omega) (evn (by omega) (evp (by omega) (evp (by omega) (evn ?_ ?_))))
    · rw [rdB_nat]
      intro e
      obtain ⟨j, hj, ej⟩ := hm p e
      exact hd j i hj (by omega) (by rw [ej, hp])
    · rw [w64s (by omega) (by omega), Int.toNat_natCast]
      refine ih (i + 1) (s.set p true) (by omega) (by simpa using hs) (fun q hq => ?_)
      rw [getDB_set] at hq
      by_cases e : p = q ∧ q < s.length
      · exact ⟨i, by omega, by rw [hp, e.1]⟩
      · rw [if_neg e] at hq
        obtain ⟨j, hj, ej⟩ := hm q hq
        exact ⟨j, by omega, ej⟩
theorem ptrue_ev (x : List Int) (hn : x.length ≤ 1048576) (hr : ∀ j, j < x.length → 0 ≤ x.getD j 0 ∧ x.getD j 0 < x.length) (hd : ∀ i j, i < j → j < x.length → x.getD i 0 ≠ x.getD j 0) : Ev (fun k => impl_IsPermutation.f k x) true := by
  unfold impl_IsPermutation.f
  refine evp (by omega) (evp (by omega) ?_)
  refine ptrue_loop x hn hr hd x.length 0 _ (by omega) (by simp) (fun p hp => ?_)
  rw [List.getD_eq_getElem?_getD] at hp
  by_cases h : p < x.length
  · rw [List.getElem?_eq_getElem (by simpa using h)] at hp
    simp at hp
  · rw [List.getElem?_eq_none (by simp; omega)] at hp
    simp at hp
theorem pdup_loop (x : List Int) (hn : x.length ≤ 1048576) (hr : ∀ j, j < x.length → 0 ≤ x.getD j 0 ∧ x.getD j 0 < x.length) (a c : Nat) (hac : a < c) (hc : c < x.length) (he : x.getD a 0 = x.getD c 0) : ∀ (d i : Nat) (s : List Bool), i + d = c → s.length = x.length →
    (a < i → s.getD (x.getD a 0).toNat false = true) → Ev (fun k => impl_IsPermutation.l0 k x s x x.length i) false := by
  intro d
  induction d with
  | zero =>
    intro i s hi hs hm
    have h := hr i (by omega)
    refine ev1 (evp (by omega) (evp (by omega) (evp (by omega) ?_)))
    have e : i = c := by omega
    subst e
    have h1 := hm hac
    rw [he] at h1
    obtain ⟨p, hp⟩ := Int.eq_ofNat_of_zero_le h.1
    rw [hp, Int.toNat_natCast] at h1
    rw [rd_nat, hp]
    exact evn (by omega) (evn (by omega) (evp (by omega) (evp (by omega) (evp (by rw [rdB_nat, h1]) (evc rfl)))))
  | succ d ih =>
    intro i s hi hs hm
    have h := hr i (by omega)
    obtain ⟨p, hp⟩ := Int.eq_ofNat_of_zero_le h.1
    refine ev1 (evp (by omega) (evp (by omega) (evp (by omega) ?_)))
    rw [rd_nat, hp]
    refine evn (by omega) (evn (by omega) (evp (by omega) (evp (by omega) ?_)))
    by_cases hb : rdOf false s (p : Int) = true
    · exact evp hb (evc rfl)
    · refine evn hb ?_
      rw [w64s (by omega) (by omega), Int.toNat_natCast]
      refine ih (i + 1) (s.set p true) (by omega) (by simpa using hs) (fun hq => ?_)
      rw [getDB_set]
      by_cases e : a = i
      · subst e
        rw [hp, Int.toNat_natCast, if_pos ⟨rfl, by omega⟩]
      · have := hm (by omega)
        rw [this]
        split <;> rfl
theorem pdup_ev (x : List Int) (hn : x.length ≤ 1048576) (hr : ∀ j, j < x.length → 0 ≤ x.getD j 0 ∧ x.getD j 0 < x.length) (a c : Nat) (hac : a < c) (hc : c < x.length) (he : x.getD a 0 = x.getD c 0) : Ev (fun k => impl_IsPermutation.f k x) false := by
  unfold impl_IsPermutation.f
  refine evp (by omega) (evp (by omega) ?_)
  exact pdup_loop x hn hr a c hac hc he c 0 _ (by omega) (by simp) (fun h => by omega)

theorem same_loop (x : List Int) (hn : x.length ≤ 4000000000000000) : ∀ (d i : Nat), i + d = x.length → Ev (fun k => laws_sameInts.l0 k x x i) true := by
  intro d
  induction d with
  | zero =>
    intro i hi
    exact ev1 (evn (by omega) (evc rfl))
  | succ d ih =>
    intro i hi
    refine ev1 (evp (by omega) (evp (by omega) (evp (by omega) (evp rfl ?_))))
    rw [w64s (by omega) (by omega)]
    exact ih (i + 1) (by omega)
theorem same_ev (l : List Int) (hn : l.length ≤ 4000000000000000) : Ev (fun k => laws_sameInts.f k l l) true := by
  unfold laws_sameInts.f
  exact evp rfl (same_loop l hn l.length 0 (by omega))

theorem and255 (x : Int) : 0 ≤ Go.bits .and .i64 x 255 ∧ Go.bits .and .i64 x 255 ≤ 255 := by
  have h : ∀ n : Nat, n ≤ 255 → IntKind.i64.wrap (n : Int) = n := by
    intro n hn
    rw [IntKind.wrap_i64]
    omega
  have e : Go.bits .and .i64 x 255 = IntKind.i64.wrap ((BitVec.ofInt 64 x &&& BitVec.ofInt 64 255).toNat : Int) := rfl
  have hle : (BitVec.ofInt 64 x &&& BitVec.ofInt 64 255).toNat ≤ 255 := by
    rw [BitVec.toNat_and]
    exact Nat.and_le_right
  rw [e, h _ hle]
  omega
/-- The draw's cursor lies within the code. -/
def Cur (l : List Int) (i : Int) : Prop := 0 ≤ i ∧ i ≤ l.length
theorem new_loop (x : List Int) (hn : x.length ≤ 4000000000000000) : ∀ (d i : Nat) (h : Int), i + d = x.length → ∃ h', Ev (fun k => spec_l1New.l0 k x h i) (x, 0, h') := by
  intro d
  induction d with
  | zero =>
    intro i h hi
    exact ⟨h, ev1 (evn (by omega) (evc rfl))⟩
  | succ d ih =>
    intro i h hi
    by_cases h4 : (i : Int) < 4000
    · obtain ⟨h', hh⟩ := ih (i + 1) (Go.bits .and .i64 (wrap64 ((wrap64 ((wrap64 (h * 137)) + (wrap64 (rd x i)))) + 11)) 1073741823) (by omega)
      refine ⟨h', ev1 (evp (by omega) (evp h4 (evp (by omega) ?_)))⟩
      rw [w64s (n := (i : Int) + 1) (by omega) (by omega)]
      exact hh
    · exact ⟨h, ev1 (evp (by omega) (evn h4 (evc rfl)))⟩
theorem new_ev (l : List Int) (hn : l.length ≤ 4000000000000000) : ∃ h', Ev (fun k => spec_l1New.f k l) (l, 0, h') := by
  unfold spec_l1New.f
  exact new_loop l hn l.length 0 _ (by omega)
theorem byte_some (l : List Int) (hn : l.length ≤ 4000000000000000) (i h : Int) (hc : Cur l i) : ∃ x i' h', spec_l1Byte.f l i h = some (x, i', h') ∧ (0 ≤ x ∧ x ≤ 255) ∧ Cur l i' := by
  unfold spec_l1Byte.f
  unfold Cur at *
  by_cases hi : i < (l.length : Int)
  · rw [if_pos hi, if_pos hc.1]
    refine ⟨_, _, _, rfl, and255 _, ?_⟩
    rw [w64s (n := i + 1) (by omega) (by omega)]
    omega
  · rw [if_neg hi]
    exact ⟨_, _, _, rfl, and255 _, hc⟩
theorem below_some (l : List Int) (hn : l.length ≤ 4000000000000000) (i h : Int) (hc : Cur l i) (n : Int) (h1 : 1 ≤ n) (h2 : n ≤ 1000000000000) : ∃ x i' h', spec_l1Below.f l i h n = some (x, i', h') ∧ (0 ≤ x ∧ x < n) ∧ Cur l i' := by
  unfold spec_l1Below.f
  rw [if_neg (by omega)]
  by_cases h3 : n ≤ 256
  · rw [if_pos h3]
    obtain ⟨x, i', h', e, hx, hc'⟩ := byte_some l hn i h hc
    rw [e]
    simp only [Option.bind_some]
    rw [if_neg (by omega)]
    refine ⟨_, _, _, rfl, ?_, hc'⟩
    rw [Int.tmod_eq_emod_of_nonneg hx.1]
    exact ⟨Int.emod_nonneg _ (by omega), Int.emod_lt_of_pos _ (by omega)⟩
  · rw [if_neg h3]
    obtain ⟨x, i', h', e, hx, hc'⟩ := byte_some l hn i h hc
    rw [e]
    simp only [Option.bind_some]
    obtain ⟨y, i2, h2, e2, hy, hc2⟩ := byte_some l hn i' h' hc'
    rw [e2]
    simp only [Option.bind_some]
    obtain ⟨z, i3, h3, e3, hz, hc3⟩ := byte_some l hn i2 h2 hc2
    rw [e3]
    simp only [Option.bind_some]
    rw [if_neg (by omega)]
    refine ⟨_, _, _, rfl, ?_, hc3⟩
    rw [w64s (n := x * 65536) (by omega) (by omega), w64s (n := y * 256) (by omega) (by omega), w64s (n := x * 65536 + y * 256) (by omega) (by omega), w64s (n := x * 65536 + y * 256 + z) (by omega) (by omega)]
    rw [Int.tmod_eq_emod_of_nonneg (by omega)]
    exact ⟨Int.emod_nonneg _ (by omega), Int.emod_lt_of_pos _ (by omega)⟩

theorem int_some (l : List Int) (hn : l.length ≤ 4000000000000000) (i h : Int) (hc : Cur l i) (ls : List Int) (h1 : 1 ≤ ls.length) (h2 : ls.length ≤ 1000) : ∃ x i' h', spec_l1Int.f l i h ls = some (x, i', h') ∧ x ∈ ls ∧ Cur l i' := by
  unfold spec_l1Int.f
  obtain ⟨x, i', h', e, hx, hc'⟩ := below_some l hn i h hc (ls.length : Int) (by omega) (by omega)
  rw [e]
  simp only [Option.bind_some]
  rw [if_pos hx.1, if_pos hx.2]
  obtain ⟨j, rfl⟩ := Int.eq_ofNat_of_zero_le hx.1
  refine ⟨_, _, _, rfl, ?_, hc'⟩
  rw [rd_nat]
  exact rd_mem (by omega)

theorem sym_loop (L : List Int) (hL : L.length ≤ 4000000000000000) : ∀ (d : Nat) (x : List Int) (i h : Int), d ≤ 1000 → x.length + d ≤ 1000 → Cur L i → ∃ (r : List Int) (b : Int), Ev (fun k => spec_l8Symbols.l0 k x d L i h) (r, b) ∧ r.length ≤ 1000 := by
  intro d
  induction d with
  | zero =>
    intro x i h hd hx hc
    obtain ⟨v, i2, h2, e2, hv, hc2⟩ := int_some L hL i h hc [1, 2, 3, 4, 7, 64, 0, 65, (-1)] (by decide) (by decide)
    refine ⟨x, v, ev1 (evn (by omega) (evs (show spec_l8Columns.f L i h = some (v, i2, h2) by unfold spec_l8Columns.f; rw [e2]; rfl) (evc rfl))), by omega⟩
  | succ d ih =>
    intro x i h hd hx hc
    obtain ⟨j, i1, h1, e1, hj, hc1⟩ := below_some L hL i h hc 9 (by omega) (by omega)
    obtain ⟨r, b, e, hr⟩ := ih (x ++ [j]) i1 h1 (by omega) (by simp; omega) hc1
    refine ⟨r, b, ev1 (evp (by omega) (evs e1 (evp (by omega) ?_))), hr⟩
    rw [show ((d + 1 : Nat) : Int) - 1 = (d : Int) by omega, w64s (n := (d : Int)) (by omega) (by omega)]
    exact e
theorem sym_ev (L : List Int) (hL : L.length ≤ 4000000000000000) : ∃ (r : List Int) (b : Int), Ev (fun k => spec_DrawInterleave.f k L) (r, b) ∧ r.length ≤ 1000 := by
  obtain ⟨h0, e0⟩ := new_ev L hL
  obtain ⟨n, i1, h1, e1, hn, hc1⟩ := below_some L hL 0 h0 ⟨by omega, by omega⟩ 25 (by omega) (by omega)
  obtain ⟨n, rfl⟩ := Int.eq_ofNat_of_zero_le hn.1
  obtain ⟨r, b, e, hr⟩ := sym_loop L hL n [] i1 h1 (by omega) (by simp; omega) hc1
  refine ⟨r, b, ?_, hr⟩
  unfold spec_DrawInterleave.f spec_l8Symbols.f
  exact Ev.bind (Ev.bind e0 (evs e1 e)) (evc rfl)
theorem de_int (l : List Int) (b : Int) : deL (intL l b) b = l := by
  have hl := intL_length l b
  by_cases h : (1 ≤ b ∧ b ≤ 64) ∧ (0 ≤ (l.length : Int) ∧ (l.length : Int) ≤ 10000)
  · have e : deL (intL l b) b = deGo (intL l b) b (intL l b).length 0 (intL l b) := by
      unfold deL
      rw [if_pos (by rw [hl]; exact h)]
    rw [e]
    refine list_ext (by rw [deGo_length, hl]) (fun j hj => ?_)
    rw [deGo_length, hl] at hj
    rw [deGo_at (intL l b) b _ 0 _ (by omega) rfl (fun j h => by omega) j (by omega)]
    have e2 : ipl (intL l b) b j = ipl l b j := by
      unfold ipl
      rw [hl]
    rw [e2]
    unfold intL
    rw [if_pos h]
    exact intGo_at l b h.1.1 l.length 0 l (by omega) rfl (fun j h => by omega) j hj
  · unfold deL
    rw [if_neg (by rw [hl]; exact h)]
    unfold intL
    rw [if_neg h]
theorem int_de (l : List Int) (b : Int) : intL (deL l b) b = l := by
  have hl := deL_length l b
  by_cases h : (1 ≤ b ∧ b ≤ 64) ∧ (0 ≤ (l.length : Int) ∧ (l.length : Int) ≤ 10000)
  · have e : intL (deL l b) b = intGo (deL l b) b (deL l b).length 0 (deL l b) := by
      unfold intL
      rw [if_pos (by rw [hl]; exact h)]
    rw [e]
    refine list_ext (by rw [intGo_length, hl]) (fun p hp => ?_)
    rw [intGo_length, hl] at hp
    obtain ⟨c, hc, ec⟩ := ipl_surj l b h.1.1 p hp
    have e2 : ipl (deL l b) b c = ipl l b c := by
      unfold ipl
      rw [hl]
    have h2 := intGo_at (deL l b) b h.1.1 (deL l b).length 0 (deL l b) (by omega) rfl (fun j h => by omega) c (by omega)
    rw [e2, ec] at h2
    rw [h2]
    unfold deL
    rw [if_pos h, deGo_at l b l.length 0 l (by omega) rfl (fun j h => by omega) c hc, ec]
  · unfold intL
    rw [if_neg (by rw [hl]; exact h)]
    unfold deL
    rw [if_neg h]
def iplL (l : List Int) (b : Int) (i : Nat) : List Int := (List.range i).map fun j => ((ipl l b j : Nat) : Int)
theorem iplL_length (l : List Int) (b : Int) (i : Nat) : (iplL l b i).length = i := by simp [iplL]
theorem iplL_at (l : List Int) (b : Int) (n j : Nat) (h : j < n) : (iplL l b n).getD j 0 = ((ipl l b j : Nat) : Int) := by
  simp [iplL, List.getD_eq_getElem?_getD, List.getElem?_map, List.getElem?_range h]
theorem law_loop (l : List Int) (b : Int) (hb : 1 ≤ b ∧ b ≤ 64) (hn : l.length ≤ 1000) : ∀ (d i : Nat), i + d = l.length → Ev (fun k => laws_FnInterleaving.l0 k l b (intL l b) (iplL l b i) i) true := by
  intro d
  induction d with
  | zero =>
    intro i hi
    have e : i = l.length := by omega
    subst e
    have hlen := iplL_length l b l.length
    have p1 : Ev (fun k => impl_IsPermutation.f k (iplL l b l.length)) true := by
      refine ptrue_ev _ (by omega) (fun j hj => ?_) (fun i j hij hj => ?_)
      · rw [hlen] at hj ⊢
        rw [iplL_at _ _ _ _ hj]
        have := (ipl_lt l b hb.1 j hj).1
        omega
      · rw [hlen] at hj
        rw [iplL_at _ _ _ _ hj, iplL_at _ _ _ _ (by omega)]
        intro e
        have := ipl_inj l b hb.1 i j (by omega) hj (by omega)
        omega
    have hA : (iplL l b l.length ++ [0, 0]).length = l.length + 2 := by simp [hlen]
    have hlo : ∀ j, j < l.length → (iplL l b l.length ++ [0, 0]).getD j 0 = ((ipl l b j : Nat) : Int) := fun j hj => by
      rw [List.getD_eq_getElem?_getD, List.getElem?_append_left (by omega), ← List.getD_eq_getElem?_getD, iplL_at _ _ _ _ hj]
    have hhi : ∀ j, j < 2 → (iplL l b l.length ++ [0, 0]).getD (l.length + j) 0 = 0 := fun j hj => by
      rw [List.getD_eq_getElem?_getD, List.getElem?_append_right (by omega), hlen, Nat.add_sub_cancel_left]
      match j, hj with
      | 0, _ => rfl
      | 1, _ => rfl
    have p2 : Ev (fun k => impl_IsPermutation.f k (iplL l b l.length ++ [0, 0])) false := by
      refine pdup_ev _ (by omega) (fun j hj => ?_) l.length (l.length + 1) (by omega) (by omega) ?_
      · rw [hA] at hj ⊢
        by_cases q : j < l.length
        · rw [hlo j q]
          have := (ipl_lt l b hb.1 j q).1
          omega
        · have := hhi (j - l.length) (by omega)
          rw [show l.length + (j - l.length) = j by omega] at this
          rw [this]
          omega
      · have h0 := hhi 0 (by omega)
        have h1 := hhi 1 (by omega)
        rw [Nat.add_zero] at h0
        rw [h0, h1]
    exact ev1 (evn (by omega) (Ev.bind p1 (evp rfl (evs rfl (evp (by simp [hlen]; omega) (Ev.bind p2 (evc rfl)))))))
  | succ d ih =>
    intro i hi
    obtain ⟨h1, h2⟩ := ipl_lt l b hb.1 i (by omega)
    have hil := intL_length l b
    have hlen := iplL_length l b i
    have hat : (intL l b).getD (ipl l b i) 0 = l.getD i 0 := by
      unfold intL
      rw [if_pos ⟨hb, by omega, by omega⟩]
      exact intGo_at l b hb.1 l.length 0 l (by omega) rfl (fun j h => by omega) i (by omega)
    refine ev1 (evp (by omega) (evs (idx_is _ _ _ hb (by omega) (by omega)) ?_))
    rw [← h2, rd_nat, rd_nat, w64s (n := (i : Int) + 1) (by omega) (by omega)]
    refine evn (by omega) (evn (by omega) (evp (by omega) (evp (by omega) (evp (by omega) (evp hat (evp (by omega) ?_))))))
    have h := ih (i + 1) (by omega)
    have e : iplL l b (i + 1) = iplL l b i ++ [((ipl l b i : Nat) : Int)] := by simp [iplL, List.range_succ]
    rw [e] at h
    exact h
theorem idx_bad (a b : Int) (h : ¬ (1 ≤ b ∧ b ≤ 64)) : impl_InterleavedIndex.f a b 0 = some (-1) := by
  unfold impl_InterleavedIndex.f
  rw [isInter_some]
  simp only [Option.bind_some]
  rw [if_neg (dnt (fun q => h q.1))]
theorem FnInterleaving : laws_FnInterleaving.Pure := by
  intro L hm hs hw
  refine Ev.rounds (r := true) ?_
  unfold laws_FnInterleaving.f
  refine evs (show laws_big.f L = some _ from rfl) ?_
  by_cases hbig : (L.length : Int) > 1048576
  · exact evp (by simpa using hbig) (evc rfl)
  refine evn (by simpa using hbig) ?_
  obtain ⟨l, b, e, hl⟩ := sym_ev L (by omega)
  have i1 := iint_ev l b (by omega)
  have i2 := ide_ev (intL l b) b (by rw [intL_length]; omega)
  rw [de_int] at i2
  have i3 := ide_ev l b (by omega)
  have i4 := iint_ev (deL l b) b (by rw [deL_length]; omega)
  rw [int_de] at i4
  have hsame := same_ev l (by omega)
  have hbad : ¬ (1 ≤ b ∧ b ≤ 64) → Ev (fun k => laws_FnInterleaving.j1 k l b (intL l b) true) true := by
    intro h
    have e : intL l b = l := by
      unfold intL
      rw [if_neg (fun q => h q.1)]
    rw [e]
    exact ev1 (Ev.bind hsame (evp rfl (evs (idx_bad _ b h) (evc rfl))))
  refine Ev.bind e (Ev.bind i1 (Ev.bind i2 (Ev.bind hsame (evp rfl (Ev.bind i3 (Ev.bind i4 (Ev.bind hsame ?_)))))))
  show Ev (fun k => laws_FnInterleaving.j0 k l b (intL l b) false) true
  by_cases h1 : b < 1
  · exact ev1 (evp h1 (hbad (by omega)))
  · by_cases h2 : b > 64
    · refine ev1 (evn h1 ?_)
      rw [decide_eq_true h2]
      exact hbad (by omega)
    · refine ev1 (evn h1 ?_)
      rw [decide_eq_false h2]
      exact ev1 (law_loop l b (by omega) hl l.length 0 (by omega))

end Go.Proofs.Ythdjoogholigbaa.Pure
