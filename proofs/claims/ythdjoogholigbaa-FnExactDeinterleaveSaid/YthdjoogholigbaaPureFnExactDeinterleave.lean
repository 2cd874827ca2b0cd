/-
  The program's Deinterleave and the reference's agree at every list of at most 2^20 elements and every number of columns, the argument is left as it was, and the answers share no memory.
  Conditions: none beyond the given statement's own.
-/
import Derived.Test.YthdjoogholigbaaPFnExactDeinterleavex2
set_option linter.unusedVariables false
set_option linter.unusedSimpArgs false
namespace Go.Proofs.Ythdjoogholigbaa.Pure
open Go.RowKit Go.Proofs.Ythdjoogholigbaa.PFnExactDeinterleave Go.Proofs.YthdjoogholigbaaW.PrintWords Go.Proofs.YthdjoogholigbaaW.PrintLast Go.Proofs.YthdjoogholigbaaW.PrintMore

theorem in_some (x a b : Int) : impl_InRange.f x a b = some (decide (a ≤ x ∧ x ≤ b)) := by
  unfold impl_InRange.f
  by_cases h : a ≤ x <;> simp [h]

theorem min_some (a b : Int) : impl_Min.f a b = some (if b < a then b else a) := by
  unfold impl_Min.f
  split <;> rfl
theorem isInter_some (a b : Int) : impl_isInterleaver.f a b = some (decide ((1 ≤ b ∧ b ≤ 64) ∧ (0 ≤ a ∧ a ≤ 10000))) := by
  unfold impl_isInterleaver.f
  by_cases h : 1 ≤ b ∧ b ≤ 64 <;> simp [in_some, h]
theorem idx_some (a b c : Int) : ∃ r, impl_InterleavedIndex.f a b c = some r := by
  unfold impl_InterleavedIndex.f
  simp only [isInter_some, in_some, min_some, Option.bind_some]
  by_cases h : (1 ≤ b ∧ b ≤ 64) ∧ (0 ≤ a ∧ a ≤ 10000)
  · rw [if_pos (by simpa using h)]
    split
    · rw [if_neg (by omega)]
      exact ⟨_, rfl⟩
    · exact ⟨_, rfl⟩
  · rw [if_neg (by simpa using h)]
    exact ⟨_, rfl⟩

theorem evp {α : Type} {c : Prop} [Decidable c] {A B : Nat → Option α} {r : α} (hc : c) (h : Ev A r) : Ev (fun k => if c then A k else B k) r :=
  Ev.congr (fun k => if_pos hc) h
theorem evn {α : Type} {c : Prop} [Decidable c] {A B : Nat → Option α} {r : α} (hc : ¬ c) (h : Ev B r) : Ev (fun k => if c then A k else B k) r :=
  Ev.congr (fun k => if_neg hc) h
theorem evs {α β : Type} {g : Option α} {a : α} {f : Nat → α → Option β} {r : β} (hg : g = some a) (h : Ev (fun k => f k a) r) : Ev (fun k => g.bind (f k)) r :=
  Ev.congr (fun k => by rw [hg]; rfl) h
theorem evc {α : Type} {g : Option α} {r : α} (h : g = some r) : Ev (fun _ => g) r := ⟨0, fun _ _ => h⟩
theorem ev_eq {α : Type} {g : Nat → Option α} {r r' : α} (h : Ev g r) (e : r = r') : Ev g r' := e ▸ h
theorem w64 {n : Int} (h0 : -9223372036854775808 ≤ n) (h1 : n ≤ 9223372036854775807) : wrap64 n = n := by
  unfold wrap64
  omega
theorem w64s {n : Int} (h0 : -1000000000000000000 ≤ n) (h1 : n ≤ 1000000000000000000) : wrap64 n = n := w64 (by omega) (by omega)
theorem ev1 {α : Type} {g : Nat → Option α} {r : α} (h : Ev (fun k => g (k + 1)) r) : Ev g r := Ev.step (fun _ => rfl) h
theorem dt {p : Prop} [Decidable p] (h : p) : decide p = true := decide_eq_true h
theorem dnt {p : Prop} [Decidable p] (h : ¬ p) : ¬ (decide p = true) := by simp [h]
theorem ntd {p : Prop} [Decidable p] (h : ¬ p) : (!decide p) = true := by simp [h]
theorem ntt {p : Prop} [Decidable p] (h : p) : ¬ ((!decide p) = true) := by simp [h]
theorem evk {α : Type} {g : Nat → Option α} {r : α} (h : ∀ k, g k = some r) : Ev g r := ⟨0, fun k _ => h k⟩
theorem dec_iff {p q : Prop} [Decidable p] [Decidable q] (h : p ↔ q) : decide p = decide q := by
  by_cases hq : q
  · rw [decide_eq_true hq, decide_eq_true (h.2 hq)]
  · rw [decide_eq_false hq, decide_eq_false (fun hp => hq (h.1 hp))]

/-- The place of a symbol: in plain numbers. -/
def idxS (a b x : Int) : Int := x * (a / b) + (if a % b < x then a % b else x)
def idxF (a b c : Int) : Int := idxS a b (c % b) + c / b
theorem idx_upper (a b c : Int) (hb : 1 ≤ b) (hc : 0 ≤ c ∧ c < a) : idxF a b c < idxS a b (c % b + 1) ∧ idxS a b (c % b) ≤ idxF a b c := by
  have h1 : b * (c / b) + c % b = c := Int.mul_ediv_add_emod c b
  have h2 : b * (a / b) + a % b = a := Int.mul_ediv_add_emod a b
  have m1 : 0 ≤ c % b := Int.emod_nonneg _ (by omega)
  have m2 : c % b < b := Int.emod_lt_of_pos _ (by omega)
  have m3 : 0 ≤ a % b := Int.emod_nonneg _ (by omega)
  have m4 : a % b < b := Int.emod_lt_of_pos _ (by omega)
  have d1 : 0 ≤ a / b := Int.ediv_nonneg (by omega) (by omega)
  have d3 : 0 ≤ c / b := Int.ediv_nonneg hc.1 (by omega)
  unfold idxF idxS
  generalize c % b = x at *
  generalize a % b = y at *
  generalize a / b = z at *
  generalize c / b = u at *
  rw [Int.add_mul]
  by_cases hxy : x < y
  · have hu : u ≤ z := by
      rcases Int.lt_or_le z u with h | h
      · exfalso
        have : b * (z + 1) ≤ b * u := Int.mul_le_mul_of_nonneg_left (by omega) (by omega)
        rw [Int.mul_add] at this
        omega
      · exact h
    rw [if_neg (by omega), if_neg (by omega)]
    omega
  · have hu : u < z := by
      rcases Int.lt_or_le u z with h | h
      · exact h
      · exfalso
        have : b * z ≤ b * u := Int.mul_le_mul_of_nonneg_left (by omega) (by omega)
        omega
    rw [if_pos (show y < x + 1 by omega)]
    have e : (if y < x then y else x) = y := by split <;> omega
    rw [e]
    omega
theorem idxS_mono (a b x x' : Int) (hb : 1 ≤ b) (ha : 0 ≤ a) (h : x ≤ x') : idxS a b x ≤ idxS a b x' := by
  unfold idxS
  have d1 : 0 ≤ a / b := Int.ediv_nonneg ha (by omega)
  have : x * (a / b) ≤ x' * (a / b) := Int.mul_le_mul_of_nonneg_right h d1
  split <;> split <;> omega
theorem idxF_range (a b c : Int) (hb : 1 ≤ b) (hc : 0 ≤ c ∧ c < a) : 0 ≤ idxF a b c ∧ idxF a b c < a := by
  obtain ⟨h1, h2⟩ := idx_upper a b c hb hc
  have m1 : 0 ≤ c % b := Int.emod_nonneg _ (by omega)
  have m2 : c % b < b := Int.emod_lt_of_pos _ (by omega)
  have m3 : 0 ≤ a % b := Int.emod_nonneg _ (by omega)
  have m4 : a % b < b := Int.emod_lt_of_pos _ (by omega)
  have k1 := idxS_mono a b 0 (c % b) hb (by omega) m1
  have k2 := idxS_mono a b (c % b + 1) b hb (by omega) (by omega)
  have e0 : idxS a b 0 = 0 := by
    unfold idxS
    rw [Int.zero_mul, if_neg (by omega)]
    omega
  have e1 : idxS a b b = a := by
    unfold idxS
    rw [if_pos m4]
    exact Int.mul_ediv_add_emod a b
  omega
theorem idxF_inj (a b c c' : Int) (hb : 1 ≤ b) (hc : 0 ≤ c ∧ c < a) (hc' : 0 ≤ c' ∧ c' < a) (h : idxF a b c = idxF a b c') : c = c' := by
  obtain ⟨h1, h2⟩ := idx_upper a b c hb hc
  obtain ⟨h3, h4⟩ := idx_upper a b c' hb hc'
  have e : c % b = c' % b := by
    rcases Int.lt_trichotomy (c % b) (c' % b) with k | k | k
    · have := idxS_mono a b (c % b + 1) (c' % b) hb (by omega) (by omega)
      omega
    · exact k
    · have := idxS_mono a b (c' % b + 1) (c % b) hb (by omega) (by omega)
      omega
  have e2 : c / b = c' / b := by
    unfold idxF at h
    rw [e] at h
    omega
  have h5 : b * (c / b) + c % b = c := Int.mul_ediv_add_emod c b
  have h6 : b * (c' / b) + c' % b = c' := Int.mul_ediv_add_emod c' b
  rw [← h5, ← h6, e, e2]
theorem idx_is (a b c : Int) (hb : 1 ≤ b ∧ b ≤ 64) (ha : 0 ≤ a ∧ a ≤ 10000) (hc : 0 ≤ c ∧ c < a) : impl_InterleavedIndex.f a b c = some (idxF a b c) := by
  have hr := idxF_range a b c hb.1 hc
  unfold impl_InterleavedIndex.f
  simp only [isInter_some, in_some, min_some, Option.bind_some]
  rw [if_pos (by simpa using ⟨hb, ha⟩), if_pos (by rw [w64s (by omega) (by omega)]; simp; omega), if_neg (by omega)]
  have e1 : Int.tmod c b = c % b := Int.tmod_eq_emod_of_nonneg hc.1
  have e2 : Int.tmod a b = a % b := Int.tmod_eq_emod_of_nonneg ha.1
  have e3 : Int.tdiv a b = a / b := Int.tdiv_eq_ediv_of_nonneg ha.1
  have e4 : Int.tdiv c b = c / b := Int.tdiv_eq_ediv_of_nonneg hc.1
  rw [e1, e2, e3, e4]
  unfold idxF idxS at *
  have m1 : 0 ≤ c % b := Int.emod_nonneg _ (by omega)
  have m2 : c % b < b := Int.emod_lt_of_pos _ (by omega)
  have m3 : 0 ≤ a % b := Int.emod_nonneg _ (by omega)
  have m4 : a % b < b := Int.emod_lt_of_pos _ (by omega)
  have d1 : 0 ≤ a / b := Int.ediv_nonneg ha.1 (by omega)
  have d2 : a / b ≤ a := Int.ediv_le_self _ ha.1
  have d3 : 0 ≤ c / b := Int.ediv_nonneg hc.1 (by omega)
  have d4 : c / b ≤ c := Int.ediv_le_self _ hc.1
  generalize c % b = x at *
  generalize a % b = y at *
  generalize a / b = z at *
  generalize c / b = u at *
  have hx : 0 ≤ x * z := Int.mul_nonneg m1 d1
  have hx2 : x * z ≤ 64 * 10000 := Int.mul_le_mul (by omega) (by omega) d1 (by omega)
  rw [w64s (n := z) (by omega) (by omega), w64s (n := u) (by omega) (by omega)]
  have hmn : 0 ≤ (if y < x then y else x) ∧ (if y < x then y else x) ≤ 64 := by split <;> omega
  generalize (if y < x then y else x) = q at *
  generalize x * z = v at *
  rw [w64s (n := v) (by omega) (by omega), w64s (n := v + q) (by omega) (by omega), w64s (n := v + q + u) (by omega) (by omega)]

theorem rd_nat (l : List Int) (i : Nat) : rd l (i : Int) = l.getD i 0 := by
  unfold rd
  rw [Int.toNat_natCast]
theorem rd_mem {l : List Int} {i : Nat} (h : i < l.length) : l.getD i 0 ∈ l := by
  rw [List.getD_eq_getElem?_getD, List.getElem?_eq_getElem h]
  exact List.getElem_mem h
theorem list_ext {a b : List Int} (hl : a.length = b.length) (h : ∀ i, i < a.length → a.getD i 0 = b.getD i 0) : a = b := by
  apply List.ext_getElem hl
  intro i h1 h2
  have := h i h1
  rw [List.getD_eq_getElem?_getD, List.getD_eq_getElem?_getD, List.getElem?_eq_getElem h1, List.getElem?_eq_getElem h2] at this
  simpa using this
theorem getD_set (l : List Int) (i j : Nat) (v : Int) : (l.set i v).getD j 0 = if i = j ∧ j < l.length then v else l.getD j 0 := by
  rw [List.getD_eq_getElem?_getD, List.getElem?_set, List.getD_eq_getElem?_getD]
  by_cases h : i = j
  · subst h
    by_cases h2 : i < l.length
    · simp [h2]
    · simp [h2]
  · simp [h]

def ipl (l : List Int) (b : Int) (c : Nat) : Nat := (idxF (l.length : Int) b (c : Int)).toNat
def intGo (l : List Int) (b : Int) : Nat → Nat → List Int → List Int
  | 0, _, x => x
  | d + 1, i, x => intGo l b d (i + 1) (x.set (ipl l b i) (l.getD i 0))
def deGo (l : List Int) (b : Int) : Nat → Nat → List Int → List Int
  | 0, _, x => x
  | d + 1, i, x => deGo l b d (i + 1) (x.set i (l.getD (ipl l b i) 0))
theorem intGo_length (l : List Int) (b : Int) : ∀ (d i : Nat) (x : List Int), (intGo l b d i x).length = x.length
  | 0, _, _ => rfl
  | d + 1, i, x => by
    unfold intGo
    rw [intGo_length l b d]
    simp
theorem deGo_length (l : List Int) (b : Int) : ∀ (d i : Nat) (x : List Int), (deGo l b d i x).length = x.length
  | 0, _, _ => rfl
  | d + 1, i, x => by
    unfold deGo
    rw [deGo_length l b d]
    simp
theorem ipl_lt (l : List Int) (b : Int) (hb : 1 ≤ b) (c : Nat) (h : c < l.length) : ipl l b c < l.length ∧ ((ipl l b c : Nat) : Int) = idxF (l.length : Int) b (c : Int) := by
  have := idxF_range (l.length : Int) b (c : Int) hb (by omega)
  unfold ipl
  omega
theorem ipl_inj (l : List Int) (b : Int) (hb : 1 ≤ b) (c e : Nat) (h : c < l.length) (h' : e < l.length) (q : ipl l b c = ipl l b e) : c = e := by
  have h1 := (ipl_lt l b hb c h).2
  have h2 := (ipl_lt l b hb e h').2
  have := idxF_inj (l.length : Int) b (c : Int) (e : Int) hb (by omega) (by omega) (by omega)
  omega
theorem step_up (f : Int → Int) (p : Int) : ∀ n : Nat, f 0 ≤ p → p < f n → ∃ x : Nat, x < n ∧ f (x : Int) ≤ p ∧ p < f ((x : Int) + 1)
  | 0, h0, h1 => absurd h1 (by simp; omega)
  | n + 1, h0, h1 => by
    by_cases h : f (n : Int) ≤ p
    · exact ⟨n, by omega, h, by simpa using h1⟩
    · obtain ⟨x, hx, h2, h3⟩ := step_up f p n h0 (by omega)
      exact ⟨x, by omega, h2, h3⟩
theorem idxF_surj (a b p : Int) (hb : 1 ≤ b) (hp : 0 ≤ p ∧ p < a) : ∃ c : Int, (0 ≤ c ∧ c < a) ∧ idxF a b c = p := by
  have m3 : 0 ≤ a % b := Int.emod_nonneg _ (by omega)
  have m4 : a % b < b := Int.emod_lt_of_pos _ (by omega)
  have d1 : 0 ≤ a / b := Int.ediv_nonneg (by omega) (by omega)
  have e0 : idxS a b 0 = 0 := by
    unfold idxS
    rw [Int.zero_mul, if_neg (by omega)]
    omega
  have e1 : idxS a b b = a := by
    unfold idxS
    rw [if_pos m4]
    exact Int.mul_ediv_add_emod a b
  obtain ⟨x, hx, h2, h3⟩ := step_up (idxS a b) p b.toNat (by omega) (by rw [show ((b.toNat : Nat) : Int) = b by omega, e1]; omega)
  have hu : 0 ≤ p - idxS a b x := by omega
  have hm : ((p - idxS a b x) * b + x) % b = x := by
    rw [Int.add_comm, Int.add_mul_emod_self_right]
    exact Int.emod_eq_of_lt (by omega) (by omega)
  have hd : ((p - idxS a b x) * b + x) / b = p - idxS a b x := by
    rw [Int.add_comm, Int.add_mul_ediv_right _ _ (by omega), Int.ediv_eq_zero_of_lt (by omega) (by omega)]
    omega
  have hlt : (p - idxS a b x) * b + x < a := by
    have e2 : b * (a / b) + a % b = a := Int.mul_ediv_add_emod a b
    have e3 : idxS a b ((x : Int) + 1) = idxS a b x + a / b + (if (x : Int) < a % b then 1 else 0) := by
      unfold idxS
      rw [Int.add_mul, Int.one_mul]
      split <;> split <;> split <;> omega
    rw [e3] at h3
    have hu2 : p - idxS a b x < a / b + (if (x : Int) < a % b then 1 else 0) := by omega
    clear hm hd hu e3 h3 h2
    generalize p - idxS a b x = u at *
    by_cases hxy : (x : Int) < a % b
    · rw [if_pos hxy] at hu2
      have : u * b ≤ (a / b) * b := Int.mul_le_mul_of_nonneg_right (by omega) (by omega)
      rw [Int.mul_comm (a / b) b] at this
      omega
    · rw [if_neg hxy] at hu2
      have : (u + 1) * b ≤ (a / b) * b := Int.mul_le_mul_of_nonneg_right (by omega) (by omega)
      rw [Int.mul_comm (a / b) b, Int.add_mul] at this
      omega
  refine ⟨(p - idxS a b x) * b + x, ⟨?_, hlt⟩, ?_⟩
  · have := Int.mul_nonneg hu (show 0 ≤ b by omega)
    omega
  · unfold idxF
    rw [hm, hd]
    omega
theorem ipl_surj (l : List Int) (b : Int) (hb : 1 ≤ b) (p : Nat) (hp : p < l.length) : ∃ c : Nat, c < l.length ∧ ipl l b c = p := by
  obtain ⟨c, hc, e⟩ := idxF_surj (l.length : Int) b (p : Int) hb (by omega)
  obtain ⟨c, rfl⟩ := Int.eq_ofNat_of_zero_le hc.1
  refine ⟨c, by omega, ?_⟩
  unfold ipl
  rw [e]
  omega
theorem intGo_at (l : List Int) (b : Int) (hb : 1 ≤ b) : ∀ (d i : Nat) (x : List Int), i + d = l.length → x.length = l.length → (∀ j, j < i → x.getD (ipl l b j) 0 = l.getD j 0) → ∀ j, j < l.length → (intGo l b d i x).getD (ipl l b j) 0 = l.getD j 0 := by
  intro d
  induction d with
  | zero =>
    intro i x hi hx hj j h
    exact hj j (by omega)
  | succ d ih =>
    intro i x hi hx hj j h
    unfold intGo
    refine ih (i + 1) _ (by omega) (by simpa using hx) (fun j hj' => ?_) j h
    have := (ipl_lt l b hb j (by omega)).1
    rw [getD_set]
    by_cases e : i = j
    · subst e
      rw [if_pos ⟨rfl, by omega⟩]
    · rw [if_neg (fun q => e (ipl_inj l b hb i j (by omega) (by omega) q.1))]
      exact hj j (by omega)
theorem deGo_at (l : List Int) (b : Int) : ∀ (d i : Nat) (x : List Int), i + d = l.length → x.length = l.length → (∀ j, j < i → x.getD j 0 = l.getD (ipl l b j) 0) → ∀ j, j < l.length → (deGo l b d i x).getD j 0 = l.getD (ipl l b j) 0 := by
  intro d
  induction d with
  | zero =>
    intro i x hi hx hj j h
    exact hj j (by omega)
  | succ d ih =>
    intro i x hi hx hj j h
    unfold deGo
    refine ih (i + 1) _ (by omega) (by simpa using hx) (fun j hj' => ?_) j h
    rw [getD_set]
    by_cases e : i = j
    · subst e
      rw [if_pos ⟨rfl, by omega⟩]
    · rw [if_neg (fun q => e q.1)]
      exact hj j (by omega)
def intL (l : List Int) (b : Int) : List Int := if (1 ≤ b ∧ b ≤ 64) ∧ (0 ≤ (l.length : Int) ∧ (l.length : Int) ≤ 10000) then intGo l b l.length 0 l else l
def deL (l : List Int) (b : Int) : List Int := if (1 ≤ b ∧ b ≤ 64) ∧ (0 ≤ (l.length : Int) ∧ (l.length : Int) ≤ 10000) then deGo l b l.length 0 l else l
theorem intL_length (l : List Int) (b : Int) : (intL l b).length = l.length := by
  unfold intL
  split
  · exact intGo_length _ _ _ _ _
  · rfl
theorem deL_length (l : List Int) (b : Int) : (deL l b).length = l.length := by
  unfold deL
  split
  · exact deGo_length _ _ _ _ _
  · rfl

theorem ide_loop (l : List Int) (b : Int) (hb : 1 ≤ b ∧ b ≤ 64) (hn : l.length ≤ 10000) : ∀ (d i : Nat) (x : List Int), i + d = l.length → x.length = l.length → Ev (fun k => impl_Deinterleave.l0 k l b x l.length i) (deGo l b d i x) := by
  intro d
  induction d with
  | zero =>
    intro i x hi hx
    exact ev1 (evn (by omega) (evc rfl))
  | succ d ih =>
    intro i x hi hx
    obtain ⟨h1, h2⟩ := ipl_lt l b hb.1 i (by omega)
    refine ev1 (evp (by omega) (evs (idx_is _ _ _ hb (by omega) (by omega)) ?_))
    rw [← h2, rd_nat, w64s (n := (i : Int) + 1) (by omega) (by omega), Int.toNat_natCast]
    exact evp (by omega) (evp (by omega) (evp (by omega) (evp (by omega) (ih (i + 1) _ (by omega) (by simpa using hx)))))
theorem ide_ev (l : List Int) (b : Int) (hn : l.length ≤ 4000000) : Ev (fun k => impl_Deinterleave.f k l b) (deL l b) := by
  unfold impl_Deinterleave.f deL
  refine evs (show impl_copyInts.f l = some l from if_pos (by omega)) (evs (isInter_some _ _) ?_)
  by_cases h : (1 ≤ b ∧ b ≤ 64) ∧ (0 ≤ (l.length : Int) ∧ (l.length : Int) ≤ 10000)
  · rw [if_pos h]
    exact evp (dt h) (ide_loop l b h.1 (by omega) l.length 0 l (by omega) rfl)
  · rw [if_neg h]
    exact evn (dnt h) (evc rfl)

theorem l1_some (x a b : Int) : spec_l1In.f x a b = some (decide (a ≤ x ∧ x ≤ b)) := by
  unfold spec_l1In.f
  by_cases h : a ≤ x <;> simp [h]

theorem smin_some (a b : Int) : spec_Min.f a b = some (if b < a then b else a) := by
  unfold spec_Min.f
  split <;> rfl
theorem l8_some (a b : Int) : spec_l8Ok.f a b = some (decide ((1 ≤ b ∧ b ≤ 64) ∧ (0 ≤ a ∧ a ≤ 10000))) := by
  unfold spec_l8Ok.f
  by_cases h : 1 ≤ b ∧ b ≤ 64 <;> simp [l1_some, h]
theorem idx_same (a b c : Int) : spec_InterleavedIndex.f a b c = impl_InterleavedIndex.f a b c := by
  unfold spec_InterleavedIndex.f impl_InterleavedIndex.f
  simp only [isInter_some, l8_some, in_some, l1_some, min_some, smin_some]

theorem sde_loop (l : List Int) (b : Int) (hb : 1 ≤ b ∧ b ≤ 64) (hn : l.length ≤ 10000) : ∀ (d i : Nat) (x : List Int), i + d = l.length → x.length = l.length → Ev (fun k => spec_Deinterleave.l0 k l b x i) (deGo l b d i x) := by
  intro d
  induction d with
  | zero =>
    intro i x hi hx
    exact ev1 (evn (by omega) (evc rfl))
  | succ d ih =>
    intro i x hi hx
    obtain ⟨h1, h2⟩ := ipl_lt l b hb.1 i (by omega)
    refine ev1 (evp (by omega) (evs ((idx_same _ _ _).trans (idx_is _ _ _ hb (by omega) (by omega))) ?_))
    rw [← h2, rd_nat, w64s (n := (i : Int) + 1) (by omega) (by omega), Int.toNat_natCast]
    exact evp (by omega) (evp (by omega) (evp (by omega) (evp (by omega) (ih (i + 1) _ (by omega) (by simpa using hx)))))
theorem sde_ev (l : List Int) (b : Int) (hn : l.length ≤ 4000000) : Ev (fun k => spec_Deinterleave.f k l b) (deL l b) := by
  unfold spec_Deinterleave.f deL
  refine evs rfl (evp (by simp; omega) (evs (show some (([] : List Int) ++ l) = some l from rfl) (evs (l8_some _ _) ?_)))
  by_cases h : (1 ≤ b ∧ b ≤ 64) ∧ (0 ≤ (l.length : Int) ∧ (l.length : Int) ≤ 10000)
  · rw [if_pos h]
    exact evp (dt h) (sde_loop l b h.1 (by omega) l.length 0 l (by omega) rfl)
  · rw [if_neg h]
    exact evn (dnt h) (evc rfl)

theorem toInts_loop (x0 : List Int) (hn : x0.length ≤ 4000000000000000) : ∀ (d i : Nat) (x3 : List Int), i + d = x0.length → x3.length = x0.length → (∀ j, j < i → x3.getD j 0 = x0.getD j 0) → Ev (fun k => laws_toIntS.l0 k x0 x3 i) x0 := by
  intro d
  induction d with
  | zero =>
    intro i x3 hi hl hj
    refine ev1 ?_
    refine evn (by omega) (evc ?_)
    rw [list_ext hl (fun j h => hj j (by omega))]
  | succ d ih =>
    intro i x3 hi hl hj
    refine ev1 ?_
    refine evp (by omega) (evp (by omega) (evp (by omega) ?_))
    rw [w64s (by omega) (by omega), Int.toNat_natCast, rd_nat]
    have := ih (i + 1) (x3.set i (x0.getD i 0)) (by omega) (by simpa using hl) (by
      intro j h
      rw [getD_set]
      by_cases e : i = j
      · subst e
        rw [if_pos ⟨rfl, by omega⟩]
      · rw [if_neg (fun h' => e h'.1)]
        exact hj j (by omega))
    exact this
theorem toInts_ev (l : List Int) (hn : l.length ≤ 1048576) : Ev (fun k => laws_toIntS.f k l) l := by
  unfold laws_toIntS.f
  refine evp (by omega) (evp (by omega) ?_)
  exact toInts_loop l (by omega) l.length 0 _ (by omega) (by simp) (by intro j h; omega)

theorem eqInts_loop (x : List Int) (hn : x.length ≤ 4000000000000000) : ∀ (d i : Nat), i + d = x.length → Ev (fun k => laws_eqIntS.l0 k x x i) true := by
  intro d
  induction d with
  | zero =>
    intro i hi
    refine ev1 ?_
    exact evn (by omega) (evc rfl)
  | succ d ih =>
    intro i hi
    refine ev1 ?_
    refine evp (by omega) (evp (by omega) (evp (by omega) (evp rfl ?_)))
    rw [w64s (by omega) (by omega)]
    exact ih (i + 1) (by omega)
theorem eqInts_ev (l : List Int) (hn : l.length ≤ 4000000000000000) : Ev (fun k => laws_eqIntS.f k l l) true := by
  unfold laws_eqIntS.f
  exact evp rfl (eqInts_loop l hn l.length 0 (by omega))

def marksI (s : Int) (n : Nat) : List Int := (List.range n).map fun j : Nat => (s + (j : Int))
theorem marksI_length (s : Int) (n : Nat) : (marksI s n).length = n := by simp [marksI]
theorem marksI_at (s : Int) (n j : Nat) (h : j < n) : (marksI s n).getD j 0 = (s + (j : Int)) := by
  simp [marksI, List.getD_eq_getElem?_getD, List.getElem?_map, List.getElem?_range h]
theorem markInts_loop (n : Nat) (hn : n ≤ 4000000000000000) (s : Int) (h0 : 0 ≤ s) (hs : s ≤ 4000000000000000) : ∀ (d i : Nat) (x : List Int), i + d = n → x.length = n → (∀ j, j < i → x.getD j 0 = (s + (j : Int))) →
    Ev (fun k => laws_markIntS.l0 k x (s + i) i) (s + n, marksI s n) := by
  intro d
  induction d with
  | zero =>
    intro i x hi hl hj
    refine ev1 ?_
    refine evn (by omega) (evc ?_)
    rw [show i = n by omega, list_ext (a := x) (b := marksI s n) (by rw [hl, marksI_length]) (fun j h => by rw [hj j (by omega), marksI_at s n j (by omega)])]
  | succ d ih =>
    intro i x hi hl hj
    refine ev1 ?_
    refine evp (by omega) (evp (by omega) ?_)
    rw [w64s (by omega) (by omega), w64s (by omega) (by omega), Int.toNat_natCast]
    have := ih (i + 1) (x.set i (s + (i : Int))) (by omega) (by simpa using hl) (by
      intro j h
      rw [getD_set]
      by_cases e : i = j
      · subst e
        rw [if_pos ⟨rfl, by omega⟩]
      · rw [if_neg (fun h' => e h'.1)]
        exact hj j (by omega))
    rw [show s + ((i + 1 : Nat) : Int) = s + (i : Int) + 1 by omega] at this
    exact this
theorem markInts_ev (l : List Int) (hn : l.length ≤ 4000000000000000) (s : Int) (h0 : 0 ≤ s) (hs : s ≤ 4000000000000000) : Ev (fun k => laws_markIntS.f k l s) (s + l.length, marksI s l.length) := by
  have := markInts_loop l.length hn s h0 hs l.length 0 l (by omega) rfl (by intro j h; omega)
  rw [show s + ((0 : Nat) : Int) = s by omega] at this
  exact this
theorem heldInts_loop (n : Nat) (hn : n ≤ 4000000000000000) (s : Int) (h0 : 0 ≤ s) (hs : s ≤ 4000000000000000) : ∀ (d i : Nat), i + d = n →
    Ev (fun k => laws_heldIntS.l0 k (marksI s n) (s + i) i) (s + n) := by
  intro d
  induction d with
  | zero =>
    intro i hi
    refine ev1 ?_
    refine evn (by rw [marksI_length]; omega) (evc ?_)
    rw [show i = n by omega]
  | succ d ih =>
    intro i hi
    refine ev1 ?_
    refine evp (by rw [marksI_length]; omega) (evp (by omega) (evp (by rw [rd_nat, marksI_at s n i (by omega)]) ?_))
    rw [w64s (by omega) (by omega), w64s (by omega) (by omega)]
    have := ih (i + 1) (by omega)
    rw [show s + ((i + 1 : Nat) : Int) = s + (i : Int) + 1 by omega] at this
    exact this
theorem heldInts_ev (n : Nat) (hn : n ≤ 4000000000000000) (s : Int) (h0 : 0 ≤ s) (hs : s ≤ 4000000000000000) : Ev (fun k => laws_heldIntS.f k (marksI s n) s) (s + n) := by
  have := heldInts_loop n hn s h0 hs n 0 (by omega)
  rw [show s + ((0 : Nat) : Int) = s by omega] at this
  exact this

theorem FnExactDeinterleave : laws_FnExactDeinterleave.Pure := by
  intro l b _ _ _ _
  refine Ev.rounds (r := true) ?_
  unfold laws_FnExactDeinterleave.f
  by_cases hn : (l.length : Int) > 1048576
  · exact evp hn (evc rfl)
  refine evn hn ?_
  have hl : l.length ≤ 1048576 := by omega
  have hs := sde_ev l b (by omega)
  have hi := ide_ev l b (by omega)
  have hr := deL_length l b
  generalize deL l b = r at *
  have ht := toInts_ev l hl
  have he := eqInts_ev r (by omega)
  have hm := markInts_ev r (by omega) 1 (by omega) (by omega)
  have hh := heldInts_ev r.length (by omega) 1 (by omega) (by omega)
  have hj : Ev (fun k => laws_FnExactDeinterleave.j0 k l b r r false) true :=
    ev1 (Ev.bind hm (Ev.bind hh (evn (by omega) (evp rfl (Ev.bind ht (Ev.bind hi (Ev.bind he (evp rfl (Ev.bind hh (evn (by omega) (evp rfl (evc rfl))))))))))))
  exact Ev.bind ht (Ev.bind hs (Ev.bind ht (Ev.bind hi (Ev.bind he (evp rfl (Ev.bind ht (Ev.bind (eqInts_ev l (by omega)) (evp rfl (Ev.bind (markInts_ev l (by omega) 1 (by omega) (by omega)) (evn (by dsimp only; omega) (Ev.bind he hj)))))))))))

end Go.Proofs.Ythdjoogholigbaa.Pure
