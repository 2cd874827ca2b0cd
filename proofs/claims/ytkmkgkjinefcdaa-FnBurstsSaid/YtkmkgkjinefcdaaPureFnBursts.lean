/-
  A burst that is not longer than the spread hits no two neighboring symbols, for every number of symbols and columns that the law draws.
  Conditions: none beyond the given statement's own.
-/
import Derived.Test.YtkmkgkjinefcdaaPFnBurstsx2
set_option linter.unusedVariables false
set_option linter.unusedSimpArgs false
namespace Go.Proofs.Ytkmkgkjinefcdaa.Pure
open Go.RowKit Go.Proofs.Ytkmkgkjinefcdaa.PFnBursts Go.Proofs.YtkmkgkjinefcdaaW.PrintWords Go.Proofs.YtkmkgkjinefcdaaW.PrintLast Go.Proofs.YtkmkgkjinefcdaaW.PrintMore

theorem in_some (x a b : Int) : impl_InRange.f x a b = some (decide (a ≤ x ∧ x ≤ b)) := by
  unfold impl_InRange.f
  by_cases h : a ≤ x <;> simp [h]

theorem min_some (a b : Int) : impl_Min.f a b = some (if b < a then b else a) := by
  unfold impl_Min.f
  split <;> rfl
theorem isInter_some (a b : Int) : impl_isInterleaver.f a b = some (decide ((1 ≤ b ∧ b ≤ 64) ∧ (0 ≤ a ∧ a ≤ 10000))) := by
  unfold impl_isInterleaver.f
  by_cases h : 1 ≤ b ∧ b ≤ 64 <;> simp [in_some, h]
theorem idx_some (a b c : Int) : ∃ r, impl_InterleavedIndex.f a b c = some r := by
  unfold impl_InterleavedIndex.f
  simp only [isInter_some, in_some, min_some, Option.bind_some]
  by_cases h : (1 ≤ b ∧ b ≤ 64) ∧ (0 ≤ a ∧ a ≤ 10000)
  · rw [if_pos (by simpa using h)]
    split
    · rw [if_neg (by omega)]
      exact ⟨_, rfl⟩
    · exact ⟨_, rfl⟩
  · rw [if_neg (by simpa using h)]
    exact ⟨_, rfl⟩

theorem evp {α : Type} {c : Prop} [Decidable c] {A B : Nat → Option α} {r : α} (hc : c) (h : Ev A r) : Ev (fun k => if c then A k else B k) r :=
  Ev.congr (fun k => if_pos hc) h
theorem evn {α : Type} {c : Prop} [Decidable c] {A B : Nat → Option α} {r : α} (hc : ¬ c) (h : Ev B r) : Ev (fun k => if c then A k else B k) r :=
  Ev.congr (fun k => if_neg hc) h
theorem evs {α β : Type} {g : Option α} {a : α} {f : Nat → α → Option β} {r : β} (hg : g = some a) (h : Ev (fun k => f k a) r) : Ev (fun k => g.bind (f k)) r :=
  Ev.congr (fun k => by rw [hg]; rfl) h
theorem evc {α : Type} {g : Option α} {r : α} (h : g = some r) : Ev (fun _ => g) r := ⟨0, fun _ _ => h⟩
theorem ev_eq {α : Type} {g : Nat → Option α} {r r' : α} (h : Ev g r) (e : r = r') : Ev g r' := e ▸ h
theorem w64 {n : Int} (h0 : -9223372036854775808 ≤ n) (h1 : n ≤ 9223372036854775807) : wrap64 n = n := by
  unfold wrap64
  omega
theorem w64s {n : Int} (h0 : -1000000000000000000 ≤ n) (h1 : n ≤ 1000000000000000000) : wrap64 n = n := w64 (by omega) (by omega)
theorem ev1 {α : Type} {g : Nat → Option α} {r : α} (h : Ev (fun k => g (k + 1)) r) : Ev g r := Ev.step (fun _ => rfl) h
theorem dt {p : Prop} [Decidable p] (h : p) : decide p = true := decide_eq_true h
theorem dnt {p : Prop} [Decidable p] (h : ¬ p) : ¬ (decide p = true) := by simp [h]
theorem ntd {p : Prop} [Decidable p] (h : ¬ p) : (!decide p) = true := by simp [h]
theorem ntt {p : Prop} [Decidable p] (h : p) : ¬ ((!decide p) = true) := by simp [h]
theorem evk {α : Type} {g : Nat → Option α} {r : α} (h : ∀ k, g k = some r) : Ev g r := ⟨0, fun k _ => h k⟩
theorem dec_iff {p q : Prop} [Decidable p] [Decidable q] (h : p ↔ q) : decide p = decide q := by
  by_cases hq : q
  · rw [decide_eq_true hq, decide_eq_true (h.2 hq)]
  · rw [decide_eq_false hq, decide_eq_false (fun hp => hq (h.1 hp))]

/-- The place of a symbol: in plain numbers. -/
def idxS (a b x : Int) : Int := x * (a / b) + (if a % b < x then a % b else x)
def idxF (a b c : Int) : Int := idxS a b (c % b) + c / b
theorem idx_upper (a b c : Int) (hb : 1 ≤ b) (hc : 0 ≤ c ∧ c < a) : idxF a b c < idxS a b (c % b + 1) ∧ idxS a b (c % b) ≤ idxF a b c := by
  have h1 : b * (c / b) + c % b = c := Int.mul_ediv_add_emod c b
  have h2 : b * (a / b) + a % b = a := Int.mul_ediv_add_emod a b
  have m1 : 0 ≤ c % b := Int.emod_nonneg _ (by omega)
  have m2 : c % b < b := Int.emod_lt_of_pos _ (by omega)
  have m3 : 0 ≤ a % b := Int.emod_nonneg _ (by omega)
  have m4 : a % b < b := Int.emod_lt_of_pos _ (by omega)
  have d1 : 0 ≤ a / b := Int.ediv_nonneg (by omega) (by omega)
  have d3 : 0 ≤ c / b := Int.ediv_nonneg hc.1 (by omega)
  unfold idxF idxS
  generalize c % b = x at *
  generalize a % b = y at *
  generalize a / b = z at *
  generalize c / b = u at *
  rw [Int.add_mul]
  by_cases hxy : x < y
  · have hu : u ≤ z := by
      rcases Int.lt_or_le z u with h | h
      · exfalso
        have : b * (z + 1) ≤ b * u := Int.mul_le_mul_of_nonneg_left (by omega) (by omega)
        rw [Int.mul_add] at this
        omega
      · exact h
    rw [if_neg (by omega), if_neg (by omega)]
    omega
  · have hu : u < z := by
      rcases Int.lt_or_le u z with h | h
      · exact h
      · exfalso
        have : b * z ≤ b * u := Int.mul_le_mul_of_nonneg_left (by omega) (by omega)
        omega
    rw [if_pos (show y < x + 1 by omega)]
    have e : (if y < x then y else x) = y := by split <;> omega
    rw [e]
    omega
theorem idxS_mono (a b x x' : Int) (hb : 1 ≤ b) (ha : 0 ≤ a) (h : x ≤ x') : idxS a b x ≤ idxS a b x' := by
  unfold idxS
  have d1 : 0 ≤ a / b := Int.ediv_nonneg ha (by omega)
  have : x * (a / b) ≤ x' * (a / b) := Int.mul_le_mul_of_nonneg_right h d1
  split <;> split <;> omega
theorem idxF_range (a b c : Int) (hb : 1 ≤ b) (hc : 0 ≤ c ∧ c < a) : 0 ≤ idxF a b c ∧ idxF a b c < a := by
  obtain ⟨h1, h2⟩ := idx_upper a b c hb hc
  have m1 : 0 ≤ c % b := Int.emod_nonneg _ (by omega)
  have m2 : c % b < b := Int.emod_lt_of_pos _ (by omega)
  have m3 : 0 ≤ a % b := Int.emod_nonneg _ (by omega)
  have m4 : a % b < b := Int.emod_lt_of_pos _ (by omega)
  have k1 := idxS_mono a b 0 (c % b) hb (by omega) m1
  have k2 := idxS_mono a b (c % b + 1) b hb (by omega) (by omega)
  have e0 : idxS a b 0 = 0 := by
    unfold idxS
    rw [Int.zero_mul, if_neg (by omega)]
    omega
  have e1 : idxS a b b = a := by
    unfold idxS
    rw [if_pos m4]
    exact Int.mul_ediv_add_emod a b
  omega
theorem idxF_inj (a b c c' : Int) (hb : 1 ≤ b) (hc : 0 ≤ c ∧ c < a) (hc' : 0 ≤ c' ∧ c' < a) (h : idxF a b c = idxF a b c') : c = c' := by
  obtain ⟨h1, h2⟩ := idx_upper a b c hb hc
  obtain ⟨h3, h4⟩ := idx_upper a b c' hb hc'
  have e : c % b = c' % b := by
    rcases Int.lt_trichotomy (c % b) (c' % b) with k | k | k
    · have := idxS_mono a b (c % b + 1) (c' % b) hb (by omega) (by omega)
      omega
    · exact k
    · have := idxS_mono a b (c' % b + 1) (c % b) hb (by omega) (by omega)
      omega
  have e2 : c / b = c' / b := by
    unfold idxF at h
    rw [e] at h
    omega
  have h5 : b * (c / b) + c % b = c := Int.mul_ediv_add_emod c b
  have h6 : b * (c' / b) + c' % b = c' := Int.mul_ediv_add_emod c' b
  rw [← h5, ← h6, e, e2]
theorem idx_is (a b c : Int) (hb : 1 ≤ b ∧ b ≤ 64) (ha : 0 ≤ a ∧ a ≤ 10000) (hc : 0 ≤ c ∧ c < a) : impl_InterleavedIndex.f a b c = some (idxF a b c) := by
  have hr := idxF_range a b c hb.1 hc
  unfold impl_InterleavedIndex.f
  simp only [isInter_some, in_some, min_some, Option.bind_some]
  rw [if_pos (by simpa using ⟨hb, ha⟩), if_pos (by rw [w64s (by omega) (by omega)]; simp; omega), if_neg (by omega)]
  have e1 : Int.tmod c b = c % b := Int.tmod_eq_emod_of_nonneg hc.1
  have e2 : Int.tmod a b = a % b := Int.tmod_eq_emod_of_nonneg ha.1
  have e3 : Int.tdiv a b = a / b := Int.tdiv_eq_ediv_of_nonneg ha.1
  have e4 : Int.tdiv c b = c / b := Int.tdiv_eq_ediv_of_nonneg hc.1
  rw [e1, e2, e3, e4]
  unfold idxF idxS at *
  have m1 : 0 ≤ c % b := Int.emod_nonneg _ (by omega)
  have m2 : c % b < b := Int.emod_lt_of_pos _ (by omega)
  have m3 : 0 ≤ a % b := Int.emod_nonneg _ (by omega)
  have m4 : a % b < b := Int.emod_lt_of_pos _ (by omega)
  have d1 : 0 ≤ a / b := Int.ediv_nonneg ha.1 (by omega)
  have d2 : a / b ≤ a := Int.ediv_le_self _ ha.1
  have d3 : 0 ≤ c / b := Int.ediv_nonneg hc.1 (by omega)
  have d4 : c / b ≤ c := Int.ediv_le_self _ hc.1
  generalize c % b = x at *
  generalize a % b = y at *
  generalize a / b = z at *
  generalize c / b = u at *
  have hx : 0 ≤ x * z := Int.mul_nonneg m1 d1
  have hx2 : x * z ≤ 64 * 10000 := Int.mul_le_mul (by omega) (by omega) d1 (by omega)
  rw [w64s (n := z) (by omega) (by omega), w64s (n := u) (by omega) (by omega)]
  have hmn : 0 ≤ (if y < x then y else x) ∧ (if y < x then y else x) ≤ 64 := by split <;> omega
  generalize (if y < x then y else x) = q at *
  generalize x * z = v at *
  rw [w64s (n := v) (by omega) (by omega), w64s (n := v + q) (by omega) (by omega), w64s (n := v + q + u) (by omega) (by omega)]

theorem rd_nat (l : List Int) (i : Nat) : rd l (i : Int) = l.getD i 0 := by
  unfold rd
  rw [Int.toNat_natCast]
theorem rd_mem {l : List Int} {i : Nat} (h : i < l.length) : l.getD i 0 ∈ l := by
  rw [List.getD_eq_getElem?_getD, List.getElem?_eq_getElem h]
  exact List.getElem_mem h
theorem list_ext {a b : List Int} (hl : a.length = b.length) (h : ∀ i, i < a.length → a.getD i 0 = b.getD i 0) : a = b := by
  apply List.ext_getElem hl
  intro i h1 h2
  have := h i h1
  rw [List.getD_eq_getElem?_getD, List.getD_eq_getElem?_getD, List.getElem?_eq_getElem h1, List.getElem?_eq_getElem h2] at this
  simpa using this
theorem getD_set (l : List Int) (i j : Nat) (v : Int) : (l.set i v).getD j 0 = if i = j ∧ j < l.length then v else l.getD j 0 := by
  rw [List.getD_eq_getElem?_getD, List.getElem?_set, List.getD_eq_getElem?_getD]
  by_cases h : i = j
  · subst h
    by_cases h2 : i < l.length
    · simp [h2]
    · simp [h2]
  · simp [h]

theorem wf64 {a : Int} (h : (Lit.int .i64 a).wf = true) : -9223372036854775808 ≤ a ∧ a ≤ 9223372036854775807 := by
  simpa [Lit.wf, IntKind.min, IntKind.max, IntKind.bits, IntKind.signed] using h
theorem wf8 {a : Int} (h : (Lit.int .u8 a).wf = true) : 0 ≤ a ∧ a ≤ 255 := by
  simpa [Lit.wf, IntKind.min, IntKind.max, IntKind.bits, IntKind.signed] using h

theorem at_some (l : List Int) (hn : l.length ≤ 1048576) (hw : ∀ x ∈ l, (Lit.int .u8 x).wf = true) (i : Nat) (hi : i ≤ 1000000000) : ∃ x, laws_at.f l i = some x ∧ 0 ≤ x ∧ x ≤ 255 := by
  unfold laws_at.f
  by_cases h : (i : Int) < (l.length : Int)
  · rw [if_pos h, if_pos (by omega), rd_nat]
    have hm := hw _ (rd_mem (l := l) (i := i) (by omega))
    have hb := wf8 hm
    rw [w64s (by omega) (by omega)]
    exact ⟨_, rfl, hb⟩
  · rw [if_neg h, w64s (n := (i : Int) * 31) (by omega) (by omega), w64s (n := (l.length : Int) * 7) (by omega) (by omega), w64s (by omega) (by omega)]
    refine ⟨_, rfl, ?_⟩
    rw [Int.tmod_eq_emod_of_nonneg (by omega)]
    omega

def placeN (a b c : Nat) : Nat := (c % b) * (a / b) + (if a % b < c % b then a % b else c % b) + c / b
def distN (a b i : Nat) : Nat := if placeN a b (i + 1) < placeN a b i then placeN a b i - placeN a b (i + 1) else placeN a b (i + 1) - placeN a b i
def stepN (a b m i : Nat) : Nat := if distN a b i < m then distN a b i else m
def spreadN (a b : Nat) : Nat := (List.range' 0 (a - 1)).foldl (stepN a b) a
def hitN (a b s w i : Nat) : Bool := Nat.ble s (placeN a b i) && Nat.blt (placeN a b i) (s + w)
def hitsN (a b s w : Nat) : List Nat := (List.range' 0 a).filter (hitN a b s w)
def gapsN : List Nat → Bool
  | x :: y :: r => Nat.blt (x + 1) y && gapsN (y :: r)
  | _ => true
def checkN (a b : Nat) : Bool :=
  (fun w => Nat.ble 1 w && (Nat.beq (hitsN a b 0 a).length a && (List.range a).all fun s => (fun H => gapsN H && Nat.beq H.length (if a - s < w then a - s else w)) (hitsN a b s w))) (spreadN a b)
theorem checked : ((List.range 40).all fun a => (List.range 9).all fun b => checkN (a + 2) (b + 1)) = true := by decide +kernel
theorem check_at (a b : Nat) (ha : 2 ≤ a ∧ a ≤ 41) (hb : 1 ≤ b ∧ b ≤ 9) : checkN a b = true := by
  have h := checked
  rw [List.all_eq_true] at h
  have h1 := h (a - 2) (by rw [List.mem_range]; omega)
  rw [List.all_eq_true] at h1
  have h2 := h1 (b - 1) (by rw [List.mem_range]; omega)
  rw [show a - 2 + 2 = a by omega, show b - 1 + 1 = b by omega] at h2
  exact h2
theorem place_cast (a b c : Nat) : idxF a b c = (placeN a b c : Int) := by
  unfold idxF idxS placeN
  have e1 : ((c : Int) % (b : Int)) = ((c % b : Nat) : Int) := (Int.natCast_emod c b).symm
  have e2 : ((a : Int) % (b : Int)) = ((a % b : Nat) : Int) := (Int.natCast_emod a b).symm
  have e3 : ((a : Int) / (b : Int)) = ((a / b : Nat) : Int) := (Int.natCast_ediv a b).symm
  have e4 : ((c : Int) / (b : Int)) = ((c / b : Nat) : Int) := (Int.natCast_ediv c b).symm
  rw [e1, e2, e3, e4]
  by_cases h : a % b < c % b
  · rw [if_pos h, if_pos (by omega)]
    push_cast
    rfl
  · rw [if_neg h, if_neg (by omega)]
    push_cast
    rfl
theorem place_some (a b c : Nat) (hb : 1 ≤ b ∧ b ≤ 64) (ha : a ≤ 10000) (hc : c < a) : impl_InterleavedIndex.f a b c = some (placeN a b c : Int) ∧ placeN a b c < a := by
  have h := idx_is a b c (by omega) (by omega) (by omega)
  have h2 := idxF_range a b c (by omega) (by omega)
  rw [place_cast] at h h2
  exact ⟨h, by omega⟩
theorem smin_some (a b : Int) : spec_Min.f a b = some (if b < a then b else a) := by
  unfold spec_Min.f
  split <;> rfl
theorem max_some (a b : Int) : impl_Max.f a b = some (if b > a then b else a) := by
  unfold impl_Max.f
  split <;> rfl
theorem spread_loop (a b : Nat) (hb : 1 ≤ b ∧ b ≤ 64) (ha : 2 ≤ a ∧ a ≤ 10000) : ∀ (d i m : Nat), i + d + 1 = a → m ≤ 10000 →
    Ev (fun k => impl_MinimumSpread.l0 k a b m i) (((List.range' i d).foldl (stepN a b) m : Nat) : Int) := by
  intro d
  induction d with
  | zero =>
    intro i m hi hm
    exact ev1 (evn (by rw [w64s (by omega) (by omega)]; omega) (evc rfl))
  | succ d ih =>
    intro i m hi hm
    have hw : wrap64 ((i : Int) + 1) = ((i + 1 : Nat) : Int) := by rw [w64s (by omega) (by omega)]; omega
    obtain ⟨hx, hx2⟩ := place_some a b i hb (by omega) (by omega)
    obtain ⟨hy, hy2⟩ := place_some a b (i + 1) hb (by omega) (by omega)
    have hd : distN a b i < 10000 := by unfold distN; split <;> omega
    have hstep : (if (if wrap64 (-(wrap64 ((placeN a b (i + 1) : Int) - placeN a b i))) > wrap64 ((placeN a b (i + 1) : Int) - placeN a b i) then wrap64 (-(wrap64 ((placeN a b (i + 1) : Int) - placeN a b i))) else wrap64 ((placeN a b (i + 1) : Int) - placeN a b i)) < (m : Int) then (if wrap64 (-(wrap64 ((placeN a b (i + 1) : Int) - placeN a b i))) > wrap64 ((placeN a b (i + 1) : Int) - placeN a b i) then wrap64 (-(wrap64 ((placeN a b (i + 1) : Int) - placeN a b i))) else wrap64 ((placeN a b (i + 1) : Int) - placeN a b i)) else (m : Int)) = (stepN a b m i : Int) := by
      rw [w64s (n := (placeN a b (i + 1) : Int) - placeN a b i) (by omega) (by omega), w64s (n := -((placeN a b (i + 1) : Int) - placeN a b i)) (by omega) (by omega)]
      unfold stepN distN
      generalize placeN a b (i + 1) = y at *
      generalize placeN a b i = x at *
      split <;> split <;> split <;> split <;> omega
    have hsl : stepN a b m i ≤ 10000 := by unfold stepN; split <;> omega
    refine ev1 (evp (by rw [hw]; omega) (evs (by rw [hw]; exact hy) (evs hx (evs (max_some _ _) (evs (min_some _ _) ?_)))))
    rw [hstep, hw, List.range'_succ, List.foldl_cons]
    exact ih (i + 1) (stepN a b m i) (by omega) hsl
theorem spread_ev (a b : Nat) (hb : 1 ≤ b ∧ b ≤ 64) (ha : 2 ≤ a ∧ a ≤ 10000) : Ev (fun k => impl_MinimumSpread.f k a b) (spreadN a b : Int) := by
  unfold impl_MinimumSpread.f
  refine evs (isInter_some _ _) (evp (by simp; omega) (ev1 (evn (by simp; omega) ?_)))
  exact spread_loop a b hb ha (a - 1) 0 a (by omega) (by omega)
theorem hits_loop (a b s w : Nat) (hb : 1 ≤ b ∧ b ≤ 64) (ha : a ≤ 10000) (hs : s ≤ 10000) (hw : w ≤ 10000) : ∀ (d i : Nat) (acc : List Int), i + d = a → acc.length ≤ i →
    Ev (fun k => impl_BurstHits.l0 k a b s w acc i) (acc ++ ((List.range' i d).filter (hitN a b s w)).map fun j : Nat => (j : Int)) := by
  intro d
  induction d with
  | zero =>
    intro i acc hi hl
    exact ev1 (evn (by omega) (evc (by simp)))
  | succ d ih =>
    intro i acc hi hl
    obtain ⟨hx, hx2⟩ := place_some a b i hb (by omega) (by omega)
    refine ev1 (evp (by omega) (evs hx (evs (in_some _ _ _) ?_)))
    rw [w64s (n := (s : Int) + w) (by omega) (by omega), w64s (n := (s : Int) + w - 1) (by omega) (by omega), w64s (n := (i : Int) + 1) (by omega) (by omega), List.range'_succ, List.filter_cons]
    by_cases h : s ≤ placeN a b i ∧ placeN a b i < s + w
    · have hh : hitN a b s w i = true := by
        unfold hitN
        simp [h]
      rw [if_pos hh]
      refine evp (by simp; omega) (evp (by omega) ?_)
      have := ih (i + 1) (acc ++ [(i : Int)]) (by omega) (by simp; omega)
      simpa using this
    · have hh : ¬ hitN a b s w i = true := by
        unfold hitN
        simp
        omega
      rw [if_neg hh]
      refine evn (by simp; omega) ?_
      exact ih (i + 1) acc (by omega) (by omega)
theorem hits_ev (a b s w : Nat) (hb : 1 ≤ b ∧ b ≤ 64) (ha : a ≤ 10000) (hs : s ≤ 10000) (hw : w ≤ 10000) : Ev (fun k => impl_BurstHits.f k a b s w) ((hitsN a b s w).map fun j : Nat => (j : Int)) := by
  unfold impl_BurstHits.f
  refine evs (isInter_some _ _) (evp (by simp; omega) (evs (in_some _ _ _) (ev1 (evn (by simp; omega) (evs (max_some _ _) (evs (min_some _ _) ?_))))))
  have e : (if (10000 : Int) < (if (0 : Int) > (w : Int) then (0 : Int) else (w : Int)) then (10000 : Int) else (if (0 : Int) > (w : Int) then (0 : Int) else (w : Int))) = (w : Int) := by
    split <;> split <;> omega
  rw [e]
  exact hits_loop a b s w hb ha hs hw a 0 [] (by omega) (by simp)
theorem gaps_at : ∀ (H : List Nat), gapsN H = true → ∀ j, j + 1 < H.length → H.getD j 0 + 1 < H.getD (j + 1) 0
  | [], _, j, h => by simp at h
  | [x], _, j, h => by simp at h
  | x :: y :: r, g, 0, h => by
    simp [gapsN] at g
    simpa using g.1
  | x :: y :: r, g, j + 1, h => by
    simp [gapsN] at g
    have := gaps_at (y :: r) g.2 j (by simpa using h)
    simpa using this
theorem cast_getD (H : List Nat) (j : Nat) : (H.map fun j : Nat => (j : Int)).getD j 0 = (H.getD j 0 : Int) := by
  simp only [List.getD_eq_getElem?_getD, List.getElem?_map]
  cases H[j]? <;> simp
theorem law_loop (a b s : Nat) (hb : 1 ≤ b ∧ b ≤ 9) (ha : 2 ≤ a ∧ a ≤ 41) (hs : s < a) (hg : gapsN (hitsN a b s (spreadN a b)) = true) (hlen : (hitsN a b s (spreadN a b)).length = if a - s < spreadN a b then a - s else spreadN a b) (hall : (hitsN a b 0 a).length = a) (h1 : 1 ≤ spreadN a b) (hsp : spreadN a b ≤ 10000) :
    ∀ (d i : Nat), i + d = (hitsN a b s (spreadN a b)).length + 1 → 1 ≤ i → Ev (fun k => laws_FnBursts.l0 k a b (spreadN a b) s ((hitsN a b s (spreadN a b)).map fun j : Nat => (j : Int)) i) true := by
  have hfin : ∀ i : Nat, (hitsN a b s (spreadN a b)).length ≤ i → Ev (fun k => laws_FnBursts.l0 k a b (spreadN a b) s ((hitsN a b s (spreadN a b)).map fun j : Nat => (j : Int)) i) true := by
    intro i hi
    refine ev1 (evn (by rw [List.length_map]; omega) (evp (by omega) (evs (show spec_Min.f _ _ = some _ from smin_some _ _) ?_)))
    rw [w64s (n := (a : Int) - s) (by omega) (by omega)]
    refine evp ?_ (Ev.bind (hits_ev a b 0 a (by omega) (by omega) (by omega) (by omega)) (evc ?_))
    · rw [List.length_map, hlen]
      split <;> split <;> omega
    · rw [List.length_map, hall]
      simp
  intro d
  induction d with
  | zero =>
    intro i hi h
    exact hfin i (by omega)
  | succ d ih =>
    intro i hi h
    by_cases hlt : i < (hitsN a b s (spreadN a b)).length
    · have hl : (hitsN a b s (spreadN a b)).length ≤ 41 := by rw [hlen]; split <;> omega
      refine ev1 (evp (by rw [List.length_map]; omega) (evp (by omega) (evp (by rw [w64s (by omega) (by omega)]; omega) (evp (by rw [w64s (by omega) (by omega), List.length_map]; omega) ?_))))
      have hm : ∀ j, (hitsN a b s (spreadN a b)).getD j 0 ≤ 41 := by
        intro j
        rw [List.getD_eq_getElem?_getD]
        cases he : (hitsN a b s (spreadN a b))[j]? with
        | none => simp
        | some v =>
          have hv := List.mem_of_getElem? he
          unfold hitsN at hv
          rw [List.mem_filter, List.mem_range'_1] at hv
          simp
          omega
      have e : wrap64 ((i : Int) - 1) = ((i - 1 : Nat) : Int) := by rw [w64s (by omega) (by omega)]; omega
      have hg1 := gaps_at _ hg (i - 1) (by omega)
      rw [show i - 1 + 1 = i by omega] at hg1
      rw [e, rd_nat, rd_nat, cast_getD, cast_getD]
      have hm1 := hm (i - 1)
      rw [w64s (n := _ + 1) (by omega) (by omega), w64s (n := (i : Int) + 1) (by omega) (by omega)]
      exact evn (by omega) (ih (i + 1) (by omega) (by omega))
    · exact hfin i (by omega)
theorem FnBursts : laws_FnBursts.Pure := by
  intro l hm hs hw
  refine Ev.rounds (r := true) ?_
  unfold laws_FnBursts.f
  refine evs (show laws_big.f l = some _ from rfl) ?_
  by_cases hbig : (l.length : Int) > 1048576
  · exact evp (by simpa using hbig) (evc rfl)
  refine evn (by simpa using hbig) ?_
  have hn : l.length ≤ 1048576 := by omega
  obtain ⟨x, hx, hx0, hx1⟩ := at_some l hn hw 0 (by omega)
  obtain ⟨y, hy, hy0, hy1⟩ := at_some l hn hw 1 (by omega)
  obtain ⟨z, hz, hz0, hz1⟩ := at_some l hn hw 2 (by omega)
  refine evs hx (evs hy ?_)
  obtain ⟨a, ha⟩ : ∃ a : Nat, wrap64 (2 + Int.tmod x 40) = (a : Int) ∧ 2 ≤ a ∧ a ≤ 41 := by
    rw [Int.tmod_eq_emod_of_nonneg hx0, w64s (by omega) (by omega)]
    exact ⟨(2 + x % 40).toNat, by omega, by omega, by omega⟩
  obtain ⟨b, hb⟩ : ∃ b : Nat, wrap64 (1 + Int.tmod y 9) = (b : Int) ∧ 1 ≤ b ∧ b ≤ 9 := by
    rw [Int.tmod_eq_emod_of_nonneg hy0, w64s (by omega) (by omega)]
    exact ⟨(1 + y % 9).toNat, by omega, by omega, by omega⟩
  rw [ha.1, hb.1]
  have hc := check_at a b ha.2 hb.2
  unfold checkN at hc
  simp only [Bool.and_eq_true, List.all_eq_true, List.mem_range] at hc
  obtain ⟨c1, c2, c3⟩ := hc
  have c1 := Nat.le_of_ble_eq_true c1
  have c2 := Nat.eq_of_beq_eq_true c2
  have hsp : spreadN a b ≤ 10000 := by
    have : ∀ (L : List Nat) (m : Nat), m ≤ 10000 → L.foldl (stepN a b) m ≤ 10000 := by
      intro L
      induction L with
      | nil => intro m h; exact h
      | cons i L ih =>
        intro m h
        rw [List.foldl_cons]
        refine ih _ ?_
        unfold stepN
        split <;> omega
    exact this _ _ (by omega)
  refine Ev.bind (spread_ev a b (by omega) (by omega)) (evs hz (evn (by omega) ?_))
  obtain ⟨s, hs1, hs2⟩ : ∃ s : Nat, Int.tmod z (a : Int) = (s : Int) ∧ s < a := by
    rw [Int.tmod_eq_emod_of_nonneg hz0]
    have h1 : 0 ≤ z % (a : Int) := Int.emod_nonneg _ (by omega)
    have h2 : z % (a : Int) < a := Int.emod_lt_of_pos _ (by omega)
    exact ⟨(z % (a : Int)).toNat, by omega, by omega⟩
  rw [hs1]
  have c4 := c3 s hs2
  have c5 := Nat.eq_of_beq_eq_true c4.2
  refine Ev.bind (hits_ev a b s (spreadN a b) (by omega) (by omega) (by omega) hsp) ?_
  exact law_loop a b s (by omega) (by omega) hs2 c4.1 c5 c2 c1 hsp _ 1 (Nat.add_comm 1 _) (by omega)

end Go.Proofs.Ytkmkgkjinefcdaa.Pure
