/-
  Inverting the same positions twice restores the bits, merged patterns act like both of them, an error pattern is valid, and a burst is as long as it says, at every draw.
  Conditions: none beyond the given statement's own.
-/
import Derived.Test.YtldbmljooafkcaaPFnErrorPatternsx5
set_option linter.unusedVariables false
set_option linter.unusedSimpArgs false
namespace Go.Proofs.Ytldbmljooafkcaa.Pure
open Go.RowKit Go.Proofs.Ytldbmljooafkcaa.PFnErrorPatterns Go.Proofs.YtldbmljooafkcaaW.PrintWords Go.Proofs.YtldbmljooafkcaaW.PrintLast Go.Proofs.YtldbmljooafkcaaW.PrintMore

theorem evp {α : Type} {c : Prop} [Decidable c] {A B : Nat → Option α} {r : α} (hc : c) (h : Ev A r) : Ev (fun k => if c then A k else B k) r :=
  Ev.congr (fun k => if_pos hc) h
theorem evn {α : Type} {c : Prop} [Decidable c] {A B : Nat → Option α} {r : α} (hc : ¬ c) (h : Ev B r) : Ev (fun k => if c then A k else B k) r :=
  Ev.congr (fun k => if_neg hc) h
theorem evs {α β : Type} {g : Option α} {a : α} {f : Nat → α → Option β} {r : β} (hg : g = some a) (h : Ev (fun k => f k a) r) : Ev (fun k => g.bind (f k)) r :=
  Ev.congr (fun k => by rw [hg]; rfl) h
theorem evc {α : Type} {g : Option α} {r : α} (h : g = some r) : Ev (fun _ => g) r := ⟨0, fun _ _ => h⟩
theorem w64 {n : Int} (h0 : -9223372036854775808 ≤ n) (h1 : n ≤ 9223372036854775807) : wrap64 n = n := by
  unfold wrap64
  omega
theorem w64s {n : Int} (h0 : -1000000000000000000 ≤ n) (h1 : n ≤ 1000000000000000000) : wrap64 n = n := w64 (by omega) (by omega)
theorem ev1 {α : Type} {g : Nat → Option α} {r : α} (h : Ev (fun k => g (k + 1)) r) : Ev g r := Ev.step (fun _ => rfl) h
theorem dt {p : Prop} [Decidable p] (h : p) : decide p = true := decide_eq_true h
theorem dnt {p : Prop} [Decidable p] (h : ¬ p) : ¬ (decide p = true) := by simp [h]
theorem rd_nat (l : List Int) (i : Nat) : rd l (i : Int) = l.getD i 0 := by
  unfold rd
  rw [Int.toNat_natCast]
theorem rd_mem {l : List Int} {i : Nat} (h : i < l.length) : l.getD i 0 ∈ l := by
  rw [List.getD_eq_getElem?_getD, List.getElem?_eq_getElem h]
  exact List.getElem_mem h
theorem list_ext {a b : List Int} (hl : a.length = b.length) (h : ∀ i, i < a.length → a.getD i 0 = b.getD i 0) : a = b := by
  apply List.ext_getElem hl
  intro i h1 h2
  have := h i h1
  rw [List.getD_eq_getElem?_getD, List.getD_eq_getElem?_getD, List.getElem?_eq_getElem h1, List.getElem?_eq_getElem h2] at this
  simpa using this
theorem getD_set (l : List Int) (i j : Nat) (v : Int) : (l.set i v).getD j 0 = if i = j ∧ j < l.length then v else l.getD j 0 := by
  rw [List.getD_eq_getElem?_getD, List.getElem?_set, List.getD_eq_getElem?_getD]
  by_cases h : i = j
  · subst h
    by_cases h2 : i < l.length
    · simp [h2]
    · simp [h2]
  · simp [h]
def Bits (l : List Int) : Prop := ∀ x ∈ l, x = 0 ∨ x = 1
theorem drop_getD (L : List Int) (i : Nat) (h : i < L.length) : L.drop i = L.getD i 0 :: L.drop (i + 1) := by
  rw [List.drop_eq_getElem_cons h, List.getD_eq_getElem?_getD, List.getElem?_eq_getElem h]
  rfl
theorem bits_getD {l : List Int} (h : Bits l) (i : Nat) : l.getD i 0 = 0 ∨ l.getD i 0 = 1 := by
  rw [List.getD_eq_getElem?_getD]
  cases e : l[i]? with
  | none => exact .inl rfl
  | some v => exact h v (List.mem_of_getElem? e)
theorem in_some (x a b : Int) : impl_InRange.f x a b = some (decide (a ≤ x ∧ x ≤ b)) := by
  unfold impl_InRange.f
  by_cases h : a ≤ x <;> simp [h]
def fl (x : List Int) (p : Int) : List Int := if 0 ≤ p ∧ p < x.length then x.set p.toNat (1 - x.getD p.toNat 0) else x
theorem fl_length (x : List Int) (p : Int) : (fl x p).length = x.length := by
  unfold fl
  split
  · simp
  · rfl
theorem fl_bits (x : List Int) (p : Int) (h : Bits x) : Bits (fl x p) := by
  unfold fl
  split
  · intro y hy
    have hb := bits_getD h p.toNat
    rcases List.mem_or_eq_of_mem_set hy with hy | rfl
    · exact h y hy
    · omega
  · exact h
theorem fl_at (x : List Int) (p : Int) (j : Nat) (hj : j < x.length) : (fl x p).getD j 0 = if p = (j : Int) then 1 - x.getD j 0 else x.getD j 0 := by
  unfold fl
  by_cases e : p = (j : Int)
  · subst e
    rw [if_pos (by omega), if_pos rfl, Int.toNat_natCast, getD_set, if_pos ⟨rfl, hj⟩]
  · rw [if_neg e]
    split
    · rw [getD_set, if_neg (fun q => by omega)]
    · rfl
def fls (x : List Int) (ps : List Int) : List Int := ps.foldl fl x
theorem fls_length : ∀ (ps x : List Int), (fls x ps).length = x.length
  | [], x => rfl
  | p :: ps, x => by
    show (fls (fl x p) ps).length = _
    rw [fls_length ps, fl_length]
theorem fls_bits : ∀ (ps x : List Int), Bits x → Bits (fls x ps)
  | [], x, h => h
  | p :: ps, x, h => fls_bits ps (fl x p) (fl_bits x p h)
theorem fls_at : ∀ (ps x : List Int) (j : Nat), Bits x → j < x.length → (fls x ps).getD j 0 = if ps.count (j : Int) % 2 = 1 then 1 - x.getD j 0 else x.getD j 0
  | [], x, j, _, _ => by simp [fls]
  | p :: ps, x, j, hb, hj => by
    show (fls (fl x p) ps).getD j 0 = _
    rw [fls_at ps (fl x p) j (fl_bits x p hb) (by rw [fl_length]; exact hj), fl_at x p j hj, List.count_cons]
    by_cases e : p = (j : Int)
    · have eb : (p == (j : Int)) = true := by simp [e]
      rw [if_pos e, if_pos eb]
      generalize ps.count (j : Int) = c
      by_cases h : c % 2 = 1
      · rw [if_pos h, if_neg (by omega)]
        omega
      · rw [if_neg h, if_pos (by omega)]
    · have eb : ¬ ((p == (j : Int)) = true) := by simp [e]
      rw [if_neg e, if_neg eb, Nat.add_zero]
theorem fls_eq (x a b : List Int) (hb : Bits x) (h : ∀ v : Int, a.count v % 2 = b.count v % 2) : fls x a = fls x b := by
  refine list_ext (by rw [fls_length, fls_length]) (fun j hj => ?_)
  rw [fls_length] at hj
  rw [fls_at a x j hb hj, fls_at b x j hb hj, h]
theorem fls_append (x a b : List Int) : fls (fls x a) b = fls x (a ++ b) := by simp [fls]
theorem fls_twice (x a : List Int) (hb : Bits x) : fls (fls x a) a = x := by
  rw [fls_append]
  have := fls_eq x (a ++ a) [] hb (fun v => by rw [List.count_append]; simp; omega)
  rw [this]
  rfl
theorem ifl_loop (p : List Int) (hn : p.length ≤ 4000000) (n : Nat) (hn2 : n ≤ 4000000) : ∀ (d i : Nat) (x : List Int), i + d = p.length → x.length = n → Bits x → Ev (fun k => impl_FlipBits.l0 k x p p.length i) (fls x (p.drop i)) := by
  intro d
  induction d with
  | zero =>
    intro i x hi hx hb
    rw [List.drop_of_length_le (by omega)]
    exact ev1 (evn (by omega) (evc rfl))
  | succ d ih =>
    intro i x hi hx hb
    have hg : p.drop i = p.getD i 0 :: p.drop (i + 1) := by
      rw [List.drop_eq_getElem_cons (by omega), List.getD_eq_getElem?_getD, List.getElem?_eq_getElem (by omega)]
      rfl
    rw [hg]
    show Ev _ (fls (fl x (p.getD i 0)) (p.drop (i + 1)))
    refine ev1 (evp (by omega) (evp (by omega) (evp (by omega) ?_)))
    rw [rd_nat, w64s (n := (i : Int) + 1) (by omega) (by omega)]
    have h2 := ih (i + 1) (fl x (p.getD i 0)) (by omega) (by rw [fl_length]; exact hx) (fl_bits _ _ hb)
    generalize p.getD i 0 = v at *
    by_cases h0 : v ≥ 0
    · refine evp h0 ?_
      by_cases h1 : v < (x.length : Int)
      · have hbit := bits_getD hb v.toNat
        have e : rd x v = x.getD v.toNat 0 := rfl
        refine evp h1 (evp h0 (evs (in_some _ _ _) (evp (dt (by rw [e]; omega)) ?_)))
        rw [e, w64s (n := 1 - x.getD v.toNat 0) (by omega) (by omega)]
        have ef : fl x v = x.set v.toNat (1 - x.getD v.toNat 0) := by
          unfold fl
          rw [if_pos ⟨h0, h1⟩]
        rw [ef] at h2 ⊢
        exact h2
      · have ef : fl x v = x := by
          unfold fl
          rw [if_neg (fun q => h1 q.2)]
        rw [ef] at h2 ⊢
        exact evn h1 h2
    · have ef : fl x v = x := by
        unfold fl
        rw [if_neg (fun q => h0 q.1)]
      rw [ef] at h2 ⊢
      exact evn h0 h2
theorem ifl_ev (l p : List Int) (hl : l.length ≤ 4000000) (hp : p.length ≤ 4000000) (hb : Bits l) : Ev (fun k => impl_FlipBits.f k l p) (fls l p) := by
  unfold impl_FlipBits.f
  refine evs (show impl_copyInts.f l = some l from if_pos (by omega)) ?_
  have := ifl_loop p hp l.length hl p.length 0 l (by omega) rfl hb
  rw [List.drop_zero] at this
  exact this
def Inc (m : List Int) : Prop := ∀ i : Nat, i + 1 < m.length → m.getD i 0 < m.getD (i + 1) 0
def Srt (s : List Int) : Prop := ∀ i j : Nat, i ≤ j → j < s.length → s.getD i 0 ≤ s.getD j 0
theorem inc_snoc (m : List Int) (v : Int) (h : Inc m) (hv : ∀ y ∈ m, y < v) : Inc (m ++ [v]) := by
  intro i hi
  rw [List.length_append, List.length_singleton] at hi
  rw [List.getD_eq_getElem?_getD, List.getElem?_append_left (by omega), ← List.getD_eq_getElem?_getD]
  by_cases e : i + 1 < m.length
  · rw [List.getD_eq_getElem?_getD (l := m ++ [v]), List.getElem?_append_left e, ← List.getD_eq_getElem?_getD]
    exact h i e
  · rw [List.getD_eq_getElem?_getD (l := m ++ [v]), List.getElem?_append_right (by omega), show i + 1 - m.length = 0 by omega]
    exact hv _ (rd_mem (by omega))
theorem count_take (s : List Int) (j : Nat) (h : j < s.length) (v : Int) : (s.take (j + 1)).count v = (s.take j).count v + if s.getD j 0 = v then 1 else 0 := by
  have e : s.take (j + 1) = s.take j ++ [s.getD j 0] := by
    rw [List.take_add_one, List.getD_eq_getElem?_getD, List.getElem?_eq_getElem h]
    rfl
  rw [e, List.count_append, List.count_singleton]
  by_cases q : s.getD j 0 = v
  · rw [if_pos q, if_pos (by simpa using q)]
  · rw [if_neg q, if_neg (by simpa using q)]
structure MInv (s : List Int) (i : Nat) (x : List Int) : Prop where
  inc : Inc x
  last : ∀ y ∈ x, ∀ q, i ≤ q → q < s.length → y < s.getD q 0
  bnd : ∀ q q', q < i → i ≤ q' → q' < s.length → s.getD q 0 < s.getD q' 0
  cnt : ∀ v, x.count v = (s.take i).count v % 2
  len : x.length ≤ i
theorem not_before (s : List Int) (i : Nat) (x : List Int) (h : MInv s i x) (hi : i < s.length) : (s.take i).count (s.getD i 0) = 0 := by
  rw [List.count_eq_zero]
  intro hm
  obtain ⟨q, hq, e⟩ := List.getElem_of_mem hm
  rw [List.length_take] at hq
  have := h.bnd q i (by omega) (Nat.le_refl _) hi
  rw [List.getElem_take] at e
  have e2 : s.getD q 0 = s[q]'(by omega) := by rw [List.getD_eq_getElem?_getD, List.getElem?_eq_getElem (by omega)]; rfl
  rw [e2, e] at this
  omega
theorem inv_step (s : List Int) (hs : Srt s) (i j : Nat) (x : List Int) (h : MInv s i x) (hi : i < j) (hj : j ≤ s.length) (hrun : ∀ q, i ≤ q → q < j → s.getD q 0 = s.getD i 0) (hend : j < s.length → s.getD j 0 ≠ s.getD i 0)
    (hc : ∀ v, (s.take j).count v = (s.take i).count v + if s.getD i 0 = v then j - i else 0) : MInv s j (if (j - i) % 2 = 1 then x ++ [s.getD i 0] else x) := by
  have hlt : ∀ q, j ≤ q → q < s.length → s.getD i 0 < s.getD q 0 := by
    intro q h1 h2
    have h3 := hs i j (by omega) (by omega)
    have h4 := hs j q h1 h2
    have h5 := hend (by omega)
    omega
  have hb : ∀ q q', q < j → j ≤ q' → q' < s.length → s.getD q 0 < s.getD q' 0 := by
    intro q q' h1 h2 h3
    by_cases h4 : q < i
    · exact h.bnd q q' h4 (by omega) h3
    · rw [hrun q (by omega) h1]
      exact hlt q' h2 h3
  have h0 := not_before s i x h (by omega)
  by_cases ho : (j - i) % 2 = 1
  · rw [if_pos ho]
    refine ⟨inc_snoc x _ h.inc (fun y hy => h.last y hy i (Nat.le_refl _) (by omega)), ?_, hb, ?_, ?_⟩
    · intro y hy q h1 h2
      rw [List.mem_append, List.mem_singleton] at hy
      rcases hy with hy | rfl
      · exact h.last y hy q (by omega) h2
      · exact hlt q h1 h2
    · intro v
      rw [List.count_append, List.count_singleton, hc v, h.cnt v]
      by_cases e : s.getD i 0 = v
      · rw [if_pos e, if_pos (by simpa using e), ← e, h0]
        omega
      · rw [if_neg e, if_neg (by simpa using e)]
        omega
    · have := h.len
      rw [List.length_append, List.length_singleton]
      omega
  · rw [if_neg ho]
    refine ⟨h.inc, fun y hy q h1 h2 => h.last y hy q (by omega) h2, hb, ?_, by have := h.len; omega⟩
    intro v
    rw [hc v, h.cnt v]
    by_cases e : s.getD i 0 = v
    · rw [if_pos e, ← e, h0]
      omega
    · rw [if_neg e]
      omega
theorem odd_iff (i j : Nat) (h : i ≤ j) (hj : j ≤ 1000000000) : (Int.tmod (wrap64 ((j : Int) - (i : Int))) 2 = 1) ↔ (j - i) % 2 = 1 := by
  rw [w64s (by omega) (by omega), Int.tmod_eq_emod_of_nonneg (by omega)]
  omega
theorem mg_loop (s : List Int) (hs : Srt s) (hn : s.length ≤ 8000000) : ∀ (d i : Nat) (x : List Int), s.length ≤ i + d → i ≤ s.length → MInv s i x →
    ∃ m : List Int, Ev (fun k => impl_MergePatterns.l0 k s x i) m ∧ Inc m ∧ (∀ v, m.count v = s.count v % 2) ∧ m.length ≤ s.length := by
  have fin : ∀ (i : Nat) (x : List Int), i = s.length → MInv s i x → ∃ m : List Int, Ev (fun k => impl_MergePatterns.l0 k s x i) m ∧ Inc m ∧ (∀ v, m.count v = s.count v % 2) ∧ m.length ≤ s.length := by
    intro i x e h
    refine ⟨x, ev1 (evn (by omega) (evc rfl)), h.inc, fun v => ?_, by have := h.len; omega⟩
    rw [h.cnt v, List.take_of_length_le (by omega)]
  intro d
  induction d with
  | zero =>
    intro i x h1 h2 h
    exact fin i x (by omega) h
  | succ d ih =>
    intro i x h1 h2 h
    by_cases e : i = s.length
    · exact fin i x e h
    have inner : ∀ (f j : Nat), j + f = s.length → i < j → (∀ q, i ≤ q → q < j → s.getD q 0 = s.getD i 0) → (∀ v, (s.take j).count v = (s.take i).count v + if s.getD i 0 = v then j - i else 0) →
        ∃ m : List Int, Ev (fun k => impl_MergePatterns.l1 k s x i j) m ∧ Inc m ∧ (∀ v, m.count v = s.count v % 2) ∧ m.length ≤ s.length := by
      intro f
      induction f with
      | zero =>
        intro j hj hij hrun hc
        have hI := inv_step s hs i j x h hij (by omega) hrun (fun q => by omega) hc
        obtain ⟨m, hm, hr⟩ := ih j _ (by omega) (by omega) hI
        refine ⟨m, ev1 (evn (by omega) ?_), hr⟩
        by_cases ho : (j - i) % 2 = 1
        · rw [if_pos ho] at hm
          refine evp ((odd_iff i j (by omega) (by omega)).2 ho) (evp (by omega) (evp (by omega) (evp (by have := h.len; omega) ?_)))
          rw [rd_nat]
          exact hm
        · rw [if_neg ho] at hm
          exact evn (fun q => ho ((odd_iff i j (by omega) (by omega)).1 q)) hm
      | succ f ihf =>
        intro j hj hij hrun hc
        by_cases hq : s.getD j 0 = s.getD i 0
        · obtain ⟨m, hm, hr⟩ := ihf (j + 1) (by omega) (by omega) (fun q h3 h4 => by
            by_cases h5 : q = j
            · rw [h5, hq]
            · exact hrun q h3 (by omega)) (fun v => by
            rw [count_take s j (by omega) v, hc v, hq]
            by_cases h6 : s.getD i 0 = v
            · rw [if_pos h6, if_pos h6, if_pos h6]
              omega
            · rw [if_neg h6, if_neg h6, if_neg h6])
          refine ⟨m, ev1 (evp (by omega) (evp (by omega) (evp (by omega) (evp (by omega) (evp (by rw [rd_nat, rd_nat]; exact hq) ?_))))), hr⟩
          rw [w64s (n := (j : Int) + 1) (by omega) (by omega)]
          exact hm
        · have hI := inv_step s hs i j x h hij (by omega) hrun (fun _ => hq) hc
          obtain ⟨m, hm, hr⟩ := ih j _ (by omega) (by omega) hI
          refine ⟨m, ev1 (evp (by omega) (evp (by omega) (evp (by omega) (evp (by omega) (evn (by rw [rd_nat, rd_nat]; exact hq) ?_))))), hr⟩
          by_cases ho : (j - i) % 2 = 1
          · rw [if_pos ho] at hm
            refine evp ((odd_iff i j (by omega) (by omega)).2 ho) (evp (by have := h.len; omega) ?_)
            rw [rd_nat]
            exact hm
          · rw [if_neg ho] at hm
            exact evn (fun q => ho ((odd_iff i j (by omega) (by omega)).1 q)) hm
    obtain ⟨m, hm, hr⟩ := inner (s.length - (i + 1)) (i + 1) (by omega) (by omega) (fun q h3 h4 => by rw [show q = i by omega]) (fun v => by
      rw [count_take s i (by omega) v, show i + 1 - i = 1 by omega])
    refine ⟨m, ev1 (evp (by omega) (ev1 (evp (by omega) (evp (by omega) (evp (by omega) (evp (by omega) (evp rfl ?_))))))), hr⟩
    rw [w64s (n := (i : Int) + 1) (by omega) (by omega)]
    exact hm
def srt (l : List Int) : List Int := l.mergeSort fun x y => decide (x ≤ y)
theorem srt_sorted (l : List Int) : Srt (srt l) := by
  have h := List.pairwise_mergeSort (le := fun x y : Int => decide (x ≤ y)) (fun a b c h1 h2 => by simp at *; omega) (fun a b => by simp; omega) l
  rw [List.pairwise_iff_getElem] at h
  intro i j hij hj
  unfold srt at *
  rw [List.getD_eq_getElem?_getD, List.getD_eq_getElem?_getD, List.getElem?_eq_getElem hj, List.getElem?_eq_getElem (by omega)]
  by_cases e : i = j
  · subst e
    exact Int.le_refl _
  · have := h i j (by omega) hj (by omega)
    simpa using this
theorem img_ev (a b : List Int) (ha : a.length ≤ 2000000) (hb : b.length ≤ 2000000) : ∃ m : List Int, Ev (fun k => impl_MergePatterns.f k a b) m ∧ Inc m ∧ (∀ v, m.count v = (a ++ b).count v % 2) ∧ m.length ≤ a.length + b.length := by
  have hl : (srt (a ++ b)).length = a.length + b.length := by simp [srt]
  obtain ⟨m, hm, h1, h2, h3⟩ := mg_loop (srt (a ++ b)) (srt_sorted _) (by omega) (srt (a ++ b)).length 0 [] (by omega) (by omega) ⟨fun i h => by simp at h, by simp, fun q q' h => by omega, fun v => by simp, by simp⟩
  refine ⟨m, ?_, h1, fun v => by rw [h2 v, show (srt (a ++ b)).count v = (a ++ b).count v from List.Perm.count_eq (List.mergeSort_perm _ _) v], by omega⟩
  unfold impl_MergePatterns.f
  have w : wrap64 ((a.length : Int) + (b.length : Int)) = ((a.length + b.length : Nat) : Int) := by rw [w64s (by omega) (by omega)]; omega
  rw [w]
  refine evp (by omega) (evp (by omega) (evs rfl (evp (by simp; omega) (evs rfl (evp (by simp; omega) (evs (show slices_Sort_int_int.f (([] ++ a) ++ b) = some (srt (a ++ b)) from if_pos (by simp; omega)) hm))))))
def itbAt (n : Int) (i : Nat) : Int := Go.bits .and .i64 (shr .i64 n (i : Int)) 1
def itb (n : Int) (c : Nat) : List Int := (List.range' 0 c).map (itbAt n)
theorem and1 (x : Int) : Go.bits .and .i64 x 1 = 0 ∨ Go.bits .and .i64 x 1 = 1 := by
  have h : ∀ n : Nat, n ≤ 1 → IntKind.i64.wrap (n : Int) = n := by
    intro n hn
    rw [IntKind.wrap_i64]
    omega
  have e : Go.bits .and .i64 x 1 = IntKind.i64.wrap ((BitVec.ofInt 64 x &&& BitVec.ofInt 64 1).toNat : Int) := rfl
  have hle : (BitVec.ofInt 64 x &&& BitVec.ofInt 64 1).toNat ≤ 1 := by
    rw [BitVec.toNat_and]
    exact Nat.and_le_right
  rw [e, h _ hle]
  omega
theorem itb_bits (n : Int) (c : Nat) : Bits (itb n c) := by
  intro x hx
  simp only [itb, List.mem_map] at hx
  obtain ⟨i, _, rfl⟩ := hx
  exact and1 _
theorem itb_length (n : Int) (c : Nat) : (itb n c).length = c := by simp [itb]
theorem dropGetD (L : List Int) (i : Nat) (h : i < L.length) : L.drop i = L.getD i 0 :: L.drop (i + 1) := by
  rw [List.drop_eq_getElem_cons h]
  congr 1
  simp [List.getD_eq_getElem?_getD, h]
def Bytes (l : List Int) : Prop := ∀ x ∈ l, 0 ≤ x ∧ x ≤ 255
def b2bL (l : List Int) : List Int := l.flatMap fun b => itb b 8
theorem b2bL_length (l : List Int) : (b2bL l).length = 8 * l.length := by
  induction l with
  | nil => rfl
  | cons x r ih =>
    simp only [b2bL, List.flatMap_cons, List.length_append, List.length_cons, itb_length] at *
    omega
theorem b2bL_bits (l : List Int) : Bits (b2bL l) := by
  intro x hx
  simp only [b2bL, List.mem_flatMap] at hx
  obtain ⟨b, _, hx⟩ := hx
  exact itb_bits b 8 x hx
theorem b2bL_cons (b : Int) (r : List Int) : b2bL (b :: r) = itb b 8 ++ b2bL r := by simp [b2bL]
theorem sb2b_in (l : List Int) (hb : Bytes l) (i : Nat) (hi : i < l.length) (hn : l.length ≤ 1000) (r : List Int) : ∀ (d j : Nat) (acc : List Int), j + d = 8 → acc.length + d ≤ 100000 → Ev (fun k => spec_BytesToBits.l0 k l (acc ++ (List.range' j d).map (itbAt (l.getD i 0))) ((i + 1 : Nat) : Int)) r → Ev (fun k => spec_BytesToBits.l1 k l acc i j) r := by
  intro d
  induction d with
  | zero =>
    intro j acc hj ha h
    refine ev1 (evn (by omega) ?_)
    rw [w64s (n := (i : Int) + 1) (by omega) (by omega)]
    simpa using h
  | succ d ih =>
    intro j acc hj ha h
    have hx := hb _ (rd_mem (l := l) (i := i) hi)
    have hw : wrap64 ((j : Int) + 1) = ((j + 1 : Nat) : Int) := by rw [w64s (by omega) (by omega)]; omega
    refine ev1 (evp (by omega) (evp (by omega) (evp (by omega) (evp (by omega) (evp (by omega) ?_)))))
    rw [hw, rd_nat, w64s (n := l.getD i 0) (by omega) (by omega)]
    rw [List.range'_succ, List.map_cons] at h
    have h' : Ev (fun k => spec_BytesToBits.l0 k l ((acc ++ [itbAt (l.getD i 0) j]) ++ (List.range' (j + 1) d).map (itbAt (l.getD i 0))) ((i + 1 : Nat) : Int)) r := by
      rw [List.append_assoc]
      exact h
    exact ih (j + 1) _ (by omega) (by simp; omega) h'
theorem sb2b_loop (l : List Int) (hb : Bytes l) (hn : l.length ≤ 1000) : ∀ (d i : Nat) (acc : List Int), i + d = l.length → acc.length ≤ 8 * i → Ev (fun k => spec_BytesToBits.l0 k l acc i) (acc ++ b2bL (l.drop i)) := by
  intro d
  induction d with
  | zero =>
    intro i acc hi ha
    rw [List.drop_of_length_le (by omega)]
    exact ev1 (evn (by omega) (evc (by simp [b2bL])))
  | succ d ih =>
    intro i acc hi ha
    refine ev1 (evp (by omega) ?_)
    have h := ih (i + 1) (acc ++ itb (l.getD i 0) 8) (by omega) (by simp [itb_length]; omega)
    rw [List.append_assoc, ← b2bL_cons, ← dropGetD l i (by omega)] at h
    exact sb2b_in l hb i (by omega) hn _ 8 0 acc (by omega) (by omega) h
theorem sb2b_ev (l : List Int) (hb : Bytes l) (hn : l.length ≤ 1000) : Ev (fun k => spec_BytesToBits.f k l) (b2bL l) := by
  have := sb2b_loop l hb hn l.length 0 [] (by omega) (by simp)
  exact this
theorem wf8 {a : Int} (h : (Lit.int .u8 a).wf = true) : 0 ≤ a ∧ a ≤ 255 := by
  simpa [Lit.wf, IntKind.min, IntKind.max, IntKind.bits, IntKind.signed] using h
theorem at_some (l : List Int) (hn : l.length ≤ 1048576) (hw : ∀ x ∈ l, (Lit.int .u8 x).wf = true) (i : Nat) (hi : i ≤ 1000000000) : ∃ x, laws_at.f l i = some x ∧ 0 ≤ x ∧ x ≤ 255 := by
  unfold laws_at.f
  by_cases h : (i : Int) < (l.length : Int)
  · rw [if_pos h, if_pos (by omega), rd_nat]
    have hm := hw _ (rd_mem (l := l) (i := i) (by omega))
    have hb := wf8 hm
    rw [w64s (by omega) (by omega)]
    exact ⟨_, rfl, hb⟩
  · rw [if_neg h, w64s (n := (i : Int) * 31) (by omega) (by omega), w64s (n := (l.length : Int) * 7) (by omega) (by omega), w64s (by omega) (by omega)]
    refine ⟨_, rfl, ?_⟩
    rw [Int.tmod_eq_emod_of_nonneg (by omega)]
    omega
def hstep (d v : Int) : Int := Int.tmod (wrap64 ((wrap64 ((wrap64 (d * 1000003)) + v)) + 13)) 2147483647
def hashGo : Int → List Int → Int
  | d, [] => d
  | d, v :: r => hashGo (hstep d (v % 2147483647)) r
theorem tmod_cases (a : Int) : (0 ≤ a ∧ Int.tmod a 2147483647 = a % 2147483647) ∨ (a < 0 ∧ Int.tmod a 2147483647 = -((-a) % 2147483647)) := by
  by_cases h : 0 ≤ a
  · exact .inl ⟨h, Int.tmod_eq_emod_of_nonneg h⟩
  · refine .inr ⟨by omega, ?_⟩
    have e : Int.tmod (-(-a)) 2147483647 = -(Int.tmod (-a) 2147483647) := Int.neg_tmod (-a) 2147483647
    rw [Int.neg_neg] at e
    rw [e, Int.tmod_eq_emod_of_nonneg (by omega)]
theorem imod_some (a : Int) : impl_Mod.f a 2147483647 = some (a % 2147483647) := by
  unfold impl_Mod.f
  rw [in_some]
  simp only [Option.bind_some]
  rw [if_pos (by decide), if_neg (by decide)]
  rcases tmod_cases a with ⟨h, e⟩ | ⟨h, e⟩
  · rw [e, if_neg (by omega)]
  · rw [e]
    by_cases h2 : -((-a) % 2147483647) < 0
    · rw [if_pos h2, w64s (by omega) (by omega)]
      exact congrArg some (by omega)
    · rw [if_neg h2]
      exact congrArg some (by omega)
theorem ihash_loop (l : List Int) (hn : l.length ≤ 4000000000000000) : ∀ (d i : Nat) (acc : Int), i + d = l.length → Ev (fun k => impl_Hash.l0 k acc l l.length i) (hashGo acc (l.drop i)) := by
  intro d
  induction d with
  | zero =>
    intro i acc hi
    rw [List.drop_of_length_le (by omega)]
    exact ev1 (evn (by omega) (evc rfl))
  | succ d ih =>
    intro i acc hi
    refine ev1 (evp (by omega) (evp (by omega) (evp (by omega) (evs (imod_some _) ?_))))
    rw [drop_getD l i (by omega), hashGo, rd_nat, w64s (n := (i : Int) + 1) (by omega) (by omega)]
    exact ih (i + 1) _ (by omega)
theorem ihash_ev (l : List Int) (hn : l.length ≤ 4000000000000000) : Ev (fun k => impl_Hash.f k l) (hashGo 11 l) := ihash_loop l hn l.length 0 11 (by omega)
def sqV (s i : Int) : Int := Int.tmod (wrap64 (hashGo 11 [s, i, s] * hashGo 11 [s, i, s])) 2147483647
theorem isq_ev (s i : Int) : Ev (fun k => impl_squaredHash.f k s i) (sqV s i) := by
  unfold impl_squaredHash.f
  have h : Ev (fun k => impl_KeyedHash.f k s [i]) (hashGo 11 [s, i, s]) := by
    unfold impl_KeyedHash.f
    rw [w64s (n := (([i] : List Int).length : Int) + 2) (by simp) (by simp)]
    refine evp (by simp) (evp (by simp) (evs rfl (evp (by simp) (evs rfl (evp (by simp) (evs rfl (evp (by simp) (Ev.bind (ihash_ev [s, i, s] (by simp)) (evc rfl)))))))))
  exact Ev.bind h (evc rfl)
theorem same_loop (x : List Int) (hn : x.length ≤ 4000000000000000) : ∀ (d i : Nat), i + d = x.length → Ev (fun k => laws_sameInts.l0 k x x i) true := by
  intro d
  induction d with
  | zero =>
    intro i hi
    exact ev1 (evn (by omega) (evc rfl))
  | succ d ih =>
    intro i hi
    refine ev1 (evp (by omega) (evp (by omega) (evp (by omega) (evp rfl ?_))))
    rw [w64s (by omega) (by omega)]
    exact ih (i + 1) (by omega)
theorem same_ev (l : List Int) (hn : l.length ≤ 4000000000000000) : Ev (fun k => laws_sameInts.f k l l) true := by
  unfold laws_sameInts.f
  exact evp rfl (same_loop l hn l.length 0 (by omega))
theorem and255 (x : Int) : 0 ≤ Go.bits .and .i64 x 255 ∧ Go.bits .and .i64 x 255 ≤ 255 := by
  have h : ∀ n : Nat, n ≤ 255 → IntKind.i64.wrap (n : Int) = n := by
    intro n hn
    rw [IntKind.wrap_i64]
    omega
  have e : Go.bits .and .i64 x 255 = IntKind.i64.wrap ((BitVec.ofInt 64 x &&& BitVec.ofInt 64 255).toNat : Int) := rfl
  have hle : (BitVec.ofInt 64 x &&& BitVec.ofInt 64 255).toNat ≤ 255 := by
    rw [BitVec.toNat_and]
    exact Nat.and_le_right
  rw [e, h _ hle]
  omega
def Cur (l : List Int) (i : Int) : Prop := 0 ≤ i ∧ i ≤ l.length
theorem new_loop (x : List Int) (hn : x.length ≤ 4000000000000000) : ∀ (d i : Nat) (h : Int), i + d = x.length → ∃ h', Ev (fun k => spec_l1New.l0 k x h i) (x, 0, h') := by
  intro d
  induction d with
  | zero =>
    intro i h hi
    exact ⟨h, ev1 (evn (by omega) (evc rfl))⟩
  | succ d ih =>
    intro i h hi
    by_cases h4 : (i : Int) < 4000
    · obtain ⟨h', hh⟩ := ih (i + 1) (Go.bits .and .i64 (wrap64 ((wrap64 ((wrap64 (h * 137)) + (wrap64 (rd x i)))) + 11)) 1073741823) (by omega)
      refine ⟨h', ev1 (evp (by omega) (evp h4 (evp (by omega) ?_)))⟩
      rw [w64s (n := (i : Int) + 1) (by omega) (by omega)]
      exact hh
    · exact ⟨h, ev1 (evp (by omega) (evn h4 (evc rfl)))⟩
theorem new_ev (l : List Int) (hn : l.length ≤ 4000000000000000) : ∃ h', Ev (fun k => spec_l1New.f k l) (l, 0, h') := by
  unfold spec_l1New.f
  exact new_loop l hn l.length 0 _ (by omega)
theorem byte_some (l : List Int) (hn : l.length ≤ 4000000000000000) (i h : Int) (hc : Cur l i) : ∃ x i' h', spec_l1Byte.f l i h = some (x, i', h') ∧ (0 ≤ x ∧ x ≤ 255) ∧ Cur l i' := by
  unfold spec_l1Byte.f
  unfold Cur at *
  by_cases hi : i < (l.length : Int)
  · rw [if_pos hi, if_pos hc.1]
    refine ⟨_, _, _, rfl, and255 _, ?_⟩
    rw [w64s (n := i + 1) (by omega) (by omega)]
    omega
  · rw [if_neg hi]
    exact ⟨_, _, _, rfl, and255 _, hc⟩
theorem below_some (l : List Int) (hn : l.length ≤ 4000000000000000) (i h : Int) (hc : Cur l i) (n : Int) (h1 : 1 ≤ n) (h2 : n ≤ 1000000000000) : ∃ x i' h', spec_l1Below.f l i h n = some (x, i', h') ∧ (0 ≤ x ∧ x < n) ∧ Cur l i' := by
  unfold spec_l1Below.f
  rw [if_neg (by omega)]
  by_cases h3 : n ≤ 256
  · rw [if_pos h3]
    obtain ⟨x, i', h', e, hx, hc'⟩ := byte_some l hn i h hc
    rw [e]
    simp only [Option.bind_some]
    rw [if_neg (by omega)]
    refine ⟨_, _, _, rfl, ?_, hc'⟩
    rw [Int.tmod_eq_emod_of_nonneg hx.1]
    exact ⟨Int.emod_nonneg _ (by omega), Int.emod_lt_of_pos _ (by omega)⟩
  · rw [if_neg h3]
    obtain ⟨x, i', h', e, hx, hc'⟩ := byte_some l hn i h hc
    rw [e]
    simp only [Option.bind_some]
    obtain ⟨y, i2, h2, e2, hy, hc2⟩ := byte_some l hn i' h' hc'
    rw [e2]
    simp only [Option.bind_some]
    obtain ⟨z, i3, h3, e3, hz, hc3⟩ := byte_some l hn i2 h2 hc2
    rw [e3]
    simp only [Option.bind_some]
    rw [if_neg (by omega)]
    refine ⟨_, _, _, rfl, ?_, hc3⟩
    rw [w64s (n := x * 65536) (by omega) (by omega), w64s (n := y * 256) (by omega) (by omega), w64s (n := x * 65536 + y * 256) (by omega) (by omega), w64s (n := x * 65536 + y * 256 + z) (by omega) (by omega)]
    rw [Int.tmod_eq_emod_of_nonneg (by omega)]
    exact ⟨Int.emod_nonneg _ (by omega), Int.emod_lt_of_pos _ (by omega)⟩
theorem int_some (l : List Int) (hn : l.length ≤ 4000000000000000) (i h : Int) (hc : Cur l i) (ls : List Int) (h1 : 1 ≤ ls.length) (h2 : ls.length ≤ 1000) : ∃ x i' h', spec_l1Int.f l i h ls = some (x, i', h') ∧ x ∈ ls ∧ Cur l i' := by
  unfold spec_l1Int.f
  obtain ⟨x, i', h', e, hx, hc'⟩ := below_some l hn i h hc (ls.length : Int) (by omega) (by omega)
  rw [e]
  simp only [Option.bind_some]
  rw [if_pos hx.1, if_pos hx.2]
  obtain ⟨j, rfl⟩ := Int.eq_ofNat_of_zero_le hx.1
  refine ⟨_, _, _, rfl, ?_, hc'⟩
  rw [rd_nat]
  exact rd_mem (by omega)
theorem pat_ev (L : List Int) (hL : L.length ≤ 4000000000000000) : ∀ (d : Nat) (x : List Int) (i h : Int), d ≤ 1000 → x.length + d ≤ 1000 → Cur L i → ∃ (r : List Int) (i' h' : Int), Ev (fun k => spec_l9Pattern.l0 k 9 x d L i h) (r, i', h') ∧ r.length ≤ 1000 ∧ Cur L i' := by
  intro d
  induction d with
  | zero =>
    intro x i h hd hx hc
    exact ⟨x, i, h, ev1 (evn (by omega) (evc rfl)), by omega, hc⟩
  | succ d ih =>
    intro x i h hd hx hc
    obtain ⟨v, i1, h1, e1, hv, c1⟩ := below_some L hL i h hc 11 (by omega) (by omega)
    obtain ⟨r, i2, h2, e2, hr, c2⟩ := ih (x ++ [wrap64 (v - 1)]) i1 h1 (by omega) (by simp; omega) c1
    refine ⟨r, i2, h2, ev1 (evp (by omega) ?_), hr, c2⟩
    rw [show wrap64 ((9 : Int) + 2) = 11 by rw [w64s (by omega) (by omega)]; rfl, show ((d + 1 : Nat) : Int) - 1 = (d : Int) by omega, w64s (n := (d : Int)) (by omega) (by omega)]
    exact evs e1 (evp (by omega) e2)
theorem pattern_ev (L : List Int) (hL : L.length ≤ 4000000000000000) (i h : Int) (hc : Cur L i) : ∃ (r : List Int) (i' h' : Int), Ev (fun k => spec_l9Pattern.f k L i h 9) (r, i', h') ∧ r.length ≤ 1000 ∧ Cur L i' := by
  unfold spec_l9Pattern.f
  obtain ⟨n, i1, h1, e1, hn, c1⟩ := below_some L hL i h hc 5 (by omega) (by omega)
  obtain ⟨n, rfl⟩ := Int.eq_ofNat_of_zero_le hn.1
  obtain ⟨r, i2, h2, e2, hr, c2⟩ := pat_ev L hL n [] i1 h1 (by omega) (by simp; omega) c1
  exact ⟨r, i2, h2, evs e1 e2, hr, c2⟩
theorem two_ev (L : List Int) (hL : L.length ≤ 4000000000000000) : ∃ (a b : List Int), Ev (fun k => spec_DrawMergePatterns.f k L) (a, b) ∧ a.length ≤ 1000 ∧ b.length ≤ 1000 := by
  unfold spec_DrawMergePatterns.f
  obtain ⟨h0, e0⟩ := new_ev L hL
  obtain ⟨a, i1, h1, e1, ha, c1⟩ := pattern_ev L hL 0 h0 ⟨by omega, by omega⟩
  obtain ⟨b, i2, h2, e2, hb, c2⟩ := pattern_ev L hL i1 h1 c1
  exact ⟨a, b, Ev.bind e0 (Ev.bind e1 (Ev.bind e2 (evc rfl))), ha, hb⟩
theorem three_ev (L : List Int) (hL : L.length ≤ 4000000000000000) : ∃ (s n r : Int), Ev (fun k => spec_DrawErrorPattern.f k L) (s, n, r) ∧ (-1 ≤ n ∧ n ≤ 10001) := by
  unfold spec_DrawErrorPattern.f
  obtain ⟨h0, e0⟩ := new_ev L hL
  obtain ⟨s, i1, h1, e1, hs, c1⟩ := below_some L hL 0 h0 ⟨by omega, by omega⟩ 100 (by omega) (by omega)
  obtain ⟨n, i2, h2, e2, hn, c2⟩ := int_some L hL i1 h1 c1 [(-1), 0, 20, 60, 10001] (by decide) (by decide)
  obtain ⟨r, i3, h3, e3, hr, c3⟩ := int_some L hL i2 h2 c2 [(-1), 0, 100, 500, 1000, 1001] (by decide) (by decide)
  refine ⟨s, n, r, Ev.bind e0 (evs e1 (evs e2 (evs e3 (evc rfl)))), ?_⟩
  simp only [List.mem_cons, List.not_mem_nil, or_false] at hn
  omega
theorem errp_loop (s n r : Int) (hn : 0 ≤ n ∧ n ≤ 10000) : ∀ (d i : Nat) (acc : List Int), (i : Int) + d = n → acc.length ≤ i → Inc acc → (∀ y ∈ acc, 0 ≤ y ∧ y < i) →
    ∃ p : List Int, Ev (fun k => impl_ErrorPattern.l0 k s n r acc i) p ∧ Inc p ∧ (∀ y ∈ p, 0 ≤ y ∧ y < n) ∧ p.length ≤ 10000 ∧ (1000 ≤ r → p.length = acc.length + d) := by
  intro d
  induction d with
  | zero =>
    intro i acc hi ha h1 h2
    exact ⟨acc, ev1 (evn (by omega) (evc rfl)), h1, fun y hy => by have := h2 y hy; omega, by omega, fun _ => by omega⟩
  | succ d ih =>
    intro i acc hi ha h1 h2
    have hq := isq_ev s i
    have hw : wrap64 ((i : Int) + 1) = ((i + 1 : Nat) : Int) := by rw [w64s (by omega) (by omega)]; omega
    by_cases h : Int.tmod (sqV s i) 1000 < r
    · obtain ⟨p, e, g1, g2, g3, g4⟩ := ih (i + 1) (acc ++ [(i : Int)]) (by omega) (by simp; omega) (inc_snoc acc _ h1 (fun y hy => (h2 y hy).2)) (fun y hy => by
        rw [List.mem_append, List.mem_singleton] at hy
        rcases hy with hy | rfl
        · have := h2 y hy
          omega
        · omega)
      refine ⟨p, ev1 (evp (by omega) (Ev.bind hq (evp h (evp (by omega) ?_)))), g1, g2, g3, fun q => by rw [g4 q, List.length_append, List.length_singleton]; omega⟩
      rw [hw]
      exact e
    · obtain ⟨p, e, g1, g2, g3, g4⟩ := ih (i + 1) acc (by omega) (by omega) h1 (fun y hy => by have := h2 y hy; omega)
      refine ⟨p, ev1 (evp (by omega) (Ev.bind hq (evn h ?_))), g1, g2, g3, fun q => ?_⟩
      · rw [hw]
        exact e
      · exact absurd (Int.lt_of_lt_of_le (Int.tmod_lt_of_pos _ (by omega)) q) h
theorem errp_ev (s n r : Int) (hn : n ≤ 10001) : ∃ p : List Int, Ev (fun k => impl_ErrorPattern.f k s n r) p ∧ Inc p ∧ (∀ y ∈ p, 0 ≤ y ∧ y < n) ∧ p.length ≤ 10000 ∧ ((0 ≤ n ∧ n ≤ 10000) → 1000 ≤ r → (p.length : Int) = n) := by
  unfold impl_ErrorPattern.f
  by_cases h : 0 ≤ n ∧ n ≤ 10000
  · obtain ⟨m, rfl⟩ := Int.eq_ofNat_of_zero_le h.1
    obtain ⟨p, e, g1, g2, g3, g4⟩ := errp_loop s m r h m 0 [] (by omega) (by simp) (fun i hi => by simp at hi) (by simp)
    exact ⟨p, evs rfl (evs (in_some _ _ _) (evp (dt h) e)), g1, g2, g3, fun _ q => by rw [g4 q]; simp⟩
  · exact ⟨[], evs rfl (evs (in_some _ _ _) (evn (dnt h) (evc rfl))), fun i hi => by simp at hi, by simp, by simp, fun q => absurd q h⟩
theorem valid_loop (p : List Int) (n : Int) (hn : -1 ≤ n ∧ n ≤ 10001) (hp : p.length ≤ 10000) (h1 : Inc p) (h2 : ∀ y ∈ p, 0 ≤ y ∧ y < n) : ∀ (d i : Nat), i + d = p.length → Ev (fun k => impl_IsValidPattern.l0 k p n p p.length i) true := by
  intro d
  induction d with
  | zero =>
    intro i hi
    exact ev1 (evn (by omega) (evc rfl))
  | succ d ih =>
    intro i hi
    have hx := h2 _ (rd_mem (l := p) (i := i) (by omega))
    have hw : wrap64 ((i : Int) + 1) = ((i + 1 : Nat) : Int) := by rw [w64s (by omega) (by omega)]; omega
    have hnext := ih (i + 1) (by omega)
    rw [← hw] at hnext
    refine ev1 (evp (by omega) (evp (by omega) (evp (by omega) ?_)))
    rw [rd_nat]
    have e0 : decide (p.getD i 0 > wrap64 (n - 1)) = false := by
      rw [w64s (by omega) (by omega)]
      exact decide_eq_false (by omega)
    rw [e0]
    refine evn (by omega) ?_
    by_cases h0 : i = 0
    · subst h0
      refine ev1 (Ev.congr (f := fun k => impl_IsValidPattern.l0 k p n p p.length (wrap64 ((0 : Nat) + 1))) (fun k => by rw [impl_IsValidPattern.j1, if_neg (by decide), if_neg (by decide)]) hnext)
    · obtain ⟨j, rfl⟩ : ∃ j, i = j + 1 := ⟨i - 1, by omega⟩
      have hj := h1 j (by omega)
      have wj : wrap64 (((j + 1 : Nat) : Int) - 1) = (j : Int) := by rw [w64s (by omega) (by omega)]; omega
      refine ev1 (Ev.congr (f := fun k => impl_IsValidPattern.l0 k p n p p.length (wrap64 (((j + 1 : Nat) : Int) + 1))) (fun k => by
        rw [impl_IsValidPattern.j1, if_neg (by decide), if_pos (by omega), wj, if_pos (by omega), if_pos (by omega), rd_nat, if_neg (by omega)]) hnext)
theorem burst_loop : ∀ (d i : Nat) (x : List Int), i + d = 5 → x.length = i → Ev (fun k => impl_BurstPattern.l0 k 3 5 x i) (x ++ (List.range' i d).map fun j : Nat => (3 + (j : Int))) := by
  intro d
  induction d with
  | zero =>
    intro i x hi hx
    exact ev1 (evn (by omega) (evc (by simp)))
  | succ d ih =>
    intro i x hi hx
    have h := ih (i + 1) (x ++ [3 + (i : Int)]) (by omega) (by simp; omega)
    rw [List.append_assoc] at h
    refine ev1 (evp (by omega) (evp (by omega) ?_))
    rw [w64s (n := 3 + (i : Int)) (by omega) (by omega), w64s (n := (i : Int) + 1) (by omega) (by omega), List.range'_succ, List.map_cons]
    exact h
theorem burst_ev : Ev (fun k => impl_BurstPattern.f k 3 5) [3, 4, 5, 6, 7] := by
  unfold impl_BurstPattern.f
  have h := burst_loop 5 0 [] (by omega) (by simp)
  refine evs rfl (evs (in_some _ _ _) (evp (dt (by omega)) (evs (in_some _ _ _) ?_)))
  have e : (!decide ((0 : Int) ≤ 5 ∧ (5 : Int) ≤ 1000)) = false := by decide
  rw [e]
  refine ev1 (Ev.congr (f := fun k => impl_BurstPattern.l0 k 3 5 [] 0) (fun k => by rw [impl_BurstPattern.j0, if_neg (by decide)]) ?_)
  exact h
theorem sev : ∀ j : Nat, j < 5 → ([3, 4, 5, 6, 7] : List Int).getD j 0 = 3 + (j : Int) := by
  intro j hj
  rcases j with _ | _ | _ | _ | _ | j
  · rfl
  · rfl
  · rfl
  · rfl
  · rfl
  · omega
theorem lb_loop : ∀ (d i : Nat), i + d = 5 → 1 ≤ i → Ev (fun k => impl_LongestBurst.l0 k [3, 4, 5, 6, 7] 5 [(i : Int)] i) 5 := by
  intro d
  induction d with
  | zero =>
    intro i hi h1
    have e : i = 5 := by omega
    subst e
    exact ev1 (evn (by omega) (evn (by decide) (evs (show slices_Max_int_int.f [((5 : Nat) : Int)] = some 5 by decide +kernel) (evc rfl))))
  | succ d ih =>
    intro i hi h1
    have wi : wrap64 ((i : Int) - 1) = ((i - 1 : Nat) : Int) := by rw [w64s (by omega) (by omega)]; omega
    have w0 : wrap64 ((([(i : Int)] : List Int).length : Int) - 1) = ((0 : Nat) : Int) := by rw [w64s (by simp) (by simp)]; simp
    have hn := ih (i + 1) (by omega) (by omega)
    refine ev1 (evp (by omega) ?_)
    rw [wi, w0, rd_nat, rd_nat, rd_nat, sev (i - 1) (by omega), sev i (by omega)]
    refine evp (by omega) (evp (by simp; omega) (evp (by omega) (evp (by simp; omega) (evp (by rw [w64s (by omega) (by omega)]; omega) (evp (by omega) (evp (by simp) ?_))))))
    have e1 : wrap64 (([(i : Int)] : List Int).getD 0 0 + 1) = ((i + 1 : Nat) : Int) := by
      show wrap64 ((i : Int) + 1) = _
      rw [w64s (by omega) (by omega)]
      omega
    rw [e1, w64s (n := (i : Int) + 1) (by omega) (by omega)]
    exact hn
theorem longest_ev : Ev (fun k => impl_LongestBurst.f k [3, 4, 5, 6, 7]) 5 := by
  have hs : slices_Sort_int_int.f [3, 4, 5, 6, 7] = some [3, 4, 5, 6, 7] := by
    unfold slices_Sort_int_int.f
    rw [if_pos (by decide), List.mergeSort_of_pairwise (by decide)]
  have hc : slices_Compact_int_int.f [3, 4, 5, 6, 7] = some [3, 4, 5, 6, 7] := by decide +kernel
  unfold impl_LongestBurst.f
  refine evs (show impl_copyInts.f [3, 4, 5, 6, 7] = some [3, 4, 5, 6, 7] from rfl) (evs hs (evs hc ?_))
  refine evn (by decide) ?_
  exact lb_loop 4 1 (by omega) (by omega)
theorem wsub (j : Nat) (h : j ≤ 1000000) : wrap64 (((j + 1 : Nat) : Int) - 1) = (j : Int) := by
  rw [w64s (by omega) (by omega)]
  omega
theorem wadd (j : Nat) (h : j ≤ 1000000) : wrap64 ((j : Int) + 1) = ((j + 1 : Nat) : Int) := by
  rw [w64s (by omega) (by omega)]
  omega
theorem end_ev (L a b B m : List Int) (hL : L.length ≤ 4000000000000000) (ha : a.length ≤ 1000) (hb : b.length ≤ 1000) (hB : Bits B) (hBl : B.length ≤ 1000) (hm : Inc m) (hml : m.length ≤ 2000) (hc : ∀ v, m.count v = (a ++ b).count v % 2) :
    ∀ (d i : Nat), i + d = m.length + 1 → 1 ≤ i → Ev (fun k => laws_FnErrorPatterns.l0 k L a b B m i) true := by
  have hend : ∀ i : Nat, m.length ≤ i → Ev (fun k => laws_FnErrorPatterns.l0 k L a b B m i) true := by
    intro i hi
    obtain ⟨s, n, r, e1, hn⟩ := three_ev L hL
    obtain ⟨p, e2, p1, p2, p3, _⟩ := errp_ev s n r hn.2
    obtain ⟨q, e3, _, _, _, q4⟩ := errp_ev s 9 1000 (by omega)
    have hq := q4 (by omega) (by omega)
    have f1 := ifl_ev B a (by omega) (by omega) hB
    have f2 := ifl_ev (fls B a) a (by rw [fls_length]; omega) (by omega) (fls_bits _ _ hB)
    rw [fls_twice B a hB] at f2
    have f3 := ifl_ev B m (by omega) (by omega) hB
    have f4 := ifl_ev (fls B a) b (by rw [fls_length]; omega) (by omega) (fls_bits _ _ hB)
    have e : fls B m = fls (fls B a) b := by
      rw [fls_append]
      exact fls_eq B m (a ++ b) hB (fun v => by rw [hc v]; omega)
    rw [← e] at f4
    have s1 := same_ev B (by omega)
    have s2 := same_ev (fls B m) (by rw [fls_length]; omega)
    have v1 := valid_loop p n hn p3 p1 p2 p.length 0 (by omega)
    have vv : Ev (fun k => impl_IsValidPattern.f k p n) true := v1
    refine ev1 (evn (by omega) (Ev.bind e1 ?_))
    refine Ev.bind e2 (Ev.bind f1 (Ev.bind f2 (Ev.bind s1 (evp rfl ?_))))
    refine Ev.bind f3 (Ev.bind f1 (Ev.bind f4 (Ev.bind s2 (evp rfl ?_))))
    refine Ev.bind vv (evp rfl (Ev.bind burst_ev (Ev.bind longest_ev (evp rfl ?_))))
    obtain ⟨q2, e4, _, _, _, q5⟩ := errp_ev s 9 1000 (by omega)
    have hq2 := q5 (by omega) (by omega)
    exact Ev.bind e4 (evc (by rw [hq2]; rfl))
  intro d
  induction d with
  | zero =>
    intro i hi h1
    exact hend i (by omega)
  | succ d ih =>
    intro i hi h1
    by_cases h : m.length ≤ i
    · exact hend i h
    · obtain ⟨j, rfl⟩ : ∃ j, i = j + 1 := ⟨i - 1, by omega⟩
      have hj := hm j (by omega)
      have hnext := ih (j + 1 + 1) (by omega) (by omega)
      refine ev1 (evp (by omega) (evp (by omega) ?_))
      rw [wsub j (by omega), wadd (j + 1) (by omega)]
      refine evp (by omega) (evp (by omega) ?_)
      rw [rd_nat, rd_nat]
      exact evn (by omega) hnext
theorem FnErrorPatterns : laws_FnErrorPatterns.Pure := by
  intro L hm hs hw
  refine Ev.rounds (r := true) ?_
  unfold laws_FnErrorPatterns.f
  refine evs (show laws_big.f L = some _ from rfl) ?_
  by_cases hbig : (L.length : Int) > 1048576
  · exact evp (by simpa using hbig) (evc rfl)
  refine evn (by simpa using hbig) ?_
  have hL : L.length ≤ 1048576 := by omega
  obtain ⟨a, b, e, ha, hb⟩ := two_ev L (by omega)
  obtain ⟨x, ex, hx⟩ := at_some L hL hw 0 (by omega)
  obtain ⟨y, ey, hy⟩ := at_some L hL hw 1 (by omega)
  have hby : Bytes [x % 256, y % 256] := by
    intro z hz
    simp only [List.mem_cons, List.not_mem_nil, or_false] at hz
    omega
  have eb := sb2b_ev [x % 256, y % 256] hby (by simp)
  have hB := b2bL_bits [x % 256, y % 256]
  have hBl := b2bL_length [x % 256, y % 256]
  obtain ⟨m, em, m1, m2, m3⟩ := img_ev a b (by omega) (by omega)
  refine Ev.bind e (evs ex (evs ey (Ev.bind eb (Ev.bind em ?_))))
  exact end_ev L a b _ m (by omega) ha hb hB (by rw [hBl]; simp) m1 (by omega) m2 m.length 1 (by omega) (Nat.le_refl _)

end Go.Proofs.Ytldbmljooafkcaa.Pure
