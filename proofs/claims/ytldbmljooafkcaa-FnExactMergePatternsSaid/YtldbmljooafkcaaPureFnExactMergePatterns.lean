/-
  The program's MergePatterns and the reference's agree at every two patterns of at most 2^20 numbers, the arguments are left as they were, and the answers share no memory.
  Conditions: none beyond the given statement's own.
-/
import Derived.Test.YtldbmljooafkcaaPFnExactMergePatternsx4
set_option linter.unusedVariables false
set_option linter.unusedSimpArgs false
namespace Go.Proofs.Ytldbmljooafkcaa.Pure
open Go.RowKit Go.Proofs.Ytldbmljooafkcaa.PFnExactMergePatterns Go.Proofs.YtldbmljooafkcaaW.PrintWords Go.Proofs.YtldbmljooafkcaaW.PrintLast Go.Proofs.YtldbmljooafkcaaW.PrintMore

theorem evp {α : Type} {c : Prop} [Decidable c] {A B : Nat → Option α} {r : α} (hc : c) (h : Ev A r) : Ev (fun k => if c then A k else B k) r :=
  Ev.congr (fun k => if_pos hc) h
theorem evn {α : Type} {c : Prop} [Decidable c] {A B : Nat → Option α} {r : α} (hc : ¬ c) (h : Ev B r) : Ev (fun k => if c then A k else B k) r :=
  Ev.congr (fun k => if_neg hc) h
theorem evs {α β : Type} {g : Option α} {a : α} {f : Nat → α → Option β} {r : β} (hg : g = some a) (h : Ev (fun k => f k a) r) : Ev (fun k => g.bind (f k)) r :=
  Ev.congr (fun k => by rw [hg]; rfl) h
theorem evc {α : Type} {g : Option α} {r : α} (h : g = some r) : Ev (fun _ => g) r := ⟨0, fun _ _ => h⟩
theorem ev_eq {α : Type} {g : Nat → Option α} {r r' : α} (h : Ev g r) (e : r = r') : Ev g r' := e ▸ h
theorem w64 {n : Int} (h0 : -9223372036854775808 ≤ n) (h1 : n ≤ 9223372036854775807) : wrap64 n = n := by
  unfold wrap64
  omega
theorem w64s {n : Int} (h0 : -1000000000000000000 ≤ n) (h1 : n ≤ 1000000000000000000) : wrap64 n = n := w64 (by omega) (by omega)
theorem ev1 {α : Type} {g : Nat → Option α} {r : α} (h : Ev (fun k => g (k + 1)) r) : Ev g r := Ev.step (fun _ => rfl) h
theorem rd_nat (l : List Int) (i : Nat) : rd l (i : Int) = l.getD i 0 := by
  unfold rd
  rw [Int.toNat_natCast]
theorem rd_mem {l : List Int} {i : Nat} (h : i < l.length) : l.getD i 0 ∈ l := by
  rw [List.getD_eq_getElem?_getD, List.getElem?_eq_getElem h]
  exact List.getElem_mem h
theorem list_ext {a b : List Int} (hl : a.length = b.length) (h : ∀ i, i < a.length → a.getD i 0 = b.getD i 0) : a = b := by
  apply List.ext_getElem hl
  intro i h1 h2
  have := h i h1
  rw [List.getD_eq_getElem?_getD, List.getD_eq_getElem?_getD, List.getElem?_eq_getElem h1, List.getElem?_eq_getElem h2] at this
  simpa using this
theorem getD_set (l : List Int) (i j : Nat) (v : Int) : (l.set i v).getD j 0 = if i = j ∧ j < l.length then v else l.getD j 0 := by
  rw [List.getD_eq_getElem?_getD, List.getElem?_set, List.getD_eq_getElem?_getD]
  by_cases h : i = j
  · subst h
    by_cases h2 : i < l.length
    · simp [h2]
    · simp [h2]
  · simp [h]
def Inc (m : List Int) : Prop := ∀ i : Nat, i + 1 < m.length → m.getD i 0 < m.getD (i + 1) 0
def Srt (s : List Int) : Prop := ∀ i j : Nat, i ≤ j → j < s.length → s.getD i 0 ≤ s.getD j 0
theorem inc_snoc (m : List Int) (v : Int) (h : Inc m) (hv : ∀ y ∈ m, y < v) : Inc (m ++ [v]) := by
  intro i hi
  rw [List.length_append, List.length_singleton] at hi
  rw [List.getD_eq_getElem?_getD, List.getElem?_append_left (by omega), ← List.getD_eq_getElem?_getD]
  by_cases e : i + 1 < m.length
  · rw [List.getD_eq_getElem?_getD (l := m ++ [v]), List.getElem?_append_left e, ← List.getD_eq_getElem?_getD]
    exact h i e
  · rw [List.getD_eq_getElem?_getD (l := m ++ [v]), List.getElem?_append_right (by omega), show i + 1 - m.length = 0 by omega]
    exact hv _ (rd_mem (by omega))
theorem count_take (s : List Int) (j : Nat) (h : j < s.length) (v : Int) : (s.take (j + 1)).count v = (s.take j).count v + if s.getD j 0 = v then 1 else 0 := by
  have e : s.take (j + 1) = s.take j ++ [s.getD j 0] := by
    rw [List.take_add_one, List.getD_eq_getElem?_getD, List.getElem?_eq_getElem h]
    rfl
  rw [e, List.count_append, List.count_singleton]
  by_cases q : s.getD j 0 = v
  · rw [if_pos q, if_pos (by simpa using q)]
  · rw [if_neg q, if_neg (by simpa using q)]
structure MInv (s : List Int) (i : Nat) (x : List Int) : Prop where
  inc : Inc x
  last : ∀ y ∈ x, ∀ q, i ≤ q → q < s.length → y < s.getD q 0
  bnd : ∀ q q', q < i → i ≤ q' → q' < s.length → s.getD q 0 < s.getD q' 0
  cnt : ∀ v, x.count v = (s.take i).count v % 2
  len : x.length ≤ i
theorem not_before (s : List Int) (i : Nat) (x : List Int) (h : MInv s i x) (hi : i < s.length) : (s.take i).count (s.getD i 0) = 0 := by
  rw [List.count_eq_zero]
  intro hm
  obtain ⟨q, hq, e⟩ := List.getElem_of_mem hm
  rw [List.length_take] at hq
  have := h.bnd q i (by omega) (Nat.le_refl _) hi
  rw [List.getElem_take] at e
  have e2 : s.getD q 0 = s[q]'(by omega) := by rw [List.getD_eq_getElem?_getD, List.getElem?_eq_getElem (by omega)]; rfl
  rw [e2, e] at this
  omega
theorem inv_step (s : List Int) (hs : Srt s) (i j : Nat) (x : List Int) (h : MInv s i x) (hi : i < j) (hj : j ≤ s.length) (hrun : ∀ q, i ≤ q → q < j → s.getD q 0 = s.getD i 0) (hend : j < s.length → s.getD j 0 ≠ s.getD i 0)
    (hc : ∀ v, (s.take j).count v = (s.take i).count v + if s.getD i 0 = v then j - i else 0) : MInv s j (if (j - i) % 2 = 1 then x ++ [s.getD i 0] else x) := by
  have hlt : ∀ q, j ≤ q → q < s.length → s.getD i 0 < s.getD q 0 := by
    intro q h1 h2
    have h3 := hs i j (by omega) (by omega)
    have h4 := hs j q h1 h2
    have h5 := hend (by omega)
    omega
  have hb : ∀ q q', q < j → j ≤ q' → q' < s.length → s.getD q 0 < s.getD q' 0 := by
    intro q q' h1 h2 h3
    by_cases h4 : q < i
    · exact h.bnd q q' h4 (by omega) h3
    · rw [hrun q (by omega) h1]
      exact hlt q' h2 h3
  have h0 := not_before s i x h (by omega)
  by_cases ho : (j - i) % 2 = 1
  · rw [if_pos ho]
    refine ⟨inc_snoc x _ h.inc (fun y hy => h.last y hy i (Nat.le_refl _) (by omega)), ?_, hb, ?_, ?_⟩
    · intro y hy q h1 h2
      rw [List.mem_append, List.mem_singleton] at hy
      rcases hy with hy | rfl
      · exact h.last y hy q (by omega) h2
      · exact hlt q h1 h2
    · intro v
      rw [List.count_append, List.count_singleton, hc v, h.cnt v]
      by_cases e : s.getD i 0 = v
      · rw [if_pos e, if_pos (by simpa using e), ← e, h0]
        omega
      · rw [if_neg e, if_neg (by simpa using e)]
        omega
    · have := h.len
      rw [List.length_append, List.length_singleton]
      omega
  · rw [if_neg ho]
    refine ⟨h.inc, fun y hy q h1 h2 => h.last y hy q (by omega) h2, hb, ?_, by have := h.len; omega⟩
    intro v
    rw [hc v, h.cnt v]
    by_cases e : s.getD i 0 = v
    · rw [if_pos e, ← e, h0]
      omega
    · rw [if_neg e]
      omega
theorem odd_iff (i j : Nat) (h : i ≤ j) (hj : j ≤ 1000000000) : (Int.tmod (wrap64 ((j : Int) - (i : Int))) 2 = 1) ↔ (j - i) % 2 = 1 := by
  rw [w64s (by omega) (by omega), Int.tmod_eq_emod_of_nonneg (by omega)]
  omega
theorem mg_loop (s : List Int) (hs : Srt s) (hn : s.length ≤ 8000000) : ∀ (d i : Nat) (x : List Int), s.length ≤ i + d → i ≤ s.length → MInv s i x →
    ∃ m : List Int, Ev (fun k => impl_MergePatterns.l0 k s x i) m ∧ Inc m ∧ (∀ v, m.count v = s.count v % 2) ∧ m.length ≤ s.length := by
  have fin : ∀ (i : Nat) (x : List Int), i = s.length → MInv s i x → ∃ m : List Int, Ev (fun k => impl_MergePatterns.l0 k s x i) m ∧ Inc m ∧ (∀ v, m.count v = s.count v % 2) ∧ m.length ≤ s.length := by
    intro i x e h
    refine ⟨x, ev1 (evn (by omega) (evc rfl)), h.inc, fun v => ?_, by have := h.len; omega⟩
    rw [h.cnt v, List.take_of_length_le (by omega)]
  intro d
  induction d with
  | zero =>
    intro i x h1 h2 h
    exact fin i x (by omega) h
  | succ d ih =>
    intro i x h1 h2 h
    by_cases e : i = s.length
    · exact fin i x e h
    have inner : ∀ (f j : Nat), j + f = s.length → i < j → (∀ q, i ≤ q → q < j → s.getD q 0 = s.getD i 0) → (∀ v, (s.take j).count v = (s.take i).count v + if s.getD i 0 = v then j - i else 0) →
        ∃ m : List Int, Ev (fun k => impl_MergePatterns.l1 k s x i j) m ∧ Inc m ∧ (∀ v, m.count v = s.count v % 2) ∧ m.length ≤ s.length := by
      intro f
      induction f with
      | zero =>
        intro j hj hij hrun hc
        have hI := inv_step s hs i j x h hij (by omega) hrun (fun q => by omega) hc
        obtain ⟨m, hm, hr⟩ := ih j _ (by omega) (by omega) hI
        refine ⟨m, ev1 (evn (by omega) ?_), hr⟩
        by_cases ho : (j - i) % 2 = 1
        · rw [if_pos ho] at hm
          refine evp ((odd_iff i j (by omega) (by omega)).2 ho) (evp (by omega) (evp (by omega) (evp (by have := h.len; omega) ?_)))
          rw [rd_nat]
          exact hm
        · rw [if_neg ho] at hm
          exact evn (fun q => ho ((odd_iff i j (by omega) (by omega)).1 q)) hm
      | succ f ihf =>
        intro j hj hij hrun hc
        by_cases hq : s.getD j 0 = s.getD i 0
        · obtain ⟨m, hm, hr⟩ := ihf (j + 1) (by omega) (by omega) (fun q h3 h4 => by
            by_cases h5 : q = j
            · rw [h5, hq]
            · exact hrun q h3 (by omega)) (fun v => by
            rw [count_take s j (by omega) v, hc v, hq]
            by_cases h6 : s.getD i 0 = v
            · rw [if_pos h6, if_pos h6, if_pos h6]
              omega
            · rw [if_neg h6, if_neg h6, if_neg h6])
          refine ⟨m, ev1 (evp (by omega) (evp (by omega) (evp (by omega) (evp (by omega) (evp (by rw [rd_nat, rd_nat]; exact hq) ?_))))), hr⟩
          rw [w64s (n := (j : Int) + 1) (by omega) (by omega)]
          exact hm
        · have hI := inv_step s hs i j x h hij (by omega) hrun (fun _ => hq) hc
          obtain ⟨m, hm, hr⟩ := ih j _ (by omega) (by omega) hI
          refine ⟨m, ev1 (evp (by omega) (evp (by omega) (evp (by omega) (evp (by omega) (evn (by rw [rd_nat, rd_nat]; exact hq) ?_))))), hr⟩
          by_cases ho : (j - i) % 2 = 1
          · rw [if_pos ho] at hm
            refine evp ((odd_iff i j (by omega) (by omega)).2 ho) (evp (by have := h.len; omega) ?_)
            rw [rd_nat]
            exact hm
          · rw [if_neg ho] at hm
            exact evn (fun q => ho ((odd_iff i j (by omega) (by omega)).1 q)) hm
    obtain ⟨m, hm, hr⟩ := inner (s.length - (i + 1)) (i + 1) (by omega) (by omega) (fun q h3 h4 => by rw [show q = i by omega]) (fun v => by
      rw [count_take s i (by omega) v, show i + 1 - i = 1 by omega])
    refine ⟨m, ev1 (evp (by omega) (ev1 (evp (by omega) (evp (by omega) (evp (by omega) (evp (by omega) (evp rfl ?_))))))), hr⟩
    rw [w64s (n := (i : Int) + 1) (by omega) (by omega)]
    exact hm
def srt (l : List Int) : List Int := l.mergeSort fun x y => decide (x ≤ y)
theorem srt_sorted (l : List Int) : Srt (srt l) := by
  have h := List.pairwise_mergeSort (le := fun x y : Int => decide (x ≤ y)) (fun a b c h1 h2 => by simp at *; omega) (fun a b => by simp; omega) l
  rw [List.pairwise_iff_getElem] at h
  intro i j hij hj
  unfold srt at *
  rw [List.getD_eq_getElem?_getD, List.getD_eq_getElem?_getD, List.getElem?_eq_getElem hj, List.getElem?_eq_getElem (by omega)]
  by_cases e : i = j
  · subst e
    exact Int.le_refl _
  · have := h i j (by omega) hj (by omega)
    simpa using this
theorem img_ev (a b : List Int) (ha : a.length ≤ 2000000) (hb : b.length ≤ 2000000) : ∃ m : List Int, Ev (fun k => impl_MergePatterns.f k a b) m ∧ Inc m ∧ (∀ v, m.count v = (a ++ b).count v % 2) ∧ m.length ≤ a.length + b.length := by
  have hl : (srt (a ++ b)).length = a.length + b.length := by simp [srt]
  obtain ⟨m, hm, h1, h2, h3⟩ := mg_loop (srt (a ++ b)) (srt_sorted _) (by omega) (srt (a ++ b)).length 0 [] (by omega) (by omega) ⟨fun i h => by simp at h, by simp, fun q q' h => by omega, fun v => by simp, by simp⟩
  refine ⟨m, ?_, h1, fun v => by rw [h2 v, show (srt (a ++ b)).count v = (a ++ b).count v from List.Perm.count_eq (List.mergeSort_perm _ _) v], by omega⟩
  unfold impl_MergePatterns.f
  have w : wrap64 ((a.length : Int) + (b.length : Int)) = ((a.length + b.length : Nat) : Int) := by rw [w64s (by omega) (by omega)]; omega
  rw [w]
  refine evp (by omega) (evp (by omega) (evs rfl (evp (by simp; omega) (evs rfl (evp (by simp; omega) (evs (show slices_Sort_int_int.f (([] ++ a) ++ b) = some (srt (a ++ b)) from if_pos (by simp; omega)) hm))))))
theorem cnt_loop (l : List Int) (v : Int) (hn : l.length ≤ 8000000) : ∀ (d i : Nat) (c : Nat), i + d = l.length → c ≤ i → Ev (fun k => spec_l9Count.l0 k l v (c : Int) i) ((c + (l.drop i).count v : Nat) : Int) := by
  intro d
  induction d with
  | zero =>
    intro i c hi hc
    rw [List.drop_of_length_le (by omega)]
    exact ev1 (evn (by omega) (evc (by simp)))
  | succ d ih =>
    intro i c hi hc
    have hg : l.drop i = l.getD i 0 :: l.drop (i + 1) := by
      rw [List.drop_eq_getElem_cons (by omega), List.getD_eq_getElem?_getD, List.getElem?_eq_getElem (by omega)]
      rfl
    rw [hg, List.count_cons]
    refine ev1 (evp (by omega) (evp (by omega) ?_))
    rw [rd_nat, w64s (n := (i : Int) + 1) (by omega) (by omega)]
    by_cases h : l.getD i 0 = v
    · have h2 := ih (i + 1) (c + 1) (by omega) (by omega)
      rw [if_pos (by simpa using h), w64s (n := (c : Int) + 1) (by omega) (by omega)]
      refine evp h (ev_eq h2 ?_)
      omega
    · have h2 := ih (i + 1) c (by omega) (by omega)
      rw [if_neg (by simpa using h)]
      exact evn h (ev_eq h2 (by omega))
theorem cnt_ev (l : List Int) (v : Int) (hn : l.length ≤ 8000000) : Ev (fun k => spec_l9Count.f k l v) ((l.count v : Nat) : Int) := by
  have := cnt_loop l v hn l.length 0 0 (by omega) (by omega)
  rw [List.drop_zero, Nat.zero_add] at this
  exact this
structure SInv (s : List Int) (i : Nat) (x : List Int) : Prop where
  inc : Inc x
  cnt : ∀ v, x.count v = if 0 < (s.take i).count v ∧ s.count v % 2 = 1 then 1 else 0
  len : x.length ≤ i
theorem inc_ins (x : List Int) (k : Nat) (v : Int) (h : Inc x) (hk : k ≤ x.length) (h1 : ∀ q, q < k → x.getD q 0 < v) (h2 : k < x.length → v < x.getD k 0) : Inc (x.take k ++ [v] ++ x.drop k) := by
  intro i hi
  have hl : (x.take k ++ [v] ++ x.drop k).length = x.length + 1 := by
    simp only [List.length_append, List.length_take, List.length_singleton, List.length_drop]
    omega
  rw [hl] at hi
  have e : ∀ j, j < x.length + 1 → (x.take k ++ [v] ++ x.drop k).getD j 0 = if j < k then x.getD j 0 else if j = k then v else x.getD (j - 1) 0 := by
    intro j hj
    simp only [List.getD_eq_getElem?_getD, List.getElem?_append, List.length_append, List.length_take, List.length_singleton, Nat.min_eq_left hk]
    by_cases q : j < k
    · rw [if_pos (by omega), if_pos q, if_pos q, List.getElem?_take_of_lt q]
    · by_cases q2 : j = k
      · subst q2
        rw [if_pos (by omega), if_neg q, if_neg q, if_pos rfl, Nat.sub_self]
        rfl
      · rw [if_neg (by omega), if_neg q, if_neg q2, List.getElem?_drop, show k + (j - (k + 1)) = j - 1 by omega]
  rw [e i (by omega), e (i + 1) (by omega)]
  by_cases q : i + 1 < k
  · rw [if_pos (by omega), if_pos q]
    exact h i (by omega)
  · by_cases q2 : i + 1 = k
    · rw [if_pos (by omega), if_neg q, if_pos q2]
      exact h1 i (by omega)
    · by_cases q3 : i = k
      · rw [if_neg (by omega), if_pos q3, if_neg q, if_neg q2, show i + 1 - 1 = k by omega]
        exact h2 (by omega)
      · rw [if_neg (by omega), if_neg q3, if_neg q, if_neg q2]
        have := h (i - 1) (by omega)
        rw [show i - 1 + 1 = i + 1 - 1 by omega] at this
        exact this
theorem count_ins (x : List Int) (k : Nat) (v u : Int) : (x.take k ++ [v] ++ x.drop k).count u = x.count u + if v = u then 1 else 0 := by
  have h : x.count u = (x.take k).count u + (x.drop k).count u := by rw [← List.count_append, List.take_append_drop]
  rw [List.count_append, List.count_append, List.count_singleton, h]
  by_cases q : v = u
  · rw [if_pos q, if_pos (by simpa using q)]
    omega
  · rw [if_neg q, if_neg (by simpa using q)]
    omega
theorem sm_loop (s : List Int) (hn : s.length ≤ 8000000) : ∀ (d i : Nat) (x : List Int), i + d = s.length → SInv s i x →
    ∃ m : List Int, Ev (fun k => spec_MergePatterns.l0 k s x i) m ∧ Inc m ∧ (∀ v, m.count v = s.count v % 2) ∧ m.length ≤ s.length := by
  intro d
  induction d with
  | zero =>
    intro i x hi h
    refine ⟨x, ev1 (evn (by omega) (evc rfl)), h.inc, fun v => ?_, by have := h.len; omega⟩
    rw [h.cnt v, List.take_of_length_le (by omega)]
    split <;> omega
  | succ d ih =>
    intro i x hi h
    have hlen := h.len
    have c1 := cnt_ev s (s.getD i 0) hn
    have c2 := cnt_ev x (s.getD i 0) (by omega)
    have ht := fun v => count_take s i (by omega) v
    have hw : wrap64 ((i : Int) + 1) = ((i + 1 : Nat) : Int) := by rw [w64s (by omega) (by omega)]; omega
    have hskip : (s.count (s.getD i 0) % 2 = 0 ∨ 0 < x.count (s.getD i 0)) → ∃ m : List Int, Ev (fun k => spec_MergePatterns.j1 k s x i true) m ∧ Inc m ∧ (∀ v, m.count v = s.count v % 2) ∧ m.length ≤ s.length := by
      intro hc
      obtain ⟨m, hm, hr⟩ := ih (i + 1) x (by omega) ⟨h.inc, fun v => by
        rw [h.cnt v, ht v]
        by_cases e : s.getD i 0 = v
        · rw [if_pos e]
          rw [e] at hc
          have hx := h.cnt v
          rcases hc with hc | hc
          · rw [if_neg (by omega), if_neg (by omega)]
          · rw [hx] at hc
            split at hc
            · rename_i q
              rw [if_pos q, if_pos ⟨by omega, q.2⟩]
            · omega
        · rw [if_neg e, Nat.add_zero], by omega⟩
      rw [← hw] at hm
      exact ⟨m, ev1 (Ev.congr (f := fun k => spec_MergePatterns.l0 k s x (wrap64 ((i : Int) + 1))) (fun k => by rw [spec_MergePatterns.j1, if_pos rfl]) hm), hr⟩
    have htm : Int.tmod ((s.count (s.getD i 0) : Nat) : Int) 2 = ((s.count (s.getD i 0) % 2 : Nat) : Int) := by
      rw [Int.tmod_eq_emod_of_nonneg (by omega)]
      omega
    by_cases h0 : s.count (s.getD i 0) % 2 = 0
    · obtain ⟨m, hm, hr⟩ := hskip (.inl h0)
      refine ⟨m, ev1 (evp (by omega) (evp (by omega) ?_)), hr⟩
      rw [rd_nat]
      refine Ev.bind c1 (evp ?_ hm)
      rw [htm]
      omega
    by_cases h1 : 0 < x.count (s.getD i 0)
    · obtain ⟨m, hm, hr⟩ := hskip (.inr h1)
      refine ⟨m, ev1 (evp (by omega) (evp (by omega) ?_)), hr⟩
      rw [rd_nat]
      refine Ev.bind c1 (evn ?_ (Ev.bind c2 ?_))
      · rw [htm]
        omega
      · rw [decide_eq_true (by omega)]
        exact hm
    have hx0 : x.count (s.getD i 0) = 0 := by omega
    have hins : ∀ k : Nat, k ≤ x.length → (∀ q, q < k → x.getD q 0 < s.getD i 0) → (k < x.length → s.getD i 0 < x.getD k 0) →
        ∃ m : List Int, Ev (fun n => spec_MergePatterns.l0 n s (x.take k ++ [s.getD i 0] ++ x.drop k) (wrap64 ((i : Int) + 1))) m ∧ Inc m ∧ (∀ v, m.count v = s.count v % 2) ∧ m.length ≤ s.length := by
      intro k hk g1 g2
      obtain ⟨m, hm, hr⟩ := ih (i + 1) (x.take k ++ [s.getD i 0] ++ x.drop k) (by omega) ⟨inc_ins x k _ h.inc hk g1 g2, fun v => by
        rw [count_ins, ht v]
        by_cases e : s.getD i 0 = v
        · rw [if_pos e]
          rw [e] at hx0 h0
          rw [if_pos ⟨by omega, by omega⟩]
          omega
        · rw [if_neg e, h.cnt v]
          simp only [Nat.add_zero], by
        simp only [List.length_append, List.length_take, List.length_singleton, List.length_drop]
        omega⟩
      rw [← hw] at hm
      exact ⟨m, hm, hr⟩
    have hne : ∀ k, k < x.length → x.getD k 0 ≠ s.getD i 0 := by
      intro k hk e
      rw [List.count_eq_zero] at hx0
      exact hx0 (e ▸ rd_mem hk)
    have inner : ∀ (f k : Nat), k + f = x.length → (∀ q, q < k → x.getD q 0 < s.getD i 0) → ∃ m : List Int, Ev (fun n => spec_MergePatterns.l1 n s x i k) m ∧ Inc m ∧ (∀ v, m.count v = s.count v % 2) ∧ m.length ≤ s.length := by
      intro f
      induction f with
      | zero =>
        intro k hk g1
        obtain ⟨m, hm, hr⟩ := hins k (by omega) g1 (fun q => by omega)
        refine ⟨m, ev1 (evn (by omega) (evs rfl (evp (by omega) (evp (by omega) (evs rfl ?_))))), hr⟩
        rw [Int.toNat_natCast, rd_nat]
        refine evp (by simp; omega) (evs rfl (evp (by omega) (evp (by omega) (evs rfl (evp (by simp; omega) (evs rfl (evs rfl (evp (by simp; omega) hm))))))))
      | succ f ihf =>
        intro k hk g1
        by_cases hlt : x.getD k 0 < s.getD i 0
        · obtain ⟨m, hm, hr⟩ := ihf (k + 1) (by omega) (fun q hq => by
            by_cases e : q = k
            · rw [e]
              exact hlt
            · exact g1 q (by omega))
          refine ⟨m, ev1 (evp (by omega) (evp (by omega) (evp (by omega) (evp (by omega) (evp (by rw [rd_nat, rd_nat]; exact hlt) ?_))))), hr⟩
          rw [w64s (n := (k : Int) + 1) (by omega) (by omega)]
          exact hm
        · obtain ⟨m, hm, hr⟩ := hins k (by omega) g1 (fun q => by have := hne k q; omega)
          refine ⟨m, ev1 (evp (by omega) (evp (by omega) (evp (by omega) (evp (by omega) (evn (by rw [rd_nat, rd_nat]; exact hlt) (evs rfl (evp (by omega) (evs rfl ?_)))))))), hr⟩
          rw [Int.toNat_natCast, rd_nat]
          refine evp (by simp; omega) (evs rfl (evs rfl (evp (by simp; omega) (evs rfl (evs rfl (evp (by simp; omega) hm))))))
    obtain ⟨m, hm, hr⟩ := inner x.length 0 (by omega) (fun q hq => by omega)
    refine ⟨m, ev1 (evp (by omega) (evp (by omega) ?_)), hr⟩
    rw [rd_nat]
    refine Ev.bind c1 (evn ?_ (Ev.bind c2 ?_))
    · rw [htm]
      omega
    · rw [decide_eq_false (by omega)]
      exact ev1 (Ev.congr (f := fun k => spec_MergePatterns.l1 k s x i 0) (fun k => by rw [spec_MergePatterns.j1, if_neg (by decide)]) hm)
theorem smg_ev (a b : List Int) (ha : a.length ≤ 2000000) (hb : b.length ≤ 2000000) : ∃ m : List Int, Ev (fun k => spec_MergePatterns.f k a b) m ∧ Inc m ∧ (∀ v, m.count v = (a ++ b).count v % 2) ∧ m.length ≤ a.length + b.length := by
  obtain ⟨m, hm, h1, h2, h3⟩ := sm_loop (a ++ b) (by simp; omega) (a ++ b).length 0 [] (by omega) ⟨fun i h => by simp at h, fun v => by simp, by simp⟩
  refine ⟨m, ?_, h1, h2, by simpa using h3⟩
  unfold spec_MergePatterns.f
  exact evs rfl (evp (by simp; omega) (evs rfl (evp (by simp; omega) hm)))
theorem toInts_loop (x0 : List Int) (hn : x0.length ≤ 4000000000000000) : ∀ (d i : Nat) (x3 : List Int), i + d = x0.length → x3.length = x0.length → (∀ j, j < i → x3.getD j 0 = x0.getD j 0) → Ev (fun k => laws_toIntS.l0 k x0 x3 i) x0 := by
  intro d
  induction d with
  | zero =>
    intro i x3 hi hl hj
    refine ev1 ?_
    refine evn (by omega) (evc ?_)
    rw [list_ext hl (fun j h => hj j (by omega))]
  | succ d ih =>
    intro i x3 hi hl hj
    refine ev1 ?_
    refine evp (by omega) (evp (by omega) (evp (by omega) ?_))
    rw [w64s (by omega) (by omega), Int.toNat_natCast, rd_nat]
    have := ih (i + 1) (x3.set i (x0.getD i 0)) (by omega) (by simpa using hl) (by
      intro j h
      rw [getD_set]
      by_cases e : i = j
      · subst e
        rw [if_pos ⟨rfl, by omega⟩]
      · rw [if_neg (fun h' => e h'.1)]
        exact hj j (by omega))
    exact this
theorem toInts_ev (l : List Int) (hn : l.length ≤ 1048576) : Ev (fun k => laws_toIntS.f k l) l := by
  unfold laws_toIntS.f
  refine evp (by omega) (evp (by omega) ?_)
  exact toInts_loop l (by omega) l.length 0 _ (by omega) (by simp) (by intro j h; omega)
theorem eqInts_loop (x : List Int) (hn : x.length ≤ 4000000000000000) : ∀ (d i : Nat), i + d = x.length → Ev (fun k => laws_eqIntS.l0 k x x i) true := by
  intro d
  induction d with
  | zero =>
    intro i hi
    refine ev1 ?_
    exact evn (by omega) (evc rfl)
  | succ d ih =>
    intro i hi
    refine ev1 ?_
    refine evp (by omega) (evp (by omega) (evp (by omega) (evp rfl ?_)))
    rw [w64s (by omega) (by omega)]
    exact ih (i + 1) (by omega)
theorem eqInts_ev (l : List Int) (hn : l.length ≤ 4000000000000000) : Ev (fun k => laws_eqIntS.f k l l) true := by
  unfold laws_eqIntS.f
  exact evp rfl (eqInts_loop l hn l.length 0 (by omega))
def marksI (s : Int) (n : Nat) : List Int := (List.range n).map fun j : Nat => (s + (j : Int))
theorem marksI_length (s : Int) (n : Nat) : (marksI s n).length = n := by simp [marksI]
theorem marksI_at (s : Int) (n j : Nat) (h : j < n) : (marksI s n).getD j 0 = (s + (j : Int)) := by
  simp [marksI, List.getD_eq_getElem?_getD, List.getElem?_map, List.getElem?_range h]
theorem markInts_loop (n : Nat) (hn : n ≤ 4000000000000000) (s : Int) (h0 : 0 ≤ s) (hs : s ≤ 4000000000000000) : ∀ (d i : Nat) (x : List Int), i + d = n → x.length = n → (∀ j, j < i → x.getD j 0 = (s + (j : Int))) →
    Ev (fun k => laws_markIntS.l0 k x (s + i) i) (s + n, marksI s n) := by
  intro d
  induction d with
  | zero =>
    intro i x hi hl hj
    refine ev1 ?_
    refine evn (by omega) (evc ?_)
    rw [show i = n by omega, list_ext (a := x) (b := marksI s n) (by rw [hl, marksI_length]) (fun j h => by rw [hj j (by omega), marksI_at s n j (by omega)])]
  | succ d ih =>
    intro i x hi hl hj
    refine ev1 ?_
    refine evp (by omega) (evp (by omega) ?_)
    rw [w64s (by omega) (by omega), w64s (by omega) (by omega), Int.toNat_natCast]
    have := ih (i + 1) (x.set i (s + (i : Int))) (by omega) (by simpa using hl) (by
      intro j h
      rw [getD_set]
      by_cases e : i = j
      · subst e
        rw [if_pos ⟨rfl, by omega⟩]
      · rw [if_neg (fun h' => e h'.1)]
        exact hj j (by omega))
    rw [show s + ((i + 1 : Nat) : Int) = s + (i : Int) + 1 by omega] at this
    exact this
theorem markInts_ev (l : List Int) (hn : l.length ≤ 4000000000000000) (s : Int) (h0 : 0 ≤ s) (hs : s ≤ 4000000000000000) : Ev (fun k => laws_markIntS.f k l s) (s + l.length, marksI s l.length) := by
  have := markInts_loop l.length hn s h0 hs l.length 0 l (by omega) rfl (by intro j h; omega)
  rw [show s + ((0 : Nat) : Int) = s by omega] at this
  exact this
theorem heldInts_loop (n : Nat) (hn : n ≤ 4000000000000000) (s : Int) (h0 : 0 ≤ s) (hs : s ≤ 4000000000000000) : ∀ (d i : Nat), i + d = n →
    Ev (fun k => laws_heldIntS.l0 k (marksI s n) (s + i) i) (s + n) := by
  intro d
  induction d with
  | zero =>
    intro i hi
    refine ev1 ?_
    refine evn (by rw [marksI_length]; omega) (evc ?_)
    rw [show i = n by omega]
  | succ d ih =>
    intro i hi
    refine ev1 ?_
    refine evp (by rw [marksI_length]; omega) (evp (by omega) (evp (by rw [rd_nat, marksI_at s n i (by omega)]) ?_))
    rw [w64s (by omega) (by omega), w64s (by omega) (by omega)]
    have := ih (i + 1) (by omega)
    rw [show s + ((i + 1 : Nat) : Int) = s + (i : Int) + 1 by omega] at this
    exact this
theorem heldInts_ev (n : Nat) (hn : n ≤ 4000000000000000) (s : Int) (h0 : 0 ≤ s) (hs : s ≤ 4000000000000000) : Ev (fun k => laws_heldIntS.f k (marksI s n) s) (s + n) := by
  have := heldInts_loop n hn s h0 hs n 0 (by omega)
  rw [show s + ((0 : Nat) : Int) = s by omega] at this
  exact this
theorem inc_lt (m : List Int) (h : Inc m) (i : Nat) : ∀ d : Nat, i + d + 1 < m.length → m.getD i 0 < m.getD (i + d + 1) 0
  | 0, hd => h i hd
  | d + 1, hd => by
    have h1 := inc_lt m h i d (by omega)
    have h2 := h (i + d + 1) (by omega)
    exact Int.lt_trans h1 h2
theorem inc_pair (m : List Int) (h : Inc m) : m.Pairwise (· < ·) := by
  rw [List.pairwise_iff_getElem]
  intro i j hi hj hij
  have := inc_lt m h i (j - i - 1) (by omega)
  rw [show i + (j - i - 1) + 1 = j by omega, List.getD_eq_getElem?_getD, List.getD_eq_getElem?_getD, List.getElem?_eq_getElem hi, List.getElem?_eq_getElem hj] at this
  exact this
theorem inc_unique (a b : List Int) (ha : Inc a) (hb : Inc b) (h : ∀ v, a.count v = b.count v) : a = b :=
  List.Perm.eq_of_pairwise (fun x y _ _ h1 h2 => by omega) (inc_pair a ha) (inc_pair b hb) (List.perm_iff_count.2 h)
theorem FnExactMergePatterns : laws_FnExactMergePatterns.Pure := by
  intro l p _ _ _ _ _ _
  refine Ev.rounds (r := true) ?_
  unfold laws_FnExactMergePatterns.f
  by_cases hn : (l.length : Int) > 1048576
  · exact evp hn (evc rfl)
  refine evn hn ?_
  by_cases hp : (p.length : Int) > 1048576
  · exact evp hp (evc rfl)
  refine evn hp ?_
  have hl : l.length ≤ 1048576 := by omega
  have hq : p.length ≤ 1048576 := by omega
  obtain ⟨r, hi, i1, i2, hr⟩ := img_ev l p (by omega) (by omega)
  obtain ⟨r2, hs, s1, s2, _⟩ := smg_ev l p (by omega) (by omega)
  have e : r2 = r := inc_unique r2 r s1 i1 (fun v => by rw [s2, i2])
  rw [e] at hs
  have ht := toInts_ev l hl
  have ht2 := toInts_ev p hq
  have he := eqInts_ev r (by omega)
  have hm := markInts_ev r (by omega) 1 (by omega) (by omega)
  have hh := heldInts_ev r.length (by omega) 1 (by omega) (by omega)
  have hj : Ev (fun k => laws_FnExactMergePatterns.j0 k l p r r false) true :=
    ev1 (Ev.bind hm (Ev.bind hh (evn (by omega) (evp rfl (Ev.bind ht (Ev.bind ht2 (Ev.bind hi (Ev.bind he (evp rfl (Ev.bind hh (evn (by omega) (evp rfl (evc rfl)))))))))))))
  exact Ev.bind ht (Ev.bind ht2 (Ev.bind hs (Ev.bind ht (Ev.bind ht2 (Ev.bind hi (Ev.bind he (evp rfl (Ev.bind ht (Ev.bind (eqInts_ev l (by omega)) (evp rfl (Ev.bind ht2 (Ev.bind (eqInts_ev p (by omega)) (evp rfl (Ev.bind (markInts_ev l (by omega) 1 (by omega) (by omega)) (Ev.bind (markInts_ev p (by omega) (1 + l.length) (by omega) (by omega)) (evn (by dsimp only; omega) (Ev.bind he hj)))))))))))))))))

end Go.Proofs.Ytldbmljooafkcaa.Pure
