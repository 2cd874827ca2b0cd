/-
  The program's IsPermutation and the reference's agree at every list of indices of at most 2^20 elements, and the argument is left as it was.
  Conditions: none beyond the given statement's own.
-/
import Derived.Test.YtkmkgkjinefcdaaPFnExactIsPermutationx1
set_option linter.unusedVariables false
set_option linter.unusedSimpArgs false
namespace Go.Proofs.Ytkmkgkjinefcdaa.Pure
open Go.RowKit Go.Proofs.Ytkmkgkjinefcdaa.PFnExactIsPermutation Go.Proofs.YtkmkgkjinefcdaaW.PrintWords Go.Proofs.YtkmkgkjinefcdaaW.PrintLast

theorem evp {α : Type} {c : Prop} [Decidable c] {A B : Nat → Option α} {r : α} (hc : c) (h : Ev A r) : Ev (fun k => if c then A k else B k) r :=
  Ev.congr (fun k => if_pos hc) h
theorem evn {α : Type} {c : Prop} [Decidable c] {A B : Nat → Option α} {r : α} (hc : ¬ c) (h : Ev B r) : Ev (fun k => if c then A k else B k) r :=
  Ev.congr (fun k => if_neg hc) h
theorem evs {α β : Type} {g : Option α} {a : α} {f : Nat → α → Option β} {r : β} (hg : g = some a) (h : Ev (fun k => f k a) r) : Ev (fun k => g.bind (f k)) r :=
  Ev.congr (fun k => by rw [hg]; rfl) h
theorem evc {α : Type} {g : Option α} {r : α} (h : g = some r) : Ev (fun _ => g) r := ⟨0, fun _ _ => h⟩
theorem ev_eq {α : Type} {g : Nat → Option α} {r r' : α} (h : Ev g r) (e : r = r') : Ev g r' := e ▸ h
theorem w64 {n : Int} (h0 : -9223372036854775808 ≤ n) (h1 : n ≤ 9223372036854775807) : wrap64 n = n := by
  unfold wrap64
  omega
theorem w64s {n : Int} (h0 : -1000000000000000000 ≤ n) (h1 : n ≤ 1000000000000000000) : wrap64 n = n := w64 (by omega) (by omega)

theorem rd_nat (l : List Int) (i : Nat) : rd l (i : Int) = l.getD i 0 := by
  unfold rd
  rw [Int.toNat_natCast]
theorem rd_mem {l : List Int} {i : Nat} (h : i < l.length) : l.getD i 0 ∈ l := by
  rw [List.getD_eq_getElem?_getD, List.getElem?_eq_getElem h]
  exact List.getElem_mem h
theorem list_ext {a b : List Int} (hl : a.length = b.length) (h : ∀ i, i < a.length → a.getD i 0 = b.getD i 0) : a = b := by
  apply List.ext_getElem hl
  intro i h1 h2
  have := h i h1
  rw [List.getD_eq_getElem?_getD, List.getD_eq_getElem?_getD, List.getElem?_eq_getElem h1, List.getElem?_eq_getElem h2] at this
  simpa using this
theorem getD_set (l : List Int) (i j : Nat) (v : Int) : (l.set i v).getD j 0 = if i = j ∧ j < l.length then v else l.getD j 0 := by
  rw [List.getD_eq_getElem?_getD, List.getElem?_set, List.getD_eq_getElem?_getD]
  by_cases h : i = j
  · subst h
    by_cases h2 : i < l.length
    · simp [h2]
    · simp [h2]
  · simp [h]

theorem toInts_loop (x0 : List Int) (hn : x0.length ≤ 4000000000000000) : ∀ (d i : Nat) (x3 : List Int), i + d = x0.length → x3.length = x0.length → (∀ j, j < i → x3.getD j 0 = x0.getD j 0) → Ev (fun k => laws_toIntS.l0 k x0 x3 i) x0 := by
  intro d
  induction d with
  | zero =>
    intro i x3 hi hl hj
    refine Ev.step (fun _ => rfl) ?_
    refine evn (by omega) (evc ?_)
    rw [list_ext hl (fun j h => hj j (by omega))]
  | succ d ih =>
    intro i x3 hi hl hj
    refine Ev.step (fun _ => rfl) ?_
    refine evp (by omega) (evp (by omega) (evp (by omega) ?_))
    rw [w64s (by omega) (by omega), Int.toNat_natCast, rd_nat]
    have := ih (i + 1) (x3.set i (x0.getD i 0)) (by omega) (by simpa using hl) (by
      intro j h
      rw [getD_set]
      by_cases e : i = j
      · subst e
        rw [if_pos ⟨rfl, by omega⟩]
      · rw [if_neg (fun h' => e h'.1)]
        exact hj j (by omega))
    exact this
theorem toInts_ev (l : List Int) (hn : l.length ≤ 1048576) : Ev (fun k => laws_toIntS.f k l) l := by
  unfold laws_toIntS.f
  refine evp (by omega) (evp (by omega) ?_)
  exact toInts_loop l (by omega) l.length 0 _ (by omega) (by simp) (by intro j h; omega)

theorem eqInts_loop (x : List Int) (hn : x.length ≤ 4000000000000000) : ∀ (d i : Nat), i + d = x.length → Ev (fun k => laws_eqIntS.l0 k x x i) true := by
  intro d
  induction d with
  | zero =>
    intro i hi
    refine Ev.step (fun _ => rfl) ?_
    exact evn (by omega) (evc rfl)
  | succ d ih =>
    intro i hi
    refine Ev.step (fun _ => rfl) ?_
    refine evp (by omega) (evp (by omega) (evp (by omega) (evp rfl ?_)))
    rw [w64s (by omega) (by omega)]
    exact ih (i + 1) (by omega)
theorem eqInts_ev (l : List Int) (hn : l.length ≤ 4000000000000000) : Ev (fun k => laws_eqIntS.f k l l) true := by
  unfold laws_eqIntS.f
  exact evp rfl (eqInts_loop l hn l.length 0 (by omega))

theorem l1_some (x a b : Int) : spec_l1In.f x a b = some (decide (a ≤ x ∧ x ≤ b)) := by
  unfold spec_l1In.f
  by_cases h : a ≤ x <;> simp [h]

def markOf (s : List Bool) : List Int := s.map fun b => if b then 1 else 0
theorem rdOf_nat (s : List Bool) (i : Nat) : rdOf false s (i : Int) = s.getD i false := by
  unfold rdOf
  rw [Int.toNat_natCast]
theorem perm_loop (x : List Int) (hn : x.length ≤ 1048576) : ∀ (d i : Nat) (s : List Bool), i + d = x.length → s.length = x.length →
    ∃ r, Ev (fun k => spec_IsPermutation.l0 k x (markOf s) i) r ∧ Ev (fun k => impl_IsPermutation.l0 k x s x x.length i) r := by
  intro d
  induction d with
  | zero =>
    intro i s hi hs
    exact ⟨true, Ev.step (fun _ => rfl) (evn (by omega) (evc rfl)), Ev.step (fun _ => rfl) (evn (by omega) (evc rfl))⟩
  | succ d ih =>
    intro i s hi hs
    have hm : (markOf s).length = x.length := by simpa [markOf] using hs
    by_cases h : 0 ≤ rd x i ∧ rd x i ≤ (x.length : Int) - 1
    · obtain ⟨j, hj⟩ := Int.eq_ofNat_of_zero_le h.1
      have hjl : j < x.length := by omega
      have hrd : rd (markOf s) (j : Int) = if s.getD j false then 1 else 0 := by
        rw [rd_nat]
        simp only [markOf, List.getD_eq_getElem?_getD, List.getElem?_map]
        rw [List.getElem?_eq_getElem (by omega)]
        simp
      by_cases hb : s.getD j false = true
      · refine ⟨false, ?_, ?_⟩
        · refine Ev.step (fun _ => rfl) (evp (by omega) (evp (by omega) (evs (l1_some _ _ _) ?_)))
          rw [w64s (by omega) (by omega)]
          refine evp (by simpa using h) (evp h.1 (evp (by omega) (evp ?_ (evc rfl))))
          rw [hj, hrd, if_pos hb]
        · refine Ev.step (fun _ => rfl) (evp (by omega) (evp (by omega) (evp (by omega) (evn (by omega) (evn (by omega) (evp h.1 (evp (by omega) (evp ?_ (evc rfl)))))))))
          rw [hj, rdOf_nat, hb]
      · obtain ⟨r, h1, h2⟩ := ih (i + 1) (s.set j true) (by omega) (by simpa using hs)
        refine ⟨r, ?_, ?_⟩
        · refine Ev.step (fun _ => rfl) (evp (by omega) (evp (by omega) (evs (l1_some _ _ _) ?_)))
          rw [w64s (by omega) (by omega)]
          refine evp (by simpa using h) (evp h.1 (evp (by omega) (evn ?_ ?_)))
          · rw [hj, hrd, if_neg hb]
            decide
          · rw [w64s (by omega) (by omega), hj, Int.toNat_natCast]
            have e : (markOf s).set j 1 = markOf (s.set j true) := by
              simp [markOf, List.map_set]
            rw [e]
            exact h1
        · refine Ev.step (fun _ => rfl) (evp (by omega) (evp (by omega) (evp (by omega) (evn (by omega) (evn (by omega) (evp h.1 (evp (by omega) (evn ?_ ?_))))))))
          · rw [hj, rdOf_nat]
            exact hb
          · rw [w64s (by omega) (by omega), hj, Int.toNat_natCast]
            exact h2
    · refine ⟨false, ?_, ?_⟩
      · refine Ev.step (fun _ => rfl) (evp (by omega) (evp (by omega) (evs (l1_some _ _ _) ?_)))
        rw [w64s (by omega) (by omega)]
        exact evn (by simpa using h) (evc rfl)
      · refine Ev.step (fun _ => rfl) (evp (by omega) (evp (by omega) (evp (by omega) ?_)))
        by_cases h0 : rd x i < 0
        · exact evp h0 (evc rfl)
        · exact evn h0 (evp (by omega) (evc rfl))
theorem perm_ev (x : List Int) (hn : x.length ≤ 1048576) : ∃ r, Ev (fun k => spec_IsPermutation.f k x) r ∧ Ev (fun k => impl_IsPermutation.f k x) r := by
  obtain ⟨r, h1, h2⟩ := perm_loop x hn x.length 0 (List.replicate x.length false) (by omega) (by simp)
  refine ⟨r, ?_, ?_⟩
  · unfold spec_IsPermutation.f
    refine evp (by omega) (evp (by omega) ?_)
    have e : markOf (List.replicate x.length false) = List.replicate ((x.length : Int) : Int).toNat 0 := by simp [markOf]
    rw [← e]
    exact h1
  · unfold impl_IsPermutation.f
    refine evp (by omega) (evp (by omega) ?_)
    exact h2
theorem FnExactIsPermutation : laws_FnExactIsPermutation.Pure := by
  intro l0 _ _ _
  refine Ev.rounds (r := true) ?_
  unfold laws_FnExactIsPermutation.f
  by_cases hn : (l0.length : Int) > 1048576
  · exact evp hn (evc rfl)
  · refine evn hn ?_
    have hn' : l0.length ≤ 1048576 := by omega
    obtain ⟨r, h1, h2⟩ := perm_ev l0 hn'
    refine Ev.bind (toInts_ev l0 hn') (Ev.bind h1 (Ev.bind (toInts_ev l0 hn') (Ev.bind h2 (evn (by simp) (Ev.bind (toInts_ev l0 hn') (Ev.bind (eqInts_ev l0 (by omega)) (evp rfl (evc rfl))))))))

end Go.Proofs.Ytkmkgkjinefcdaa.Pure
