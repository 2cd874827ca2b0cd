/-
  The program's IsValidPlacement and the reference's agree at every placement of at most 2^20 positions, and the argument is left as it was.
  Conditions: none beyond the given statement's own.
-/
import Derived.Test.YtkmkgkjinefcdaaPFnExactIsValidPlacementx2
set_option linter.unusedVariables false
set_option linter.unusedSimpArgs false
namespace Go.Proofs.Ytkmkgkjinefcdaa.Pure
open Go.RowKit Go.Proofs.Ytkmkgkjinefcdaa.PFnExactIsValidPlacement Go.Proofs.YtkmkgkjinefcdaaW.PrintWords Go.Proofs.YtkmkgkjinefcdaaW.PrintLast Go.Proofs.YtkmkgkjinefcdaaW.PrintMore

theorem evp {α : Type} {c : Prop} [Decidable c] {A B : Nat → Option α} {r : α} (hc : c) (h : Ev A r) : Ev (fun k => if c then A k else B k) r :=
  Ev.congr (fun k => if_pos hc) h
theorem evn {α : Type} {c : Prop} [Decidable c] {A B : Nat → Option α} {r : α} (hc : ¬ c) (h : Ev B r) : Ev (fun k => if c then A k else B k) r :=
  Ev.congr (fun k => if_neg hc) h
theorem evs {α β : Type} {g : Option α} {a : α} {f : Nat → α → Option β} {r : β} (hg : g = some a) (h : Ev (fun k => f k a) r) : Ev (fun k => g.bind (f k)) r :=
  Ev.congr (fun k => by rw [hg]; rfl) h
theorem evc {α : Type} {g : Option α} {r : α} (h : g = some r) : Ev (fun _ => g) r := ⟨0, fun _ _ => h⟩
theorem ev_eq {α : Type} {g : Nat → Option α} {r r' : α} (h : Ev g r) (e : r = r') : Ev g r' := e ▸ h
theorem w64 {n : Int} (h0 : -9223372036854775808 ≤ n) (h1 : n ≤ 9223372036854775807) : wrap64 n = n := by
  unfold wrap64
  omega
theorem w64s {n : Int} (h0 : -1000000000000000000 ≤ n) (h1 : n ≤ 1000000000000000000) : wrap64 n = n := w64 (by omega) (by omega)
theorem ev1 {α : Type} {g : Nat → Option α} {r : α} (h : Ev (fun k => g (k + 1)) r) : Ev g r := Ev.step (fun _ => rfl) h
theorem dt {p : Prop} [Decidable p] (h : p) : decide p = true := decide_eq_true h
theorem dnt {p : Prop} [Decidable p] (h : ¬ p) : ¬ (decide p = true) := by simp [h]
theorem ntd {p : Prop} [Decidable p] (h : ¬ p) : (!decide p) = true := by simp [h]
theorem ntt {p : Prop} [Decidable p] (h : p) : ¬ ((!decide p) = true) := by simp [h]
theorem evk {α : Type} {g : Nat → Option α} {r : α} (h : ∀ k, g k = some r) : Ev g r := ⟨0, fun k _ => h k⟩

theorem rd_nat (l : List Int) (i : Nat) : rd l (i : Int) = l.getD i 0 := by
  unfold rd
  rw [Int.toNat_natCast]
theorem rd_mem {l : List Int} {i : Nat} (h : i < l.length) : l.getD i 0 ∈ l := by
  rw [List.getD_eq_getElem?_getD, List.getElem?_eq_getElem h]
  exact List.getElem_mem h
theorem list_ext {a b : List Int} (hl : a.length = b.length) (h : ∀ i, i < a.length → a.getD i 0 = b.getD i 0) : a = b := by
  apply List.ext_getElem hl
  intro i h1 h2
  have := h i h1
  rw [List.getD_eq_getElem?_getD, List.getD_eq_getElem?_getD, List.getElem?_eq_getElem h1, List.getElem?_eq_getElem h2] at this
  simpa using this
theorem getD_set (l : List Int) (i j : Nat) (v : Int) : (l.set i v).getD j 0 = if i = j ∧ j < l.length then v else l.getD j 0 := by
  rw [List.getD_eq_getElem?_getD, List.getElem?_set, List.getD_eq_getElem?_getD]
  by_cases h : i = j
  · subst h
    by_cases h2 : i < l.length
    · simp [h2]
    · simp [h2]
  · simp [h]

theorem toInts_loop (x0 : List Int) (hn : x0.length ≤ 4000000000000000) : ∀ (d i : Nat) (x3 : List Int), i + d = x0.length → x3.length = x0.length → (∀ j, j < i → x3.getD j 0 = x0.getD j 0) → Ev (fun k => laws_toIntS.l0 k x0 x3 i) x0 := by
  intro d
  induction d with
  | zero =>
    intro i x3 hi hl hj
    refine ev1 ?_
    refine evn (by omega) (evc ?_)
    rw [list_ext hl (fun j h => hj j (by omega))]
  | succ d ih =>
    intro i x3 hi hl hj
    refine ev1 ?_
    refine evp (by omega) (evp (by omega) (evp (by omega) ?_))
    rw [w64s (by omega) (by omega), Int.toNat_natCast, rd_nat]
    have := ih (i + 1) (x3.set i (x0.getD i 0)) (by omega) (by simpa using hl) (by
      intro j h
      rw [getD_set]
      by_cases e : i = j
      · subst e
        rw [if_pos ⟨rfl, by omega⟩]
      · rw [if_neg (fun h' => e h'.1)]
        exact hj j (by omega))
    exact this
theorem toInts_ev (l : List Int) (hn : l.length ≤ 1048576) : Ev (fun k => laws_toIntS.f k l) l := by
  unfold laws_toIntS.f
  refine evp (by omega) (evp (by omega) ?_)
  exact toInts_loop l (by omega) l.length 0 _ (by omega) (by simp) (by intro j h; omega)

theorem eqInts_loop (x : List Int) (hn : x.length ≤ 4000000000000000) : ∀ (d i : Nat), i + d = x.length → Ev (fun k => laws_eqIntS.l0 k x x i) true := by
  intro d
  induction d with
  | zero =>
    intro i hi
    refine ev1 ?_
    exact evn (by omega) (evc rfl)
  | succ d ih =>
    intro i hi
    refine ev1 ?_
    refine evp (by omega) (evp (by omega) (evp (by omega) (evp rfl ?_)))
    rw [w64s (by omega) (by omega)]
    exact ih (i + 1) (by omega)
theorem eqInts_ev (l : List Int) (hn : l.length ≤ 4000000000000000) : Ev (fun k => laws_eqIntS.f k l l) true := by
  unfold laws_eqIntS.f
  exact evp rfl (eqInts_loop l hn l.length 0 (by omega))

theorem szPlace_some (l : List Int) (a b : Int) (hm : l.length ≤ maxLen) : laws_szPlacement.f l a b 1048576 = some (if l.length ≤ 1048576 then (1048576 : Int) - (l.length : Int) else -1) := by
  unfold maxLen at hm
  unfold laws_szPlacement.f laws_szIntS.f
  by_cases h : l.length ≤ 1048576
  · rw [w64s (by omega) (by omega), if_neg (by omega), if_pos h]
    simp only [Option.bind_some]
    rw [if_neg (by omega)]
  · rw [w64 (by omega) (by omega), if_pos (by omega), if_neg h]
    rfl
theorem toPlace_ev (l : List Int) (a b : Int) (hn : l.length ≤ 1048576) : Ev (fun k => laws_toPlacement.f k l a b) (l, a, b) := by
  unfold laws_toPlacement.f
  exact Ev.bind (toInts_ev l hn) (evc rfl)
theorem eqPlace_ev (l : List Int) (a b : Int) (hn : l.length ≤ 1048576) : Ev (fun k => laws_eqPlacement.f k l a b l a b) true := by
  unfold laws_eqPlacement.f
  exact Ev.bind (eqInts_ev l (by omega)) (evp rfl (evp rfl (evp rfl (evc rfl))))

theorem in_some (x a b : Int) : impl_InRange.f x a b = some (decide (a ≤ x ∧ x ≤ b)) := by
  unfold impl_InRange.f
  by_cases h : a ≤ x <;> simp [h]

theorem l1_some (x a b : Int) : spec_l1In.f x a b = some (decide (a ≤ x ∧ x ≤ b)) := by
  unfold spec_l1In.f
  by_cases h : a ≤ x <;> simp [h]

def okAll (l : List Int) : Bool := l.all fun x => decide (0 ≤ x ∧ x ≤ 1000)
theorem okAll_drop (l : List Int) (i : Nat) (h : i < l.length) : okAll (l.drop i) = (decide (0 ≤ l.getD i 0 ∧ l.getD i 0 ≤ 1000) && okAll (l.drop (i + 1))) := by
  unfold okAll
  rw [List.drop_eq_getElem_cons h, List.all_cons]
  simp [List.getD_eq_getElem?_getD, List.getElem?_eq_getElem h]
def okPlace (l : List Int) (r s : Int) : Bool := decide (1 ≤ r ∧ r ≤ s) && decide (s ≤ 1000)
theorem splace_loop (l : List Int) (r s : Int) (hn : l.length ≤ 1048576) : ∀ (d i : Nat), i + d = l.length →
    Ev (fun k => spec_IsValidPlacement.l0 k i l r s) (okAll (l.drop i) && decide (1 ≤ l.length ∧ l.length ≤ 16) && okPlace l r s) := by
  intro d
  induction d with
  | zero =>
    intro i hi
    refine ev1 (evn (by omega) (evs (l1_some _ _ _) ?_))
    rw [List.drop_of_length_le (by omega)]
    have e : decide (1 ≤ (l.length : Int) ∧ (l.length : Int) ≤ 16) = decide (1 ≤ l.length ∧ l.length ≤ 16) := by
      rw [decide_eq_decide]
      omega
    rw [e]
    unfold okPlace
    by_cases h1 : 1 ≤ l.length ∧ l.length ≤ 16
    · refine evp (by simpa using h1) (evs (l1_some _ _ _) ?_)
      by_cases h2 : 1 ≤ r ∧ r ≤ s
      · refine evp (by simpa using h2) (evc ?_)
        simp [okAll, h1, h2]
      · refine evn (by simpa using h2) (evc ?_)
        simp [h2]
    · refine evn (by simpa using h1) (evc ?_)
      simp [h1]
  | succ d ih =>
    intro i hi
    refine ev1 (evp (by omega) (evp (by omega) (evs (l1_some _ _ _) ?_)))
    rw [rd_nat, okAll_drop l i (by omega)]
    by_cases h : 0 ≤ l.getD i 0 ∧ l.getD i 0 ≤ 1000
    · rw [decide_eq_true h, w64s (n := (i : Int) + 1) (by omega) (by omega)]
      refine evp rfl ?_
      have := ih (i + 1) (by omega)
      simpa using this
    · rw [decide_eq_false h]
      exact evn (by decide) (evc (by simp))
theorem place_loop (l : List Int) (r s : Int) (hn : l.length ≤ 1048576) : ∀ (d i : Nat), i + d = l.length →
    Ev (fun k => impl_IsValidPlacement.l0 k l l.length i l r s) (okAll (l.drop i) && okPlace l r s) := by
  intro d
  induction d with
  | zero =>
    intro i hi
    refine ev1 (evn (by omega) ?_)
    rw [List.drop_of_length_le (by omega)]
    unfold okPlace
    by_cases h1 : 1 ≤ r
    · refine evp h1 ?_
      by_cases h2 : r ≤ s
      · refine evp h2 (evc ?_)
        simp [okAll, h1, h2]
      · refine evn h2 (evc ?_)
        simp [h2]
    · refine evn h1 (evc ?_)
      simp [h1]
  | succ d ih =>
    intro i hi
    refine ev1 (evp (by omega) (evp (by omega) (evp (by omega) (evs (in_some _ _ _) ?_))))
    rw [rd_nat, okAll_drop l i (by omega)]
    by_cases h : 0 ≤ l.getD i 0 ∧ l.getD i 0 ≤ 1000
    · rw [decide_eq_true h, w64s (n := (i : Int) + 1) (by omega) (by omega)]
      refine evp rfl ?_
      have := ih (i + 1) (by omega)
      simpa using this
    · rw [decide_eq_false h]
      exact evn (by decide) (evc (by simp))
theorem FnExactIsValidPlacement (l : List Int) (r s : Int) (hm : l.length ≤ maxLen) (_ : ∀ x ∈ l, (Lit.int .i64 x).wf = true) (_ : (Lit.int .i64 r).wf = true) (_ : (Lit.int .i64 s).wf = true) :
    ∃ k, laws_FnExactIsValidPlacement.f k l r s = some true := by
  refine Ev.rounds (r := true) ?_
  unfold laws_FnExactIsValidPlacement.f
  refine evs (szPlace_some l r s hm) ?_
  by_cases hn : l.length ≤ 1048576
  · rw [if_pos hn]
    have h1 := splace_loop l r s hn l.length 0 (by omega)
    rw [List.drop_zero] at h1
    have h2 : Ev (fun k => impl_IsValidPlacement.f k l r s) (okAll l && decide (1 ≤ l.length ∧ l.length ≤ 16) && okPlace l r s) := by
      unfold impl_IsValidPlacement.f
      refine evs (in_some _ _ _) ?_
      by_cases h : 1 ≤ l.length ∧ l.length ≤ 16
      · have h3 := place_loop l r s hn l.length 0 (by omega)
        rw [List.drop_zero] at h3
        rw [decide_eq_true h]
        exact evp (by simp; omega) (by simpa using h3)
      · rw [decide_eq_false h]
        exact evn (by simp; omega) (evc (by simp))
    exact evn (by omega) (Ev.bind (toPlace_ev l r s hn) (Ev.bind h1 (Ev.bind (toPlace_ev l r s hn) (Ev.bind h2 (evn (by simp) (Ev.bind (toPlace_ev l r s hn) (Ev.bind (eqPlace_ev l r s hn) (evp rfl (evc rfl)))))))))
  · rw [if_neg hn]
    exact evp (by decide) (evc rfl)

end Go.Proofs.Ytkmkgkjinefcdaa.Pure
