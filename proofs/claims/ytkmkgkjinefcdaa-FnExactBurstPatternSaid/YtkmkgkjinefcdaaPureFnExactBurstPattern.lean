/-
  The program's BurstPattern and the reference's agree at every start and length, and its answers share no memory.
  Conditions: none beyond the given statement's own.
-/
import Derived.Test.YtkmkgkjinefcdaaPFnExactBurstPatternx1
set_option linter.unusedVariables false
set_option linter.unusedSimpArgs false
namespace Go.Proofs.Ytkmkgkjinefcdaa.Pure
open Go.RowKit Go.Proofs.Ytkmkgkjinefcdaa.PFnExactBurstPattern Go.Proofs.YtkmkgkjinefcdaaW.PrintWords Go.Proofs.YtkmkgkjinefcdaaW.PrintLast Go.Proofs.YtkmkgkjinefcdaaW.PrintMore

theorem evp {α : Type} {c : Prop} [Decidable c] {A B : Nat → Option α} {r : α} (hc : c) (h : Ev A r) : Ev (fun k => if c then A k else B k) r :=
  Ev.congr (fun k => if_pos hc) h
theorem evn {α : Type} {c : Prop} [Decidable c] {A B : Nat → Option α} {r : α} (hc : ¬ c) (h : Ev B r) : Ev (fun k => if c then A k else B k) r :=
  Ev.congr (fun k => if_neg hc) h
theorem evs {α β : Type} {g : Option α} {a : α} {f : Nat → α → Option β} {r : β} (hg : g = some a) (h : Ev (fun k => f k a) r) : Ev (fun k => g.bind (f k)) r :=
  Ev.congr (fun k => by rw [hg]; rfl) h
theorem evc {α : Type} {g : Option α} {r : α} (h : g = some r) : Ev (fun _ => g) r := ⟨0, fun _ _ => h⟩
theorem ev_eq {α : Type} {g : Nat → Option α} {r r' : α} (h : Ev g r) (e : r = r') : Ev g r' := e ▸ h
theorem w64 {n : Int} (h0 : -9223372036854775808 ≤ n) (h1 : n ≤ 9223372036854775807) : wrap64 n = n := by
  unfold wrap64
  omega
theorem w64s {n : Int} (h0 : -1000000000000000000 ≤ n) (h1 : n ≤ 1000000000000000000) : wrap64 n = n := w64 (by omega) (by omega)
theorem ev1 {α : Type} {g : Nat → Option α} {r : α} (h : Ev (fun k => g (k + 1)) r) : Ev g r := Ev.step (fun _ => rfl) h
theorem dt {p : Prop} [Decidable p] (h : p) : decide p = true := decide_eq_true h
theorem dnt {p : Prop} [Decidable p] (h : ¬ p) : ¬ (decide p = true) := by simp [h]
theorem ntd {p : Prop} [Decidable p] (h : ¬ p) : (!decide p) = true := by simp [h]
theorem ntt {p : Prop} [Decidable p] (h : p) : ¬ ((!decide p) = true) := by simp [h]
theorem evk {α : Type} {g : Nat → Option α} {r : α} (h : ∀ k, g k = some r) : Ev g r := ⟨0, fun k _ => h k⟩

theorem rd_nat (l : List Int) (i : Nat) : rd l (i : Int) = l.getD i 0 := by
  unfold rd
  rw [Int.toNat_natCast]
theorem rd_mem {l : List Int} {i : Nat} (h : i < l.length) : l.getD i 0 ∈ l := by
  rw [List.getD_eq_getElem?_getD, List.getElem?_eq_getElem h]
  exact List.getElem_mem h
theorem list_ext {a b : List Int} (hl : a.length = b.length) (h : ∀ i, i < a.length → a.getD i 0 = b.getD i 0) : a = b := by
  apply List.ext_getElem hl
  intro i h1 h2
  have := h i h1
  rw [List.getD_eq_getElem?_getD, List.getD_eq_getElem?_getD, List.getElem?_eq_getElem h1, List.getElem?_eq_getElem h2] at this
  simpa using this
theorem getD_set (l : List Int) (i j : Nat) (v : Int) : (l.set i v).getD j 0 = if i = j ∧ j < l.length then v else l.getD j 0 := by
  rw [List.getD_eq_getElem?_getD, List.getElem?_set, List.getD_eq_getElem?_getD]
  by_cases h : i = j
  · subst h
    by_cases h2 : i < l.length
    · simp [h2]
    · simp [h2]
  · simp [h]

theorem eqInts_loop (x : List Int) (hn : x.length ≤ 4000000000000000) : ∀ (d i : Nat), i + d = x.length → Ev (fun k => laws_eqIntS.l0 k x x i) true := by
  intro d
  induction d with
  | zero =>
    intro i hi
    refine ev1 ?_
    exact evn (by omega) (evc rfl)
  | succ d ih =>
    intro i hi
    refine ev1 ?_
    refine evp (by omega) (evp (by omega) (evp (by omega) (evp rfl ?_)))
    rw [w64s (by omega) (by omega)]
    exact ih (i + 1) (by omega)
theorem eqInts_ev (l : List Int) (hn : l.length ≤ 4000000000000000) : Ev (fun k => laws_eqIntS.f k l l) true := by
  unfold laws_eqIntS.f
  exact evp rfl (eqInts_loop l hn l.length 0 (by omega))

def marksI (s : Int) (n : Nat) : List Int := (List.range n).map fun j : Nat => (s + (j : Int))
theorem marksI_length (s : Int) (n : Nat) : (marksI s n).length = n := by simp [marksI]
theorem marksI_at (s : Int) (n j : Nat) (h : j < n) : (marksI s n).getD j 0 = (s + (j : Int)) := by
  simp [marksI, List.getD_eq_getElem?_getD, List.getElem?_map, List.getElem?_range h]
theorem markInts_loop (n : Nat) (hn : n ≤ 4000000000000000) (s : Int) (h0 : 0 ≤ s) (hs : s ≤ 4000000000000000) : ∀ (d i : Nat) (x : List Int), i + d = n → x.length = n → (∀ j, j < i → x.getD j 0 = (s + (j : Int))) →
    Ev (fun k => laws_markIntS.l0 k x (s + i) i) (s + n, marksI s n) := by
  intro d
  induction d with
  | zero =>
    intro i x hi hl hj
    refine ev1 ?_
    refine evn (by omega) (evc ?_)
    rw [show i = n by omega, list_ext (a := x) (b := marksI s n) (by rw [hl, marksI_length]) (fun j h => by rw [hj j (by omega), marksI_at s n j (by omega)])]
  | succ d ih =>
    intro i x hi hl hj
    refine ev1 ?_
    refine evp (by omega) (evp (by omega) ?_)
    rw [w64s (by omega) (by omega), w64s (by omega) (by omega), Int.toNat_natCast]
    have := ih (i + 1) (x.set i (s + (i : Int))) (by omega) (by simpa using hl) (by
      intro j h
      rw [getD_set]
      by_cases e : i = j
      · subst e
        rw [if_pos ⟨rfl, by omega⟩]
      · rw [if_neg (fun h' => e h'.1)]
        exact hj j (by omega))
    rw [show s + ((i + 1 : Nat) : Int) = s + (i : Int) + 1 by omega] at this
    exact this
theorem markInts_ev (l : List Int) (hn : l.length ≤ 4000000000000000) (s : Int) (h0 : 0 ≤ s) (hs : s ≤ 4000000000000000) : Ev (fun k => laws_markIntS.f k l s) (s + l.length, marksI s l.length) := by
  have := markInts_loop l.length hn s h0 hs l.length 0 l (by omega) rfl (by intro j h; omega)
  rw [show s + ((0 : Nat) : Int) = s by omega] at this
  exact this
theorem heldInts_loop (n : Nat) (hn : n ≤ 4000000000000000) (s : Int) (h0 : 0 ≤ s) (hs : s ≤ 4000000000000000) : ∀ (d i : Nat), i + d = n →
    Ev (fun k => laws_heldIntS.l0 k (marksI s n) (s + i) i) (s + n) := by
  intro d
  induction d with
  | zero =>
    intro i hi
    refine ev1 ?_
    refine evn (by rw [marksI_length]; omega) (evc ?_)
    rw [show i = n by omega]
  | succ d ih =>
    intro i hi
    refine ev1 ?_
    refine evp (by rw [marksI_length]; omega) (evp (by omega) (evp (by rw [rd_nat, marksI_at s n i (by omega)]) ?_))
    rw [w64s (by omega) (by omega), w64s (by omega) (by omega)]
    have := ih (i + 1) (by omega)
    rw [show s + ((i + 1 : Nat) : Int) = s + (i : Int) + 1 by omega] at this
    exact this
theorem heldInts_ev (n : Nat) (hn : n ≤ 4000000000000000) (s : Int) (h0 : 0 ≤ s) (hs : s ≤ 4000000000000000) : Ev (fun k => laws_heldIntS.f k (marksI s n) s) (s + n) := by
  have := heldInts_loop n hn s h0 hs n 0 (by omega)
  rw [show s + ((0 : Nat) : Int) = s by omega] at this
  exact this

theorem in_some (x a b : Int) : impl_InRange.f x a b = some (decide (a ≤ x ∧ x ≤ b)) := by
  unfold impl_InRange.f
  by_cases h : a ≤ x <;> simp [h]

theorem l1_some (x a b : Int) : spec_l1In.f x a b = some (decide (a ≤ x ∧ x ≤ b)) := by
  unfold spec_l1In.f
  by_cases h : a ≤ x <;> simp [h]

def run (s : Int) (n : Nat) : List Int := (List.range n).map fun j : Nat => s + (j : Int)
theorem run_length (s : Int) (n : Nat) : (run s n).length = n := by simp [run]
theorem run_succ (s : Int) (n : Nat) : run s (n + 1) = run s n ++ [s + n] := by simp [run, List.range_succ]
theorem burst_loop (s n : Int) (hs : 0 ≤ s ∧ s ≤ 10000) (hn : 0 ≤ n ∧ n ≤ 1000) : ∀ (d i : Nat), (i : Int) + d = n →
    Ev (fun k => spec_BurstPattern.l0 k s n (run s i) i) (run s n.toNat) ∧ Ev (fun k => impl_BurstPattern.l0 k s n (run s i) i) (run s n.toNat) := by
  intro d
  induction d with
  | zero =>
    intro i hi
    rw [show n.toNat = i by omega]
    exact ⟨ev1 (evn (by omega) (evc rfl)), ev1 (evn (by omega) (evc rfl))⟩
  | succ d ih =>
    intro i hi
    obtain ⟨h1, h2⟩ := ih (i + 1) (by omega)
    rw [run_succ] at h1 h2
    refine ⟨?_, ?_⟩
    · refine ev1 (evp (by omega) (evs (l1_some _ _ _) (evp (by simpa using hs) (evp hn.2 (evp (by rw [run_length]; omega) ?_)))))
      rw [w64s (by omega) (by omega), w64s (by omega) (by omega)]
      exact h1
    · refine ev1 (evp (by omega) (evp (by rw [run_length]; omega) ?_))
      rw [w64s (by omega) (by omega), w64s (by omega) (by omega)]
      exact h2
theorem burst_ev (s n : Int) : ∃ r : List Int, r.length ≤ 1000 ∧ Ev (fun k => spec_BurstPattern.f k s n) r ∧ Ev (fun k => impl_BurstPattern.f k s n) r := by
  by_cases h : (0 ≤ s ∧ s ≤ 10000) ∧ (0 ≤ n ∧ n ≤ 1000)
  · obtain ⟨h1, h2⟩ := burst_loop s n h.1 h.2 n.toNat 0 (by omega)
    refine ⟨run s n.toNat, by rw [run_length]; omega, h1, ?_⟩
    unfold impl_BurstPattern.f
    exact evs rfl (evs (in_some _ _ _) (evp (by simpa using h.1) (evs (in_some _ _ _) (ev1 (evn (by simpa using h.2) h2)))))
  · refine ⟨[], by simp, ?_, ?_⟩
    · unfold spec_BurstPattern.f
      by_cases h0 : 0 < n
      · refine ev1 (evp h0 (evs (l1_some _ _ _) ?_))
        by_cases h1 : 0 ≤ s ∧ s ≤ 10000
        · exact evp (by simpa using h1) (evn (by omega) (evc rfl))
        · exact evn (by simpa using h1) (evc rfl)
      · exact ev1 (evn h0 (evc rfl))
    · unfold impl_BurstPattern.f
      refine evs rfl (evs (in_some _ _ _) ?_)
      by_cases h1 : 0 ≤ s ∧ s ≤ 10000
      · exact evp (by simpa using h1) (evs (in_some _ _ _) (ev1 (evp (ntd (fun h2 => h ⟨h1, h2⟩)) (evc rfl))))
      · exact evn (by simpa using h1) (ev1 (evk fun _ => rfl))
theorem FnExactBurstPattern : laws_FnExactBurstPattern.Pure := by
  intro s n _ _
  refine Ev.rounds (r := true) ?_
  obtain ⟨r, hl, h1, h2⟩ := burst_ev s n
  unfold laws_FnExactBurstPattern.f
  have hm := markInts_ev r (by omega) 1 (by omega) (by omega)
  have hh := heldInts_ev r.length (by omega) 1 (by omega) (by omega)
  exact Ev.bind h1 (Ev.bind h2 (Ev.bind (eqInts_ev r (by omega)) (evp rfl (Ev.bind hm (Ev.bind hh (evn (by omega) (evp rfl (Ev.bind h2 (Ev.bind (eqInts_ev r (by omega)) (evp rfl (Ev.bind hh (evn (by omega) (evp rfl (evc rfl))))))))))))))

end Go.Proofs.Ytkmkgkjinefcdaa.Pure
