/-
  The program's ErrorPattern and the reference's agree at every seed, count and rate, and the answers share no memory.
  Conditions: none beyond the given statement's own.
-/
import Derived.Test.YtmmgjhffjmdhhaaPFnExactErrorPatternx2
set_option linter.unusedVariables false
set_option linter.unusedSimpArgs false
namespace Go.Proofs.Ytmmgjhffjmdhhaa.Pure
open Go.RowKit Go.Proofs.Ytmmgjhffjmdhhaa.PFnExactErrorPattern Go.Proofs.YtmmgjhffjmdhhaaW.PrintWords Go.Proofs.YtmmgjhffjmdhhaaW.PrintLast Go.Proofs.YtmmgjhffjmdhhaaW.PrintMore

theorem evp {α : Type} {c : Prop} [Decidable c] {A B : Nat → Option α} {r : α} (hc : c) (h : Ev A r) : Ev (fun k => if c then A k else B k) r :=
  Ev.congr (fun k => if_pos hc) h
theorem evn {α : Type} {c : Prop} [Decidable c] {A B : Nat → Option α} {r : α} (hc : ¬ c) (h : Ev B r) : Ev (fun k => if c then A k else B k) r :=
  Ev.congr (fun k => if_neg hc) h
theorem evs {α β : Type} {g : Option α} {a : α} {f : Nat → α → Option β} {r : β} (hg : g = some a) (h : Ev (fun k => f k a) r) : Ev (fun k => g.bind (f k)) r :=
  Ev.congr (fun k => by rw [hg]; rfl) h
theorem evc {α : Type} {g : Option α} {r : α} (h : g = some r) : Ev (fun _ => g) r := ⟨0, fun _ _ => h⟩
theorem ev_eq {α : Type} {g : Nat → Option α} {r r' : α} (h : Ev g r) (e : r = r') : Ev g r' := e ▸ h
theorem w64 {n : Int} (h0 : -9223372036854775808 ≤ n) (h1 : n ≤ 9223372036854775807) : wrap64 n = n := by
  unfold wrap64
  omega
theorem w64s {n : Int} (h0 : -1000000000000000000 ≤ n) (h1 : n ≤ 1000000000000000000) : wrap64 n = n := w64 (by omega) (by omega)
theorem ev1 {α : Type} {g : Nat → Option α} {r : α} (h : Ev (fun k => g (k + 1)) r) : Ev g r := Ev.step (fun _ => rfl) h
theorem dt {p : Prop} [Decidable p] (h : p) : decide p = true := decide_eq_true h
theorem dnt {p : Prop} [Decidable p] (h : ¬ p) : ¬ (decide p = true) := by simp [h]
theorem ntd {p : Prop} [Decidable p] (h : ¬ p) : (!decide p) = true := by simp [h]
theorem ntt {p : Prop} [Decidable p] (h : p) : ¬ ((!decide p) = true) := by simp [h]
theorem evk {α : Type} {g : Nat → Option α} {r : α} (h : ∀ k, g k = some r) : Ev g r := ⟨0, fun k _ => h k⟩
theorem dec_iff {p q : Prop} [Decidable p] [Decidable q] (h : p ↔ q) : decide p = decide q := by
  by_cases hq : q
  · rw [decide_eq_true hq, decide_eq_true (h.2 hq)]
  · rw [decide_eq_false hq, decide_eq_false (fun hp => hq (h.1 hp))]

theorem rd_nat (l : List Int) (i : Nat) : rd l (i : Int) = l.getD i 0 := by
  unfold rd
  rw [Int.toNat_natCast]
theorem rd_mem {l : List Int} {i : Nat} (h : i < l.length) : l.getD i 0 ∈ l := by
  rw [List.getD_eq_getElem?_getD, List.getElem?_eq_getElem h]
  exact List.getElem_mem h
theorem list_ext {a b : List Int} (hl : a.length = b.length) (h : ∀ i, i < a.length → a.getD i 0 = b.getD i 0) : a = b := by
  apply List.ext_getElem hl
  intro i h1 h2
  have := h i h1
  rw [List.getD_eq_getElem?_getD, List.getD_eq_getElem?_getD, List.getElem?_eq_getElem h1, List.getElem?_eq_getElem h2] at this
  simpa using this
theorem getD_set (l : List Int) (i j : Nat) (v : Int) : (l.set i v).getD j 0 = if i = j ∧ j < l.length then v else l.getD j 0 := by
  rw [List.getD_eq_getElem?_getD, List.getElem?_set, List.getD_eq_getElem?_getD]
  by_cases h : i = j
  · subst h
    by_cases h2 : i < l.length
    · simp [h2]
    · simp [h2]
  · simp [h]

def hstep (d v : Int) : Int := Int.tmod (wrap64 ((wrap64 ((wrap64 (d * 1000003)) + v)) + 13)) 2147483647
def hashGo : Int → List Int → Int
  | d, [] => d
  | d, v :: r => hashGo (hstep d (v % 2147483647)) r
theorem tmod_cases (a : Int) : (0 ≤ a ∧ Int.tmod a 2147483647 = a % 2147483647) ∨ (a < 0 ∧ Int.tmod a 2147483647 = -((-a) % 2147483647)) := by
  by_cases h : 0 ≤ a
  · exact .inl ⟨h, Int.tmod_eq_emod_of_nonneg h⟩
  · refine .inr ⟨by omega, ?_⟩
    have e : Int.tmod (-(-a)) 2147483647 = -(Int.tmod (-a) 2147483647) := Int.neg_tmod (-a) 2147483647
    rw [Int.neg_neg] at e
    rw [e, Int.tmod_eq_emod_of_nonneg (by omega)]
theorem drop_getD (L : List Int) (i : Nat) (h : i < L.length) : L.drop i = L.getD i 0 :: L.drop (i + 1) := by
  rw [List.drop_eq_getElem_cons h, List.getD_eq_getElem?_getD, List.getElem?_eq_getElem h]
  rfl

theorem in_some (x a b : Int) : impl_InRange.f x a b = some (decide (a ≤ x ∧ x ≤ b)) := by
  unfold impl_InRange.f
  by_cases h : a ≤ x <;> simp [h]

theorem imod_some (a : Int) : impl_Mod.f a 2147483647 = some (a % 2147483647) := by
  unfold impl_Mod.f
  rw [in_some]
  simp only [Option.bind_some]
  rw [if_pos (by decide), if_neg (by decide)]
  rcases tmod_cases a with ⟨h, e⟩ | ⟨h, e⟩
  · rw [e, if_neg (by omega)]
  · rw [e]
    by_cases h2 : -((-a) % 2147483647) < 0
    · rw [if_pos h2, w64s (by omega) (by omega)]
      exact congrArg some (by omega)
    · rw [if_neg h2]
      exact congrArg some (by omega)
theorem ihash_loop (l : List Int) (hn : l.length ≤ 4000000000000000) : ∀ (d i : Nat) (acc : Int), i + d = l.length → Ev (fun k => impl_Hash.l0 k acc l l.length i) (hashGo acc (l.drop i)) := by
  intro d
  induction d with
  | zero =>
    intro i acc hi
    rw [List.drop_of_length_le (by omega)]
    exact ev1 (evn (by omega) (evc rfl))
  | succ d ih =>
    intro i acc hi
    refine ev1 (evp (by omega) (evp (by omega) (evp (by omega) (evs (imod_some _) ?_))))
    rw [drop_getD l i (by omega), hashGo, rd_nat, w64s (n := (i : Int) + 1) (by omega) (by omega)]
    exact ih (i + 1) _ (by omega)
theorem ihash_ev (l : List Int) (hn : l.length ≤ 4000000000000000) : Ev (fun k => impl_Hash.f k l) (hashGo 11 l) := ihash_loop l hn l.length 0 11 (by omega)
def sqV (s i : Int) : Int := Int.tmod (wrap64 (hashGo 11 [s, i, s] * hashGo 11 [s, i, s])) 2147483647
theorem isq_ev (s i : Int) : Ev (fun k => impl_squaredHash.f k s i) (sqV s i) := by
  unfold impl_squaredHash.f
  have h : Ev (fun k => impl_KeyedHash.f k s [i]) (hashGo 11 [s, i, s]) := by
    unfold impl_KeyedHash.f
    rw [w64s (n := (([i] : List Int).length : Int) + 2) (by simp) (by simp)]
    refine evp (by simp) (evp (by simp) (evs rfl (evp (by simp) (evs rfl (evp (by simp) (evs rfl (evp (by simp) (Ev.bind (ihash_ev [s, i, s] (by simp)) (evc rfl)))))))))
  exact Ev.bind h (evc rfl)

theorem l1_some (x a b : Int) : spec_l1In.f x a b = some (decide (a ≤ x ∧ x ≤ b)) := by
  unfold spec_l1In.f
  by_cases h : a ≤ x <;> simp [h]

theorem eqInts_loop (x : List Int) (hn : x.length ≤ 4000000000000000) : ∀ (d i : Nat), i + d = x.length → Ev (fun k => laws_eqIntS.l0 k x x i) true := by
  intro d
  induction d with
  | zero =>
    intro i hi
    refine ev1 ?_
    exact evn (by omega) (evc rfl)
  | succ d ih =>
    intro i hi
    refine ev1 ?_
    refine evp (by omega) (evp (by omega) (evp (by omega) (evp rfl ?_)))
    rw [w64s (by omega) (by omega)]
    exact ih (i + 1) (by omega)
theorem eqInts_ev (l : List Int) (hn : l.length ≤ 4000000000000000) : Ev (fun k => laws_eqIntS.f k l l) true := by
  unfold laws_eqIntS.f
  exact evp rfl (eqInts_loop l hn l.length 0 (by omega))

def marksI (s : Int) (n : Nat) : List Int := (List.range n).map fun j : Nat => (s + (j : Int))
theorem marksI_length (s : Int) (n : Nat) : (marksI s n).length = n := by simp [marksI]
theorem marksI_at (s : Int) (n j : Nat) (h : j < n) : (marksI s n).getD j 0 = (s + (j : Int)) := by
  simp [marksI, List.getD_eq_getElem?_getD, List.getElem?_map, List.getElem?_range h]
theorem markInts_loop (n : Nat) (hn : n ≤ 4000000000000000) (s : Int) (h0 : 0 ≤ s) (hs : s ≤ 4000000000000000) : ∀ (d i : Nat) (x : List Int), i + d = n → x.length = n → (∀ j, j < i → x.getD j 0 = (s + (j : Int))) →
    Ev (fun k => laws_markIntS.l0 k x (s + i) i) (s + n, marksI s n) := by
  intro d
  induction d with
  | zero =>
    intro i x hi hl hj
    refine ev1 ?_
    refine evn (by omega) (evc ?_)
    rw [show i = n by omega, list_ext (a := x) (b := marksI s n) (by rw [hl, marksI_length]) (fun j h => by rw [hj j (by omega), marksI_at s n j (by omega)])]
  | succ d ih =>
    intro i x hi hl hj
    refine ev1 ?_
    refine evp (by omega) (evp (by omega) ?_)
    rw [w64s (by omega) (by omega), w64s (by omega) (by omega), Int.toNat_natCast]
    have := ih (i + 1) (x.set i (s + (i : Int))) (by omega) (by simpa using hl) (by
      intro j h
      rw [getD_set]
      by_cases e : i = j
      · subst e
        rw [if_pos ⟨rfl, by omega⟩]
      · rw [if_neg (fun h' => e h'.1)]
        exact hj j (by omega))
    rw [show s + ((i + 1 : Nat) : Int) = s + (i : Int) + 1 by omega] at this
    exact this
theorem markInts_ev (l : List Int) (hn : l.length ≤ 4000000000000000) (s : Int) (h0 : 0 ≤ s) (hs : s ≤ 4000000000000000) : Ev (fun k => laws_markIntS.f k l s) (s + l.length, marksI s l.length) := by
  have := markInts_loop l.length hn s h0 hs l.length 0 l (by omega) rfl (by intro j h; omega)
  rw [show s + ((0 : Nat) : Int) = s by omega] at this
  exact this
theorem heldInts_loop (n : Nat) (hn : n ≤ 4000000000000000) (s : Int) (h0 : 0 ≤ s) (hs : s ≤ 4000000000000000) : ∀ (d i : Nat), i + d = n →
    Ev (fun k => laws_heldIntS.l0 k (marksI s n) (s + i) i) (s + n) := by
  intro d
  induction d with
  | zero =>
    intro i hi
    refine ev1 ?_
    refine evn (by rw [marksI_length]; omega) (evc ?_)
    rw [show i = n by omega]
  | succ d ih =>
    intro i hi
    refine ev1 ?_
    refine evp (by rw [marksI_length]; omega) (evp (by omega) (evp (by rw [rd_nat, marksI_at s n i (by omega)]) ?_))
    rw [w64s (by omega) (by omega), w64s (by omega) (by omega)]
    have := ih (i + 1) (by omega)
    rw [show s + ((i + 1 : Nat) : Int) = s + (i : Int) + 1 by omega] at this
    exact this
theorem heldInts_ev (n : Nat) (hn : n ≤ 4000000000000000) (s : Int) (h0 : 0 ≤ s) (hs : s ≤ 4000000000000000) : Ev (fun k => laws_heldIntS.f k (marksI s n) s) (s + n) := by
  have := heldInts_loop n hn s h0 hs n 0 (by omega)
  rw [show s + ((0 : Nat) : Int) = s by omega] at this
  exact this

theorem smod_some (a : Int) : spec_Mod.f a 2147483647 = some (a % 2147483647) := by
  unfold spec_Mod.f
  rw [l1_some]
  simp only [Option.bind_some]
  rw [if_pos (by decide), if_neg (by decide)]
  rcases tmod_cases a with ⟨h, e⟩ | ⟨h, e⟩
  · rw [e, w64s (by omega) (by omega), Int.tmod_eq_emod_of_nonneg (by omega)]
    exact congrArg some (by omega)
  · rw [e, w64s (by omega) (by omega), Int.tmod_eq_emod_of_nonneg (by omega)]
    exact congrArg some (by omega)
theorem shash_loop (l : List Int) (hn : l.length ≤ 4000000000000000) : ∀ (d i : Nat) (acc : Int), i + d = l.length → Ev (fun k => spec_Hash.l0 k l acc i) (hashGo acc (l.drop i)) := by
  intro d
  induction d with
  | zero =>
    intro i acc hi
    rw [List.drop_of_length_le (by omega)]
    exact ev1 (evn (by omega) (evc rfl))
  | succ d ih =>
    intro i acc hi
    refine ev1 (evp (by omega) (evp (by omega) (evs (smod_some _) ?_)))
    rw [drop_getD l i (by omega), hashGo, rd_nat, w64s (n := (i : Int) + 1) (by omega) (by omega)]
    exact ih (i + 1) _ (by omega)
theorem skeyed_ev (s i : Int) : Ev (fun k => spec_KeyedHash.f k s [i]) (hashGo 11 [s, i, s]) := by
  unfold spec_KeyedHash.f
  refine evs rfl (evp (by simp) (evs rfl (evp (by simp) (Ev.bind (shash_loop [s, i, s] (by simp) 3 0 11 (by simp)) (evc rfl)))))
theorem pat_loop (s n r : Int) (hn : 0 ≤ n ∧ n ≤ 10000) : ∀ (d i : Nat) (acc : List Int), (i : Int) + d = n → acc.length ≤ i →
    ∃ p : List Int, p.length ≤ 10000 ∧ Ev (fun k => spec_ErrorPattern.l0 k s n r acc i) p ∧ Ev (fun k => impl_ErrorPattern.l0 k s n r acc i) p := by
  intro d
  induction d with
  | zero =>
    intro i acc hi ha
    exact ⟨acc, by omega, ev1 (evn (by omega) (ev1 (evk fun _ => rfl))), ev1 (evn (by omega) (evc rfl))⟩
  | succ d ih =>
    intro i acc hi ha
    have hq := isq_ev s i
    have hw : wrap64 ((i : Int) + 1) = ((i + 1 : Nat) : Int) := by rw [w64s (by omega) (by omega)]; omega
    by_cases h : Int.tmod (sqV s i) 1000 < r
    · obtain ⟨p, h1, h2, h3⟩ := ih (i + 1) (acc ++ [(i : Int)]) (by omega) (by simp; omega)
      refine ⟨p, h1, ev1 (evp (by omega) (evs (l1_some _ _ _) ?_)), ev1 (evp (by omega) (Ev.bind hq (evp h (evp (by omega) ?_))))⟩
      · rw [decide_eq_true hn]
        refine ev1 (Ev.bind (skeyed_ev s i) (evp h (evp (by omega) ?_)))
        rw [hw]
        exact h2
      · rw [hw]
        exact h3
    · obtain ⟨p, h1, h2, h3⟩ := ih (i + 1) acc (by omega) (by omega)
      refine ⟨p, h1, ev1 (evp (by omega) (evs (l1_some _ _ _) ?_)), ev1 (evp (by omega) (Ev.bind hq (evn h ?_)))⟩
      · rw [decide_eq_true hn]
        refine ev1 (Ev.bind (skeyed_ev s i) (evn h ?_))
        rw [hw]
        exact h2
      · rw [hw]
        exact h3
theorem pat_ev (s n r : Int) : ∃ p : List Int, p.length ≤ 10000 ∧ Ev (fun k => spec_ErrorPattern.f k s n r) p ∧ Ev (fun k => impl_ErrorPattern.f k s n r) p := by
  unfold spec_ErrorPattern.f impl_ErrorPattern.f
  by_cases h : 0 ≤ n ∧ n ≤ 10000
  · obtain ⟨p, h1, h2, h3⟩ := pat_loop s n r h n.toNat 0 [] (by omega) (by simp)
    exact ⟨p, h1, h2, evs rfl (evs (in_some _ _ _) (evp (dt h) h3))⟩
  · refine ⟨[], by simp, ?_, evs rfl (evs (in_some _ _ _) (evn (dnt h) (evc rfl)))⟩
    by_cases h0 : 0 < n
    · refine ev1 (evp h0 (evs (l1_some _ _ _) ?_))
      rw [decide_eq_false h]
      exact ev1 (evk fun _ => rfl)
    · exact ev1 (evn h0 (ev1 (evk fun _ => rfl)))
theorem FnExactErrorPattern : laws_FnExactErrorPattern.Pure := by
  intro s n r _ _ _
  refine Ev.rounds (r := true) ?_
  obtain ⟨p, hl, h1, h2⟩ := pat_ev s n r
  unfold laws_FnExactErrorPattern.f
  have hm := markInts_ev p (by omega) 1 (by omega) (by omega)
  have hh := heldInts_ev p.length (by omega) 1 (by omega) (by omega)
  have he := eqInts_ev p (by omega)
  exact Ev.bind h1 (Ev.bind h2 (Ev.bind he (evp rfl (Ev.bind hm (Ev.bind hh (evn (by omega) (evp rfl (Ev.bind h2 (Ev.bind he (evp rfl (Ev.bind hh (evn (by omega) (evp rfl (evc rfl))))))))))))))

end Go.Proofs.Ytmmgjhffjmdhhaa.Pure
