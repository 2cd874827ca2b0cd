/-
  The program's FlipBits and the reference's agree at every bits and pattern, the arguments are left as they were, and the answers share no memory.
  Conditions: none beyond the given statement's own.
-/
import Derived.Test.YthdjoogholigbaaPFnExactFlipBitsx2
set_option linter.unusedVariables false
set_option linter.unusedSimpArgs false
namespace Go.Proofs.Ythdjoogholigbaa.Pure
open Go.RowKit Go.Proofs.Ythdjoogholigbaa.PFnExactFlipBits Go.Proofs.YthdjoogholigbaaW.PrintWords Go.Proofs.YthdjoogholigbaaW.PrintLast Go.Proofs.YthdjoogholigbaaW.PrintMore

theorem in_some (x a b : Int) : impl_InRange.f x a b = some (decide (a ≤ x ∧ x ≤ b)) := by
  unfold impl_InRange.f
  by_cases h : a ≤ x <;> simp [h]

theorem l1_some (x a b : Int) : spec_l1In.f x a b = some (decide (a ≤ x ∧ x ≤ b)) := by
  unfold spec_l1In.f
  by_cases h : a ≤ x <;> simp [h]

theorem rd_nat (l : List Int) (i : Nat) : rd l (i : Int) = l.getD i 0 := by
  unfold rd
  rw [Int.toNat_natCast]
theorem rd_mem {l : List Int} {i : Nat} (h : i < l.length) : l.getD i 0 ∈ l := by
  rw [List.getD_eq_getElem?_getD, List.getElem?_eq_getElem h]
  exact List.getElem_mem h
theorem list_ext {a b : List Int} (hl : a.length = b.length) (h : ∀ i, i < a.length → a.getD i 0 = b.getD i 0) : a = b := by
  apply List.ext_getElem hl
  intro i h1 h2
  have := h i h1
  rw [List.getD_eq_getElem?_getD, List.getD_eq_getElem?_getD, List.getElem?_eq_getElem h1, List.getElem?_eq_getElem h2] at this
  simpa using this
theorem getD_set (l : List Int) (i j : Nat) (v : Int) : (l.set i v).getD j 0 = if i = j ∧ j < l.length then v else l.getD j 0 := by
  rw [List.getD_eq_getElem?_getD, List.getElem?_set, List.getD_eq_getElem?_getD]
  by_cases h : i = j
  · subst h
    by_cases h2 : i < l.length
    · simp [h2]
    · simp [h2]
  · simp [h]

theorem evp {α : Type} {c : Prop} [Decidable c] {A B : Nat → Option α} {r : α} (hc : c) (h : Ev A r) : Ev (fun k => if c then A k else B k) r :=
  Ev.congr (fun k => if_pos hc) h
theorem evn {α : Type} {c : Prop} [Decidable c] {A B : Nat → Option α} {r : α} (hc : ¬ c) (h : Ev B r) : Ev (fun k => if c then A k else B k) r :=
  Ev.congr (fun k => if_neg hc) h
theorem evs {α β : Type} {g : Option α} {a : α} {f : Nat → α → Option β} {r : β} (hg : g = some a) (h : Ev (fun k => f k a) r) : Ev (fun k => g.bind (f k)) r :=
  Ev.congr (fun k => by rw [hg]; rfl) h
theorem evc {α : Type} {g : Option α} {r : α} (h : g = some r) : Ev (fun _ => g) r := ⟨0, fun _ _ => h⟩
theorem ev_eq {α : Type} {g : Nat → Option α} {r r' : α} (h : Ev g r) (e : r = r') : Ev g r' := e ▸ h
theorem w64 {n : Int} (h0 : -9223372036854775808 ≤ n) (h1 : n ≤ 9223372036854775807) : wrap64 n = n := by
  unfold wrap64
  omega
theorem w64s {n : Int} (h0 : -1000000000000000000 ≤ n) (h1 : n ≤ 1000000000000000000) : wrap64 n = n := w64 (by omega) (by omega)
theorem ev1 {α : Type} {g : Nat → Option α} {r : α} (h : Ev (fun k => g (k + 1)) r) : Ev g r := Ev.step (fun _ => rfl) h
theorem dt {p : Prop} [Decidable p] (h : p) : decide p = true := decide_eq_true h
theorem dnt {p : Prop} [Decidable p] (h : ¬ p) : ¬ (decide p = true) := by simp [h]
theorem ntd {p : Prop} [Decidable p] (h : ¬ p) : (!decide p) = true := by simp [h]
theorem ntt {p : Prop} [Decidable p] (h : p) : ¬ ((!decide p) = true) := by simp [h]
theorem evk {α : Type} {g : Nat → Option α} {r : α} (h : ∀ k, g k = some r) : Ev g r := ⟨0, fun k _ => h k⟩
theorem dec_iff {p q : Prop} [Decidable p] [Decidable q] (h : p ↔ q) : decide p = decide q := by
  by_cases hq : q
  · rw [decide_eq_true hq, decide_eq_true (h.2 hq)]
  · rw [decide_eq_false hq, decide_eq_false (fun hp => hq (h.1 hp))]

theorem flip_loop (l1 : List Int) (hn1 : l1.length ≤ 4000000000000000) (n : Nat) (hn : n ≤ 4000000000000000) : ∀ (d i : Nat) (x : List Int), i + d = l1.length → x.length = n →
    ∃ r : List Int, r.length = n ∧ Ev (fun k => spec_FlipBits.l0 k l1 x i) r ∧ Ev (fun k => impl_FlipBits.l0 k x l1 l1.length i) r := by
  intro d
  induction d with
  | zero =>
    intro i x hi hx
    exact ⟨x, hx, ev1 (evn (by omega) (evc rfl)), ev1 (evn (by omega) (evc rfl))⟩
  | succ d ih =>
    intro i x hi hx
    have hw : wrap64 ((i : Int) + 1) = ((i + 1 : Nat) : Int) := by rw [w64s (by omega) (by omega)]; omega
    have hwl : wrap64 ((x.length : Int) - 1) = (x.length : Int) - 1 := w64s (by omega) (by omega)
    by_cases hp : 0 ≤ rd l1 i ∧ rd l1 i ≤ (x.length : Int) - 1
    · by_cases hb : 0 ≤ rd x (rd l1 i) ∧ rd x (rd l1 i) ≤ 1
      · obtain ⟨r, hr, h1, h2⟩ := ih (i + 1) (x.set (rd l1 i).toNat (wrap64 (1 - rd x (rd l1 i)))) (by omega) (by simpa using hx)
        rw [← hw] at h1 h2
        refine ⟨r, hr, ev1 (evp (by omega) (evp (by omega) (evs (l1_some _ _ _) (evp (dt (by omega)) (evp hp.1 (evp (by omega) (evs (l1_some _ _ _) (evp (dt hb) h1)))))))), ev1 (evp (by omega) (evp (by omega) (evp (by omega) (evp hp.1 (evp (by omega) (evp hp.1 (evs (in_some _ _ _) (evp (dt hb) h2))))))))⟩
      · obtain ⟨r, hr, h1, h2⟩ := ih (i + 1) x (by omega) hx
        rw [← hw] at h1 h2
        refine ⟨r, hr, ev1 (evp (by omega) (evp (by omega) (evs (l1_some _ _ _) (evp (dt (by omega)) (evp hp.1 (evp (by omega) (evs (l1_some _ _ _) (evn (dnt hb) h1)))))))), ev1 (evp (by omega) (evp (by omega) (evp (by omega) (evp hp.1 (evp (by omega) (evp hp.1 (evs (in_some _ _ _) (evn (dnt hb) h2))))))))⟩
    · obtain ⟨r, hr, h1, h2⟩ := ih (i + 1) x (by omega) hx
      rw [← hw] at h1 h2
      refine ⟨r, hr, ev1 (evp (by omega) (evp (by omega) (evs (l1_some _ _ _) (evn (dnt (by omega)) h1)))), ev1 (evp (by omega) (evp (by omega) (evp (by omega) ?_)))⟩
      by_cases h0 : rd l1 i ≥ 0
      · exact evp h0 (evn (by omega) h2)
      · exact evn h0 h2
theorem flip_ev (l p : List Int) (hl : l.length ≤ 4000000) (hp : p.length ≤ 4000000) : ∃ r : List Int, r.length = l.length ∧ Ev (fun k => spec_FlipBits.f k l p) r ∧ Ev (fun k => impl_FlipBits.f k l p) r := by
  obtain ⟨r, hr, h1, h2⟩ := flip_loop p (by omega) l.length (by omega) p.length 0 l (by omega) rfl
  refine ⟨r, hr, ?_, ?_⟩
  · unfold spec_FlipBits.f
    refine evs rfl (evp (by simp; omega) ?_)
    exact h1
  · unfold impl_FlipBits.f
    refine evs (show impl_copyInts.f l = some l from if_pos (by omega)) ?_
    exact h2

theorem toInts_loop (x0 : List Int) (hn : x0.length ≤ 4000000000000000) : ∀ (d i : Nat) (x3 : List Int), i + d = x0.length → x3.length = x0.length → (∀ j, j < i → x3.getD j 0 = x0.getD j 0) → Ev (fun k => laws_toIntS.l0 k x0 x3 i) x0 := by
  intro d
  induction d with
  | zero =>
    intro i x3 hi hl hj
    refine ev1 ?_
    refine evn (by omega) (evc ?_)
    rw [list_ext hl (fun j h => hj j (by omega))]
  | succ d ih =>
    intro i x3 hi hl hj
    refine ev1 ?_
    refine evp (by omega) (evp (by omega) (evp (by omega) ?_))
    rw [w64s (by omega) (by omega), Int.toNat_natCast, rd_nat]
    have := ih (i + 1) (x3.set i (x0.getD i 0)) (by omega) (by simpa using hl) (by
      intro j h
      rw [getD_set]
      by_cases e : i = j
      · subst e
        rw [if_pos ⟨rfl, by omega⟩]
      · rw [if_neg (fun h' => e h'.1)]
        exact hj j (by omega))
    exact this
theorem toInts_ev (l : List Int) (hn : l.length ≤ 1048576) : Ev (fun k => laws_toIntS.f k l) l := by
  unfold laws_toIntS.f
  refine evp (by omega) (evp (by omega) ?_)
  exact toInts_loop l (by omega) l.length 0 _ (by omega) (by simp) (by intro j h; omega)

theorem eqInts_loop (x : List Int) (hn : x.length ≤ 4000000000000000) : ∀ (d i : Nat), i + d = x.length → Ev (fun k => laws_eqIntS.l0 k x x i) true := by
  intro d
  induction d with
  | zero =>
    intro i hi
    refine ev1 ?_
    exact evn (by omega) (evc rfl)
  | succ d ih =>
    intro i hi
    refine ev1 ?_
    refine evp (by omega) (evp (by omega) (evp (by omega) (evp rfl ?_)))
    rw [w64s (by omega) (by omega)]
    exact ih (i + 1) (by omega)
theorem eqInts_ev (l : List Int) (hn : l.length ≤ 4000000000000000) : Ev (fun k => laws_eqIntS.f k l l) true := by
  unfold laws_eqIntS.f
  exact evp rfl (eqInts_loop l hn l.length 0 (by omega))

def marksI (s : Int) (n : Nat) : List Int := (List.range n).map fun j : Nat => (s + (j : Int))
theorem marksI_length (s : Int) (n : Nat) : (marksI s n).length = n := by simp [marksI]
theorem marksI_at (s : Int) (n j : Nat) (h : j < n) : (marksI s n).getD j 0 = (s + (j : Int)) := by
  simp [marksI, List.getD_eq_getElem?_getD, List.getElem?_map, List.getElem?_range h]
theorem markInts_loop (n : Nat) (hn : n ≤ 4000000000000000) (s : Int) (h0 : 0 ≤ s) (hs : s ≤ 4000000000000000) : ∀ (d i : Nat) (x : List Int), i + d = n → x.length = n → (∀ j, j < i → x.getD j 0 = (s + (j : Int))) →
    Ev (fun k => laws_markIntS.l0 k x (s + i) i) (s + n, marksI s n) := by
  intro d
  induction d with
  | zero =>
    intro i x hi hl hj
    refine ev1 ?_
    refine evn (by omega) (evc ?_)
    rw [show i = n by omega, list_ext (a := x) (b := marksI s n) (by rw [hl, marksI_length]) (fun j h => by rw [hj j (by omega), marksI_at s n j (by omega)])]
  | succ d ih =>
    intro i x hi hl hj
    refine ev1 ?_
    refine evp (by omega) (evp (by omega) ?_)
    rw [w64s (by omega) (by omega), w64s (by omega) (by omega), Int.toNat_natCast]
    have := ih (i + 1) (x.set i (s + (i : Int))) (by omega) (by simpa using hl) (by
      intro j h
      rw [getD_set]
      by_cases e : i = j
      · subst e
        rw [if_pos ⟨rfl, by omega⟩]
      · rw [if_neg (fun h' => e h'.1)]
        exact hj j (by omega))
    rw [show s + ((i + 1 : Nat) : Int) = s + (i : Int) + 1 by omega] at this
    exact this
theorem markInts_ev (l : List Int) (hn : l.length ≤ 4000000000000000) (s : Int) (h0 : 0 ≤ s) (hs : s ≤ 4000000000000000) : Ev (fun k => laws_markIntS.f k l s) (s + l.length, marksI s l.length) := by
  have := markInts_loop l.length hn s h0 hs l.length 0 l (by omega) rfl (by intro j h; omega)
  rw [show s + ((0 : Nat) : Int) = s by omega] at this
  exact this
theorem heldInts_loop (n : Nat) (hn : n ≤ 4000000000000000) (s : Int) (h0 : 0 ≤ s) (hs : s ≤ 4000000000000000) : ∀ (d i : Nat), i + d = n →
    Ev (fun k => laws_heldIntS.l0 k (marksI s n) (s + i) i) (s + n) := by
  intro d
  induction d with
  | zero =>
    intro i hi
    refine ev1 ?_
    refine evn (by rw [marksI_length]; omega) (evc ?_)
    rw [show i = n by omega]
  | succ d ih =>
    intro i hi
    refine ev1 ?_
    refine evp (by rw [marksI_length]; omega) (evp (by omega) (evp (by rw [rd_nat, marksI_at s n i (by omega)]) ?_))
    rw [w64s (by omega) (by omega), w64s (by omega) (by omega)]
    have := ih (i + 1) (by omega)
    rw [show s + ((i + 1 : Nat) : Int) = s + (i : Int) + 1 by omega] at this
    exact this
theorem heldInts_ev (n : Nat) (hn : n ≤ 4000000000000000) (s : Int) (h0 : 0 ≤ s) (hs : s ≤ 4000000000000000) : Ev (fun k => laws_heldIntS.f k (marksI s n) s) (s + n) := by
  have := heldInts_loop n hn s h0 hs n 0 (by omega)
  rw [show s + ((0 : Nat) : Int) = s by omega] at this
  exact this

theorem FnExactFlipBits : laws_FnExactFlipBits.Pure := by
  intro l p _ _ _ _ _ _
  refine Ev.rounds (r := true) ?_
  unfold laws_FnExactFlipBits.f
  by_cases hn : (l.length : Int) > 1048576
  · exact evp hn (evc rfl)
  refine evn hn ?_
  by_cases hp : (p.length : Int) > 1048576
  · exact evp hp (evc rfl)
  refine evn hp ?_
  have hl : l.length ≤ 1048576 := by omega
  have hq : p.length ≤ 1048576 := by omega
  obtain ⟨r, hr, hs, hi⟩ := flip_ev l p (by omega) (by omega)
  have ht := toInts_ev l hl
  have ht2 := toInts_ev p hq
  have he := eqInts_ev r (by omega)
  have hm := markInts_ev r (by omega) 1 (by omega) (by omega)
  have hh := heldInts_ev r.length (by omega) 1 (by omega) (by omega)
  have hj : Ev (fun k => laws_FnExactFlipBits.j0 k l p r r false) true :=
    ev1 (Ev.bind hm (Ev.bind hh (evn (by omega) (evp rfl (Ev.bind ht (Ev.bind ht2 (Ev.bind hi (Ev.bind he (evp rfl (Ev.bind hh (evn (by omega) (evp rfl (evc rfl)))))))))))))
  exact Ev.bind ht (Ev.bind ht2 (Ev.bind hs (Ev.bind ht (Ev.bind ht2 (Ev.bind hi (Ev.bind he (evp rfl (Ev.bind ht (Ev.bind (eqInts_ev l (by omega)) (evp rfl (Ev.bind ht2 (Ev.bind (eqInts_ev p (by omega)) (evp rfl (Ev.bind (markInts_ev l (by omega) 1 (by omega) (by omega)) (Ev.bind (markInts_ev p (by omega) (1 + l.length) (by omega) (by omega)) (evn (by dsimp only; omega) (Ev.bind he hj)))))))))))))))))

end Go.Proofs.Ythdjoogholigbaa.Pure
