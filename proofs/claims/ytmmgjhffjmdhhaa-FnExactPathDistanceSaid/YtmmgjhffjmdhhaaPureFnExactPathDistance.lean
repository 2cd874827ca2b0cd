/-
  The program's PathDistance and the reference's agree at every two lists of at most 2^20 elements, and the arguments are left as they were.
  Conditions: none beyond the given statement's own.
-/
import Derived.Test.YtmmgjhffjmdhhaaPFnExactPathDistancex3
set_option linter.unusedVariables false
set_option linter.unusedSimpArgs false
namespace Go.Proofs.Ytmmgjhffjmdhhaa.Pure
open Go.RowKit Go.Proofs.Ytmmgjhffjmdhhaa.PFnExactPathDistance Go.Proofs.YtmmgjhffjmdhhaaW.PrintWords Go.Proofs.YtmmgjhffjmdhhaaW.PrintLast Go.Proofs.YtmmgjhffjmdhhaaW.PrintMore

theorem evp {α : Type} {c : Prop} [Decidable c] {A B : Nat → Option α} {r : α} (hc : c) (h : Ev A r) : Ev (fun k => if c then A k else B k) r :=
  Ev.congr (fun k => if_pos hc) h
theorem evn {α : Type} {c : Prop} [Decidable c] {A B : Nat → Option α} {r : α} (hc : ¬ c) (h : Ev B r) : Ev (fun k => if c then A k else B k) r :=
  Ev.congr (fun k => if_neg hc) h
theorem evs {α β : Type} {g : Option α} {a : α} {f : Nat → α → Option β} {r : β} (hg : g = some a) (h : Ev (fun k => f k a) r) : Ev (fun k => g.bind (f k)) r :=
  Ev.congr (fun k => by rw [hg]; rfl) h
theorem evc {α : Type} {g : Option α} {r : α} (h : g = some r) : Ev (fun _ => g) r := ⟨0, fun _ _ => h⟩
theorem ev_eq {α : Type} {g : Nat → Option α} {r r' : α} (h : Ev g r) (e : r = r') : Ev g r' := e ▸ h
theorem w64 {n : Int} (h0 : -9223372036854775808 ≤ n) (h1 : n ≤ 9223372036854775807) : wrap64 n = n := by
  unfold wrap64
  omega
theorem w64s {n : Int} (h0 : -1000000000000000000 ≤ n) (h1 : n ≤ 1000000000000000000) : wrap64 n = n := w64 (by omega) (by omega)
theorem ev1 {α : Type} {g : Nat → Option α} {r : α} (h : Ev (fun k => g (k + 1)) r) : Ev g r := Ev.step (fun _ => rfl) h
theorem dt {p : Prop} [Decidable p] (h : p) : decide p = true := decide_eq_true h
theorem dnt {p : Prop} [Decidable p] (h : ¬ p) : ¬ (decide p = true) := by simp [h]
theorem ntd {p : Prop} [Decidable p] (h : ¬ p) : (!decide p) = true := by simp [h]
theorem ntt {p : Prop} [Decidable p] (h : p) : ¬ ((!decide p) = true) := by simp [h]
theorem evk {α : Type} {g : Nat → Option α} {r : α} (h : ∀ k, g k = some r) : Ev g r := ⟨0, fun k _ => h k⟩
theorem dec_iff {p q : Prop} [Decidable p] [Decidable q] (h : p ↔ q) : decide p = decide q := by
  by_cases hq : q
  · rw [decide_eq_true hq, decide_eq_true (h.2 hq)]
  · rw [decide_eq_false hq, decide_eq_false (fun hp => hq (h.1 hp))]

theorem rd_nat (l : List Int) (i : Nat) : rd l (i : Int) = l.getD i 0 := by
  unfold rd
  rw [Int.toNat_natCast]
theorem rd_mem {l : List Int} {i : Nat} (h : i < l.length) : l.getD i 0 ∈ l := by
  rw [List.getD_eq_getElem?_getD, List.getElem?_eq_getElem h]
  exact List.getElem_mem h
theorem list_ext {a b : List Int} (hl : a.length = b.length) (h : ∀ i, i < a.length → a.getD i 0 = b.getD i 0) : a = b := by
  apply List.ext_getElem hl
  intro i h1 h2
  have := h i h1
  rw [List.getD_eq_getElem?_getD, List.getD_eq_getElem?_getD, List.getElem?_eq_getElem h1, List.getElem?_eq_getElem h2] at this
  simpa using this
theorem getD_set (l : List Int) (i j : Nat) (v : Int) : (l.set i v).getD j 0 = if i = j ∧ j < l.length then v else l.getD j 0 := by
  rw [List.getD_eq_getElem?_getD, List.getElem?_set, List.getD_eq_getElem?_getD]
  by_cases h : i = j
  · subst h
    by_cases h2 : i < l.length
    · simp [h2]
    · simp [h2]
  · simp [h]

def outX (s b : Int) : Int := (b + s % 2 + s / 2) % 2
def outY (s b : Int) : Int := (b + s / 2) % 2
def nxt (s b : Int) : Int := (2 * s + b) % 4
def convGo : Int → List Int → List Int
  | _, [] => []
  | s, b :: r => outX s b :: outY s b :: convGo (nxt s b) r
def conv (l : List Int) : List Int := convGo 0 (l ++ [0, 0])
def Bits (l : List Int) : Prop := ∀ x ∈ l, x = 0 ∨ x = 1
theorem convGo_length : ∀ (l : List Int) (s : Int), (convGo s l).length = 2 * l.length
  | [], _ => rfl
  | b :: r, s => by
    simp only [convGo, List.length_cons, convGo_length r]
    omega
theorem conv_length (l : List Int) : (conv l).length = 2 * l.length + 4 := by
  unfold conv
  rw [convGo_length]
  simp
  omega
theorem nxt_range (s b : Int) : 0 ≤ nxt s b ∧ nxt s b ≤ 3 := by unfold nxt; omega
theorem out_bits (s b : Int) : (outX s b = 0 ∨ outX s b = 1) ∧ (outY s b = 0 ∨ outY s b = 1) := by unfold outX outY; omega
theorem convGo_bits : ∀ (l : List Int) (s : Int), Bits (convGo s l)
  | [], _ => by intro x hx; simp [convGo] at hx
  | b :: r, s => by
    intro x hx
    simp only [convGo, List.mem_cons] at hx
    rcases hx with rfl | rfl | hx
    · exact (out_bits s b).1
    · exact (out_bits s b).2
    · exact convGo_bits r _ x hx
theorem drop_getD (L : List Int) (i : Nat) (h : i < L.length) : L.drop i = L.getD i 0 :: L.drop (i + 1) := by
  rw [List.drop_eq_getElem_cons h, List.getD_eq_getElem?_getD, List.getElem?_eq_getElem h]
  rfl
theorem pad_getD (l : List Int) (i : Nat) : (l ++ [0, 0]).getD i 0 = if i < l.length then l.getD i 0 else 0 := by
  simp only [List.getD_eq_getElem?_getD, List.getElem?_append]
  by_cases h : i < l.length
  · simp [h]
  · rw [if_neg h, if_neg h]
    rcases Nat.lt_or_ge (i - l.length) 2 with h2 | h2
    · have : i - l.length = 0 ∨ i - l.length = 1 := by omega
      rcases this with e | e <;> rw [e] <;> rfl
    · rw [List.getElem?_eq_none (by simpa using h2)]
      rfl
theorem bits_getD {l : List Int} (h : Bits l) (i : Nat) : l.getD i 0 = 0 ∨ l.getD i 0 = 1 := by
  rw [List.getD_eq_getElem?_getD]
  cases e : l[i]? with
  | none => exact .inl rfl
  | some v => exact h v (List.mem_of_getElem? e)

theorem in_some (x a b : Int) : impl_InRange.f x a b = some (decide (a ≤ x ∧ x ≤ b)) := by
  unfold impl_InRange.f
  by_cases h : a ≤ x <;> simp [h]

theorem ibits_loop (l : List Int) (hn : l.length ≤ 4000000000000000) : ∀ (d i : Nat), i + d = l.length → Ev (fun k => impl_IsBitString.l0 k l l.length i) ((l.drop i).all fun x => decide (x = 0 ∨ x = 1)) := by
  intro d
  induction d with
  | zero =>
    intro i hi
    rw [List.drop_of_length_le (by omega)]
    exact ev1 (evn (by omega) (evc rfl))
  | succ d ih =>
    intro i hi
    refine ev1 (evp (by omega) (evp (by omega) (evp (by omega) ?_)))
    rw [drop_getD l i (by omega), List.all_cons, rd_nat, w64s (n := (i : Int) + 1) (by omega) (by omega)]
    by_cases h0 : l.getD i 0 = 0
    · rw [decide_eq_true (Or.inl h0), Bool.true_and]
      exact evp h0 (ih (i + 1) (by omega))
    · refine evn h0 ?_
      by_cases h1 : l.getD i 0 = 1
      · rw [decide_eq_true (Or.inr h1), Bool.true_and]
        exact evp h1 (ih (i + 1) (by omega))
      · rw [decide_eq_false (by omega), Bool.false_and]
        exact evn h1 (evc rfl)
theorem ibits_ev (l : List Int) (hn : l.length ≤ 4000000000000000) : Ev (fun k => impl_IsBitString.f k l) (l.all fun x => decide (x = 0 ∨ x = 1)) := ibits_loop l hn l.length 0 (by omega)
theorem ibits_all {l : List Int} (h : Bits l) : (l.all fun x => decide (x = 0 ∨ x = 1)) = true := by
  rw [List.all_eq_true]
  intro x hx
  exact decide_eq_true (h x hx)
theorem iall_bits {l : List Int} (h : (l.all fun x => decide (x = 0 ∨ x = 1)) = true) : Bits l := by
  intro x hx
  rw [List.all_eq_true] at h
  exact of_decide_eq_true (h x hx)
theorem ipair_some (s b : Int) (hs : 0 ≤ s ∧ s ≤ 3) (hb : b = 0 ∨ b = 1) : impl_OutputPair.f s b = some (outX s b, outY s b) ∧ impl_NextState.f s b = some (nxt s b) := by
  have hc : s = 0 ∨ s = 1 ∨ s = 2 ∨ s = 3 := by omega
  rcases hc with rfl | rfl | rfl | rfl <;> rcases hb with rfl | rfl <;> exact ⟨by decide +kernel, by decide +kernel⟩
theorem iconv_loop (l : List Int) (hb : Bits l) (hn : l.length ≤ 1000000000) : ∀ (d i : Nat) (acc : List Int) (s : Int), i + d = l.length + 2 → acc.length + 2 * d ≤ 4000000000 → 0 ≤ s ∧ s ≤ 3 →
    Ev (fun k => impl_ConvolutionalEncode.l0 k l acc s i) (acc ++ convGo s ((l ++ [0, 0]).drop i)) := by
  intro d
  induction d with
  | zero =>
    intro i acc s hi ha hs
    rw [List.drop_of_length_le (by simp; omega)]
    refine ev1 (evn (by rw [w64s (by omega) (by omega)]; omega) (evc (by simp [convGo])))
  | succ d ih =>
    intro i acc s hi ha hs
    have hbit : (l ++ [0, 0]).getD i 0 = 0 ∨ (l ++ [0, 0]).getD i 0 = 1 := by
      rw [pad_getD]
      split
      · exact bits_getD hb i
      · exact .inl rfl
    obtain ⟨h1, h2⟩ := ipair_some s _ hs hbit
    have h3 := ih (i + 1) (acc ++ [outX s ((l ++ [0, 0]).getD i 0), outY s ((l ++ [0, 0]).getD i 0)]) (nxt s ((l ++ [0, 0]).getD i 0)) (by omega) (by simp; omega) (nxt_range _ _)
    rw [drop_getD (l ++ [0, 0]) i (by simp; omega), convGo]
    rw [List.append_assoc] at h3
    refine ev1 (evp (by rw [w64s (by omega) (by omega)]; omega) ?_)
    have hw : wrap64 ((i : Int) + 1) = ((i + 1 : Nat) : Int) := by rw [w64s (by omega) (by omega)]; omega
    by_cases h : i < l.length
    · rw [pad_getD, if_pos h] at h1 h2 h3 ⊢
      refine evp (by omega) (evp (by omega) ?_)
      rw [rd_nat, hw]
      exact evs h1 (evs rfl (evp (by simp; omega) (evs h2 h3)))
    · rw [pad_getD, if_neg h] at h1 h2 h3 ⊢
      refine evn (by omega) ?_
      rw [hw]
      exact evs h1 (evs rfl (evp (by simp; omega) (evs h2 h3)))
theorem iconv_ev (l : List Int) (hb : Bits l) (hn : l.length ≤ 1000000000) : Ev (fun k => impl_ConvolutionalEncode.f k l) (conv l) := by
  unfold impl_ConvolutionalEncode.f
  have h := ibits_ev l (by omega)
  rw [ibits_all hb] at h
  refine Ev.bind h (evp rfl ?_)
  rw [w64s (n := (l.length : Int) + 2) (by omega) (by omega), w64s (n := 2 * ((l.length : Int) + 2)) (by omega) (by omega)]
  refine evp (by omega) (evp (by omega) ?_)
  exact iconv_loop l hb hn (l.length + 2) 0 [] 0 (by omega) (by simp; omega) (by omega)
theorem iconv_bad (l : List Int) (hb : ¬ Bits l) (hn : l.length ≤ 1000000000) : Ev (fun k => impl_ConvolutionalEncode.f k l) [] := by
  unfold impl_ConvolutionalEncode.f
  have h := ibits_ev l (by omega)
  have hf : (l.all fun x => decide (x = 0 ∨ x = 1)) = false := by
    cases e : (l.all fun x => decide (x = 0 ∨ x = 1)) with
    | false => rfl
    | true => exact absurd (iall_bits e) hb
  rw [hf] at h
  exact Ev.bind h (evn (by decide) (evc rfl))

def Syms (l : List Int) : Prop := ∀ x ∈ l, 0 ≤ x ∧ x ≤ 2
theorem isym_loop (l : List Int) (hn : l.length ≤ 4000000000000000) : ∀ (d i : Nat), i + d = l.length → Ev (fun k => impl_IsSymbolString.l0 k l l.length i) ((l.drop i).all fun x => decide (0 ≤ x ∧ x ≤ 2)) := by
  intro d
  induction d with
  | zero =>
    intro i hi
    rw [List.drop_of_length_le (by omega)]
    exact ev1 (evn (by omega) (evc rfl))
  | succ d ih =>
    intro i hi
    refine ev1 (evp (by omega) (evp (by omega) (evp (by omega) ?_)))
    rw [drop_getD l i (by omega), List.all_cons, rd_nat, w64s (n := (i : Int) + 1) (by omega) (by omega)]
    have hrec := ih (i + 1) (by omega)
    by_cases h0 : l.getD i 0 = 0
    · rw [decide_eq_true (by omega), Bool.true_and]
      exact evp h0 hrec
    · refine evn h0 ?_
      by_cases h1 : l.getD i 0 = 1
      · rw [decide_eq_true (by omega), Bool.true_and]
        exact evp h1 hrec
      · refine evn h1 ?_
        by_cases h2 : l.getD i 0 = 2
        · rw [decide_eq_true (by omega), Bool.true_and]
          exact evp h2 hrec
        · rw [decide_eq_false (by omega), Bool.false_and]
          exact evn h2 (evc rfl)
theorem isym_ev (l : List Int) (hn : l.length ≤ 4000000000000000) : Ev (fun k => impl_IsSymbolString.f k l) (l.all fun x => decide (0 ≤ x ∧ x ≤ 2)) := isym_loop l hn l.length 0 (by omega)
theorem syms_all {l : List Int} (h : Syms l) : (l.all fun x => decide (0 ≤ x ∧ x ≤ 2)) = true := by
  rw [List.all_eq_true]
  intro x hx
  exact decide_eq_true (h x hx)
theorem all_syms {l : List Int} (h : (l.all fun x => decide (0 ≤ x ∧ x ≤ 2)) = true) : Syms l := by
  intro x hx
  rw [List.all_eq_true] at h
  exact of_decide_eq_true (h x hx)

/-- How many known symbols differ from the word's. -/
def symD (a b : Int) : Int := if a = 2 then 0 else if a = b then 0 else 1
def diffs : List Int → List Int → Int
  | a :: s, b :: w => symD a b + diffs s w
  | _, _ => 0
theorem symD_range (a b : Int) : 0 ≤ symD a b ∧ symD a b ≤ 1 := by
  unfold symD
  split
  · omega
  · split <;> omega
theorem diffs_range : ∀ (s w : List Int), 0 ≤ diffs s w ∧ diffs s w ≤ s.length
  | [], w => by simp [diffs]
  | a :: s, [] => by simp [diffs]; omega
  | a :: s, b :: w => by
    have h1 := symD_range a b
    have h2 := diffs_range s w
    simp only [diffs, List.length_cons]
    omega
theorem isymD_some (a b : Int) : impl_symbolDistance.f a b = some (symD a b) := by
  unfold impl_symbolDistance.f symD
  split
  · rfl
  · split <;> rfl
theorem ielen_some (n : Nat) (hn : n ≤ 1000000000) : impl_EncodedLength.f n = some (2 * (n : Int) + 4) := by
  unfold impl_EncodedLength.f
  rw [in_some]
  simp only [Option.bind_some]
  rw [if_pos (dt (by omega)), w64s (n := (n : Int) + 2) (by omega) (by omega), w64s (by omega) (by omega)]
  exact congrArg some (by omega)
theorem ipath_loop (s w : List Int) (hl : s.length = w.length) (hn : s.length ≤ 1000000000) : ∀ (d i : Nat) (m : Int), i + d = w.length → 0 ≤ m ∧ m ≤ i →
    Ev (fun k => impl_PathDistance.l0 k s m w w.length i) (m + diffs (s.drop i) (w.drop i)) := by
  intro d
  induction d with
  | zero =>
    intro i m hi hm
    rw [List.drop_of_length_le (by omega), List.drop_of_length_le (by omega)]
    exact ev1 (evn (by omega) (evc (by simp [diffs])))
  | succ d ih =>
    intro i m hi hm
    refine ev1 (evp (by omega) (evp (by omega) (evp (by omega) (evp (by omega) (evs (isymD_some _ _) ?_)))))
    have h1 := symD_range (s.getD i 0) (w.getD i 0)
    rw [drop_getD s i (by omega), drop_getD w i (by omega), diffs, rd_nat, rd_nat, w64s (n := (i : Int) + 1) (by omega) (by omega), w64s (n := m + _) (by omega) (by omega)]
    refine ev_eq (ih (i + 1) (m + symD (s.getD i 0) (w.getD i 0)) (by omega) (by omega)) (by omega)
theorem ipath_good (bits s : List Int) (hb : Bits bits) (hs : Syms s) (hl : s.length = 2 * bits.length + 4) (hn : bits.length ≤ 100000000) : Ev (fun k => impl_PathDistance.f k bits s) (diffs s (conv bits)) := by
  unfold impl_PathDistance.f
  have h1 := ibits_ev bits (by omega)
  rw [ibits_all hb] at h1
  have h2 := isym_ev s (by omega)
  rw [syms_all hs] at h2
  have hc := conv_length bits
  refine Ev.bind h1 (evp rfl (Ev.bind h2 (evp rfl (evs (ielen_some bits.length (by omega)) ?_))))
  have e : ((s.length : Int) != 2 * (bits.length : Int) + 4) = false := by
    rw [hl]
    first | (simp; done) | (simp; omega)
  rw [e]
  refine ev1 (Ev.bind (iconv_ev bits hb (by omega)) ?_)
  refine ev_eq (ipath_loop s (conv bits) (by omega) (by omega) (conv bits).length 0 0 (by omega) (by omega)) ?_
  simp
theorem ipath_bad (bits s : List Int) (h : ¬ (Bits bits ∧ Syms s ∧ s.length = 2 * bits.length + 4)) (hn : bits.length ≤ 100000000) (hn2 : s.length ≤ 4000000000) : Ev (fun k => impl_PathDistance.f k bits s) (-1) := by
  unfold impl_PathDistance.f
  have h1 := ibits_ev bits (by omega)
  have h2 := isym_ev s (by omega)
  cases hb : (bits.all fun x => decide (x = 0 ∨ x = 1)) with
  | false =>
    rw [hb] at h1
    exact Ev.bind h1 (evn (by decide) (ev1 (evk fun _ => rfl)))
  | true =>
    rw [hb] at h1
    refine Ev.bind h1 (evp rfl ?_)
    cases hs : (s.all fun x => decide (0 ≤ x ∧ x ≤ 2)) with
    | false =>
      rw [hs] at h2
      exact Ev.bind h2 (evn (by decide) (ev1 (evk fun _ => rfl)))
    | true =>
      rw [hs] at h2
      refine Ev.bind h2 (evp rfl (evs (ielen_some bits.length (by omega)) ?_))
      have e : ((s.length : Int) != 2 * (bits.length : Int) + 4) = true := by
        rw [bne_iff_ne]
        intro he
        exact h ⟨iall_bits hb, all_syms hs, by omega⟩
      rw [e]
      exact ev1 (evk fun _ => rfl)

theorem l1_some (x a b : Int) : spec_l1In.f x a b = some (decide (a ≤ x ∧ x ≤ b)) := by
  unfold spec_l1In.f
  by_cases h : a ≤ x <;> simp [h]

theorem sbits_loop (l : List Int) (hn : l.length ≤ 4000000000000000) : ∀ (d i : Nat), i + d = l.length → Ev (fun k => spec_IsBitString.l0 k l i) ((l.drop i).all fun x => decide (0 ≤ x ∧ x ≤ 1)) := by
  intro d
  induction d with
  | zero =>
    intro i hi
    rw [List.drop_of_length_le (by omega)]
    exact ev1 (evn (by omega) (evc rfl))
  | succ d ih =>
    intro i hi
    refine ev1 (evp (by omega) (evp (by omega) (evs (l1_some _ _ _) ?_)))
    rw [drop_getD l i (by omega), List.all_cons, rd_nat]
    by_cases h : 0 ≤ l.getD i 0 ∧ l.getD i 0 ≤ 1
    · rw [decide_eq_true h, w64s (n := (i : Int) + 1) (by omega) (by omega)]
      exact evp rfl (ih (i + 1) (by omega))
    · rw [decide_eq_false h]
      exact evn (by decide) (evc rfl)
theorem sbits_ev (l : List Int) (hn : l.length ≤ 4000000000000000) : Ev (fun k => spec_IsBitString.f k l) (l.all fun x => decide (0 ≤ x ∧ x ≤ 1)) := sbits_loop l hn l.length 0 (by omega)
theorem bits_all {l : List Int} (h : Bits l) : (l.all fun x => decide (0 ≤ x ∧ x ≤ 1)) = true := by
  rw [List.all_eq_true]
  intro x hx
  have := h x hx
  exact decide_eq_true (by omega)
theorem all_bits {l : List Int} (h : (l.all fun x => decide (0 ≤ x ∧ x ≤ 1)) = true) : Bits l := by
  intro x hx
  rw [List.all_eq_true] at h
  have := of_decide_eq_true (h x hx)
  omega

theorem spair_some (s b : Int) (hs : 0 ≤ s ∧ s ≤ 3) (hb : b = 0 ∨ b = 1) : spec_OutputPair.f s b = some (outX s b, outY s b) ∧ spec_NextState.f s b = some (nxt s b) := by
  have hc : s = 0 ∨ s = 1 ∨ s = 2 ∨ s = 3 := by omega
  rcases hc with rfl | rfl | rfl | rfl <;> rcases hb with rfl | rfl <;> exact ⟨by decide +kernel, by decide +kernel⟩
theorem sconv_loop (l : List Int) (hb : Bits l) (hn : l.length ≤ 1000000000) : ∀ (d i : Nat) (acc : List Int) (s : Int), i + d = l.length + 2 → acc.length + 2 * d ≤ 4000000000 → 0 ≤ s ∧ s ≤ 3 →
    Ev (fun k => spec_ConvolutionalEncode.l0 k l acc s i) (acc ++ convGo s ((l ++ [0, 0]).drop i)) := by
  intro d
  induction d with
  | zero =>
    intro i acc s hi ha hs
    rw [List.drop_of_length_le (by simp; omega)]
    refine ev1 (evn (by rw [w64s (by omega) (by omega)]; omega) (evc (by simp [convGo])))
  | succ d ih =>
    intro i acc s hi ha hs
    have hbit : (l ++ [0, 0]).getD i 0 = 0 ∨ (l ++ [0, 0]).getD i 0 = 1 := by
      rw [pad_getD]
      split
      · exact bits_getD hb i
      · exact .inl rfl
    obtain ⟨h1, h2⟩ := spair_some s _ hs hbit
    have h3 := ih (i + 1) (acc ++ [outX s ((l ++ [0, 0]).getD i 0), outY s ((l ++ [0, 0]).getD i 0)]) (nxt s ((l ++ [0, 0]).getD i 0)) (by omega) (by simp; omega) (nxt_range _ _)
    rw [drop_getD (l ++ [0, 0]) i (by simp; omega), convGo]
    rw [List.append_assoc] at h3
    refine ev1 (evp (by rw [w64s (by omega) (by omega)]; omega) ?_)
    have hw : wrap64 ((i : Int) + 1) = ((i + 1 : Nat) : Int) := by rw [w64s (by omega) (by omega)]; omega
    by_cases h : i < l.length
    · rw [pad_getD, if_pos h] at h1 h2 h3 ⊢
      refine evp (by omega) (evp (by omega) ?_)
      rw [rd_nat, hw]
      exact evs h1 (evs rfl (evp (by simp; omega) (evs h2 h3)))
    · rw [pad_getD, if_neg h] at h1 h2 h3 ⊢
      refine evn (by omega) ?_
      rw [hw]
      exact evs h1 (evs rfl (evp (by simp; omega) (evs h2 h3)))
theorem sconv_ev (l : List Int) (hb : Bits l) (hn : l.length ≤ 1000000000) : Ev (fun k => spec_ConvolutionalEncode.f k l) (conv l) := by
  unfold spec_ConvolutionalEncode.f
  have h := sbits_ev l (by omega)
  rw [bits_all hb] at h
  refine evs rfl (Ev.bind h (evp rfl ?_))
  exact sconv_loop l hb hn (l.length + 2) 0 [] 0 (by omega) (by simp; omega) (by omega)
theorem sconv_bad (l : List Int) (hb : ¬ Bits l) (hn : l.length ≤ 1000000000) : Ev (fun k => spec_ConvolutionalEncode.f k l) [] := by
  unfold spec_ConvolutionalEncode.f
  have h := sbits_ev l (by omega)
  have hf : (l.all fun x => decide (0 ≤ x ∧ x ≤ 1)) = false := by
    cases e : (l.all fun x => decide (0 ≤ x ∧ x ≤ 1)) with
    | false => rfl
    | true => exact absurd (all_bits e) hb
  rw [hf] at h
  exact evs rfl (Ev.bind h (evn (by decide) (evc rfl)))

theorem ssym_loop (l : List Int) (hn : l.length ≤ 4000000000000000) : ∀ (d i : Nat), i + d = l.length → Ev (fun k => spec_IsSymbolString.l0 k l i) ((l.drop i).all fun x => decide (0 ≤ x ∧ x ≤ 2)) := by
  intro d
  induction d with
  | zero =>
    intro i hi
    rw [List.drop_of_length_le (by omega)]
    exact ev1 (evn (by omega) (evc rfl))
  | succ d ih =>
    intro i hi
    refine ev1 (evp (by omega) (evp (by omega) (evs (l1_some _ _ _) ?_)))
    rw [drop_getD l i (by omega), List.all_cons, rd_nat]
    by_cases h : 0 ≤ l.getD i 0 ∧ l.getD i 0 ≤ 2
    · rw [decide_eq_true h, w64s (n := (i : Int) + 1) (by omega) (by omega)]
      exact evp rfl (ih (i + 1) (by omega))
    · rw [decide_eq_false h]
      exact evn (by decide) (evc rfl)
theorem ssym_ev (l : List Int) (hn : l.length ≤ 4000000000000000) : Ev (fun k => spec_IsSymbolString.f k l) (l.all fun x => decide (0 ≤ x ∧ x ≤ 2)) := ssym_loop l hn l.length 0 (by omega)

theorem toInts_loop (x0 : List Int) (hn : x0.length ≤ 4000000000000000) : ∀ (d i : Nat) (x3 : List Int), i + d = x0.length → x3.length = x0.length → (∀ j, j < i → x3.getD j 0 = x0.getD j 0) → Ev (fun k => laws_toIntS.l0 k x0 x3 i) x0 := by
  intro d
  induction d with
  | zero =>
    intro i x3 hi hl hj
    refine ev1 ?_
    refine evn (by omega) (evc ?_)
    rw [list_ext hl (fun j h => hj j (by omega))]
  | succ d ih =>
    intro i x3 hi hl hj
    refine ev1 ?_
    refine evp (by omega) (evp (by omega) (evp (by omega) ?_))
    rw [w64s (by omega) (by omega), Int.toNat_natCast, rd_nat]
    have := ih (i + 1) (x3.set i (x0.getD i 0)) (by omega) (by simpa using hl) (by
      intro j h
      rw [getD_set]
      by_cases e : i = j
      · subst e
        rw [if_pos ⟨rfl, by omega⟩]
      · rw [if_neg (fun h' => e h'.1)]
        exact hj j (by omega))
    exact this
theorem toInts_ev (l : List Int) (hn : l.length ≤ 1048576) : Ev (fun k => laws_toIntS.f k l) l := by
  unfold laws_toIntS.f
  refine evp (by omega) (evp (by omega) ?_)
  exact toInts_loop l (by omega) l.length 0 _ (by omega) (by simp) (by intro j h; omega)

theorem eqInts_loop (x : List Int) (hn : x.length ≤ 4000000000000000) : ∀ (d i : Nat), i + d = x.length → Ev (fun k => laws_eqIntS.l0 k x x i) true := by
  intro d
  induction d with
  | zero =>
    intro i hi
    refine ev1 ?_
    exact evn (by omega) (evc rfl)
  | succ d ih =>
    intro i hi
    refine ev1 ?_
    refine evp (by omega) (evp (by omega) (evp (by omega) (evp rfl ?_)))
    rw [w64s (by omega) (by omega)]
    exact ih (i + 1) (by omega)
theorem eqInts_ev (l : List Int) (hn : l.length ≤ 4000000000000000) : Ev (fun k => laws_eqIntS.f k l l) true := by
  unfold laws_eqIntS.f
  exact evp rfl (eqInts_loop l hn l.length 0 (by omega))

theorem selen_some (n : Nat) (hn : n ≤ 1000000000) : spec_EncodedLength.f n = some (2 * (n : Int) + 4) := by
  unfold spec_EncodedLength.f
  rw [l1_some]
  simp only [Option.bind_some]
  rw [if_pos (dt (by omega)), w64s (n := (n : Int) + 2) (by omega) (by omega), w64s (by omega) (by omega)]
  exact congrArg some (by omega)
theorem spath_loop (s w : List Int) (hl : s.length = w.length) (hn : s.length ≤ 1000000000) : ∀ (d i : Nat) (m : Int), i + d = s.length → 0 ≤ m ∧ m ≤ i →
    Ev (fun k => spec_PathDistance.l0 k s w m i) (m + diffs (s.drop i) (w.drop i)) := by
  intro d
  induction d with
  | zero =>
    intro i m hi hm
    rw [List.drop_of_length_le (by omega), List.drop_of_length_le (by omega)]
    exact ev1 (evn (by omega) (evc (by simp [diffs])))
  | succ d ih =>
    intro i m hi hm
    refine ev1 (evp (by omega) (evp (by omega) ?_))
    rw [drop_getD s i (by omega), drop_getD w i (by omega), diffs, rd_nat, rd_nat, w64s (n := (i : Int) + 1) (by omega) (by omega), w64s (n := m + 1) (by omega) (by omega)]
    unfold symD
    by_cases h2 : s.getD i 0 = 2
    · rw [if_pos h2]
      exact evp h2 (ev_eq (ih (i + 1) m (by omega) (by omega)) (by omega))
    · rw [if_neg h2]
      refine evn h2 (evp (by omega) ?_)
      by_cases h3 : s.getD i 0 = w.getD i 0
      · rw [if_pos h3]
        exact evp h3 (ev_eq (ih (i + 1) m (by omega) (by omega)) (by omega))
      · rw [if_neg h3]
        exact evn h3 (ev_eq (ih (i + 1) (m + 1) (by omega) (by omega)) (by omega))
theorem spath_good (bits s : List Int) (hb : Bits bits) (hs : Syms s) (hl : s.length = 2 * bits.length + 4) (hn : bits.length ≤ 100000000) : Ev (fun k => spec_PathDistance.f k bits s) (diffs s (conv bits)) := by
  unfold spec_PathDistance.f
  have h1 := sbits_ev bits (by omega)
  rw [bits_all hb] at h1
  have h2 := ssym_ev s (by omega)
  rw [syms_all hs] at h2
  have hc := conv_length bits
  refine Ev.bind h1 (evp rfl (Ev.bind h2 (evp rfl (evs (selen_some bits.length (by omega)) ?_))))
  have e : ((s.length : Int) != 2 * (bits.length : Int) + 4) = false := by
    rw [hl]
    first | (simp; done) | (simp; omega)
  rw [e]
  refine ev1 (Ev.bind (sconv_ev bits hb (by omega)) ?_)
  refine ev_eq (spath_loop s (conv bits) (by omega) (by omega) s.length 0 0 (by omega) (by omega)) ?_
  simp
theorem spath_bad (bits s : List Int) (h : ¬ (Bits bits ∧ Syms s ∧ s.length = 2 * bits.length + 4)) (hn : bits.length ≤ 100000000) (hn2 : s.length ≤ 4000000000) : Ev (fun k => spec_PathDistance.f k bits s) (-1) := by
  unfold spec_PathDistance.f
  have h1 := sbits_ev bits (by omega)
  have h2 := ssym_ev s (by omega)
  cases hb : (bits.all fun x => decide (0 ≤ x ∧ x ≤ 1)) with
  | false =>
    rw [hb] at h1
    exact Ev.bind h1 (evn (by decide) (ev1 (evk fun _ => rfl)))
  | true =>
    rw [hb] at h1
    refine Ev.bind h1 (evp rfl ?_)
    cases hs : (s.all fun x => decide (0 ≤ x ∧ x ≤ 2)) with
    | false =>
      rw [hs] at h2
      exact Ev.bind h2 (evn (by decide) (ev1 (evk fun _ => rfl)))
    | true =>
      rw [hs] at h2
      refine Ev.bind h2 (evp rfl (evs (selen_some bits.length (by omega)) ?_))
      have e : ((s.length : Int) != 2 * (bits.length : Int) + 4) = true := by
        rw [bne_iff_ne]
        intro he
        exact h ⟨all_bits hb, all_syms hs, by omega⟩
      rw [e]
      exact ev1 (evk fun _ => rfl)
theorem FnExactPathDistance : laws_FnExactPathDistance.Pure := by
  intro l s _ _ _ _ _ _
  refine Ev.rounds (r := true) ?_
  unfold laws_FnExactPathDistance.f
  by_cases hn : (l.length : Int) > 1048576
  · exact evp hn (evc rfl)
  refine evn hn ?_
  by_cases hn2 : (s.length : Int) > 1048576
  · exact evp hn2 (evc rfl)
  refine evn hn2 ?_
  have hex : ∃ r : Int, Ev (fun k => spec_PathDistance.f k l s) r ∧ Ev (fun k => impl_PathDistance.f k l s) r := by
    by_cases h : Bits l ∧ Syms s ∧ s.length = 2 * l.length + 4
    · exact ⟨_, spath_good l s h.1 h.2.1 h.2.2 (by omega), ipath_good l s h.1 h.2.1 h.2.2 (by omega)⟩
    · exact ⟨-1, spath_bad l s h (by omega) (by omega), ipath_bad l s h (by omega) (by omega)⟩
  obtain ⟨r, h1, h2⟩ := hex
  have a := toInts_ev l (by omega)
  have b := toInts_ev s (by omega)
  exact Ev.bind a (Ev.bind b (Ev.bind h1 (Ev.bind a (Ev.bind b (Ev.bind h2 (evp rfl (Ev.bind a (Ev.bind (eqInts_ev l (by omega)) (evp rfl (Ev.bind b (Ev.bind (eqInts_ev s (by omega)) (evp rfl (evc rfl)))))))))))))

end Go.Proofs.Ytmmgjhffjmdhhaa.Pure
