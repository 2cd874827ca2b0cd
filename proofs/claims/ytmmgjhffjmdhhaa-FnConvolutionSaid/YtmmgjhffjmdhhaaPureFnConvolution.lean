/-
  The code is linear, and its words have the stated length, at every drawn bit string.
  Conditions: none beyond the given statement's own.
-/
import Derived.Test.YtmmgjhffjmdhhaaPFnConvolutionx3
set_option linter.unusedVariables false
set_option linter.unusedSimpArgs false
namespace Go.Proofs.Ytmmgjhffjmdhhaa.Pure
open Go.RowKit Go.Proofs.Ytmmgjhffjmdhhaa.PFnConvolution Go.Proofs.YtmmgjhffjmdhhaaW.PrintWords Go.Proofs.YtmmgjhffjmdhhaaW.PrintLast Go.Proofs.YtmmgjhffjmdhhaaW.PrintMore

theorem evp {α : Type} {c : Prop} [Decidable c] {A B : Nat → Option α} {r : α} (hc : c) (h : Ev A r) : Ev (fun k => if c then A k else B k) r :=
  Ev.congr (fun k => if_pos hc) h
theorem evn {α : Type} {c : Prop} [Decidable c] {A B : Nat → Option α} {r : α} (hc : ¬ c) (h : Ev B r) : Ev (fun k => if c then A k else B k) r :=
  Ev.congr (fun k => if_neg hc) h
theorem evs {α β : Type} {g : Option α} {a : α} {f : Nat → α → Option β} {r : β} (hg : g = some a) (h : Ev (fun k => f k a) r) : Ev (fun k => g.bind (f k)) r :=
  Ev.congr (fun k => by rw [hg]; rfl) h
theorem evc {α : Type} {g : Option α} {r : α} (h : g = some r) : Ev (fun _ => g) r := ⟨0, fun _ _ => h⟩
theorem ev_eq {α : Type} {g : Nat → Option α} {r r' : α} (h : Ev g r) (e : r = r') : Ev g r' := e ▸ h
theorem w64 {n : Int} (h0 : -9223372036854775808 ≤ n) (h1 : n ≤ 9223372036854775807) : wrap64 n = n := by
  unfold wrap64
  omega
theorem w64s {n : Int} (h0 : -1000000000000000000 ≤ n) (h1 : n ≤ 1000000000000000000) : wrap64 n = n := w64 (by omega) (by omega)
theorem ev1 {α : Type} {g : Nat → Option α} {r : α} (h : Ev (fun k => g (k + 1)) r) : Ev g r := Ev.step (fun _ => rfl) h
theorem dt {p : Prop} [Decidable p] (h : p) : decide p = true := decide_eq_true h
theorem dnt {p : Prop} [Decidable p] (h : ¬ p) : ¬ (decide p = true) := by simp [h]
theorem ntd {p : Prop} [Decidable p] (h : ¬ p) : (!decide p) = true := by simp [h]
theorem ntt {p : Prop} [Decidable p] (h : p) : ¬ ((!decide p) = true) := by simp [h]
theorem evk {α : Type} {g : Nat → Option α} {r : α} (h : ∀ k, g k = some r) : Ev g r := ⟨0, fun k _ => h k⟩
theorem dec_iff {p q : Prop} [Decidable p] [Decidable q] (h : p ↔ q) : decide p = decide q := by
  by_cases hq : q
  · rw [decide_eq_true hq, decide_eq_true (h.2 hq)]
  · rw [decide_eq_false hq, decide_eq_false (fun hp => hq (h.1 hp))]

theorem rd_nat (l : List Int) (i : Nat) : rd l (i : Int) = l.getD i 0 := by
  unfold rd
  rw [Int.toNat_natCast]
theorem rd_mem {l : List Int} {i : Nat} (h : i < l.length) : l.getD i 0 ∈ l := by
  rw [List.getD_eq_getElem?_getD, List.getElem?_eq_getElem h]
  exact List.getElem_mem h
theorem list_ext {a b : List Int} (hl : a.length = b.length) (h : ∀ i, i < a.length → a.getD i 0 = b.getD i 0) : a = b := by
  apply List.ext_getElem hl
  intro i h1 h2
  have := h i h1
  rw [List.getD_eq_getElem?_getD, List.getD_eq_getElem?_getD, List.getElem?_eq_getElem h1, List.getElem?_eq_getElem h2] at this
  simpa using this
theorem getD_set (l : List Int) (i j : Nat) (v : Int) : (l.set i v).getD j 0 = if i = j ∧ j < l.length then v else l.getD j 0 := by
  rw [List.getD_eq_getElem?_getD, List.getElem?_set, List.getD_eq_getElem?_getD]
  by_cases h : i = j
  · subst h
    by_cases h2 : i < l.length
    · simp [h2]
    · simp [h2]
  · simp [h]

def outX (s b : Int) : Int := (b + s % 2 + s / 2) % 2
def outY (s b : Int) : Int := (b + s / 2) % 2
def nxt (s b : Int) : Int := (2 * s + b) % 4
def convGo : Int → List Int → List Int
  | _, [] => []
  | s, b :: r => outX s b :: outY s b :: convGo (nxt s b) r
def conv (l : List Int) : List Int := convGo 0 (l ++ [0, 0])
def Bits (l : List Int) : Prop := ∀ x ∈ l, x = 0 ∨ x = 1
theorem convGo_length : ∀ (l : List Int) (s : Int), (convGo s l).length = 2 * l.length
  | [], _ => rfl
  | b :: r, s => by
    simp only [convGo, List.length_cons, convGo_length r]
    omega
theorem conv_length (l : List Int) : (conv l).length = 2 * l.length + 4 := by
  unfold conv
  rw [convGo_length]
  simp
  omega
theorem nxt_range (s b : Int) : 0 ≤ nxt s b ∧ nxt s b ≤ 3 := by unfold nxt; omega
theorem out_bits (s b : Int) : (outX s b = 0 ∨ outX s b = 1) ∧ (outY s b = 0 ∨ outY s b = 1) := by unfold outX outY; omega
theorem convGo_bits : ∀ (l : List Int) (s : Int), Bits (convGo s l)
  | [], _ => by intro x hx; simp [convGo] at hx
  | b :: r, s => by
    intro x hx
    simp only [convGo, List.mem_cons] at hx
    rcases hx with rfl | rfl | hx
    · exact (out_bits s b).1
    · exact (out_bits s b).2
    · exact convGo_bits r _ x hx
theorem drop_getD (L : List Int) (i : Nat) (h : i < L.length) : L.drop i = L.getD i 0 :: L.drop (i + 1) := by
  rw [List.drop_eq_getElem_cons h, List.getD_eq_getElem?_getD, List.getElem?_eq_getElem h]
  rfl
theorem pad_getD (l : List Int) (i : Nat) : (l ++ [0, 0]).getD i 0 = if i < l.length then l.getD i 0 else 0 := by
  simp only [List.getD_eq_getElem?_getD, List.getElem?_append]
  by_cases h : i < l.length
  · simp [h]
  · rw [if_neg h, if_neg h]
    rcases Nat.lt_or_ge (i - l.length) 2 with h2 | h2
    · have : i - l.length = 0 ∨ i - l.length = 1 := by omega
      rcases this with e | e <;> rw [e] <;> rfl
    · rw [List.getElem?_eq_none (by simpa using h2)]
      rfl
theorem bits_getD {l : List Int} (h : Bits l) (i : Nat) : l.getD i 0 = 0 ∨ l.getD i 0 = 1 := by
  rw [List.getD_eq_getElem?_getD]
  cases e : l[i]? with
  | none => exact .inl rfl
  | some v => exact h v (List.mem_of_getElem? e)

theorem in_some (x a b : Int) : impl_InRange.f x a b = some (decide (a ≤ x ∧ x ≤ b)) := by
  unfold impl_InRange.f
  by_cases h : a ≤ x <;> simp [h]

theorem ibits_loop (l : List Int) (hn : l.length ≤ 4000000000000000) : ∀ (d i : Nat), i + d = l.length → Ev (fun k => impl_IsBitString.l0 k l l.length i) ((l.drop i).all fun x => decide (x = 0 ∨ x = 1)) := by
  intro d
  induction d with
  | zero =>
    intro i hi
    rw [List.drop_of_length_le (by omega)]
    exact ev1 (evn (by omega) (evc rfl))
  | succ d ih =>
    intro i hi
    refine ev1 (evp (by omega) (evp (by omega) (evp (by omega) ?_)))
    rw [drop_getD l i (by omega), List.all_cons, rd_nat, w64s (n := (i : Int) + 1) (by omega) (by omega)]
    by_cases h0 : l.getD i 0 = 0
    · rw [decide_eq_true (Or.inl h0), Bool.true_and]
      exact evp h0 (ih (i + 1) (by omega))
    · refine evn h0 ?_
      by_cases h1 : l.getD i 0 = 1
      · rw [decide_eq_true (Or.inr h1), Bool.true_and]
        exact evp h1 (ih (i + 1) (by omega))
      · rw [decide_eq_false (by omega), Bool.false_and]
        exact evn h1 (evc rfl)
theorem ibits_ev (l : List Int) (hn : l.length ≤ 4000000000000000) : Ev (fun k => impl_IsBitString.f k l) (l.all fun x => decide (x = 0 ∨ x = 1)) := ibits_loop l hn l.length 0 (by omega)
theorem ibits_all {l : List Int} (h : Bits l) : (l.all fun x => decide (x = 0 ∨ x = 1)) = true := by
  rw [List.all_eq_true]
  intro x hx
  exact decide_eq_true (h x hx)
theorem iall_bits {l : List Int} (h : (l.all fun x => decide (x = 0 ∨ x = 1)) = true) : Bits l := by
  intro x hx
  rw [List.all_eq_true] at h
  exact of_decide_eq_true (h x hx)
theorem ipair_some (s b : Int) (hs : 0 ≤ s ∧ s ≤ 3) (hb : b = 0 ∨ b = 1) : impl_OutputPair.f s b = some (outX s b, outY s b) ∧ impl_NextState.f s b = some (nxt s b) := by
  have hc : s = 0 ∨ s = 1 ∨ s = 2 ∨ s = 3 := by omega
  rcases hc with rfl | rfl | rfl | rfl <;> rcases hb with rfl | rfl <;> exact ⟨by decide +kernel, by decide +kernel⟩
theorem iconv_loop (l : List Int) (hb : Bits l) (hn : l.length ≤ 1000000000) : ∀ (d i : Nat) (acc : List Int) (s : Int), i + d = l.length + 2 → acc.length + 2 * d ≤ 4000000000 → 0 ≤ s ∧ s ≤ 3 →
    Ev (fun k => impl_ConvolutionalEncode.l0 k l acc s i) (acc ++ convGo s ((l ++ [0, 0]).drop i)) := by
  intro d
  induction d with
  | zero =>
    intro i acc s hi ha hs
    rw [List.drop_of_length_le (by simp; omega)]
    refine ev1 (evn (by rw [w64s (by omega) (by omega)]; omega) (evc (by simp [convGo])))
  | succ d ih =>
    intro i acc s hi ha hs
    have hbit : (l ++ [0, 0]).getD i 0 = 0 ∨ (l ++ [0, 0]).getD i 0 = 1 := by
      rw [pad_getD]
      split
      · exact bits_getD hb i
      · exact .inl rfl
    obtain ⟨h1, h2⟩ := ipair_some s _ hs hbit
    have h3 := ih (i + 1) (acc ++ [outX s ((l ++ [0, 0]).getD i 0), outY s ((l ++ [0, 0]).getD i 0)]) (nxt s ((l ++ [0, 0]).getD i 0)) (by omega) (by simp; omega) (nxt_range _ _)
    rw [drop_getD (l ++ [0, 0]) i (by simp; omega), convGo]
    rw [List.append_assoc] at h3
    refine ev1 (evp (by rw [w64s (by omega) (by omega)]; omega) ?_)
    have hw : wrap64 ((i : Int) + 1) = ((i + 1 : Nat) : Int) := by rw [w64s (by omega) (by omega)]; omega
    by_cases h : i < l.length
    · rw [pad_getD, if_pos h] at h1 h2 h3 ⊢
      refine evp (by omega) (evp (by omega) ?_)
      rw [rd_nat, hw]
      exact evs h1 (evs rfl (evp (by simp; omega) (evs h2 h3)))
    · rw [pad_getD, if_neg h] at h1 h2 h3 ⊢
      refine evn (by omega) ?_
      rw [hw]
      exact evs h1 (evs rfl (evp (by simp; omega) (evs h2 h3)))
theorem iconv_ev (l : List Int) (hb : Bits l) (hn : l.length ≤ 1000000000) : Ev (fun k => impl_ConvolutionalEncode.f k l) (conv l) := by
  unfold impl_ConvolutionalEncode.f
  have h := ibits_ev l (by omega)
  rw [ibits_all hb] at h
  refine Ev.bind h (evp rfl ?_)
  rw [w64s (n := (l.length : Int) + 2) (by omega) (by omega), w64s (n := 2 * ((l.length : Int) + 2)) (by omega) (by omega)]
  refine evp (by omega) (evp (by omega) ?_)
  exact iconv_loop l hb hn (l.length + 2) 0 [] 0 (by omega) (by simp; omega) (by omega)
theorem iconv_bad (l : List Int) (hb : ¬ Bits l) (hn : l.length ≤ 1000000000) : Ev (fun k => impl_ConvolutionalEncode.f k l) [] := by
  unfold impl_ConvolutionalEncode.f
  have h := ibits_ev l (by omega)
  have hf : (l.all fun x => decide (x = 0 ∨ x = 1)) = false := by
    cases e : (l.all fun x => decide (x = 0 ∨ x = 1)) with
    | false => rfl
    | true => exact absurd (iall_bits e) hb
  rw [hf] at h
  exact Ev.bind h (evn (by decide) (evc rfl))

def Syms (l : List Int) : Prop := ∀ x ∈ l, 0 ≤ x ∧ x ≤ 2
theorem isym_loop (l : List Int) (hn : l.length ≤ 4000000000000000) : ∀ (d i : Nat), i + d = l.length → Ev (fun k => impl_IsSymbolString.l0 k l l.length i) ((l.drop i).all fun x => decide (0 ≤ x ∧ x ≤ 2)) := by
  intro d
  induction d with
  | zero =>
    intro i hi
    rw [List.drop_of_length_le (by omega)]
    exact ev1 (evn (by omega) (evc rfl))
  | succ d ih =>
    intro i hi
    refine ev1 (evp (by omega) (evp (by omega) (evp (by omega) ?_)))
    rw [drop_getD l i (by omega), List.all_cons, rd_nat, w64s (n := (i : Int) + 1) (by omega) (by omega)]
    have hrec := ih (i + 1) (by omega)
    by_cases h0 : l.getD i 0 = 0
    · rw [decide_eq_true (by omega), Bool.true_and]
      exact evp h0 hrec
    · refine evn h0 ?_
      by_cases h1 : l.getD i 0 = 1
      · rw [decide_eq_true (by omega), Bool.true_and]
        exact evp h1 hrec
      · refine evn h1 ?_
        by_cases h2 : l.getD i 0 = 2
        · rw [decide_eq_true (by omega), Bool.true_and]
          exact evp h2 hrec
        · rw [decide_eq_false (by omega), Bool.false_and]
          exact evn h2 (evc rfl)
theorem isym_ev (l : List Int) (hn : l.length ≤ 4000000000000000) : Ev (fun k => impl_IsSymbolString.f k l) (l.all fun x => decide (0 ≤ x ∧ x ≤ 2)) := isym_loop l hn l.length 0 (by omega)
theorem syms_all {l : List Int} (h : Syms l) : (l.all fun x => decide (0 ≤ x ∧ x ≤ 2)) = true := by
  rw [List.all_eq_true]
  intro x hx
  exact decide_eq_true (h x hx)
theorem all_syms {l : List Int} (h : (l.all fun x => decide (0 ≤ x ∧ x ≤ 2)) = true) : Syms l := by
  intro x hx
  rw [List.all_eq_true] at h
  exact of_decide_eq_true (h x hx)

def xorL : List Int → List Int → List Int
  | x :: a, y :: b => (x + y) % 2 :: xorL a b
  | _, _ => []
theorem xorL_length : ∀ (a b : List Int), a.length = b.length → (xorL a b).length = a.length
  | [], [], _ => rfl
  | [], y :: b, h => by simp at h
  | x :: a, [], h => by simp at h
  | x :: a, y :: b, h => by
    simp only [xorL, List.length_cons]
    rw [xorL_length a b (by simpa using h)]
theorem xorL_bits : ∀ (a b : List Int), Bits (xorL a b)
  | [], b => by intro x hx; simp [xorL] at hx
  | x :: a, [] => by intro z hz; simp [xorL] at hz
  | x :: a, y :: b => by
    intro z hz
    simp only [xorL, List.mem_cons] at hz
    rcases hz with rfl | hz
    · omega
    · exact xorL_bits a b z hz
theorem xbit (x y : Int) (hx : x = 0 ∨ x = 1) (hy : y = 0 ∨ y = 1) : Go.bits .and .i64 (Go.bits .xor .i64 x y) 1 = (x + y) % 2 := by
  rcases hx with rfl | rfl <;> rcases hy with rfl | rfl <;> decide +kernel
theorem xor_loop (a b : List Int) (ha : Bits a) (hb : Bits b) (hl : a.length = b.length) (hn : a.length ≤ 1000000000) : ∀ (d i : Nat) (acc : List Int), i + d = a.length → acc.length ≤ i →
    Ev (fun k => spec_XorBits.l0 k a b acc i) (acc ++ xorL (a.drop i) (b.drop i)) := by
  intro d
  induction d with
  | zero =>
    intro i acc hi hacc
    rw [List.drop_of_length_le (by omega), List.drop_of_length_le (by omega)]
    exact ev1 (evn (by omega) (evc (by simp [xorL])))
  | succ d ih =>
    intro i acc hi hacc
    refine ev1 (evp (by omega) (evp (by omega) (evp (by omega) (evp (by omega) ?_))))
    rw [rd_nat, rd_nat, xbit _ _ (bits_getD ha i) (bits_getD hb i), w64s (n := (i : Int) + 1) (by omega) (by omega), drop_getD a i (by omega), drop_getD b i (by omega), xorL]
    have h := ih (i + 1) (acc ++ [(a.getD i 0 + b.getD i 0) % 2]) (by omega) (by simp; omega)
    rw [List.append_assoc] at h
    exact h
theorem xor_ev (a b : List Int) (ha : Bits a) (hb : Bits b) (hl : a.length = b.length) (hn : a.length ≤ 1000000000) : Ev (fun k => spec_XorBits.f k a b) (xorL a b) := by
  have h := xor_loop a b ha hb hl hn a.length 0 [] (by omega) (by simp)
  rw [List.drop_zero, List.drop_zero, List.nil_append] at h
  exact h
/-- Two states of the register, added. -/
def xorS (s t : Int) : Int := (s + t) % 2 + 2 * ((s / 2 + t / 2) % 2)
theorem conv_linear : ∀ (a b : List Int) (s t : Int), a.length = b.length → Bits a → Bits b → 0 ≤ s ∧ s ≤ 3 → 0 ≤ t ∧ t ≤ 3 → xorL (convGo s a) (convGo t b) = convGo (xorS s t) (xorL a b)
  | [], [], s, t, _, _, _, _, _ => rfl
  | [], y :: b, _, _, h, _, _, _, _ => by simp at h
  | x :: a, [], _, _, h, _, _, _, _ => by simp at h
  | x :: a, y :: b, s, t, h, ha, hb, hs, ht => by
    have hx := ha x (by simp)
    have hy := hb y (by simp)
    simp only [convGo, xorL]
    rw [conv_linear a b (nxt s x) (nxt t y) (by simpa using h) (fun z hz => ha z (by simp [hz])) (fun z hz => hb z (by simp [hz])) (nxt_range _ _) (nxt_range _ _)]
    have e1 : (outX s x + outX t y) % 2 = outX (xorS s t) ((x + y) % 2) := by
      unfold outX xorS
      omega
    have e2 : (outY s x + outY t y) % 2 = outY (xorS s t) ((x + y) % 2) := by
      unfold outY xorS
      omega
    have e3 : xorS (nxt s x) (nxt t y) = nxt (xorS s t) ((x + y) % 2) := by
      unfold nxt xorS
      omega
    rw [e1, e2, e3]
theorem xorL_append : ∀ (a b c d : List Int), a.length = b.length → xorL (a ++ c) (b ++ d) = xorL a b ++ xorL c d
  | [], [], c, d, _ => rfl
  | [], y :: b, _, _, h => by simp at h
  | x :: a, [], _, _, h => by simp at h
  | x :: a, y :: b, c, d, h => by
    simp only [List.cons_append, xorL]
    rw [xorL_append a b c d (by simpa using h)]

def ones : List Int → Int
  | [] => 0
  | x :: r => (if x = 1 then 1 else 0) + ones r
theorem ones_range : ∀ (l : List Int), 0 ≤ ones l ∧ ones l ≤ l.length
  | [] => by simp [ones]
  | x :: r => by
    have := ones_range r
    simp only [ones, List.length_cons]
    split <;> omega
theorem weight_loop (l : List Int) (hn : l.length ≤ 1000000000) : ∀ (d i : Nat) (m : Int), i + d = l.length → 0 ≤ m ∧ m ≤ i → Ev (fun k => impl_Weight.l0 k m l l.length i) (m + ones (l.drop i)) := by
  intro d
  induction d with
  | zero =>
    intro i m hi hm
    rw [List.drop_of_length_le (by omega)]
    exact ev1 (evn (by omega) (evc (by simp [ones])))
  | succ d ih =>
    intro i m hi hm
    refine ev1 (evp (by omega) (evp (by omega) (evp (by omega) ?_)))
    rw [drop_getD l i (by omega), ones, rd_nat, w64s (n := (i : Int) + 1) (by omega) (by omega), w64s (n := m + 1) (by omega) (by omega)]
    by_cases h : l.getD i 0 = 1
    · rw [if_pos h]
      exact evp h (ev_eq (ih (i + 1) (m + 1) (by omega) (by omega)) (by omega))
    · rw [if_neg h]
      exact evn h (ev_eq (ih (i + 1) m (by omega) (by omega)) (by omega))
theorem weight_ev (l : List Int) (hn : l.length ≤ 1000000000) : Ev (fun k => impl_Weight.f k l) (ones l) := by
  refine ev_eq (weight_loop l hn l.length 0 0 (by omega) (by omega)) ?_
  simp

theorem same_loop (x : List Int) (hn : x.length ≤ 4000000000000000) : ∀ (d i : Nat), i + d = x.length → Ev (fun k => laws_sameInts.l0 k x x i) true := by
  intro d
  induction d with
  | zero =>
    intro i hi
    exact ev1 (evn (by omega) (evc rfl))
  | succ d ih =>
    intro i hi
    refine ev1 (evp (by omega) (evp (by omega) (evp (by omega) (evp rfl ?_))))
    rw [w64s (by omega) (by omega)]
    exact ih (i + 1) (by omega)
theorem same_ev (l : List Int) (hn : l.length ≤ 4000000000000000) : Ev (fun k => laws_sameInts.f k l l) true := by
  unfold laws_sameInts.f
  exact evp rfl (same_loop l hn l.length 0 (by omega))

theorem and255 (x : Int) : 0 ≤ Go.bits .and .i64 x 255 ∧ Go.bits .and .i64 x 255 ≤ 255 := by
  have h : ∀ n : Nat, n ≤ 255 → IntKind.i64.wrap (n : Int) = n := by
    intro n hn
    rw [IntKind.wrap_i64]
    omega
  have e : Go.bits .and .i64 x 255 = IntKind.i64.wrap ((BitVec.ofInt 64 x &&& BitVec.ofInt 64 255).toNat : Int) := rfl
  have hle : (BitVec.ofInt 64 x &&& BitVec.ofInt 64 255).toNat ≤ 255 := by
    rw [BitVec.toNat_and]
    exact Nat.and_le_right
  rw [e, h _ hle]
  omega
/-- The draw's cursor lies within the code. -/
def Cur (l : List Int) (i : Int) : Prop := 0 ≤ i ∧ i ≤ l.length
theorem new_loop (x : List Int) (hn : x.length ≤ 4000000000000000) : ∀ (d i : Nat) (h : Int), i + d = x.length → ∃ h', Ev (fun k => spec_l1New.l0 k x h i) (x, 0, h') := by
  intro d
  induction d with
  | zero =>
    intro i h hi
    exact ⟨h, ev1 (evn (by omega) (evc rfl))⟩
  | succ d ih =>
    intro i h hi
    by_cases h4 : (i : Int) < 4000
    · obtain ⟨h', hh⟩ := ih (i + 1) (Go.bits .and .i64 (wrap64 ((wrap64 ((wrap64 (h * 137)) + (wrap64 (rd x i)))) + 11)) 1073741823) (by omega)
      refine ⟨h', ev1 (evp (by omega) (evp h4 (evp (by omega) ?_)))⟩
      rw [w64s (n := (i : Int) + 1) (by omega) (by omega)]
      exact hh
    · exact ⟨h, ev1 (evp (by omega) (evn h4 (evc rfl)))⟩
theorem new_ev (l : List Int) (hn : l.length ≤ 4000000000000000) : ∃ h', Ev (fun k => spec_l1New.f k l) (l, 0, h') := by
  unfold spec_l1New.f
  exact new_loop l hn l.length 0 _ (by omega)
theorem byte_some (l : List Int) (hn : l.length ≤ 4000000000000000) (i h : Int) (hc : Cur l i) : ∃ x i' h', spec_l1Byte.f l i h = some (x, i', h') ∧ (0 ≤ x ∧ x ≤ 255) ∧ Cur l i' := by
  unfold spec_l1Byte.f
  unfold Cur at *
  by_cases hi : i < (l.length : Int)
  · rw [if_pos hi, if_pos hc.1]
    refine ⟨_, _, _, rfl, and255 _, ?_⟩
    rw [w64s (n := i + 1) (by omega) (by omega)]
    omega
  · rw [if_neg hi]
    exact ⟨_, _, _, rfl, and255 _, hc⟩
theorem below_some (l : List Int) (hn : l.length ≤ 4000000000000000) (i h : Int) (hc : Cur l i) (n : Int) (h1 : 1 ≤ n) (h2 : n ≤ 1000000000000) : ∃ x i' h', spec_l1Below.f l i h n = some (x, i', h') ∧ (0 ≤ x ∧ x < n) ∧ Cur l i' := by
  unfold spec_l1Below.f
  rw [if_neg (by omega)]
  by_cases h3 : n ≤ 256
  · rw [if_pos h3]
    obtain ⟨x, i', h', e, hx, hc'⟩ := byte_some l hn i h hc
    rw [e]
    simp only [Option.bind_some]
    rw [if_neg (by omega)]
    refine ⟨_, _, _, rfl, ?_, hc'⟩
    rw [Int.tmod_eq_emod_of_nonneg hx.1]
    exact ⟨Int.emod_nonneg _ (by omega), Int.emod_lt_of_pos _ (by omega)⟩
  · rw [if_neg h3]
    obtain ⟨x, i', h', e, hx, hc'⟩ := byte_some l hn i h hc
    rw [e]
    simp only [Option.bind_some]
    obtain ⟨y, i2, h2, e2, hy, hc2⟩ := byte_some l hn i' h' hc'
    rw [e2]
    simp only [Option.bind_some]
    obtain ⟨z, i3, h3, e3, hz, hc3⟩ := byte_some l hn i2 h2 hc2
    rw [e3]
    simp only [Option.bind_some]
    rw [if_neg (by omega)]
    refine ⟨_, _, _, rfl, ?_, hc3⟩
    rw [w64s (n := x * 65536) (by omega) (by omega), w64s (n := y * 256) (by omega) (by omega), w64s (n := x * 65536 + y * 256) (by omega) (by omega), w64s (n := x * 65536 + y * 256 + z) (by omega) (by omega)]
    rw [Int.tmod_eq_emod_of_nonneg (by omega)]
    exact ⟨Int.emod_nonneg _ (by omega), Int.emod_lt_of_pos _ (by omega)⟩

theorem l4_loop (L : List Int) (hL : L.length ≤ 4000000000000000) (n : Nat) (hn : n ≤ 1000000) : ∀ (d j : Nat) (acc : List Int) (i h : Int), j + d = n → acc.length = j → Bits acc → Cur L i →
    ∃ (r : List Int) (i' h' : Int), Ev (fun k => spec_l4Bits.l0 k n acc j L i h) (r, i', h') ∧ r.length = n ∧ Bits r ∧ Cur L i' := by
  intro d
  induction d with
  | zero =>
    intro j acc i h hj hl hb hc
    exact ⟨acc, i, h, ev1 (evn (by omega) (evc rfl)), by omega, hb, hc⟩
  | succ d ih =>
    intro j acc i h hj hl hb hc
    obtain ⟨x, i1, h1, e1, hx, hc1⟩ := below_some L hL i h hc 2 (by omega) (by omega)
    obtain ⟨r, i', h', e, hr, hrb, hc'⟩ := ih (j + 1) (acc ++ [x]) i1 h1 (by omega) (by simp; omega) (by
      intro y hy
      rw [List.mem_append, List.mem_singleton] at hy
      rcases hy with hy | rfl
      · exact hb y hy
      · omega) hc1
    refine ⟨r, i', h', ev1 (evp (by omega) (evs e1 (evp (by omega) ?_))), hr, hrb, hc'⟩
    rw [w64s (n := (j : Int) + 1) (by omega) (by omega)]
    exact e
theorem l4_ev (L : List Int) (hL : L.length ≤ 4000000000000000) (i h : Int) (hc : Cur L i) (n : Nat) (hn : n ≤ 1000000) :
    ∃ (r : List Int) (i' h' : Int), Ev (fun k => spec_l4Bits.f k L i h n) (r, i', h') ∧ r.length = n ∧ Bits r ∧ Cur L i' :=
  l4_loop L hL n hn n 0 [] i h (by omega) rfl (by intro x hx; simp at hx) hc

theorem l1_some (x a b : Int) : spec_l1In.f x a b = some (decide (a ≤ x ∧ x ≤ b)) := by
  unfold spec_l1In.f
  by_cases h : a ≤ x <;> simp [h]

theorem selen_some (n : Nat) (hn : n ≤ 1000000000) : spec_EncodedLength.f n = some (2 * (n : Int) + 4) := by
  unfold spec_EncodedLength.f
  rw [l1_some]
  simp only [Option.bind_some]
  rw [if_pos (dt (by omega)), w64s (n := (n : Int) + 2) (by omega) (by omega), w64s (by omega) (by omega)]
  exact congrArg some (by omega)
theorem coded_ev (L : List Int) (hL : L.length ≤ 4000000000000000) : ∃ (b : List Int) (i j : Nat), Ev (fun k => spec_DrawCoded.f k L) (b, (i : Int), (j : Int)) ∧ Bits b ∧ b.length ≤ 11 ∧ i < 2 * b.length + 4 ∧ j < 2 * b.length + 4 := by
  unfold spec_DrawCoded.f
  obtain ⟨h0, e0⟩ := new_ev L hL
  obtain ⟨n, i1, h1, e1, hn, c1⟩ := below_some L hL 0 h0 ⟨by omega, by omega⟩ 12 (by omega) (by omega)
  obtain ⟨n, rfl⟩ := Int.eq_ofNat_of_zero_le hn.1
  obtain ⟨b, i2, h2, e2, hb, hbb, c2⟩ := l4_ev L hL i1 h1 c1 n (by omega)
  obtain ⟨i, i3, h3, e3, hi, c3⟩ := below_some L hL i2 h2 c2 (2 * (b.length : Int) + 4) (by omega) (by omega)
  obtain ⟨j, i4, h4, e4, hj, c4⟩ := below_some L hL i3 h3 c3 (2 * (b.length : Int) + 4) (by omega) (by omega)
  obtain ⟨i, rfl⟩ := Int.eq_ofNat_of_zero_le hi.1
  obtain ⟨j, rfl⟩ := Int.eq_ofNat_of_zero_le hj.1
  exact ⟨b, i, j, Ev.bind e0 (evs e1 (Ev.bind e2 (evs (selen_some b.length (by omega)) (evs e3 (evs e4 (evc rfl)))))), hbb, by omega, by omega, by omega⟩

theorem wf64 {a : Int} (h : (Lit.int .i64 a).wf = true) : -9223372036854775808 ≤ a ∧ a ≤ 9223372036854775807 := by
  simpa [Lit.wf, IntKind.min, IntKind.max, IntKind.bits, IntKind.signed] using h
theorem wf8 {a : Int} (h : (Lit.int .u8 a).wf = true) : 0 ≤ a ∧ a ≤ 255 := by
  simpa [Lit.wf, IntKind.min, IntKind.max, IntKind.bits, IntKind.signed] using h

theorem at_some (l : List Int) (hn : l.length ≤ 1048576) (hw : ∀ x ∈ l, (Lit.int .u8 x).wf = true) (i : Nat) (hi : i ≤ 1000000000) : ∃ x, laws_at.f l i = some x ∧ 0 ≤ x ∧ x ≤ 255 := by
  unfold laws_at.f
  by_cases h : (i : Int) < (l.length : Int)
  · rw [if_pos h, if_pos (by omega), rd_nat]
    have hm := hw _ (rd_mem (l := l) (i := i) (by omega))
    have hb := wf8 hm
    rw [w64s (by omega) (by omega)]
    exact ⟨_, rfl, hb⟩
  · rw [if_neg h, w64s (n := (i : Int) * 31) (by omega) (by omega), w64s (n := (l.length : Int) * 7) (by omega) (by omega), w64s (by omega) (by omega)]
    refine ⟨_, rfl, ?_⟩
    rw [Int.tmod_eq_emod_of_nonneg (by omega)]
    omega

theorem ielen_some (n : Nat) (hn : n ≤ 1000000000) : impl_EncodedLength.f n = some (2 * (n : Int) + 4) := by
  unfold impl_EncodedLength.f
  rw [in_some]
  simp only [Option.bind_some]
  rw [if_pos (dt (by omega)), w64s (n := (n : Int) + 2) (by omega) (by omega), w64s (by omega) (by omega)]
  exact congrArg some (by omega)
theorem law_end (L b o : List Int) (hb : Bits b) (ho : Bits o) (hl : b.length = o.length) (hn : b.length ≤ 11) : Ev (fun k => laws_FnConvolution.l0 k L b o o.length) true := by
  have hx := xorL_length b o hl
  have hcb := conv_length b
  have hco := conv_length o
  have hlin : xorL (conv b) (conv o) = conv (xorL b o) := by
    unfold conv
    rw [conv_linear (b ++ [0, 0]) (o ++ [0, 0]) 0 0 (by simp; omega) (fun z hz => by
      rw [List.mem_append] at hz
      rcases hz with hz | hz
      · exact hb z hz
      · simp at hz
        exact .inl hz) (fun z hz => by
      rw [List.mem_append] at hz
      rcases hz with hz | hz
      · exact ho z hz
      · simp at hz
        exact .inl hz) (by omega) (by omega), xorL_append b o [0, 0] [0, 0] hl]
    rfl
  have hs := same_ev (conv (xorL b o)) (by rw [conv_length]; omega)
  have hsy := isym_ev (conv b) (by omega)
  rw [syms_all (fun z hz => by have := convGo_bits (b ++ [0, 0]) 0 z hz; omega)] at hsy
  have h1 : Bits [1] := fun z hz => by simp at hz; exact .inr hz
  have hw := weight_ev (conv [1]) (by rw [conv_length]; simp)
  rw [show ones (conv [1]) = 5 by decide] at hw
  have hxx := xor_ev (conv b) (conv o) (convGo_bits _ _) (convGo_bits _ _) (by omega) (by omega)
  rw [hlin] at hxx
  refine ev1 (evn (by omega) (Ev.bind (iconv_ev b hb (by omega)) (Ev.bind (iconv_ev o ho (by omega)) (Ev.bind (xor_ev b o hb ho hl (by omega)) (Ev.bind (iconv_ev (xorL b o) (xorL_bits b o) (by omega)) (evs (ielen_some b.length (by omega)) (evp (by omega) (Ev.bind hxx (Ev.bind hs (evp rfl (Ev.bind hsy (evp rfl (Ev.bind (iconv_ev [1] h1 (by simp)) (Ev.bind hw (evc rfl)))))))))))))))
theorem law_loop (L b : List Int) (hb : Bits b) (hn : b.length ≤ 11) (hL : L.length ≤ 1048576) (hw : ∀ x ∈ L, (Lit.int .u8 x).wf = true) : ∀ (d i : Nat) (o : List Int), i + d = b.length → o.length = b.length → Bits o → Ev (fun k => laws_FnConvolution.l0 k L b o i) true := by
  intro d
  induction d with
  | zero =>
    intro i o hi hl ho
    have := law_end L b o hb ho hl.symm hn
    rw [show o.length = i by omega] at this
    exact this
  | succ d ih =>
    intro i o hi hl ho
    obtain ⟨x, hx, hx0, hx1⟩ := at_some L hL hw i (by omega)
    refine ev1 (evp (by omega) (evs hx (evp (by omega) ?_)))
    rw [w64s (n := (i : Int) + 1) (by omega) (by omega)]
    refine ih (i + 1) _ (by omega) (by simpa using hl) ?_
    intro z hz
    rcases List.mem_or_eq_of_mem_set hz with hz | rfl
    · exact ho z hz
    · rw [Int.tmod_eq_emod_of_nonneg hx0]
      omega
theorem FnConvolution : laws_FnConvolution.Pure := by
  intro L hm hs hw
  refine Ev.rounds (r := true) ?_
  unfold laws_FnConvolution.f
  refine evs (show laws_big.f L = some _ from rfl) ?_
  by_cases hbig : (L.length : Int) > 1048576
  · exact evp (by simpa using hbig) (evc rfl)
  refine evn (by simpa using hbig) ?_
  obtain ⟨b, i, j, e, hb, hn, _, _⟩ := coded_ev L (by omega)
  refine Ev.bind e (evp (by dsimp only; omega) (evp (by dsimp only; omega) ?_))
  exact law_loop L b hb hn (by omega) hw b.length 0 _ (by omega) (by simp) (fun z hz => by
    rw [List.mem_replicate] at hz
    exact .inl hz.2)

end Go.Proofs.Ytmmgjhffjmdhhaa.Pure
