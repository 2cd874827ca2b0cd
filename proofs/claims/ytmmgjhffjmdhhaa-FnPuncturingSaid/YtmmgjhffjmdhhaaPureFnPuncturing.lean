/-
  Punctured symbols are restored, except that erasures stand in for the removed ones, at every drawn list of symbols.
  Conditions: none beyond the given statement's own.
-/
import Derived.Test.YtmmgjhffjmdhhaaPFnPuncturingx3
set_option linter.unusedVariables false
set_option linter.unusedSimpArgs false
namespace Go.Proofs.Ytmmgjhffjmdhhaa.Pure
open Go.RowKit Go.Proofs.Ytmmgjhffjmdhhaa.PFnPuncturing Go.Proofs.YtmmgjhffjmdhhaaW.PrintWords Go.Proofs.YtmmgjhffjmdhhaaW.PrintLast Go.Proofs.YtmmgjhffjmdhhaaW.PrintMore

theorem evp {α : Type} {c : Prop} [Decidable c] {A B : Nat → Option α} {r : α} (hc : c) (h : Ev A r) : Ev (fun k => if c then A k else B k) r :=
  Ev.congr (fun k => if_pos hc) h
theorem evn {α : Type} {c : Prop} [Decidable c] {A B : Nat → Option α} {r : α} (hc : ¬ c) (h : Ev B r) : Ev (fun k => if c then A k else B k) r :=
  Ev.congr (fun k => if_neg hc) h
theorem evs {α β : Type} {g : Option α} {a : α} {f : Nat → α → Option β} {r : β} (hg : g = some a) (h : Ev (fun k => f k a) r) : Ev (fun k => g.bind (f k)) r :=
  Ev.congr (fun k => by rw [hg]; rfl) h
theorem evc {α : Type} {g : Option α} {r : α} (h : g = some r) : Ev (fun _ => g) r := ⟨0, fun _ _ => h⟩
theorem ev_eq {α : Type} {g : Nat → Option α} {r r' : α} (h : Ev g r) (e : r = r') : Ev g r' := e ▸ h
theorem w64 {n : Int} (h0 : -9223372036854775808 ≤ n) (h1 : n ≤ 9223372036854775807) : wrap64 n = n := by
  unfold wrap64
  omega
theorem w64s {n : Int} (h0 : -1000000000000000000 ≤ n) (h1 : n ≤ 1000000000000000000) : wrap64 n = n := w64 (by omega) (by omega)
theorem ev1 {α : Type} {g : Nat → Option α} {r : α} (h : Ev (fun k => g (k + 1)) r) : Ev g r := Ev.step (fun _ => rfl) h
theorem dt {p : Prop} [Decidable p] (h : p) : decide p = true := decide_eq_true h
theorem dnt {p : Prop} [Decidable p] (h : ¬ p) : ¬ (decide p = true) := by simp [h]
theorem ntd {p : Prop} [Decidable p] (h : ¬ p) : (!decide p) = true := by simp [h]
theorem ntt {p : Prop} [Decidable p] (h : p) : ¬ ((!decide p) = true) := by simp [h]
theorem evk {α : Type} {g : Nat → Option α} {r : α} (h : ∀ k, g k = some r) : Ev g r := ⟨0, fun k _ => h k⟩
theorem dec_iff {p q : Prop} [Decidable p] [Decidable q] (h : p ↔ q) : decide p = decide q := by
  by_cases hq : q
  · rw [decide_eq_true hq, decide_eq_true (h.2 hq)]
  · rw [decide_eq_false hq, decide_eq_false (fun hp => hq (h.1 hp))]

theorem rd_nat (l : List Int) (i : Nat) : rd l (i : Int) = l.getD i 0 := by
  unfold rd
  rw [Int.toNat_natCast]
theorem rd_mem {l : List Int} {i : Nat} (h : i < l.length) : l.getD i 0 ∈ l := by
  rw [List.getD_eq_getElem?_getD, List.getElem?_eq_getElem h]
  exact List.getElem_mem h
theorem list_ext {a b : List Int} (hl : a.length = b.length) (h : ∀ i, i < a.length → a.getD i 0 = b.getD i 0) : a = b := by
  apply List.ext_getElem hl
  intro i h1 h2
  have := h i h1
  rw [List.getD_eq_getElem?_getD, List.getD_eq_getElem?_getD, List.getElem?_eq_getElem h1, List.getElem?_eq_getElem h2] at this
  simpa using this
theorem getD_set (l : List Int) (i j : Nat) (v : Int) : (l.set i v).getD j 0 = if i = j ∧ j < l.length then v else l.getD j 0 := by
  rw [List.getD_eq_getElem?_getD, List.getElem?_set, List.getD_eq_getElem?_getD]
  by_cases h : i = j
  · subst h
    by_cases h2 : i < l.length
    · simp [h2]
    · simp [h2]
  · simp [h]

theorem in_some (x a b : Int) : impl_InRange.f x a b = some (decide (a ≤ x ∧ x ≤ b)) := by
  unfold impl_InRange.f
  by_cases h : a ≤ x <;> simp [h]

/-- What puncturing leaves of the symbols from the i-th on. -/
def punctGo : Nat → List Int → List Int
  | _, [] => []
  | i, s :: r => if i % 4 = 3 then punctGo (i + 1) r else s :: punctGo (i + 1) r
theorem drop_getD' (L : List Int) (i : Nat) (h : i < L.length) : L.drop i = L.getD i 0 :: L.drop (i + 1) := by
  rw [List.drop_eq_getElem_cons h, List.getD_eq_getElem?_getD, List.getElem?_eq_getElem h]
  rfl
theorem punctGo_length : ∀ (l : List Int) (i : Nat), (punctGo i l).length + (i + l.length) / 4 = l.length + i / 4
  | [], i => by simp [punctGo]
  | s :: r, i => by
    have h := punctGo_length r (i + 1)
    unfold punctGo
    split
    · simp only [List.length_cons] at *
      rw [show i + (r.length + 1) = i + 1 + r.length by omega]
      omega
    · simp only [List.length_cons] at *
      rw [show i + (r.length + 1) = i + 1 + r.length by omega]
      omega
theorem tmod4 (i : Nat) : Int.tmod (i : Int) 4 = ((i % 4 : Nat) : Int) := by
  rw [Int.tmod_eq_emod_of_nonneg (by omega)]
  omega
theorem punct_loop (l : List Int) (hn : l.length ≤ 1000000000) : ∀ (d i : Nat) (acc : List Int), i + d = l.length → acc.length ≤ i → Ev (fun k => impl_Puncture.l0 k acc l l.length i) (acc ++ punctGo i (l.drop i)) := by
  intro d
  induction d with
  | zero =>
    intro i acc hi ha
    rw [List.drop_of_length_le (by omega)]
    exact ev1 (evn (by omega) (evc (by simp [punctGo])))
  | succ d ih =>
    intro i acc hi ha
    rw [drop_getD' l i (by omega), punctGo]
    refine ev1 (evp (by omega) (evp (by omega) (evp (by omega) ?_)))
    rw [tmod4, w64s (n := (i : Int) + 1) (by omega) (by omega), rd_nat]
    by_cases h : i % 4 = 3
    · rw [if_pos h]
      exact evp (by omega) (ih (i + 1) acc (by omega) (by omega))
    · rw [if_neg h]
      refine evn (by omega) (evp (by omega) ?_)
      have := ih (i + 1) (acc ++ [l.getD i 0]) (by omega) (by simp; omega)
      rw [List.append_assoc] at this
      exact this
theorem punct_ev (l : List Int) (hn : l.length ≤ 1000000000) : Ev (fun k => impl_Puncture.f k l) (punctGo 0 l) := by
  have := punct_loop l hn l.length 0 [] (by omega) (by simp)
  rw [List.drop_zero] at this
  exact this
theorem plen_some (n : Nat) (hn : n ≤ 1000000000) : impl_PuncturedLength.f n = some ((n - n / 4 : Nat) : Int) := by
  unfold impl_PuncturedLength.f
  rw [if_neg (by omega), Int.tdiv_eq_ediv_of_nonneg (by omega), w64s (n := (n : Int) / 4) (by omega) (by omega), w64s (by omega) (by omega)]
  congr 1
  omega
/-- What depuncturing makes of the symbols: at every fourth place an erasure. -/
def depunct (p : List Int) : Nat → Nat → Nat → List Int
  | _, _, 0 => []
  | i, j, d + 1 => if i % 4 = 3 then 2 :: depunct p (i + 1) j d else p.getD j 0 :: depunct p (i + 1) (j + 1) d
theorem depunct_length (p : List Int) : ∀ (d i j : Nat), (depunct p i j d).length = d
  | 0, _, _ => rfl
  | d + 1, i, j => by
    unfold depunct
    split <;> simp [depunct_length p d]
theorem take_set_next (x : List Int) (i : Nat) (v : Int) (h : i < x.length) : (x.set i v).take (i + 1) = x.take i ++ [v] := by
  rw [List.take_add_one, List.take_set_of_le (by omega)]
  simp [h]
theorem depunct_loop (p : List Int) (n : Nat) (hn : n ≤ 1000000) : ∀ (d i j : Nat) (x : List Int), i + d = n → x.length = n → j = i - i / 4 → n - n / 4 ≤ p.length →
    Ev (fun k => impl_Depuncture.l0 k p x j n i) (x.take i ++ depunct p i j d) := by
  intro d
  induction d with
  | zero =>
    intro i j x hi hl hj hp
    refine ev1 (evn (by omega) (evc ?_))
    rw [List.take_of_length_le (by omega)]
    simp [depunct]
  | succ d ih =>
    intro i j x hi hl hj hp
    refine ev1 (evp (by omega) ?_)
    rw [tmod4, depunct]
    by_cases h : i % 4 = 3
    · rw [if_pos h]
      refine evp (by omega) (evp (by omega) (evp (by omega) ?_))
      rw [w64s (n := (i : Int) + 1) (by omega) (by omega), Int.toNat_natCast]
      have := ih (i + 1) j (x.set i 2) (by omega) (by simpa using hl) (by omega) hp
      rw [take_set_next x i 2 (by omega), List.append_assoc] at this
      exact this
    · rw [if_neg h]
      refine evn (by omega) (evp (by omega) (evp (by omega) (evp (by omega) (evp (by omega) ?_))))
      rw [w64s (n := (i : Int) + 1) (by omega) (by omega), w64s (n := (j : Int) + 1) (by omega) (by omega), Int.toNat_natCast, rd_nat]
      have := ih (i + 1) (j + 1) (x.set i (p.getD j 0)) (by omega) (by simpa using hl) (by omega) hp
      rw [take_set_next x i _ (by omega), List.append_assoc] at this
      exact this
theorem depunct_ev (p : List Int) (n : Nat) (hn : n ≤ 4000) (hp : p.length = n - n / 4) : Ev (fun k => impl_Depuncture.f k p n) (depunct p 0 0 n) := by
  unfold impl_Depuncture.f
  refine evs (in_some _ _ _) (evp (dt (by omega)) (evs (plen_some n (by omega)) ?_))
  have e : ((p.length : Int) != ((n - n / 4 : Nat) : Int)) = false := by
    rw [hp]
    simp
  rw [e]
  refine ev1 (evp (by omega) (evs rfl ?_))
  have := depunct_loop p n (by omega) n 0 0 (List.replicate (n : Int).toNat 0) (by omega) (by simp) (by omega) (by omega)
  rw [show (((List.replicate (n : Int).toNat (0 : Int)).length : Nat) : Int) = (n : Int) by simp]
  exact this
theorem depunct_bad (p : List Int) (n : Nat) (hn : n ≤ 4000) (hp : p.length ≠ n - n / 4) : Ev (fun k => impl_Depuncture.f k p n) [] := by
  unfold impl_Depuncture.f
  refine evs (in_some _ _ _) (evp (dt (by omega)) (evs (plen_some n (by omega)) ?_))
  have e : ((p.length : Int) != ((n - n / 4 : Nat) : Int)) = true := by
    rw [bne_iff_ne]
    omega
  rw [e]
  exact ev1 (evk fun _ => rfl)
/-- A symbol at a place that is not struck, behind puncturing. -/
theorem punct_at : ∀ (l : List Int) (i j : Nat), j < l.length → (i + j) % 4 ≠ 3 → (punctGo i l).getD (j - ((i + j) / 4 - i / 4)) 0 = l.getD j 0
  | [], i, j, h, _ => by simp at h
  | s :: r, i, 0, h, hm => by
    unfold punctGo
    rw [if_neg (by simpa using hm)]
    simp
  | s :: r, i, j + 1, h, hm => by
    have ih := punct_at r (i + 1) j (by simpa using h) (by rw [show i + 1 + j = i + (j + 1) by omega]; exact hm)
    rw [show i + 1 + j = i + (j + 1) by omega] at ih
    unfold punctGo
    have e2 : (s :: r).getD (j + 1) 0 = r.getD j 0 := by simp
    rw [e2]
    by_cases h3 : i % 4 = 3
    · rw [if_pos h3, ← ih]
      congr 1
      omega
    · rw [if_neg h3, ← ih]
      rw [show j + 1 - ((i + (j + 1)) / 4 - i / 4) = (j - ((i + (j + 1)) / 4 - (i + 1) / 4)) + 1 by omega]
      simp
theorem depunct_at (p : List Int) : ∀ (d i j q : Nat), q < d → (depunct p i j d).getD q 0 = if (i + q) % 4 = 3 then 2 else p.getD (j + q - ((i + q) / 4 - i / 4)) 0
  | 0, i, j, q, h => by omega
  | d + 1, i, j, 0, h => by
    unfold depunct
    split
    · rename_i h3
      rw [if_pos (by simpa using h3)]
      simp
    · rename_i h3
      rw [if_neg (by simpa using h3)]
      simp
  | d + 1, i, j, q + 1, h => by
    unfold depunct
    split
    · rename_i h3
      have ih := depunct_at p d (i + 1) j q (by omega)
      rw [show i + 1 + q = i + (q + 1) by omega] at ih
      simp only [List.getD_cons_succ]
      rw [ih]
      split
      · rfl
      · congr 1
        omega
    · rename_i h3
      have ih := depunct_at p d (i + 1) (j + 1) q (by omega)
      rw [show i + 1 + q = i + (q + 1) by omega] at ih
      simp only [List.getD_cons_succ]
      rw [ih]
      split
      · rfl
      · congr 1
        omega
theorem roundtrip (l : List Int) (q : Nat) (h : q < l.length) : (depunct (punctGo 0 l) 0 0 l.length).getD q 0 = if q % 4 = 3 then 2 else l.getD q 0 := by
  rw [depunct_at _ _ _ _ _ h]
  simp only [Nat.zero_add, Nat.zero_div, Nat.sub_zero]
  split
  · rfl
  · rename_i h3
    have := punct_at l 0 q h (by simpa using h3)
    simpa using this

theorem and255 (x : Int) : 0 ≤ Go.bits .and .i64 x 255 ∧ Go.bits .and .i64 x 255 ≤ 255 := by
  have h : ∀ n : Nat, n ≤ 255 → IntKind.i64.wrap (n : Int) = n := by
    intro n hn
    rw [IntKind.wrap_i64]
    omega
  have e : Go.bits .and .i64 x 255 = IntKind.i64.wrap ((BitVec.ofInt 64 x &&& BitVec.ofInt 64 255).toNat : Int) := rfl
  have hle : (BitVec.ofInt 64 x &&& BitVec.ofInt 64 255).toNat ≤ 255 := by
    rw [BitVec.toNat_and]
    exact Nat.and_le_right
  rw [e, h _ hle]
  omega
/-- The draw's cursor lies within the code. -/
def Cur (l : List Int) (i : Int) : Prop := 0 ≤ i ∧ i ≤ l.length
theorem new_loop (x : List Int) (hn : x.length ≤ 4000000000000000) : ∀ (d i : Nat) (h : Int), i + d = x.length → ∃ h', Ev (fun k => spec_l1New.l0 k x h i) (x, 0, h') := by
  intro d
  induction d with
  | zero =>
    intro i h hi
    exact ⟨h, ev1 (evn (by omega) (evc rfl))⟩
  | succ d ih =>
    intro i h hi
    by_cases h4 : (i : Int) < 4000
    · obtain ⟨h', hh⟩ := ih (i + 1) (Go.bits .and .i64 (wrap64 ((wrap64 ((wrap64 (h * 137)) + (wrap64 (rd x i)))) + 11)) 1073741823) (by omega)
      refine ⟨h', ev1 (evp (by omega) (evp h4 (evp (by omega) ?_)))⟩
      rw [w64s (n := (i : Int) + 1) (by omega) (by omega)]
      exact hh
    · exact ⟨h, ev1 (evp (by omega) (evn h4 (evc rfl)))⟩
theorem new_ev (l : List Int) (hn : l.length ≤ 4000000000000000) : ∃ h', Ev (fun k => spec_l1New.f k l) (l, 0, h') := by
  unfold spec_l1New.f
  exact new_loop l hn l.length 0 _ (by omega)
theorem byte_some (l : List Int) (hn : l.length ≤ 4000000000000000) (i h : Int) (hc : Cur l i) : ∃ x i' h', spec_l1Byte.f l i h = some (x, i', h') ∧ (0 ≤ x ∧ x ≤ 255) ∧ Cur l i' := by
  unfold spec_l1Byte.f
  unfold Cur at *
  by_cases hi : i < (l.length : Int)
  · rw [if_pos hi, if_pos hc.1]
    refine ⟨_, _, _, rfl, and255 _, ?_⟩
    rw [w64s (n := i + 1) (by omega) (by omega)]
    omega
  · rw [if_neg hi]
    exact ⟨_, _, _, rfl, and255 _, hc⟩
theorem below_some (l : List Int) (hn : l.length ≤ 4000000000000000) (i h : Int) (hc : Cur l i) (n : Int) (h1 : 1 ≤ n) (h2 : n ≤ 1000000000000) : ∃ x i' h', spec_l1Below.f l i h n = some (x, i', h') ∧ (0 ≤ x ∧ x < n) ∧ Cur l i' := by
  unfold spec_l1Below.f
  rw [if_neg (by omega)]
  by_cases h3 : n ≤ 256
  · rw [if_pos h3]
    obtain ⟨x, i', h', e, hx, hc'⟩ := byte_some l hn i h hc
    rw [e]
    simp only [Option.bind_some]
    rw [if_neg (by omega)]
    refine ⟨_, _, _, rfl, ?_, hc'⟩
    rw [Int.tmod_eq_emod_of_nonneg hx.1]
    exact ⟨Int.emod_nonneg _ (by omega), Int.emod_lt_of_pos _ (by omega)⟩
  · rw [if_neg h3]
    obtain ⟨x, i', h', e, hx, hc'⟩ := byte_some l hn i h hc
    rw [e]
    simp only [Option.bind_some]
    obtain ⟨y, i2, h2, e2, hy, hc2⟩ := byte_some l hn i' h' hc'
    rw [e2]
    simp only [Option.bind_some]
    obtain ⟨z, i3, h3, e3, hz, hc3⟩ := byte_some l hn i2 h2 hc2
    rw [e3]
    simp only [Option.bind_some]
    rw [if_neg (by omega)]
    refine ⟨_, _, _, rfl, ?_, hc3⟩
    rw [w64s (n := x * 65536) (by omega) (by omega), w64s (n := y * 256) (by omega) (by omega), w64s (n := x * 65536 + y * 256) (by omega) (by omega), w64s (n := x * 65536 + y * 256 + z) (by omega) (by omega)]
    rw [Int.tmod_eq_emod_of_nonneg (by omega)]
    exact ⟨Int.emod_nonneg _ (by omega), Int.emod_lt_of_pos _ (by omega)⟩

def outX (s b : Int) : Int := (b + s % 2 + s / 2) % 2
def outY (s b : Int) : Int := (b + s / 2) % 2
def nxt (s b : Int) : Int := (2 * s + b) % 4
def convGo : Int → List Int → List Int
  | _, [] => []
  | s, b :: r => outX s b :: outY s b :: convGo (nxt s b) r
def conv (l : List Int) : List Int := convGo 0 (l ++ [0, 0])
def Bits (l : List Int) : Prop := ∀ x ∈ l, x = 0 ∨ x = 1
theorem convGo_length : ∀ (l : List Int) (s : Int), (convGo s l).length = 2 * l.length
  | [], _ => rfl
  | b :: r, s => by
    simp only [convGo, List.length_cons, convGo_length r]
    omega
theorem conv_length (l : List Int) : (conv l).length = 2 * l.length + 4 := by
  unfold conv
  rw [convGo_length]
  simp
  omega
theorem nxt_range (s b : Int) : 0 ≤ nxt s b ∧ nxt s b ≤ 3 := by unfold nxt; omega
theorem out_bits (s b : Int) : (outX s b = 0 ∨ outX s b = 1) ∧ (outY s b = 0 ∨ outY s b = 1) := by unfold outX outY; omega
theorem convGo_bits : ∀ (l : List Int) (s : Int), Bits (convGo s l)
  | [], _ => by intro x hx; simp [convGo] at hx
  | b :: r, s => by
    intro x hx
    simp only [convGo, List.mem_cons] at hx
    rcases hx with rfl | rfl | hx
    · exact (out_bits s b).1
    · exact (out_bits s b).2
    · exact convGo_bits r _ x hx
theorem drop_getD (L : List Int) (i : Nat) (h : i < L.length) : L.drop i = L.getD i 0 :: L.drop (i + 1) := by
  rw [List.drop_eq_getElem_cons h, List.getD_eq_getElem?_getD, List.getElem?_eq_getElem h]
  rfl
theorem pad_getD (l : List Int) (i : Nat) : (l ++ [0, 0]).getD i 0 = if i < l.length then l.getD i 0 else 0 := by
  simp only [List.getD_eq_getElem?_getD, List.getElem?_append]
  by_cases h : i < l.length
  · simp [h]
  · rw [if_neg h, if_neg h]
    rcases Nat.lt_or_ge (i - l.length) 2 with h2 | h2
    · have : i - l.length = 0 ∨ i - l.length = 1 := by omega
      rcases this with e | e <;> rw [e] <;> rfl
    · rw [List.getElem?_eq_none (by simpa using h2)]
      rfl
theorem bits_getD {l : List Int} (h : Bits l) (i : Nat) : l.getD i 0 = 0 ∨ l.getD i 0 = 1 := by
  rw [List.getD_eq_getElem?_getD]
  cases e : l[i]? with
  | none => exact .inl rfl
  | some v => exact h v (List.mem_of_getElem? e)

theorem l4_loop (L : List Int) (hL : L.length ≤ 4000000000000000) (n : Nat) (hn : n ≤ 1000000) : ∀ (d j : Nat) (acc : List Int) (i h : Int), j + d = n → acc.length = j → Bits acc → Cur L i →
    ∃ (r : List Int) (i' h' : Int), Ev (fun k => spec_l4Bits.l0 k n acc j L i h) (r, i', h') ∧ r.length = n ∧ Bits r ∧ Cur L i' := by
  intro d
  induction d with
  | zero =>
    intro j acc i h hj hl hb hc
    exact ⟨acc, i, h, ev1 (evn (by omega) (evc rfl)), by omega, hb, hc⟩
  | succ d ih =>
    intro j acc i h hj hl hb hc
    obtain ⟨x, i1, h1, e1, hx, hc1⟩ := below_some L hL i h hc 2 (by omega) (by omega)
    obtain ⟨r, i', h', e, hr, hrb, hc'⟩ := ih (j + 1) (acc ++ [x]) i1 h1 (by omega) (by simp; omega) (by
      intro y hy
      rw [List.mem_append, List.mem_singleton] at hy
      rcases hy with hy | rfl
      · exact hb y hy
      · omega) hc1
    refine ⟨r, i', h', ev1 (evp (by omega) (evs e1 (evp (by omega) ?_))), hr, hrb, hc'⟩
    rw [w64s (n := (j : Int) + 1) (by omega) (by omega)]
    exact e
theorem l4_ev (L : List Int) (hL : L.length ≤ 4000000000000000) (i h : Int) (hc : Cur L i) (n : Nat) (hn : n ≤ 1000000) :
    ∃ (r : List Int) (i' h' : Int), Ev (fun k => spec_l4Bits.f k L i h n) (r, i', h') ∧ r.length = n ∧ Bits r ∧ Cur L i' :=
  l4_loop L hL n hn n 0 [] i h (by omega) rfl (by intro x hx; simp at hx) hc

theorem l1_some (x a b : Int) : spec_l1In.f x a b = some (decide (a ≤ x ∧ x ≤ b)) := by
  unfold spec_l1In.f
  by_cases h : a ≤ x <;> simp [h]

theorem sbits_loop (l : List Int) (hn : l.length ≤ 4000000000000000) : ∀ (d i : Nat), i + d = l.length → Ev (fun k => spec_IsBitString.l0 k l i) ((l.drop i).all fun x => decide (0 ≤ x ∧ x ≤ 1)) := by
  intro d
  induction d with
  | zero =>
    intro i hi
    rw [List.drop_of_length_le (by omega)]
    exact ev1 (evn (by omega) (evc rfl))
  | succ d ih =>
    intro i hi
    refine ev1 (evp (by omega) (evp (by omega) (evs (l1_some _ _ _) ?_)))
    rw [drop_getD l i (by omega), List.all_cons, rd_nat]
    by_cases h : 0 ≤ l.getD i 0 ∧ l.getD i 0 ≤ 1
    · rw [decide_eq_true h, w64s (n := (i : Int) + 1) (by omega) (by omega)]
      exact evp rfl (ih (i + 1) (by omega))
    · rw [decide_eq_false h]
      exact evn (by decide) (evc rfl)
theorem sbits_ev (l : List Int) (hn : l.length ≤ 4000000000000000) : Ev (fun k => spec_IsBitString.f k l) (l.all fun x => decide (0 ≤ x ∧ x ≤ 1)) := sbits_loop l hn l.length 0 (by omega)
theorem bits_all {l : List Int} (h : Bits l) : (l.all fun x => decide (0 ≤ x ∧ x ≤ 1)) = true := by
  rw [List.all_eq_true]
  intro x hx
  have := h x hx
  exact decide_eq_true (by omega)
theorem all_bits {l : List Int} (h : (l.all fun x => decide (0 ≤ x ∧ x ≤ 1)) = true) : Bits l := by
  intro x hx
  rw [List.all_eq_true] at h
  have := of_decide_eq_true (h x hx)
  omega

theorem spair_some (s b : Int) (hs : 0 ≤ s ∧ s ≤ 3) (hb : b = 0 ∨ b = 1) : spec_OutputPair.f s b = some (outX s b, outY s b) ∧ spec_NextState.f s b = some (nxt s b) := by
  have hc : s = 0 ∨ s = 1 ∨ s = 2 ∨ s = 3 := by omega
  rcases hc with rfl | rfl | rfl | rfl <;> rcases hb with rfl | rfl <;> exact ⟨by decide +kernel, by decide +kernel⟩
theorem sconv_loop (l : List Int) (hb : Bits l) (hn : l.length ≤ 1000000000) : ∀ (d i : Nat) (acc : List Int) (s : Int), i + d = l.length + 2 → acc.length + 2 * d ≤ 4000000000 → 0 ≤ s ∧ s ≤ 3 →
    Ev (fun k => spec_ConvolutionalEncode.l0 k l acc s i) (acc ++ convGo s ((l ++ [0, 0]).drop i)) := by
  intro d
  induction d with
  | zero =>
    intro i acc s hi ha hs
    rw [List.drop_of_length_le (by simp; omega)]
    refine ev1 (evn (by rw [w64s (by omega) (by omega)]; omega) (evc (by simp [convGo])))
  | succ d ih =>
    intro i acc s hi ha hs
    have hbit : (l ++ [0, 0]).getD i 0 = 0 ∨ (l ++ [0, 0]).getD i 0 = 1 := by
      rw [pad_getD]
      split
      · exact bits_getD hb i
      · exact .inl rfl
    obtain ⟨h1, h2⟩ := spair_some s _ hs hbit
    have h3 := ih (i + 1) (acc ++ [outX s ((l ++ [0, 0]).getD i 0), outY s ((l ++ [0, 0]).getD i 0)]) (nxt s ((l ++ [0, 0]).getD i 0)) (by omega) (by simp; omega) (nxt_range _ _)
    rw [drop_getD (l ++ [0, 0]) i (by simp; omega), convGo]
    rw [List.append_assoc] at h3
    refine ev1 (evp (by rw [w64s (by omega) (by omega)]; omega) ?_)
    have hw : wrap64 ((i : Int) + 1) = ((i + 1 : Nat) : Int) := by rw [w64s (by omega) (by omega)]; omega
    by_cases h : i < l.length
    · rw [pad_getD, if_pos h] at h1 h2 h3 ⊢
      refine evp (by omega) (evp (by omega) ?_)
      rw [rd_nat, hw]
      exact evs h1 (evs rfl (evp (by simp; omega) (evs h2 h3)))
    · rw [pad_getD, if_neg h] at h1 h2 h3 ⊢
      refine evn (by omega) ?_
      rw [hw]
      exact evs h1 (evs rfl (evp (by simp; omega) (evs h2 h3)))
theorem sconv_ev (l : List Int) (hb : Bits l) (hn : l.length ≤ 1000000000) : Ev (fun k => spec_ConvolutionalEncode.f k l) (conv l) := by
  unfold spec_ConvolutionalEncode.f
  have h := sbits_ev l (by omega)
  rw [bits_all hb] at h
  refine evs rfl (Ev.bind h (evp rfl ?_))
  exact sconv_loop l hb hn (l.length + 2) 0 [] 0 (by omega) (by simp; omega) (by omega)
theorem sconv_bad (l : List Int) (hb : ¬ Bits l) (hn : l.length ≤ 1000000000) : Ev (fun k => spec_ConvolutionalEncode.f k l) [] := by
  unfold spec_ConvolutionalEncode.f
  have h := sbits_ev l (by omega)
  have hf : (l.all fun x => decide (0 ≤ x ∧ x ≤ 1)) = false := by
    cases e : (l.all fun x => decide (0 ≤ x ∧ x ≤ 1)) with
    | false => rfl
    | true => exact absurd (all_bits e) hb
  rw [hf] at h
  exact evs rfl (Ev.bind h (evn (by decide) (evc rfl)))

theorem once_some (l : List Int) (hn : l.length ≤ 4000000000000000) (i h : Int) (hc : Cur l i) (n : Int) (h1 : 1 ≤ n) (h2 : n ≤ 256) : ∃ (b : Bool) (i' h' : Int), spec_l1Once.f l i h n = some (b, i', h') ∧ Cur l i' := by
  unfold spec_l1Once.f
  obtain ⟨x, i', h', e, hx, hc'⟩ := below_some l hn i h hc n h1 (by omega)
  rw [e]
  exact ⟨_, _, _, rfl, hc'⟩

theorem int_some (l : List Int) (hn : l.length ≤ 4000000000000000) (i h : Int) (hc : Cur l i) (ls : List Int) (h1 : 1 ≤ ls.length) (h2 : ls.length ≤ 1000) : ∃ x i' h', spec_l1Int.f l i h ls = some (x, i', h') ∧ x ∈ ls ∧ Cur l i' := by
  unfold spec_l1Int.f
  obtain ⟨x, i', h', e, hx, hc'⟩ := below_some l hn i h hc (ls.length : Int) (by omega) (by omega)
  rw [e]
  simp only [Option.bind_some]
  rw [if_pos hx.1, if_pos hx.2]
  obtain ⟨j, rfl⟩ := Int.eq_ofNat_of_zero_le hx.1
  refine ⟨_, _, _, rfl, ?_, hc'⟩
  rw [rd_nat]
  exact rd_mem (by omega)

def Syms (l : List Int) : Prop := ∀ x ∈ l, 0 ≤ x ∧ x ≤ 2
/-- Drawn symbols: a code word of at most eleven bits, some of its symbols turned; sometimes one element behind it. -/
theorem l6_loop (L : List Int) (hL : L.length ≤ 4000000000000000) : ∀ (d : Nat) (x3 : List Int) (i h : Int), d ≤ 1000 → 4 ≤ x3.length → x3.length ≤ 26 → Syms x3 → Cur L i →
    ∃ (r : List Int) (i' h' : Int), Ev (fun k => spec_l6Symbols.l0 k x3 d L i h) (r, i', h') ∧ r.length ≤ 27 ∧ (r.length = x3.length ∧ Syms r ∨ r.length = x3.length + 1) ∧ (∀ x ∈ r, -1 ≤ x ∧ x ≤ 3) := by
  intro d
  induction d with
  | zero =>
    intro x3 i h hd h4 h26 hs hc
    have hm : ∀ x ∈ x3, -1 ≤ x ∧ x ≤ 3 := fun x hx => by have := hs x hx; omega
    obtain ⟨b, i1, h1, e1, hc1⟩ := once_some L hL i h hc 8 (by omega) (by omega)
    cases b with
    | false => exact ⟨x3, i1, h1, ev1 (evn (by omega) (evs e1 (evn (by simp) (evc rfl)))), by omega, .inl ⟨rfl, hs⟩, hm⟩
    | true =>
      obtain ⟨v, i2, h2, e2, hv, hc2⟩ := int_some L hL i1 h1 hc1 [(-1), 0, 3] (by decide) (by decide)
      refine ⟨x3 ++ [v], i2, h2, ev1 (evn (by omega) (evs e1 (evp rfl (evs e2 (evp (by omega) (evc rfl)))))), by simp; omega, .inr (by simp), ?_⟩
      intro x hx
      rw [List.mem_append, List.mem_singleton] at hx
      rcases hx with hx | rfl
      · exact hm x hx
      · simp at hv
        omega
  | succ d ih =>
    intro x3 i h hd h4 h26 hs hc
    obtain ⟨j, i1, h1, e1, hj, hc1⟩ := below_some L hL i h hc (x3.length : Int) (by omega) (by omega)
    obtain ⟨v, i2, h2, e2, hv, hc2⟩ := below_some L hL i1 h1 hc1 3 (by omega) (by omega)
    obtain ⟨r, i', h', e, p1, p2, p3⟩ := ih (x3.set j.toNat v) i2 h2 (by omega) (by simpa using h4) (by simpa using h26) (by
      intro x hx
      rcases List.mem_or_eq_of_mem_set hx with hx | rfl
      · exact hs x hx
      · omega) hc2
    refine ⟨r, i', h', ev1 (evp (by omega) (evs e1 (evs e2 (evp hj.1 (evp hj.2 ?_))))), p1, by simpa using p2, p3⟩
    rw [show ((d + 1 : Nat) : Int) - 1 = (d : Int) by omega, w64s (n := (d : Int)) (by omega) (by omega)]
    exact e
theorem l6_ev (L : List Int) (hL : L.length ≤ 4000000000000000) (i h : Int) (hc : Cur L i) :
    ∃ (r : List Int) (i' h' : Int), Ev (fun k => spec_l6Symbols.f k L i h) (r, i', h') ∧ 4 ≤ r.length ∧ r.length ≤ 27 ∧ (∀ x ∈ r, -1 ≤ x ∧ x ≤ 3) := by
  unfold spec_l6Symbols.f
  obtain ⟨n, i1, h1, e1, hn, hc1⟩ := below_some L hL i h hc 12 (by omega) (by omega)
  obtain ⟨n, rfl⟩ := Int.eq_ofNat_of_zero_le hn.1
  obtain ⟨b, i2, h2, e2, hb, hbb, hc2⟩ := l4_ev L hL i1 h1 hc1 n (by omega)
  have e3 := sconv_ev b hbb (by omega)
  obtain ⟨m, i4, h4, e4, hm, hc4⟩ := below_some L hL i2 h2 hc2 4 (by omega) (by omega)
  obtain ⟨m, rfl⟩ := Int.eq_ofNat_of_zero_le hm.1
  have hl := conv_length b
  obtain ⟨r, i5, h5, e5, p1, p2, p3⟩ := l6_loop L hL m (conv b) i4 h4 (by omega) (by omega) (by omega) (fun x hx => by
    have := convGo_bits (b ++ [0, 0]) 0 x hx
    omega) hc4
  exact ⟨r, i5, h5, evs e1 (Ev.bind e2 (Ev.bind e3 (evs e4 e5))), by omega, p1, p3⟩

theorem law_loop (l p x : List Int) (hn : l.length ≤ 27) (hx : x.length = l.length) (hp : p.length = l.length - l.length / 4) (hat : ∀ q, q < l.length → x.getD q 0 = if q % 4 = 3 then 2 else l.getD q 0) :
    ∀ (d i : Nat), i + d = l.length → Ev (fun k => laws_FnPuncturing.l0 k l p x i) true := by
  intro d
  induction d with
  | zero =>
    intro i hi
    refine ev1 (evn (by omega) ?_)
    rw [show wrap64 ((l.length : Int) + 4) = ((l.length + 4 : Nat) : Int) by rw [w64s (by omega) (by omega)]; omega]
    exact Ev.bind (depunct_bad p (l.length + 4) (by omega) (by omega)) (evc rfl)
  | succ d ih =>
    intro i hi
    refine ev1 (evp (by omega) ?_)
    have ha := hat i (by omega)
    rw [tmod4, w64s (n := (i : Int) + 1) (by omega) (by omega), rd_nat, rd_nat]
    by_cases h : i % 4 = 3
    · rw [if_pos h] at ha
      exact evp (by omega) (evp (by omega) (evp (by omega) (evp ha (ih (i + 1) (by omega)))))
    · rw [if_neg h] at ha
      exact evn (by omega) (evp (by omega) (evp (by omega) (evp ha (ih (i + 1) (by omega)))))
theorem FnPuncturing : laws_FnPuncturing.Pure := by
  intro L hm hs hw
  refine Ev.rounds (r := true) ?_
  unfold laws_FnPuncturing.f
  refine evs (show laws_big.f L = some _ from rfl) ?_
  by_cases hbig : (L.length : Int) > 1048576
  · exact evp (by simpa using hbig) (evc rfl)
  refine evn (by simpa using hbig) ?_
  have hL : L.length ≤ 4000000000000000 := by omega
  obtain ⟨h0, e0⟩ := new_ev L hL
  obtain ⟨l, i1, h1, e1, l4, l27, _⟩ := l6_ev L hL 0 h0 ⟨by omega, by omega⟩
  have ed : Ev (fun k => spec_DrawPuncture.f k L) l := by
    unfold spec_DrawPuncture.f
    exact Ev.bind e0 (Ev.bind e1 (evc rfl))
  have hlen : (punctGo 0 l).length = l.length - l.length / 4 := by
    have := punctGo_length l 0
    simp at this
    omega
  refine Ev.bind ed (Ev.bind (punct_ev l (by omega)) (Ev.bind (depunct_ev (punctGo 0 l) l.length (by omega) hlen) (evs (plen_some l.length (by omega)) (evp (by rw [hlen]) ?_))))
  have e : (((depunct (punctGo 0 l) 0 0 l.length).length : Int) != (l.length : Int)) = false := by
    rw [depunct_length]
    simp
  rw [e]
  exact ev1 (law_loop l (punctGo 0 l) _ l27 (depunct_length _ _ _ _) hlen (fun q hq => roundtrip l q hq) l.length 0 (by omega))

end Go.Proofs.Ytmmgjhffjmdhhaa.Pure
