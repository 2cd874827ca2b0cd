/-
  A header is decoded although one of its symbols was inverted, at every drawn header and every place.
  Conditions: none beyond the given statement's own.
-/
import Derived.Test.YtmmgjhffjmdhhaaPFnHeaderErrorsx5
set_option linter.unusedVariables false
set_option linter.unusedSimpArgs false
namespace Go.Proofs.Ytmmgjhffjmdhhaa.Pure
open Go.RowKit Go.Proofs.Ytmmgjhffjmdhhaa.PFnHeaderErrors Go.Proofs.YtmmgjhffjmdhhaaW.PrintWords Go.Proofs.YtmmgjhffjmdhhaaW.PrintLast Go.Proofs.YtmmgjhffjmdhhaaW.PrintMore

theorem evp {α : Type} {c : Prop} [Decidable c] {A B : Nat → Option α} {r : α} (hc : c) (h : Ev A r) : Ev (fun k => if c then A k else B k) r :=
  Ev.congr (fun k => if_pos hc) h
theorem evn {α : Type} {c : Prop} [Decidable c] {A B : Nat → Option α} {r : α} (hc : ¬ c) (h : Ev B r) : Ev (fun k => if c then A k else B k) r :=
  Ev.congr (fun k => if_neg hc) h
theorem evs {α β : Type} {g : Option α} {a : α} {f : Nat → α → Option β} {r : β} (hg : g = some a) (h : Ev (fun k => f k a) r) : Ev (fun k => g.bind (f k)) r :=
  Ev.congr (fun k => by rw [hg]; rfl) h
theorem evc {α : Type} {g : Option α} {r : α} (h : g = some r) : Ev (fun _ => g) r := ⟨0, fun _ _ => h⟩
theorem ev_eq {α : Type} {g : Nat → Option α} {r r' : α} (h : Ev g r) (e : r = r') : Ev g r' := e ▸ h
theorem w64 {n : Int} (h0 : -9223372036854775808 ≤ n) (h1 : n ≤ 9223372036854775807) : wrap64 n = n := by
  unfold wrap64
  omega
theorem w64s {n : Int} (h0 : -1000000000000000000 ≤ n) (h1 : n ≤ 1000000000000000000) : wrap64 n = n := w64 (by omega) (by omega)
theorem ev1 {α : Type} {g : Nat → Option α} {r : α} (h : Ev (fun k => g (k + 1)) r) : Ev g r := Ev.step (fun _ => rfl) h
theorem dt {p : Prop} [Decidable p] (h : p) : decide p = true := decide_eq_true h
theorem dnt {p : Prop} [Decidable p] (h : ¬ p) : ¬ (decide p = true) := by simp [h]
theorem ntd {p : Prop} [Decidable p] (h : ¬ p) : (!decide p) = true := by simp [h]
theorem ntt {p : Prop} [Decidable p] (h : p) : ¬ ((!decide p) = true) := by simp [h]
theorem evk {α : Type} {g : Nat → Option α} {r : α} (h : ∀ k, g k = some r) : Ev g r := ⟨0, fun k _ => h k⟩
theorem dec_iff {p q : Prop} [Decidable p] [Decidable q] (h : p ↔ q) : decide p = decide q := by
  by_cases hq : q
  · rw [decide_eq_true hq, decide_eq_true (h.2 hq)]
  · rw [decide_eq_false hq, decide_eq_false (fun hp => hq (h.1 hp))]

theorem rd_nat (l : List Int) (i : Nat) : rd l (i : Int) = l.getD i 0 := by
  unfold rd
  rw [Int.toNat_natCast]
theorem rd_mem {l : List Int} {i : Nat} (h : i < l.length) : l.getD i 0 ∈ l := by
  rw [List.getD_eq_getElem?_getD, List.getElem?_eq_getElem h]
  exact List.getElem_mem h
theorem list_ext {a b : List Int} (hl : a.length = b.length) (h : ∀ i, i < a.length → a.getD i 0 = b.getD i 0) : a = b := by
  apply List.ext_getElem hl
  intro i h1 h2
  have := h i h1
  rw [List.getD_eq_getElem?_getD, List.getD_eq_getElem?_getD, List.getElem?_eq_getElem h1, List.getElem?_eq_getElem h2] at this
  simpa using this
theorem getD_set (l : List Int) (i j : Nat) (v : Int) : (l.set i v).getD j 0 = if i = j ∧ j < l.length then v else l.getD j 0 := by
  rw [List.getD_eq_getElem?_getD, List.getElem?_set, List.getD_eq_getElem?_getD]
  by_cases h : i = j
  · subst h
    by_cases h2 : i < l.length
    · simp [h2]
    · simp [h2]
  · simp [h]

def outX (s b : Int) : Int := (b + s % 2 + s / 2) % 2
def outY (s b : Int) : Int := (b + s / 2) % 2
def nxt (s b : Int) : Int := (2 * s + b) % 4
def convGo : Int → List Int → List Int
  | _, [] => []
  | s, b :: r => outX s b :: outY s b :: convGo (nxt s b) r
def conv (l : List Int) : List Int := convGo 0 (l ++ [0, 0])
def Bits (l : List Int) : Prop := ∀ x ∈ l, x = 0 ∨ x = 1
theorem convGo_length : ∀ (l : List Int) (s : Int), (convGo s l).length = 2 * l.length
  | [], _ => rfl
  | b :: r, s => by
    simp only [convGo, List.length_cons, convGo_length r]
    omega
theorem conv_length (l : List Int) : (conv l).length = 2 * l.length + 4 := by
  unfold conv
  rw [convGo_length]
  simp
  omega
theorem nxt_range (s b : Int) : 0 ≤ nxt s b ∧ nxt s b ≤ 3 := by unfold nxt; omega
theorem out_bits (s b : Int) : (outX s b = 0 ∨ outX s b = 1) ∧ (outY s b = 0 ∨ outY s b = 1) := by unfold outX outY; omega
theorem convGo_bits : ∀ (l : List Int) (s : Int), Bits (convGo s l)
  | [], _ => by intro x hx; simp [convGo] at hx
  | b :: r, s => by
    intro x hx
    simp only [convGo, List.mem_cons] at hx
    rcases hx with rfl | rfl | hx
    · exact (out_bits s b).1
    · exact (out_bits s b).2
    · exact convGo_bits r _ x hx
theorem drop_getD (L : List Int) (i : Nat) (h : i < L.length) : L.drop i = L.getD i 0 :: L.drop (i + 1) := by
  rw [List.drop_eq_getElem_cons h, List.getD_eq_getElem?_getD, List.getElem?_eq_getElem h]
  rfl
theorem pad_getD (l : List Int) (i : Nat) : (l ++ [0, 0]).getD i 0 = if i < l.length then l.getD i 0 else 0 := by
  simp only [List.getD_eq_getElem?_getD, List.getElem?_append]
  by_cases h : i < l.length
  · simp [h]
  · rw [if_neg h, if_neg h]
    rcases Nat.lt_or_ge (i - l.length) 2 with h2 | h2
    · have : i - l.length = 0 ∨ i - l.length = 1 := by omega
      rcases this with e | e <;> rw [e] <;> rfl
    · rw [List.getElem?_eq_none (by simpa using h2)]
      rfl
theorem bits_getD {l : List Int} (h : Bits l) (i : Nat) : l.getD i 0 = 0 ∨ l.getD i 0 = 1 := by
  rw [List.getD_eq_getElem?_getD]
  cases e : l[i]? with
  | none => exact .inl rfl
  | some v => exact h v (List.mem_of_getElem? e)

def ones : List Int → Int
  | [] => 0
  | x :: r => (if x = 1 then 1 else 0) + ones r
theorem ones_range : ∀ (l : List Int), 0 ≤ ones l ∧ ones l ≤ l.length
  | [] => by simp [ones]
  | x :: r => by
    have := ones_range r
    simp only [ones, List.length_cons]
    split <;> omega
theorem weight_loop (l : List Int) (hn : l.length ≤ 1000000000) : ∀ (d i : Nat) (m : Int), i + d = l.length → 0 ≤ m ∧ m ≤ i → Ev (fun k => impl_Weight.l0 k m l l.length i) (m + ones (l.drop i)) := by
  intro d
  induction d with
  | zero =>
    intro i m hi hm
    rw [List.drop_of_length_le (by omega)]
    exact ev1 (evn (by omega) (evc (by simp [ones])))
  | succ d ih =>
    intro i m hi hm
    refine ev1 (evp (by omega) (evp (by omega) (evp (by omega) ?_)))
    rw [drop_getD l i (by omega), ones, rd_nat, w64s (n := (i : Int) + 1) (by omega) (by omega), w64s (n := m + 1) (by omega) (by omega)]
    by_cases h : l.getD i 0 = 1
    · rw [if_pos h]
      exact evp h (ev_eq (ih (i + 1) (m + 1) (by omega) (by omega)) (by omega))
    · rw [if_neg h]
      exact evn h (ev_eq (ih (i + 1) m (by omega) (by omega)) (by omega))
theorem weight_ev (l : List Int) (hn : l.length ≤ 1000000000) : Ev (fun k => impl_Weight.f k l) (ones l) := by
  refine ev_eq (weight_loop l hn l.length 0 0 (by omega) (by omega)) ?_
  simp

def itbAt (n : Int) (i : Nat) : Int := Go.bits .and .i64 (shr .i64 n (i : Int)) 1
def itb (n : Int) (c : Nat) : List Int := (List.range' 0 c).map (itbAt n)
def btiGo : Int → Nat → List Int → Int
  | acc, _, [] => acc
  | acc, i, b :: r => btiGo (Go.bits .or .i64 acc (shl .i64 b (i : Int))) (i + 1) r
def bti (l : List Int) : Int := btiGo 0 0 l
theorem and1 (x : Int) : Go.bits .and .i64 x 1 = 0 ∨ Go.bits .and .i64 x 1 = 1 := by
  have h : ∀ n : Nat, n ≤ 1 → IntKind.i64.wrap (n : Int) = n := by
    intro n hn
    rw [IntKind.wrap_i64]
    omega
  have e : Go.bits .and .i64 x 1 = IntKind.i64.wrap ((BitVec.ofInt 64 x &&& BitVec.ofInt 64 1).toNat : Int) := rfl
  have hle : (BitVec.ofInt 64 x &&& BitVec.ofInt 64 1).toNat ≤ 1 := by
    rw [BitVec.toNat_and]
    exact Nat.and_le_right
  rw [e, h _ hle]
  omega
theorem itb_bits (n : Int) (c : Nat) : Bits (itb n c) := by
  intro x hx
  simp only [itb, List.mem_map] at hx
  obtain ⟨i, _, rfl⟩ := hx
  exact and1 _
theorem itb_length (n : Int) (c : Nat) : (itb n c).length = c := by simp [itb]
theorem round2 : ((List.range 4).all fun n => bti (itb (n : Int) 2) == (n : Int)) = true := by decide +kernel
theorem round8 : ((List.range 256).all fun n => bti (itb (n : Int) 8) == (n : Int)) = true := by decide +kernel
theorem round7 : ((List.range 128).all fun n => bti (itb (n : Int) 7) == (n : Int)) = true := by decide +kernel
theorem round_of {m c : Nat} (h : ((List.range m).all fun n => bti (itb (n : Int) c) == (n : Int)) = true) (n : Int) (h0 : 0 ≤ n ∧ n < m) : bti (itb n c) = n := by
  rw [List.all_eq_true] at h
  have := h n.toNat (by rw [List.mem_range]; omega)
  rw [show ((n.toNat : Nat) : Int) = n by omega] at this
  simpa using this
/-- The bit that two of three symbols say. -/
def majAt (l : List Int) (i : Nat) : Int := if ones [l.getD i 0, l.getD (i + 18) 0, l.getD (i + 36) 0] ≥ 2 then 1 else 0
def majL (l : List Int) : List Int := (List.range' 0 18).map (majAt l)
theorem majL_length (l : List Int) : (majL l).length = 18 := by simp [majL]
theorem majAt_bit (l : List Int) (i : Nat) : majAt l i = 0 ∨ majAt l i = 1 := by
  unfold majAt
  split <;> simp
theorem majL_bits (l : List Int) : Bits (majL l) := by
  intro x hx
  simp only [majL, List.mem_map] at hx
  obtain ⟨i, _, rfl⟩ := hx
  exact majAt_bit l i
theorem majL_at (l : List Int) (i : Nat) (h : i < 18) : (majL l).getD i 0 = majAt l i := by
  simp [majL, List.getD_eq_getElem?_getD, List.getElem?_map, List.getElem?_range' h]
theorem ones_append : ∀ (a b : List Int), ones (a ++ b) = ones a + ones b
  | [], b => by simp [ones]
  | x :: a, b => by
    simp only [List.cons_append, ones]
    rw [ones_append a b]
    omega
/-- What a header's bits come to. -/
def hdrV (b : List Int) : Int × Int × Int × Bool :=
  if Int.tmod (ones b) 2 = 0 ∧ ((1 ≤ bti (b.take 2) ∧ bti (b.take 2) ≤ 2) ∧ (0 ≤ bti ((b.take 10).drop 2) ∧ bti ((b.take 10).drop 2) ≤ 120) ∧ (1 ≤ bti ((b.take 17).drop 10) ∧ bti ((b.take 17).drop 10) ≤ 127)) then
    (bti (b.take 2), bti ((b.take 10).drop 2), bti ((b.take 17).drop 10), true) else (0, 0, 0, false)
theorem bits_take {b : List Int} (h : Bits b) (m n : Nat) : Bits ((b.take m).drop n) := fun x hx => h x (List.mem_of_mem_take (List.mem_of_mem_drop hx))

theorem ibits_loop (l : List Int) (hn : l.length ≤ 4000000000000000) : ∀ (d i : Nat), i + d = l.length → Ev (fun k => impl_IsBitString.l0 k l l.length i) ((l.drop i).all fun x => decide (x = 0 ∨ x = 1)) := by
  intro d
  induction d with
  | zero =>
    intro i hi
    rw [List.drop_of_length_le (by omega)]
    exact ev1 (evn (by omega) (evc rfl))
  | succ d ih =>
    intro i hi
    refine ev1 (evp (by omega) (evp (by omega) (evp (by omega) ?_)))
    rw [drop_getD l i (by omega), List.all_cons, rd_nat, w64s (n := (i : Int) + 1) (by omega) (by omega)]
    by_cases h0 : l.getD i 0 = 0
    · rw [decide_eq_true (Or.inl h0), Bool.true_and]
      exact evp h0 (ih (i + 1) (by omega))
    · refine evn h0 ?_
      by_cases h1 : l.getD i 0 = 1
      · rw [decide_eq_true (Or.inr h1), Bool.true_and]
        exact evp h1 (ih (i + 1) (by omega))
      · rw [decide_eq_false (by omega), Bool.false_and]
        exact evn h1 (evc rfl)
theorem ibits_ev (l : List Int) (hn : l.length ≤ 4000000000000000) : Ev (fun k => impl_IsBitString.f k l) (l.all fun x => decide (x = 0 ∨ x = 1)) := ibits_loop l hn l.length 0 (by omega)
theorem ibits_all {l : List Int} (h : Bits l) : (l.all fun x => decide (x = 0 ∨ x = 1)) = true := by
  rw [List.all_eq_true]
  intro x hx
  exact decide_eq_true (h x hx)
theorem iall_bits {l : List Int} (h : (l.all fun x => decide (x = 0 ∨ x = 1)) = true) : Bits l := by
  intro x hx
  rw [List.all_eq_true] at h
  exact of_decide_eq_true (h x hx)

theorem in_some (x a b : Int) : impl_InRange.f x a b = some (decide (a ≤ x ∧ x ≤ b)) := by
  unfold impl_InRange.f
  by_cases h : a ≤ x <;> simp [h]

theorem valid_some (a b c : Int) : impl_IsValidHeader.f a b c = some (decide ((1 ≤ a ∧ a ≤ 2) ∧ (0 ≤ b ∧ b ≤ 120) ∧ (1 ≤ c ∧ c ≤ 127))) := by
  unfold impl_IsValidHeader.f
  simp only [in_some, Option.bind_some]
  by_cases h1 : 1 ≤ a ∧ a ≤ 2 <;> by_cases h2 : 0 ≤ b ∧ b ≤ 120 <;> simp [h1, h2]

theorem iparity_ev (l : List Int) (hn : l.length ≤ 1000) : Ev (fun k => impl_Parity.f k l) (Int.tmod (ones l) 2) := by
  unfold impl_Parity.f
  exact Ev.bind (weight_ev l (by omega)) (evc rfl)

theorem ibti_loop (l : List Int) (hn : l.length ≤ 40) : ∀ (d i : Nat) (acc : Int), i + d = l.length → Ev (fun k => impl_BitsToInt.l0 k acc l l.length i) (btiGo acc i (l.drop i)) := by
  intro d
  induction d with
  | zero =>
    intro i acc hi
    rw [List.drop_of_length_le (by omega)]
    exact ev1 (evn (by omega) (evc rfl))
  | succ d ih =>
    intro i acc hi
    refine ev1 (evp (by omega) (evp (by omega) (evp (by omega) ?_)))
    rw [drop_getD l i (by omega), btiGo, rd_nat, w64s (n := (i : Int) + 1) (by omega) (by omega)]
    exact ih (i + 1) _ (by omega)
theorem ibti_ev (l : List Int) (hb : Bits l) (hn : l.length ≤ 40) : Ev (fun k => impl_BitsToInt.f k l) (bti l) := by
  unfold impl_BitsToInt.f
  have h := ibits_ev l (by omega)
  rw [ibits_all hb] at h
  refine Ev.bind h (evp rfl ?_)
  rw [decide_eq_false (by omega)]
  refine ev1 ?_
  exact ibti_loop l hn l.length 0 0 (by omega)
theorem ihdr_end (l : List Int) (x : List Int) (hx : x = majL l) : Ev (fun k => impl_DecodeHeader.l0 k l x 18 18) (hdrV (majL l)) := by
  subst hx
  have hl := majL_length l
  have hb := majL_bits l
  have e1 := ibti_ev ((majL l).take 2) (fun z hz => hb z (List.mem_of_mem_take hz)) (by simp; omega)
  have e2 := ibti_ev (((majL l).take 10).drop 2) (bits_take hb _ _) (by simp; omega)
  have e3 := ibti_ev (((majL l).take 17).drop 10) (bits_take hb _ _) (by simp; omega)
  have e4 := iparity_ev (majL l) (by omega)
  unfold hdrV
  generalize bti ((majL l).take 2) = a at *
  generalize bti (((majL l).take 10).drop 2) = b at *
  generalize bti (((majL l).take 17).drop 10) = c at *
  refine ev1 (evn (by decide) (evp (by omega) (Ev.bind e1 (evp (by decide) (evp (by omega) (Ev.bind e2 (evp (by decide) (evp (by omega) (Ev.bind e3 (Ev.bind e4 ?_))))))))))
  by_cases h1 : Int.tmod (ones (majL l)) 2 = 0
  · by_cases h2 : (1 ≤ a ∧ a ≤ 2) ∧ (0 ≤ b ∧ b ≤ 120) ∧ (1 ≤ c ∧ c ≤ 127)
    · exact ev_eq (evp h1 (evs (valid_some a b c) (evp (dt h2) (evc rfl)))) (if_pos ⟨h1, h2⟩).symm
    · exact ev_eq (evp h1 (evs (valid_some a b c) (evn (dnt h2) (evc rfl)))) (if_neg (fun h => h2 h.2)).symm
  · exact ev_eq (evn h1 (evc rfl)) (if_neg (fun h => h1 h.1)).symm
theorem ihdr_loop (l : List Int) (hl : l.length = 54) : ∀ (d i : Nat) (x : List Int), i + d = 18 → x.length = 18 → (∀ j, j < i → x.getD j 0 = majAt l j) → (∀ j, i ≤ j → x.getD j 0 = 0) →
    Ev (fun k => impl_DecodeHeader.l0 k l x 18 i) (hdrV (majL l)) := by
  intro d
  induction d with
  | zero =>
    intro i x hi hx h1 h2
    have he : x = majL l := list_ext (by rw [hx, majL_length]) (fun j hj => by rw [h1 j (by omega), majL_at l j (by omega)])
    have := ihdr_end l x he
    rw [show i = 18 by omega]
    exact this
  | succ d ih =>
    intro i x hi hx h1 h2
    have w1 : wrap64 ((i : Int) + 18) = ((i + 18 : Nat) : Int) := by rw [w64s (by omega) (by omega)]; omega
    have w2 : wrap64 ((i : Int) + 36) = ((i + 36 : Nat) : Int) := by rw [w64s (by omega) (by omega)]; omega
    refine ev1 (evp (by omega) (evp (by omega) (evp (by omega) (evp (by rw [w1]; omega) (evp (by rw [w1]; omega) (evp (by rw [w2]; omega) (evp (by rw [w2]; omega) ?_)))))))
    rw [w1, w2, rd_nat, rd_nat, rd_nat, w64s (n := (i : Int) + 1) (by omega) (by omega)]
    refine Ev.bind (weight_ev _ (by simp)) ?_
    by_cases h : ones [l.getD i 0, l.getD (i + 18) 0, l.getD (i + 36) 0] ≥ 2
    · refine evp h (evp (by omega) (ih (i + 1) (x.set i 1) (by omega) (by simpa using hx) ?_ ?_))
      · intro j hj
        rw [getD_set]
        by_cases e : i = j
        · subst e
          rw [if_pos ⟨rfl, by omega⟩]
          unfold majAt
          rw [if_pos h]
        · rw [if_neg (fun q => e q.1)]
          exact h1 j (by omega)
      · intro j hj
        rw [getD_set, if_neg (fun q => by omega)]
        exact h2 j (by omega)
    · refine evn h (ih (i + 1) x (by omega) hx ?_ (fun j hj => h2 j (by omega)))
      intro j hj
      by_cases e : j = i
      · rw [e, h2 i (by omega)]
        unfold majAt
        rw [if_neg h]
      · exact h1 j (by omega)
theorem ihdr_ev (l : List Int) (hl : l.length = 54) : Ev (fun k => impl_DecodeHeader.f k l) (hdrV (majL l)) := by
  unfold impl_DecodeHeader.f
  refine evp (by omega) (evp (by decide) (evs rfl ?_))
  exact ihdr_loop l hl 18 0 (List.replicate 18 0) (by omega) (by simp) (fun j hj => by omega) (fun j hj => by
    rw [List.getD_eq_getElem?_getD, List.getElem?_replicate]
    split <;> rfl)
theorem ihdr_bad (l : List Int) (hl : l.length ≠ 54) : Ev (fun k => impl_DecodeHeader.f k l) (0, 0, 0, false) := by
  unfold impl_DecodeHeader.f
  exact evn (by omega) (evc rfl)

theorem take_set_next (x : List Int) (i : Nat) (v : Int) (h : i < x.length) : (x.set i v).take (i + 1) = x.take i ++ [v] := by
  rw [List.take_add_one, List.take_set_of_le (by omega)]
  simp [h]
theorem itb_loop (n : Int) (c : Nat) (hc : c ≤ 40) : ∀ (d i : Nat) (x : List Int), i + d = c → x.length = c → Ev (fun k => impl_IntToBits.l0 k n x c i) (x.take i ++ (List.range' i d).map (itbAt n)) := by
  intro d
  induction d with
  | zero =>
    intro i x hi hx
    rw [List.take_of_length_le (by omega)]
    exact ev1 (evn (by omega) (evc (by simp)))
  | succ d ih =>
    intro i x hi hx
    refine ev1 (evp (by omega) (evp (by omega) (evp (by omega) ?_)))
    rw [w64s (n := (i : Int) + 1) (by omega) (by omega), Int.toNat_natCast, List.range'_succ, List.map_cons]
    have h := ih (i + 1) (x.set i (itbAt n i)) (by omega) (by simpa using hx)
    rw [take_set_next x i _ (by omega), List.append_assoc] at h
    exact h
theorem itb_ev (n : Int) (c : Nat) (hc : c ≤ 40) (hn : 0 ≤ n) : Ev (fun k => impl_IntToBits.f k n c) (itb n c) := by
  unfold impl_IntToBits.f
  refine evn (by omega) (evs (in_some _ _ _) ?_)
  rw [decide_eq_true (by omega)]
  refine ev1 (evp (by omega) (evs rfl ?_))
  rw [show (((List.replicate (c : Int).toNat (0 : Int)).length : Nat) : Int) = (c : Int) by simp]
  have h := itb_loop n c hc c 0 (List.replicate (c : Int).toNat 0) (by omega) (by simp)
  rw [List.take_zero, List.nil_append] at h
  exact h

def hbits (r n s : Int) : List Int := (itb r 2 ++ itb n 8) ++ itb s 7
def hword (r n s : Int) : List Int := hbits r n s ++ [Int.tmod (ones (hbits r n s)) 2]
theorem hbits_length (r n s : Int) : (hbits r n s).length = 17 := by simp [hbits, itb_length]
theorem hword_length (r n s : Int) : (hword r n s).length = 18 := by simp [hword, hbits_length]
theorem hbits_bits (r n s : Int) : Bits (hbits r n s) := by
  intro x hx
  simp only [hbits, List.mem_append] at hx
  rcases hx with (hx | hx) | hx
  · exact itb_bits _ _ x hx
  · exact itb_bits _ _ x hx
  · exact itb_bits _ _ x hx
theorem hword_bits (r n s : Int) : Bits (hword r n s) := by
  intro x hx
  simp only [hword, List.mem_append, List.mem_singleton] at hx
  rcases hx with hx | rfl
  · exact hbits_bits r n s x hx
  · have := ones_range (hbits r n s)
    rw [Int.tmod_eq_emod_of_nonneg this.1]
    omega

theorem enc_ev (r n s : Int) (h : (1 ≤ r ∧ r ≤ 2) ∧ (0 ≤ n ∧ n ≤ 120) ∧ (1 ≤ s ∧ s ≤ 127)) : Ev (fun k => impl_EncodeHeader.f k r n s) (hword r n s ++ hword r n s ++ hword r n s) := by
  unfold impl_EncodeHeader.f
  have hl := hbits_length r n s
  have hw := hword_length r n s
  refine evs (valid_some r n s) (evp (dt h) (Ev.bind (itb_ev r 2 (by omega) (by omega)) (Ev.bind (itb_ev n 8 (by omega) (by omega)) (evp (by rw [itb_length, itb_length]; omega) (evs rfl (Ev.bind (itb_ev s 7 (by omega) (by omega)) (evp (by simp [itb_length]) (evs rfl ?_))))))))
  refine Ev.bind (iparity_ev (hbits r n s) (by omega)) (evp (by simp [itb_length]) (evp (by decide) ?_))
  show Ev (fun k => impl_EncodeHeader.l0 k (hword r n s) [] 0) _
  have w : ∀ i : Nat, i ≤ 10 → wrap64 ((i : Int) + 1) = ((i + 1 : Nat) : Int) := fun i hi => by rw [w64s (by omega) (by omega)]; omega
  have h3 : Ev (fun k => impl_EncodeHeader.l0 k (hword r n s) (hword r n s ++ hword r n s ++ hword r n s) ((3 : Nat) : Int)) (hword r n s ++ hword r n s ++ hword r n s) :=
    ev1 (evn (by decide) (evc rfl))
  have h2 : Ev (fun k => impl_EncodeHeader.l0 k (hword r n s) (hword r n s ++ hword r n s) ((2 : Nat) : Int)) (hword r n s ++ hword r n s ++ hword r n s) := by
    refine ev1 (evp (by decide) (evp (by simp; omega) ?_))
    rw [w 2 (by omega)]
    exact h3
  have h1 : Ev (fun k => impl_EncodeHeader.l0 k (hword r n s) (hword r n s) ((1 : Nat) : Int)) (hword r n s ++ hword r n s ++ hword r n s) := by
    refine ev1 (evp (by decide) (evp (by omega) ?_))
    rw [w 1 (by omega)]
    exact h2
  refine ev1 (evp (by decide) (evp (by simp; omega) ?_))
  have e0 := w 0 (by omega)
  rw [show ((0 : Nat) : Int) + 1 = (0 : Int) + 1 from rfl] at e0
  rw [e0, List.nil_append]
  exact h1
theorem enc_bad (r n s : Int) (h : ¬ ((1 ≤ r ∧ r ≤ 2) ∧ (0 ≤ n ∧ n ≤ 120) ∧ (1 ≤ s ∧ s ≤ 127))) : Ev (fun k => impl_EncodeHeader.f k r n s) [] := by
  unfold impl_EncodeHeader.f
  exact evs (valid_some r n s) (evn (dnt h) (evc rfl))

theorem l1_some (x a b : Int) : spec_l1In.f x a b = some (decide (a ≤ x ∧ x ≤ b)) := by
  unfold spec_l1In.f
  by_cases h : a ≤ x <;> simp [h]

theorem svalid_some (a b c : Int) : spec_IsValidHeader.f a b c = some (decide ((1 ≤ a ∧ a ≤ 2) ∧ (0 ≤ b ∧ b ≤ 120) ∧ (1 ≤ c ∧ c ≤ 127))) := by
  unfold spec_IsValidHeader.f
  simp only [l1_some, Option.bind_some]
  by_cases h1 : 1 ≤ a ∧ a ≤ 2 <;> by_cases h2 : 0 ≤ b ∧ b ≤ 120 <;> simp [h1, h2]

theorem and255 (x : Int) : 0 ≤ Go.bits .and .i64 x 255 ∧ Go.bits .and .i64 x 255 ≤ 255 := by
  have h : ∀ n : Nat, n ≤ 255 → IntKind.i64.wrap (n : Int) = n := by
    intro n hn
    rw [IntKind.wrap_i64]
    omega
  have e : Go.bits .and .i64 x 255 = IntKind.i64.wrap ((BitVec.ofInt 64 x &&& BitVec.ofInt 64 255).toNat : Int) := rfl
  have hle : (BitVec.ofInt 64 x &&& BitVec.ofInt 64 255).toNat ≤ 255 := by
    rw [BitVec.toNat_and]
    exact Nat.and_le_right
  rw [e, h _ hle]
  omega
/-- The draw's cursor lies within the code. -/
def Cur (l : List Int) (i : Int) : Prop := 0 ≤ i ∧ i ≤ l.length
theorem new_loop (x : List Int) (hn : x.length ≤ 4000000000000000) : ∀ (d i : Nat) (h : Int), i + d = x.length → ∃ h', Ev (fun k => spec_l1New.l0 k x h i) (x, 0, h') := by
  intro d
  induction d with
  | zero =>
    intro i h hi
    exact ⟨h, ev1 (evn (by omega) (evc rfl))⟩
  | succ d ih =>
    intro i h hi
    by_cases h4 : (i : Int) < 4000
    · obtain ⟨h', hh⟩ := ih (i + 1) (Go.bits .and .i64 (wrap64 ((wrap64 ((wrap64 (h * 137)) + (wrap64 (rd x i)))) + 11)) 1073741823) (by omega)
      refine ⟨h', ev1 (evp (by omega) (evp h4 (evp (by omega) ?_)))⟩
      rw [w64s (n := (i : Int) + 1) (by omega) (by omega)]
      exact hh
    · exact ⟨h, ev1 (evp (by omega) (evn h4 (evc rfl)))⟩
theorem new_ev (l : List Int) (hn : l.length ≤ 4000000000000000) : ∃ h', Ev (fun k => spec_l1New.f k l) (l, 0, h') := by
  unfold spec_l1New.f
  exact new_loop l hn l.length 0 _ (by omega)
theorem byte_some (l : List Int) (hn : l.length ≤ 4000000000000000) (i h : Int) (hc : Cur l i) : ∃ x i' h', spec_l1Byte.f l i h = some (x, i', h') ∧ (0 ≤ x ∧ x ≤ 255) ∧ Cur l i' := by
  unfold spec_l1Byte.f
  unfold Cur at *
  by_cases hi : i < (l.length : Int)
  · rw [if_pos hi, if_pos hc.1]
    refine ⟨_, _, _, rfl, and255 _, ?_⟩
    rw [w64s (n := i + 1) (by omega) (by omega)]
    omega
  · rw [if_neg hi]
    exact ⟨_, _, _, rfl, and255 _, hc⟩
theorem below_some (l : List Int) (hn : l.length ≤ 4000000000000000) (i h : Int) (hc : Cur l i) (n : Int) (h1 : 1 ≤ n) (h2 : n ≤ 1000000000000) : ∃ x i' h', spec_l1Below.f l i h n = some (x, i', h') ∧ (0 ≤ x ∧ x < n) ∧ Cur l i' := by
  unfold spec_l1Below.f
  rw [if_neg (by omega)]
  by_cases h3 : n ≤ 256
  · rw [if_pos h3]
    obtain ⟨x, i', h', e, hx, hc'⟩ := byte_some l hn i h hc
    rw [e]
    simp only [Option.bind_some]
    rw [if_neg (by omega)]
    refine ⟨_, _, _, rfl, ?_, hc'⟩
    rw [Int.tmod_eq_emod_of_nonneg hx.1]
    exact ⟨Int.emod_nonneg _ (by omega), Int.emod_lt_of_pos _ (by omega)⟩
  · rw [if_neg h3]
    obtain ⟨x, i', h', e, hx, hc'⟩ := byte_some l hn i h hc
    rw [e]
    simp only [Option.bind_some]
    obtain ⟨y, i2, h2, e2, hy, hc2⟩ := byte_some l hn i' h' hc'
    rw [e2]
    simp only [Option.bind_some]
    obtain ⟨z, i3, h3, e3, hz, hc3⟩ := byte_some l hn i2 h2 hc2
    rw [e3]
    simp only [Option.bind_some]
    rw [if_neg (by omega)]
    refine ⟨_, _, _, rfl, ?_, hc3⟩
    rw [w64s (n := x * 65536) (by omega) (by omega), w64s (n := y * 256) (by omega) (by omega), w64s (n := x * 65536 + y * 256) (by omega) (by omega), w64s (n := x * 65536 + y * 256 + z) (by omega) (by omega)]
    rw [Int.tmod_eq_emod_of_nonneg (by omega)]
    exact ⟨Int.emod_nonneg _ (by omega), Int.emod_lt_of_pos _ (by omega)⟩

theorem int_some (l : List Int) (hn : l.length ≤ 4000000000000000) (i h : Int) (hc : Cur l i) (ls : List Int) (h1 : 1 ≤ ls.length) (h2 : ls.length ≤ 1000) : ∃ x i' h', spec_l1Int.f l i h ls = some (x, i', h') ∧ x ∈ ls ∧ Cur l i' := by
  unfold spec_l1Int.f
  obtain ⟨x, i', h', e, hx, hc'⟩ := below_some l hn i h hc (ls.length : Int) (by omega) (by omega)
  rw [e]
  simp only [Option.bind_some]
  rw [if_pos hx.1, if_pos hx.2]
  obtain ⟨j, rfl⟩ := Int.eq_ofNat_of_zero_le hx.1
  refine ⟨_, _, _, rfl, ?_, hc'⟩
  rw [rd_nat]
  exact rd_mem (by omega)

theorem wf64 {a : Int} (h : (Lit.int .i64 a).wf = true) : -9223372036854775808 ≤ a ∧ a ≤ 9223372036854775807 := by
  simpa [Lit.wf, IntKind.min, IntKind.max, IntKind.bits, IntKind.signed] using h
theorem wf8 {a : Int} (h : (Lit.int .u8 a).wf = true) : 0 ≤ a ∧ a ≤ 255 := by
  simpa [Lit.wf, IntKind.min, IntKind.max, IntKind.bits, IntKind.signed] using h

theorem at_some (l : List Int) (hn : l.length ≤ 1048576) (hw : ∀ x ∈ l, (Lit.int .u8 x).wf = true) (i : Nat) (hi : i ≤ 1000000000) : ∃ x, laws_at.f l i = some x ∧ 0 ≤ x ∧ x ≤ 255 := by
  unfold laws_at.f
  by_cases h : (i : Int) < (l.length : Int)
  · rw [if_pos h, if_pos (by omega), rd_nat]
    have hm := hw _ (rd_mem (l := l) (i := i) (by omega))
    have hb := wf8 hm
    rw [w64s (by omega) (by omega)]
    exact ⟨_, rfl, hb⟩
  · rw [if_neg h, w64s (n := (i : Int) * 31) (by omega) (by omega), w64s (n := (l.length : Int) * 7) (by omega) (by omega), w64s (by omega) (by omega)]
    refine ⟨_, rfl, ?_⟩
    rw [Int.tmod_eq_emod_of_nonneg (by omega)]
    omega

theorem triple_at (b : List Int) (hl : b.length = 18) (i : Nat) (h : i < 18) : (b ++ b ++ b).getD i 0 = b.getD i 0 ∧ (b ++ b ++ b).getD (i + 18) 0 = b.getD i 0 ∧ (b ++ b ++ b).getD (i + 36) 0 = b.getD i 0 := by
  simp only [List.getD_eq_getElem?_getD]
  refine ⟨?_, ?_, ?_⟩
  · rw [List.append_assoc, List.getElem?_append_left (by omega)]
  · rw [List.append_assoc, List.getElem?_append_right (by omega), List.getElem?_append_left (by omega), hl]
    simp
  · rw [List.append_assoc, List.getElem?_append_right (by omega), List.getElem?_append_right (by omega), hl]
    simp
theorem maj_flip (b : List Int) (hl : b.length = 18) (hb : Bits b) (q : Nat) (hq : q < 54) (v : Int) : majL ((b ++ b ++ b).set q v) = b := by
  refine list_ext (by rw [majL_length, hl]) (fun i hi => ?_)
  rw [majL_length] at hi
  rw [majL_at _ i hi]
  obtain ⟨t1, t2, t3⟩ := triple_at b hl i hi
  have hb' := bits_getD hb i
  unfold majAt
  rw [getD_set, getD_set, getD_set, t1, t2, t3]
  have hlen : (b ++ b ++ b).length = 54 := by simp [hl]
  rw [hlen]
  simp only [ones]
  by_cases q1 : q = i
  · have q2 : ¬ (q = i + 18) := by omega
    have q3 : ¬ (q = i + 36) := by omega
    simp only [q2, q3, false_and, if_false]
    rcases hb' with e | e <;> rw [e] <;> split <;> (try simp) <;> (try (split <;> omega))
  · by_cases q2 : q = i + 18
    · have q3 : ¬ (q = i + 36) := by omega
      simp only [q1, q3, false_and, if_false]
      rcases hb' with e | e <;> rw [e] <;> split <;> (try simp) <;> (try (split <;> omega))
    · simp only [q1, q2, false_and, if_false]
      rcases hb' with e | e <;> rw [e] <;> split <;> (try simp) <;> (try (split <;> omega))
theorem hdr_back (r n s : Int) (h : (1 ≤ r ∧ r ≤ 2) ∧ (0 ≤ n ∧ n ≤ 120) ∧ (1 ≤ s ∧ s ≤ 127)) : hdrV (hword r n s) = (r, n, s, true) := by
  have e1 : (hword r n s).take 2 = itb r 2 := by
    simp only [hword, hbits, List.append_assoc]
    rw [List.take_append_of_le_length (by rw [itb_length]; omega), List.take_of_length_le (by rw [itb_length]; omega)]
  have e2 : ((hword r n s).take 10).drop 2 = itb n 8 := by
    simp only [hword, hbits, List.append_assoc]
    rw [← List.append_assoc, List.take_append_of_le_length (by simp [itb_length]), List.take_of_length_le (by simp [itb_length]), List.drop_append_of_le_length (by rw [itb_length]; omega), List.drop_of_length_le (by rw [itb_length]; omega)]
    rfl
  have e3 : ((hword r n s).take 17).drop 10 = itb s 7 := by
    simp only [hword]
    rw [List.take_append_of_le_length (by rw [hbits_length]; omega), List.take_of_length_le (by rw [hbits_length]; omega)]
    simp only [hbits]
    rw [List.drop_append_of_le_length (by simp [itb_length]), List.drop_of_length_le (by simp [itb_length])]
    rfl
  have p : Int.tmod (ones (hword r n s)) 2 = 0 := by
    have ho := ones_range (hbits r n s)
    simp only [hword]
    rw [ones_append, Int.tmod_eq_emod_of_nonneg ho.1]
    simp only [ones]
    generalize ones (hbits r n s) = m at *
    rw [Int.tmod_eq_emod_of_nonneg (by split <;> omega)]
    split <;> omega
  unfold hdrV
  rw [e1, e2, e3, round_of round2 r (by omega), round_of round8 n (by omega), round_of round7 s (by omega), if_pos ⟨p, h⟩]
theorem any_ev (L : List Int) (hL : L.length ≤ 4000000000000000) (i h : Int) (hc : Cur L i) : ∃ a b c i' h', spec_l10Any.f L i h = some (a, b, c, i', h') := by
  unfold spec_l10Any.f
  obtain ⟨x, i1, h1, e1, hx, c1⟩ := below_some L hL i h hc 2 (by omega) (by omega)
  obtain ⟨y, i2, h2, e2, hy, c2⟩ := below_some L hL i1 h1 c1 6 (by omega) (by omega)
  obtain ⟨z, i3, h3, e3, hz, c3⟩ := below_some L hL i2 h2 c2 127 (by omega) (by omega)
  have eh : spec_l10Header.f L i h = some (wrap64 (1 + x), y, wrap64 (1 + z), i3, h3) := by
    unfold spec_l10Header.f
    rw [e1]
    simp only [Option.bind_some]
    rw [e2]
    simp only [Option.bind_some]
    rw [e3]
    rfl
  obtain ⟨u, i4, h4, e4, hu, c4⟩ := below_some L hL i3 h3 c3 8 (by omega) (by omega)
  rw [eh]
  simp only [Option.bind_some]
  rw [e4]
  simp only [Option.bind_some]
  split
  · obtain ⟨v, i5, h5, e5, _, _⟩ := int_some L hL i4 h4 c4 [(-1), 0, 3] (by decide) (by decide)
    rw [e5]
    exact ⟨_, _, _, _, _, rfl⟩
  · split
    · obtain ⟨v, i5, h5, e5, _, _⟩ := int_some L hL i4 h4 c4 [(-1), 120, 121] (by decide) (by decide)
      rw [e5]
      exact ⟨_, _, _, _, _, rfl⟩
    · split
      · obtain ⟨v, i5, h5, e5, _, _⟩ := int_some L hL i4 h4 c4 [0, 127, 128] (by decide) (by decide)
        rw [e5]
        exact ⟨_, _, _, _, _, rfl⟩
      · exact ⟨_, _, _, _, _, rfl⟩
theorem FnHeaderErrors : laws_FnHeaderErrors.Pure := by
  intro L hm hs hw
  refine Ev.rounds (r := true) ?_
  unfold laws_FnHeaderErrors.f
  refine evs (show laws_big.f L = some _ from rfl) ?_
  by_cases hbig : (L.length : Int) > 1048576
  · exact evp (by simpa using hbig) (evc rfl)
  refine evn (by simpa using hbig) ?_
  obtain ⟨h0, e0⟩ := new_ev L (by omega)
  obtain ⟨r, n, s, i1, h1, e1⟩ := any_ev L (by omega) 0 h0 ⟨by omega, by omega⟩
  have ed : Ev (fun k => spec_DrawEncodeHeader.f k L) (r, n, s) := by
    unfold spec_DrawEncodeHeader.f spec_DrawIsValidHeader.f
    exact Ev.bind (Ev.bind e0 (evs e1 (evc rfl))) (evc rfl)
  refine Ev.bind ed ?_
  by_cases h : (1 ≤ r ∧ r ≤ 2) ∧ (0 ≤ n ∧ n ≤ 120) ∧ (1 ≤ s ∧ s ≤ 127)
  · have hl : (hword r n s ++ hword r n s ++ hword r n s).length = 54 := by simp [hword_length]
    obtain ⟨x, hx, hx0, hx1⟩ := at_some L (by omega) hw 0 (by omega)
    refine Ev.bind (enc_ev r n s h) (evs (svalid_some r n s) (evp (dt h) (evp (by rw [hl]; rfl) (evs hx (evn (by rw [hl]; decide) ?_)))))
    obtain ⟨q, hq1, hq2⟩ : ∃ q : Nat, Int.tmod x (((hword r n s ++ hword r n s ++ hword r n s).length : Nat) : Int) = (q : Int) ∧ q < 54 := by
      rw [hl, Int.tmod_eq_emod_of_nonneg hx0]
      exact ⟨(x % 54).toNat, by omega, by omega⟩
    rw [hq1]
    refine evp (by omega) (evp (by rw [hl]; omega) ?_)
    rw [Int.toNat_natCast]
    have hd := ihdr_ev ((hword r n s ++ hword r n s ++ hword r n s).set q (wrap64 (1 - rd (hword r n s ++ hword r n s ++ hword r n s) q))) (by rw [List.length_set, hl])
    rw [maj_flip (hword r n s) (hword_length r n s) (hword_bits r n s) q hq2, hdr_back r n s h] at hd
    refine Ev.bind hd (evp rfl (evp (by simp) (evs (show impl_EqualHeaders.f r n s r n s = some _ from rfl) (evc (by simp)))))
  · refine Ev.bind (enc_bad r n s h) (evs (svalid_some r n s) (evn (dnt h) (evp rfl (evs (valid_some r n s) (evc ?_)))))
    rw [decide_eq_false h]
    rfl

end Go.Proofs.Ytmmgjhffjmdhhaa.Pure
