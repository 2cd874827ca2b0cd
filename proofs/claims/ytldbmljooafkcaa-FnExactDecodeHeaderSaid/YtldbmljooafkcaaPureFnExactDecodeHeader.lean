/-
  The program's DecodeHeader and the reference's agree at every list of at most 2^20 symbols, and the argument is left as it was.
  Conditions: none beyond the given statement's own.
-/
import Derived.Test.YtldbmljooafkcaaPFnExactDecodeHeaderx5
set_option linter.unusedVariables false
set_option linter.unusedSimpArgs false
namespace Go.Proofs.Ytldbmljooafkcaa.Pure
open Go.RowKit Go.Proofs.Ytldbmljooafkcaa.PFnExactDecodeHeader Go.Proofs.YtldbmljooafkcaaW.PrintWords Go.Proofs.YtldbmljooafkcaaW.PrintLast Go.Proofs.YtldbmljooafkcaaW.PrintMore

theorem evp {α : Type} {c : Prop} [Decidable c] {A B : Nat → Option α} {r : α} (hc : c) (h : Ev A r) : Ev (fun k => if c then A k else B k) r :=
  Ev.congr (fun k => if_pos hc) h
theorem evn {α : Type} {c : Prop} [Decidable c] {A B : Nat → Option α} {r : α} (hc : ¬ c) (h : Ev B r) : Ev (fun k => if c then A k else B k) r :=
  Ev.congr (fun k => if_neg hc) h
theorem evs {α β : Type} {g : Option α} {a : α} {f : Nat → α → Option β} {r : β} (hg : g = some a) (h : Ev (fun k => f k a) r) : Ev (fun k => g.bind (f k)) r :=
  Ev.congr (fun k => by rw [hg]; rfl) h
theorem evc {α : Type} {g : Option α} {r : α} (h : g = some r) : Ev (fun _ => g) r := ⟨0, fun _ _ => h⟩
theorem ev_eq {α : Type} {g : Nat → Option α} {r r' : α} (h : Ev g r) (e : r = r') : Ev g r' := e ▸ h
theorem w64 {n : Int} (h0 : -9223372036854775808 ≤ n) (h1 : n ≤ 9223372036854775807) : wrap64 n = n := by
  unfold wrap64
  omega
theorem w64s {n : Int} (h0 : -1000000000000000000 ≤ n) (h1 : n ≤ 1000000000000000000) : wrap64 n = n := w64 (by omega) (by omega)
theorem ev1 {α : Type} {g : Nat → Option α} {r : α} (h : Ev (fun k => g (k + 1)) r) : Ev g r := Ev.step (fun _ => rfl) h
theorem dt {p : Prop} [Decidable p] (h : p) : decide p = true := decide_eq_true h
theorem dnt {p : Prop} [Decidable p] (h : ¬ p) : ¬ (decide p = true) := by simp [h]
theorem ntd {p : Prop} [Decidable p] (h : ¬ p) : (!decide p) = true := by simp [h]
theorem ntt {p : Prop} [Decidable p] (h : p) : ¬ ((!decide p) = true) := by simp [h]
theorem evk {α : Type} {g : Nat → Option α} {r : α} (h : ∀ k, g k = some r) : Ev g r := ⟨0, fun k _ => h k⟩
theorem dec_iff {p q : Prop} [Decidable p] [Decidable q] (h : p ↔ q) : decide p = decide q := by
  by_cases hq : q
  · rw [decide_eq_true hq, decide_eq_true (h.2 hq)]
  · rw [decide_eq_false hq, decide_eq_false (fun hp => hq (h.1 hp))]

theorem rd_nat (l : List Int) (i : Nat) : rd l (i : Int) = l.getD i 0 := by
  unfold rd
  rw [Int.toNat_natCast]
theorem rd_mem {l : List Int} {i : Nat} (h : i < l.length) : l.getD i 0 ∈ l := by
  rw [List.getD_eq_getElem?_getD, List.getElem?_eq_getElem h]
  exact List.getElem_mem h
theorem list_ext {a b : List Int} (hl : a.length = b.length) (h : ∀ i, i < a.length → a.getD i 0 = b.getD i 0) : a = b := by
  apply List.ext_getElem hl
  intro i h1 h2
  have := h i h1
  rw [List.getD_eq_getElem?_getD, List.getD_eq_getElem?_getD, List.getElem?_eq_getElem h1, List.getElem?_eq_getElem h2] at this
  simpa using this
theorem getD_set (l : List Int) (i j : Nat) (v : Int) : (l.set i v).getD j 0 = if i = j ∧ j < l.length then v else l.getD j 0 := by
  rw [List.getD_eq_getElem?_getD, List.getElem?_set, List.getD_eq_getElem?_getD]
  by_cases h : i = j
  · subst h
    by_cases h2 : i < l.length
    · simp [h2]
    · simp [h2]
  · simp [h]

def outX (s b : Int) : Int := (b + s % 2 + s / 2) % 2
def outY (s b : Int) : Int := (b + s / 2) % 2
def nxt (s b : Int) : Int := (2 * s + b) % 4
def convGo : Int → List Int → List Int
  | _, [] => []
  | s, b :: r => outX s b :: outY s b :: convGo (nxt s b) r
def conv (l : List Int) : List Int := convGo 0 (l ++ [0, 0])
def Bits (l : List Int) : Prop := ∀ x ∈ l, x = 0 ∨ x = 1
theorem convGo_length : ∀ (l : List Int) (s : Int), (convGo s l).length = 2 * l.length
  | [], _ => rfl
  | b :: r, s => by
    simp only [convGo, List.length_cons, convGo_length r]
    omega
theorem conv_length (l : List Int) : (conv l).length = 2 * l.length + 4 := by
  unfold conv
  rw [convGo_length]
  simp
  omega
theorem nxt_range (s b : Int) : 0 ≤ nxt s b ∧ nxt s b ≤ 3 := by unfold nxt; omega
theorem out_bits (s b : Int) : (outX s b = 0 ∨ outX s b = 1) ∧ (outY s b = 0 ∨ outY s b = 1) := by unfold outX outY; omega
theorem convGo_bits : ∀ (l : List Int) (s : Int), Bits (convGo s l)
  | [], _ => by intro x hx; simp [convGo] at hx
  | b :: r, s => by
    intro x hx
    simp only [convGo, List.mem_cons] at hx
    rcases hx with rfl | rfl | hx
    · exact (out_bits s b).1
    · exact (out_bits s b).2
    · exact convGo_bits r _ x hx
theorem drop_getD (L : List Int) (i : Nat) (h : i < L.length) : L.drop i = L.getD i 0 :: L.drop (i + 1) := by
  rw [List.drop_eq_getElem_cons h, List.getD_eq_getElem?_getD, List.getElem?_eq_getElem h]
  rfl
theorem pad_getD (l : List Int) (i : Nat) : (l ++ [0, 0]).getD i 0 = if i < l.length then l.getD i 0 else 0 := by
  simp only [List.getD_eq_getElem?_getD, List.getElem?_append]
  by_cases h : i < l.length
  · simp [h]
  · rw [if_neg h, if_neg h]
    rcases Nat.lt_or_ge (i - l.length) 2 with h2 | h2
    · have : i - l.length = 0 ∨ i - l.length = 1 := by omega
      rcases this with e | e <;> rw [e] <;> rfl
    · rw [List.getElem?_eq_none (by simpa using h2)]
      rfl
theorem bits_getD {l : List Int} (h : Bits l) (i : Nat) : l.getD i 0 = 0 ∨ l.getD i 0 = 1 := by
  rw [List.getD_eq_getElem?_getD]
  cases e : l[i]? with
  | none => exact .inl rfl
  | some v => exact h v (List.mem_of_getElem? e)

def ones : List Int → Int
  | [] => 0
  | x :: r => (if x = 1 then 1 else 0) + ones r
theorem ones_range : ∀ (l : List Int), 0 ≤ ones l ∧ ones l ≤ l.length
  | [] => by simp [ones]
  | x :: r => by
    have := ones_range r
    simp only [ones, List.length_cons]
    split <;> omega
theorem weight_loop (l : List Int) (hn : l.length ≤ 1000000000) : ∀ (d i : Nat) (m : Int), i + d = l.length → 0 ≤ m ∧ m ≤ i → Ev (fun k => impl_Weight.l0 k m l l.length i) (m + ones (l.drop i)) := by
  intro d
  induction d with
  | zero =>
    intro i m hi hm
    rw [List.drop_of_length_le (by omega)]
    exact ev1 (evn (by omega) (evc (by simp [ones])))
  | succ d ih =>
    intro i m hi hm
    refine ev1 (evp (by omega) (evp (by omega) (evp (by omega) ?_)))
    rw [drop_getD l i (by omega), ones, rd_nat, w64s (n := (i : Int) + 1) (by omega) (by omega), w64s (n := m + 1) (by omega) (by omega)]
    by_cases h : l.getD i 0 = 1
    · rw [if_pos h]
      exact evp h (ev_eq (ih (i + 1) (m + 1) (by omega) (by omega)) (by omega))
    · rw [if_neg h]
      exact evn h (ev_eq (ih (i + 1) m (by omega) (by omega)) (by omega))
theorem weight_ev (l : List Int) (hn : l.length ≤ 1000000000) : Ev (fun k => impl_Weight.f k l) (ones l) := by
  refine ev_eq (weight_loop l hn l.length 0 0 (by omega) (by omega)) ?_
  simp

def itbAt (n : Int) (i : Nat) : Int := Go.bits .and .i64 (shr .i64 n (i : Int)) 1
def itb (n : Int) (c : Nat) : List Int := (List.range' 0 c).map (itbAt n)
def btiGo : Int → Nat → List Int → Int
  | acc, _, [] => acc
  | acc, i, b :: r => btiGo (Go.bits .or .i64 acc (shl .i64 b (i : Int))) (i + 1) r
def bti (l : List Int) : Int := btiGo 0 0 l
theorem and1 (x : Int) : Go.bits .and .i64 x 1 = 0 ∨ Go.bits .and .i64 x 1 = 1 := by
  have h : ∀ n : Nat, n ≤ 1 → IntKind.i64.wrap (n : Int) = n := by
    intro n hn
    rw [IntKind.wrap_i64]
    omega
  have e : Go.bits .and .i64 x 1 = IntKind.i64.wrap ((BitVec.ofInt 64 x &&& BitVec.ofInt 64 1).toNat : Int) := rfl
  have hle : (BitVec.ofInt 64 x &&& BitVec.ofInt 64 1).toNat ≤ 1 := by
    rw [BitVec.toNat_and]
    exact Nat.and_le_right
  rw [e, h _ hle]
  omega
theorem itb_bits (n : Int) (c : Nat) : Bits (itb n c) := by
  intro x hx
  simp only [itb, List.mem_map] at hx
  obtain ⟨i, _, rfl⟩ := hx
  exact and1 _
theorem itb_length (n : Int) (c : Nat) : (itb n c).length = c := by simp [itb]
theorem round2 : ((List.range 4).all fun n => bti (itb (n : Int) 2) == (n : Int)) = true := by decide +kernel
theorem round8 : ((List.range 256).all fun n => bti (itb (n : Int) 8) == (n : Int)) = true := by decide +kernel
theorem round7 : ((List.range 128).all fun n => bti (itb (n : Int) 7) == (n : Int)) = true := by decide +kernel
theorem round_of {m c : Nat} (h : ((List.range m).all fun n => bti (itb (n : Int) c) == (n : Int)) = true) (n : Int) (h0 : 0 ≤ n ∧ n < m) : bti (itb n c) = n := by
  rw [List.all_eq_true] at h
  have := h n.toNat (by rw [List.mem_range]; omega)
  rw [show ((n.toNat : Nat) : Int) = n by omega] at this
  simpa using this
/-- The bit that two of three symbols say. -/
def majAt (l : List Int) (i : Nat) : Int := if ones [l.getD i 0, l.getD (i + 18) 0, l.getD (i + 36) 0] ≥ 2 then 1 else 0
def majL (l : List Int) : List Int := (List.range' 0 18).map (majAt l)
theorem majL_length (l : List Int) : (majL l).length = 18 := by simp [majL]
theorem majAt_bit (l : List Int) (i : Nat) : majAt l i = 0 ∨ majAt l i = 1 := by
  unfold majAt
  split <;> simp
theorem majL_bits (l : List Int) : Bits (majL l) := by
  intro x hx
  simp only [majL, List.mem_map] at hx
  obtain ⟨i, _, rfl⟩ := hx
  exact majAt_bit l i
theorem majL_at (l : List Int) (i : Nat) (h : i < 18) : (majL l).getD i 0 = majAt l i := by
  simp [majL, List.getD_eq_getElem?_getD, List.getElem?_map, List.getElem?_range' h]
theorem ones_append : ∀ (a b : List Int), ones (a ++ b) = ones a + ones b
  | [], b => by simp [ones]
  | x :: a, b => by
    simp only [List.cons_append, ones]
    rw [ones_append a b]
    omega
/-- What a header's bits come to. -/
def hdrV (b : List Int) : Int × Int × Int × Bool :=
  if Int.tmod (ones b) 2 = 0 ∧ ((1 ≤ bti (b.take 2) ∧ bti (b.take 2) ≤ 2) ∧ (0 ≤ bti ((b.take 10).drop 2) ∧ bti ((b.take 10).drop 2) ≤ 120) ∧ (1 ≤ bti ((b.take 17).drop 10) ∧ bti ((b.take 17).drop 10) ≤ 127)) then
    (bti (b.take 2), bti ((b.take 10).drop 2), bti ((b.take 17).drop 10), true) else (0, 0, 0, false)
theorem bits_take {b : List Int} (h : Bits b) (m n : Nat) : Bits ((b.take m).drop n) := fun x hx => h x (List.mem_of_mem_take (List.mem_of_mem_drop hx))

theorem ibits_loop (l : List Int) (hn : l.length ≤ 4000000000000000) : ∀ (d i : Nat), i + d = l.length → Ev (fun k => impl_IsBitString.l0 k l l.length i) ((l.drop i).all fun x => decide (x = 0 ∨ x = 1)) := by
  intro d
  induction d with
  | zero =>
    intro i hi
    rw [List.drop_of_length_le (by omega)]
    exact ev1 (evn (by omega) (evc rfl))
  | succ d ih =>
    intro i hi
    refine ev1 (evp (by omega) (evp (by omega) (evp (by omega) ?_)))
    rw [drop_getD l i (by omega), List.all_cons, rd_nat, w64s (n := (i : Int) + 1) (by omega) (by omega)]
    by_cases h0 : l.getD i 0 = 0
    · rw [decide_eq_true (Or.inl h0), Bool.true_and]
      exact evp h0 (ih (i + 1) (by omega))
    · refine evn h0 ?_
      by_cases h1 : l.getD i 0 = 1
      · rw [decide_eq_true (Or.inr h1), Bool.true_and]
        exact evp h1 (ih (i + 1) (by omega))
      · rw [decide_eq_false (by omega), Bool.false_and]
        exact evn h1 (evc rfl)
theorem ibits_ev (l : List Int) (hn : l.length ≤ 4000000000000000) : Ev (fun k => impl_IsBitString.f k l) (l.all fun x => decide (x = 0 ∨ x = 1)) := ibits_loop l hn l.length 0 (by omega)
theorem ibits_all {l : List Int} (h : Bits l) : (l.all fun x => decide (x = 0 ∨ x = 1)) = true := by
  rw [List.all_eq_true]
  intro x hx
  exact decide_eq_true (h x hx)
theorem iall_bits {l : List Int} (h : (l.all fun x => decide (x = 0 ∨ x = 1)) = true) : Bits l := by
  intro x hx
  rw [List.all_eq_true] at h
  exact of_decide_eq_true (h x hx)

theorem in_some (x a b : Int) : impl_InRange.f x a b = some (decide (a ≤ x ∧ x ≤ b)) := by
  unfold impl_InRange.f
  by_cases h : a ≤ x <;> simp [h]

theorem valid_some (a b c : Int) : impl_IsValidHeader.f a b c = some (decide ((1 ≤ a ∧ a ≤ 2) ∧ (0 ≤ b ∧ b ≤ 120) ∧ (1 ≤ c ∧ c ≤ 127))) := by
  unfold impl_IsValidHeader.f
  simp only [in_some, Option.bind_some]
  by_cases h1 : 1 ≤ a ∧ a ≤ 2 <;> by_cases h2 : 0 ≤ b ∧ b ≤ 120 <;> simp [h1, h2]

theorem iparity_ev (l : List Int) (hn : l.length ≤ 1000) : Ev (fun k => impl_Parity.f k l) (Int.tmod (ones l) 2) := by
  unfold impl_Parity.f
  exact Ev.bind (weight_ev l (by omega)) (evc rfl)

theorem ibti_loop (l : List Int) (hn : l.length ≤ 40) : ∀ (d i : Nat) (acc : Int), i + d = l.length → Ev (fun k => impl_BitsToInt.l0 k acc l l.length i) (btiGo acc i (l.drop i)) := by
  intro d
  induction d with
  | zero =>
    intro i acc hi
    rw [List.drop_of_length_le (by omega)]
    exact ev1 (evn (by omega) (evc rfl))
  | succ d ih =>
    intro i acc hi
    refine ev1 (evp (by omega) (evp (by omega) (evp (by omega) ?_)))
    rw [drop_getD l i (by omega), btiGo, rd_nat, w64s (n := (i : Int) + 1) (by omega) (by omega)]
    exact ih (i + 1) _ (by omega)
theorem ibti_ev (l : List Int) (hb : Bits l) (hn : l.length ≤ 40) : Ev (fun k => impl_BitsToInt.f k l) (bti l) := by
  unfold impl_BitsToInt.f
  have h := ibits_ev l (by omega)
  rw [ibits_all hb] at h
  refine Ev.bind h (evp rfl ?_)
  rw [decide_eq_false (by omega)]
  refine ev1 ?_
  exact ibti_loop l hn l.length 0 0 (by omega)
theorem ihdr_end (l : List Int) (x : List Int) (hx : x = majL l) : Ev (fun k => impl_DecodeHeader.l0 k l x 18 18) (hdrV (majL l)) := by
  subst hx
  have hl := majL_length l
  have hb := majL_bits l
  have e1 := ibti_ev ((majL l).take 2) (fun z hz => hb z (List.mem_of_mem_take hz)) (by simp; omega)
  have e2 := ibti_ev (((majL l).take 10).drop 2) (bits_take hb _ _) (by simp; omega)
  have e3 := ibti_ev (((majL l).take 17).drop 10) (bits_take hb _ _) (by simp; omega)
  have e4 := iparity_ev (majL l) (by omega)
  unfold hdrV
  generalize bti ((majL l).take 2) = a at *
  generalize bti (((majL l).take 10).drop 2) = b at *
  generalize bti (((majL l).take 17).drop 10) = c at *
  refine ev1 (evn (by decide) (evp (by omega) (Ev.bind e1 (evp (by decide) (evp (by omega) (Ev.bind e2 (evp (by decide) (evp (by omega) (Ev.bind e3 (Ev.bind e4 ?_))))))))))
  by_cases h1 : Int.tmod (ones (majL l)) 2 = 0
  · by_cases h2 : (1 ≤ a ∧ a ≤ 2) ∧ (0 ≤ b ∧ b ≤ 120) ∧ (1 ≤ c ∧ c ≤ 127)
    · exact ev_eq (evp h1 (evs (valid_some a b c) (evp (dt h2) (evc rfl)))) (if_pos ⟨h1, h2⟩).symm
    · exact ev_eq (evp h1 (evs (valid_some a b c) (evn (dnt h2) (evc rfl)))) (if_neg (fun h => h2 h.2)).symm
  · exact ev_eq (evn h1 (evc rfl)) (if_neg (fun h => h1 h.1)).symm
theorem ihdr_loop (l : List Int) (hl : l.length = 54) : ∀ (d i : Nat) (x : List Int), i + d = 18 → x.length = 18 → (∀ j, j < i → x.getD j 0 = majAt l j) → (∀ j, i ≤ j → x.getD j 0 = 0) →
    Ev (fun k => impl_DecodeHeader.l0 k l x 18 i) (hdrV (majL l)) := by
  intro d
  induction d with
  | zero =>
    intro i x hi hx h1 h2
    have he : x = majL l := list_ext (by rw [hx, majL_length]) (fun j hj => by rw [h1 j (by omega), majL_at l j (by omega)])
    have := ihdr_end l x he
    rw [show i = 18 by omega]
    exact this
  | succ d ih =>
    intro i x hi hx h1 h2
    have w1 : wrap64 ((i : Int) + 18) = ((i + 18 : Nat) : Int) := by rw [w64s (by omega) (by omega)]; omega
    have w2 : wrap64 ((i : Int) + 36) = ((i + 36 : Nat) : Int) := by rw [w64s (by omega) (by omega)]; omega
    refine ev1 (evp (by omega) (evp (by omega) (evp (by omega) (evp (by rw [w1]; omega) (evp (by rw [w1]; omega) (evp (by rw [w2]; omega) (evp (by rw [w2]; omega) ?_)))))))
    rw [w1, w2, rd_nat, rd_nat, rd_nat, w64s (n := (i : Int) + 1) (by omega) (by omega)]
    refine Ev.bind (weight_ev _ (by simp)) ?_
    by_cases h : ones [l.getD i 0, l.getD (i + 18) 0, l.getD (i + 36) 0] ≥ 2
    · refine evp h (evp (by omega) (ih (i + 1) (x.set i 1) (by omega) (by simpa using hx) ?_ ?_))
      · intro j hj
        rw [getD_set]
        by_cases e : i = j
        · subst e
          rw [if_pos ⟨rfl, by omega⟩]
          unfold majAt
          rw [if_pos h]
        · rw [if_neg (fun q => e q.1)]
          exact h1 j (by omega)
      · intro j hj
        rw [getD_set, if_neg (fun q => by omega)]
        exact h2 j (by omega)
    · refine evn h (ih (i + 1) x (by omega) hx ?_ (fun j hj => h2 j (by omega)))
      intro j hj
      by_cases e : j = i
      · rw [e, h2 i (by omega)]
        unfold majAt
        rw [if_neg h]
      · exact h1 j (by omega)
theorem ihdr_ev (l : List Int) (hl : l.length = 54) : Ev (fun k => impl_DecodeHeader.f k l) (hdrV (majL l)) := by
  unfold impl_DecodeHeader.f
  refine evp (by omega) (evp (by decide) (evs rfl ?_))
  exact ihdr_loop l hl 18 0 (List.replicate 18 0) (by omega) (by simp) (fun j hj => by omega) (fun j hj => by
    rw [List.getD_eq_getElem?_getD, List.getElem?_replicate]
    split <;> rfl)
theorem ihdr_bad (l : List Int) (hl : l.length ≠ 54) : Ev (fun k => impl_DecodeHeader.f k l) (0, 0, 0, false) := by
  unfold impl_DecodeHeader.f
  exact evn (by omega) (evc rfl)

theorem l1_some (x a b : Int) : spec_l1In.f x a b = some (decide (a ≤ x ∧ x ≤ b)) := by
  unfold spec_l1In.f
  by_cases h : a ≤ x <;> simp [h]

theorem sbits_loop (l : List Int) (hn : l.length ≤ 4000000000000000) : ∀ (d i : Nat), i + d = l.length → Ev (fun k => spec_IsBitString.l0 k l i) ((l.drop i).all fun x => decide (0 ≤ x ∧ x ≤ 1)) := by
  intro d
  induction d with
  | zero =>
    intro i hi
    rw [List.drop_of_length_le (by omega)]
    exact ev1 (evn (by omega) (evc rfl))
  | succ d ih =>
    intro i hi
    refine ev1 (evp (by omega) (evp (by omega) (evs (l1_some _ _ _) ?_)))
    rw [drop_getD l i (by omega), List.all_cons, rd_nat]
    by_cases h : 0 ≤ l.getD i 0 ∧ l.getD i 0 ≤ 1
    · rw [decide_eq_true h, w64s (n := (i : Int) + 1) (by omega) (by omega)]
      exact evp rfl (ih (i + 1) (by omega))
    · rw [decide_eq_false h]
      exact evn (by decide) (evc rfl)
theorem sbits_ev (l : List Int) (hn : l.length ≤ 4000000000000000) : Ev (fun k => spec_IsBitString.f k l) (l.all fun x => decide (0 ≤ x ∧ x ≤ 1)) := sbits_loop l hn l.length 0 (by omega)
theorem bits_all {l : List Int} (h : Bits l) : (l.all fun x => decide (0 ≤ x ∧ x ≤ 1)) = true := by
  rw [List.all_eq_true]
  intro x hx
  have := h x hx
  exact decide_eq_true (by omega)
theorem all_bits {l : List Int} (h : (l.all fun x => decide (0 ≤ x ∧ x ≤ 1)) = true) : Bits l := by
  intro x hx
  rw [List.all_eq_true] at h
  have := of_decide_eq_true (h x hx)
  omega

theorem svalid_some (a b c : Int) : spec_IsValidHeader.f a b c = some (decide ((1 ≤ a ∧ a ≤ 2) ∧ (0 ≤ b ∧ b ≤ 120) ∧ (1 ≤ c ∧ c ≤ 127))) := by
  unfold spec_IsValidHeader.f
  simp only [l1_some, Option.bind_some]
  by_cases h1 : 1 ≤ a ∧ a ≤ 2 <;> by_cases h2 : 0 ≤ b ∧ b ≤ 120 <;> simp [h1, h2]

theorem sweight_loop (l : List Int) (hn : l.length ≤ 1000000000) : ∀ (d i : Nat) (m : Int), i + d = l.length → 0 ≤ m ∧ m ≤ i → Ev (fun k => spec_Weight.l0 k l m i) (m + ones (l.drop i)) := by
  intro d
  induction d with
  | zero =>
    intro i m hi hm
    rw [List.drop_of_length_le (by omega)]
    exact ev1 (evn (by omega) (evc (by simp [ones])))
  | succ d ih =>
    intro i m hi hm
    refine ev1 (evp (by omega) (evp (by omega) ?_))
    rw [drop_getD l i (by omega), ones, rd_nat, w64s (n := (i : Int) + 1) (by omega) (by omega), w64s (n := m + 1) (by omega) (by omega)]
    by_cases h : l.getD i 0 = 1
    · rw [if_pos h]
      exact evp h (ev_eq (ih (i + 1) (m + 1) (by omega) (by omega)) (by omega))
    · rw [if_neg h]
      exact evn h (ev_eq (ih (i + 1) m (by omega) (by omega)) (by omega))
theorem sweight_ev (l : List Int) (hn : l.length ≤ 1000000000) : Ev (fun k => spec_Weight.f k l) (ones l) := by
  refine ev_eq (sweight_loop l hn l.length 0 0 (by omega) (by omega)) ?_
  simp

theorem sparity_ev (l : List Int) (hn : l.length ≤ 1000) : Ev (fun k => spec_Parity.f k l) (Int.tmod (ones l) 2) := by
  unfold spec_Parity.f
  exact Ev.bind (sweight_ev l (by omega)) (evc rfl)

theorem sbti_loop (l : List Int) (hn : l.length ≤ 40) : ∀ (d i : Nat) (acc : Int), i + d = l.length → Ev (fun k => spec_BitsToInt.l0 k l acc i) (btiGo acc i (l.drop i)) := by
  intro d
  induction d with
  | zero =>
    intro i acc hi
    rw [List.drop_of_length_le (by omega)]
    exact ev1 (evn (by omega) (evc rfl))
  | succ d ih =>
    intro i acc hi
    refine ev1 (evp (by omega) (evp (by omega) ?_))
    rw [drop_getD l i (by omega), btiGo, rd_nat, w64s (n := (i : Int) + 1) (by omega) (by omega)]
    exact ih (i + 1) _ (by omega)
theorem sbti_ev (l : List Int) (hb : Bits l) (hn : l.length ≤ 40) : Ev (fun k => spec_BitsToInt.f k l) (bti l) := by
  unfold spec_BitsToInt.f
  have h := sbits_ev l (by omega)
  rw [bits_all hb] at h
  refine Ev.bind h (evp rfl ?_)
  rw [decide_eq_false (by omega)]
  refine ev1 ?_
  exact sbti_loop l hn l.length 0 0 (by omega)
theorem shdr_end (l : List Int) : Ev (fun k => spec_DecodeHeader.l0 k l (majL l) 18) (hdrV (majL l)) := by
  have hl := majL_length l
  have hb := majL_bits l
  have e1 := sbti_ev ((majL l).take 2) (fun z hz => hb z (List.mem_of_mem_take hz)) (by simp; omega)
  have e2 := sbti_ev (((majL l).take 10).drop 2) (bits_take hb _ _) (by simp; omega)
  have e3 := sbti_ev (((majL l).take 17).drop 10) (bits_take hb _ _) (by simp; omega)
  have e4 := sparity_ev (majL l) (by omega)
  unfold hdrV
  generalize bti ((majL l).take 2) = a at *
  generalize bti (((majL l).take 10).drop 2) = b at *
  generalize bti (((majL l).take 17).drop 10) = c at *
  refine ev1 (evn (by decide) (evp (by omega) (Ev.bind e1 (evp (by decide) (evp (by omega) (Ev.bind e2 (evp (by decide) (evp (by omega) (Ev.bind e3 (Ev.bind e4 ?_))))))))))
  by_cases h1 : Int.tmod (ones (majL l)) 2 = 0
  · by_cases h2 : (1 ≤ a ∧ a ≤ 2) ∧ (0 ≤ b ∧ b ≤ 120) ∧ (1 ≤ c ∧ c ≤ 127)
    · exact ev_eq (evp h1 (evs (svalid_some a b c) (evp (dt h2) (evc rfl)))) (if_pos ⟨h1, h2⟩).symm
    · exact ev_eq (evp h1 (evs (svalid_some a b c) (evn (dnt h2) (evc rfl)))) (if_neg (fun h => h2 h.2)).symm
  · exact ev_eq (evn h1 (evc rfl)) (if_neg (fun h => h1 h.1)).symm
theorem shdr_loop (l : List Int) (hl : l.length = 54) : ∀ (d i : Nat) (x : List Int), i + d = 18 → x.length = i → x ++ (List.range' i d).map (majAt l) = majL l →
    Ev (fun k => spec_DecodeHeader.l0 k l x i) (hdrV (majL l)) := by
  intro d
  induction d with
  | zero =>
    intro i x hi hx h1
    have he : x = majL l := by simpa using h1
    rw [he, show i = 18 by omega]
    exact shdr_end l
  | succ d ih =>
    intro i x hi hx h1
    have w1 : wrap64 ((i : Int) + 18) = ((i + 18 : Nat) : Int) := by rw [w64s (by omega) (by omega)]; omega
    have w2 : wrap64 ((i : Int) + 36) = ((i + 36 : Nat) : Int) := by rw [w64s (by omega) (by omega)]; omega
    refine ev1 (evp (by omega) (evp (by omega) (evp (by omega) (evp (by rw [w1]; omega) (evp (by rw [w1]; omega) (evp (by rw [w2]; omega) (evp (by rw [w2]; omega) ?_)))))))
    rw [w1, w2, rd_nat, rd_nat, rd_nat, w64s (n := (i : Int) + 1) (by omega) (by omega)]
    refine Ev.bind (sweight_ev _ (by simp)) ?_
    rw [List.range'_succ, List.map_cons] at h1
    by_cases h : ones [l.getD i 0, l.getD (i + 18) 0, l.getD (i + 36) 0] ≥ 2
    · have e : majAt l i = 1 := by unfold majAt; rw [if_pos h]
      rw [e] at h1
      exact evp h (evp (by omega) (ih (i + 1) (x ++ [1]) (by omega) (by simp; omega) (by rw [List.append_assoc]; exact h1)))
    · have e : majAt l i = 0 := by unfold majAt; rw [if_neg h]
      rw [e] at h1
      exact evn h (evp (by omega) (ih (i + 1) (x ++ [0]) (by omega) (by simp; omega) (by rw [List.append_assoc]; exact h1)))
theorem shdr_ev (l : List Int) (hl : l.length = 54) : Ev (fun k => spec_DecodeHeader.f k l) (hdrV (majL l)) := by
  unfold spec_DecodeHeader.f
  exact evp (by omega) (shdr_loop l hl 18 0 [] (by omega) rfl rfl)
theorem shdr_bad (l : List Int) (hl : l.length ≠ 54) : Ev (fun k => spec_DecodeHeader.f k l) (0, 0, 0, false) := by
  unfold spec_DecodeHeader.f
  exact evn (by omega) (evc rfl)

theorem toInts_loop (x0 : List Int) (hn : x0.length ≤ 4000000000000000) : ∀ (d i : Nat) (x3 : List Int), i + d = x0.length → x3.length = x0.length → (∀ j, j < i → x3.getD j 0 = x0.getD j 0) → Ev (fun k => laws_toIntS.l0 k x0 x3 i) x0 := by
  intro d
  induction d with
  | zero =>
    intro i x3 hi hl hj
    refine ev1 ?_
    refine evn (by omega) (evc ?_)
    rw [list_ext hl (fun j h => hj j (by omega))]
  | succ d ih =>
    intro i x3 hi hl hj
    refine ev1 ?_
    refine evp (by omega) (evp (by omega) (evp (by omega) ?_))
    rw [w64s (by omega) (by omega), Int.toNat_natCast, rd_nat]
    have := ih (i + 1) (x3.set i (x0.getD i 0)) (by omega) (by simpa using hl) (by
      intro j h
      rw [getD_set]
      by_cases e : i = j
      · subst e
        rw [if_pos ⟨rfl, by omega⟩]
      · rw [if_neg (fun h' => e h'.1)]
        exact hj j (by omega))
    exact this
theorem toInts_ev (l : List Int) (hn : l.length ≤ 1048576) : Ev (fun k => laws_toIntS.f k l) l := by
  unfold laws_toIntS.f
  refine evp (by omega) (evp (by omega) ?_)
  exact toInts_loop l (by omega) l.length 0 _ (by omega) (by simp) (by intro j h; omega)

theorem eqInts_loop (x : List Int) (hn : x.length ≤ 4000000000000000) : ∀ (d i : Nat), i + d = x.length → Ev (fun k => laws_eqIntS.l0 k x x i) true := by
  intro d
  induction d with
  | zero =>
    intro i hi
    refine ev1 ?_
    exact evn (by omega) (evc rfl)
  | succ d ih =>
    intro i hi
    refine ev1 ?_
    refine evp (by omega) (evp (by omega) (evp (by omega) (evp rfl ?_)))
    rw [w64s (by omega) (by omega)]
    exact ih (i + 1) (by omega)
theorem eqInts_ev (l : List Int) (hn : l.length ≤ 4000000000000000) : Ev (fun k => laws_eqIntS.f k l l) true := by
  unfold laws_eqIntS.f
  exact evp rfl (eqInts_loop l hn l.length 0 (by omega))

theorem FnExactDecodeHeader : laws_FnExactDecodeHeader.Pure := by
  intro l _ _ _
  refine Ev.rounds (r := true) ?_
  unfold laws_FnExactDecodeHeader.f
  by_cases hn : (l.length : Int) > 1048576
  · exact evp hn (evc rfl)
  refine evn hn ?_
  have hl : l.length ≤ 1048576 := by omega
  have hex : ∃ (a b c : Int) (q : Bool), Ev (fun k => spec_DecodeHeader.f k l) (a, b, c, q) ∧ Ev (fun k => impl_DecodeHeader.f k l) (a, b, c, q) := by
    by_cases h : l.length = 54
    · exact ⟨_, _, _, _, shdr_ev l h, ihdr_ev l h⟩
    · exact ⟨_, _, _, _, shdr_bad l h, ihdr_bad l h⟩
  obtain ⟨a, b, c, q, hs, hi⟩ := hex
  have ht := toInts_ev l hl
  have he := eqInts_ev l (by omega)
  have hq : (q != q) = false := by simp
  have heq : laws_eqPhyHeader.f a b c a b c = some true := by
    unfold laws_eqPhyHeader.f
    rw [if_pos rfl, if_pos rfl, if_pos rfl]
  refine Ev.bind ht (Ev.bind hs (Ev.bind ht (Ev.bind hi (evs heq (evp rfl ?_)))))
  show Ev (fun k => laws_FnExactDecodeHeader.j0 k l l (q != q)) true
  rw [hq]
  exact ev1 (Ev.bind ht (Ev.bind he (evp rfl (evc rfl))))

end Go.Proofs.Ytldbmljooafkcaa.Pure
