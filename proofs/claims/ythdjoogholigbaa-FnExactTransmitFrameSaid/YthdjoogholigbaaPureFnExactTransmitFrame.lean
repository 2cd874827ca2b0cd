/-
  The program's TransmitFrame and the reference's agree at every header and every payload of at most 2^20 bytes, the argument is left as it was, and the answers share no memory.
  Conditions: none beyond the given statement's own.
-/
import Derived.Test.YthdjoogholigbaaPFnExactTransmitFramex10
set_option linter.unusedVariables false
set_option linter.unusedSimpArgs false
namespace Go.Proofs.Ythdjoogholigbaa.Pure
open Go.RowKit Go.Proofs.Ythdjoogholigbaa.PFnExactTransmitFrame Go.Proofs.YthdjoogholigbaaW.PrintWords Go.Proofs.YthdjoogholigbaaW.PrintLast Go.Proofs.YthdjoogholigbaaW.PrintMore

theorem evp {α : Type} {c : Prop} [Decidable c] {A B : Nat → Option α} {r : α} (hc : c) (h : Ev A r) : Ev (fun k => if c then A k else B k) r :=
  Ev.congr (fun k => if_pos hc) h
theorem evn {α : Type} {c : Prop} [Decidable c] {A B : Nat → Option α} {r : α} (hc : ¬ c) (h : Ev B r) : Ev (fun k => if c then A k else B k) r :=
  Ev.congr (fun k => if_neg hc) h
theorem evs {α β : Type} {g : Option α} {a : α} {f : Nat → α → Option β} {r : β} (hg : g = some a) (h : Ev (fun k => f k a) r) : Ev (fun k => g.bind (f k)) r :=
  Ev.congr (fun k => by rw [hg]; rfl) h
theorem evc {α : Type} {g : Option α} {r : α} (h : g = some r) : Ev (fun _ => g) r := ⟨0, fun _ _ => h⟩
theorem ev_eq {α : Type} {g : Nat → Option α} {r r' : α} (h : Ev g r) (e : r = r') : Ev g r' := e ▸ h
theorem w64 {n : Int} (h0 : -9223372036854775808 ≤ n) (h1 : n ≤ 9223372036854775807) : wrap64 n = n := by
  unfold wrap64
  omega
theorem w64s {n : Int} (h0 : -1000000000000000000 ≤ n) (h1 : n ≤ 1000000000000000000) : wrap64 n = n := w64 (by omega) (by omega)
theorem ev1 {α : Type} {g : Nat → Option α} {r : α} (h : Ev (fun k => g (k + 1)) r) : Ev g r := Ev.step (fun _ => rfl) h
theorem dt {p : Prop} [Decidable p] (h : p) : decide p = true := decide_eq_true h
theorem dnt {p : Prop} [Decidable p] (h : ¬ p) : ¬ (decide p = true) := by simp [h]
theorem ntd {p : Prop} [Decidable p] (h : ¬ p) : (!decide p) = true := by simp [h]
theorem ntt {p : Prop} [Decidable p] (h : p) : ¬ ((!decide p) = true) := by simp [h]
theorem evk {α : Type} {g : Nat → Option α} {r : α} (h : ∀ k, g k = some r) : Ev g r := ⟨0, fun k _ => h k⟩
theorem dec_iff {p q : Prop} [Decidable p] [Decidable q] (h : p ↔ q) : decide p = decide q := by
  by_cases hq : q
  · rw [decide_eq_true hq, decide_eq_true (h.2 hq)]
  · rw [decide_eq_false hq, decide_eq_false (fun hp => hq (h.1 hp))]

theorem rd_nat (l : List Int) (i : Nat) : rd l (i : Int) = l.getD i 0 := by
  unfold rd
  rw [Int.toNat_natCast]
theorem rd_mem {l : List Int} {i : Nat} (h : i < l.length) : l.getD i 0 ∈ l := by
  rw [List.getD_eq_getElem?_getD, List.getElem?_eq_getElem h]
  exact List.getElem_mem h
theorem list_ext {a b : List Int} (hl : a.length = b.length) (h : ∀ i, i < a.length → a.getD i 0 = b.getD i 0) : a = b := by
  apply List.ext_getElem hl
  intro i h1 h2
  have := h i h1
  rw [List.getD_eq_getElem?_getD, List.getD_eq_getElem?_getD, List.getElem?_eq_getElem h1, List.getElem?_eq_getElem h2] at this
  simpa using this
theorem getD_set (l : List Int) (i j : Nat) (v : Int) : (l.set i v).getD j 0 = if i = j ∧ j < l.length then v else l.getD j 0 := by
  rw [List.getD_eq_getElem?_getD, List.getElem?_set, List.getD_eq_getElem?_getD]
  by_cases h : i = j
  · subst h
    by_cases h2 : i < l.length
    · simp [h2]
    · simp [h2]
  · simp [h]

def outX (s b : Int) : Int := (b + s % 2 + s / 2) % 2
def outY (s b : Int) : Int := (b + s / 2) % 2
def nxt (s b : Int) : Int := (2 * s + b) % 4
def convGo : Int → List Int → List Int
  | _, [] => []
  | s, b :: r => outX s b :: outY s b :: convGo (nxt s b) r
def conv (l : List Int) : List Int := convGo 0 (l ++ [0, 0])
def Bits (l : List Int) : Prop := ∀ x ∈ l, x = 0 ∨ x = 1
theorem convGo_length : ∀ (l : List Int) (s : Int), (convGo s l).length = 2 * l.length
  | [], _ => rfl
  | b :: r, s => by
    simp only [convGo, List.length_cons, convGo_length r]
    omega
theorem conv_length (l : List Int) : (conv l).length = 2 * l.length + 4 := by
  unfold conv
  rw [convGo_length]
  simp
  omega
theorem nxt_range (s b : Int) : 0 ≤ nxt s b ∧ nxt s b ≤ 3 := by unfold nxt; omega
theorem out_bits (s b : Int) : (outX s b = 0 ∨ outX s b = 1) ∧ (outY s b = 0 ∨ outY s b = 1) := by unfold outX outY; omega
theorem convGo_bits : ∀ (l : List Int) (s : Int), Bits (convGo s l)
  | [], _ => by intro x hx; simp [convGo] at hx
  | b :: r, s => by
    intro x hx
    simp only [convGo, List.mem_cons] at hx
    rcases hx with rfl | rfl | hx
    · exact (out_bits s b).1
    · exact (out_bits s b).2
    · exact convGo_bits r _ x hx
theorem drop_getD (L : List Int) (i : Nat) (h : i < L.length) : L.drop i = L.getD i 0 :: L.drop (i + 1) := by
  rw [List.drop_eq_getElem_cons h, List.getD_eq_getElem?_getD, List.getElem?_eq_getElem h]
  rfl
theorem pad_getD (l : List Int) (i : Nat) : (l ++ [0, 0]).getD i 0 = if i < l.length then l.getD i 0 else 0 := by
  simp only [List.getD_eq_getElem?_getD, List.getElem?_append]
  by_cases h : i < l.length
  · simp [h]
  · rw [if_neg h, if_neg h]
    rcases Nat.lt_or_ge (i - l.length) 2 with h2 | h2
    · have : i - l.length = 0 ∨ i - l.length = 1 := by omega
      rcases this with e | e <;> rw [e] <;> rfl
    · rw [List.getElem?_eq_none (by simpa using h2)]
      rfl
theorem bits_getD {l : List Int} (h : Bits l) (i : Nat) : l.getD i 0 = 0 ∨ l.getD i 0 = 1 := by
  rw [List.getD_eq_getElem?_getD]
  cases e : l[i]? with
  | none => exact .inl rfl
  | some v => exact h v (List.mem_of_getElem? e)

def ones : List Int → Int
  | [] => 0
  | x :: r => (if x = 1 then 1 else 0) + ones r
theorem ones_range : ∀ (l : List Int), 0 ≤ ones l ∧ ones l ≤ l.length
  | [] => by simp [ones]
  | x :: r => by
    have := ones_range r
    simp only [ones, List.length_cons]
    split <;> omega
theorem weight_loop (l : List Int) (hn : l.length ≤ 1000000000) : ∀ (d i : Nat) (m : Int), i + d = l.length → 0 ≤ m ∧ m ≤ i → Ev (fun k => impl_Weight.l0 k m l l.length i) (m + ones (l.drop i)) := by
  intro d
  induction d with
  | zero =>
    intro i m hi hm
    rw [List.drop_of_length_le (by omega)]
    exact ev1 (evn (by omega) (evc (by simp [ones])))
  | succ d ih =>
    intro i m hi hm
    refine ev1 (evp (by omega) (evp (by omega) (evp (by omega) ?_)))
    rw [drop_getD l i (by omega), ones, rd_nat, w64s (n := (i : Int) + 1) (by omega) (by omega), w64s (n := m + 1) (by omega) (by omega)]
    by_cases h : l.getD i 0 = 1
    · rw [if_pos h]
      exact evp h (ev_eq (ih (i + 1) (m + 1) (by omega) (by omega)) (by omega))
    · rw [if_neg h]
      exact evn h (ev_eq (ih (i + 1) m (by omega) (by omega)) (by omega))
theorem weight_ev (l : List Int) (hn : l.length ≤ 1000000000) : Ev (fun k => impl_Weight.f k l) (ones l) := by
  refine ev_eq (weight_loop l hn l.length 0 0 (by omega) (by omega)) ?_
  simp

def itbAt (n : Int) (i : Nat) : Int := Go.bits .and .i64 (shr .i64 n (i : Int)) 1
def itb (n : Int) (c : Nat) : List Int := (List.range' 0 c).map (itbAt n)
def btiGo : Int → Nat → List Int → Int
  | acc, _, [] => acc
  | acc, i, b :: r => btiGo (Go.bits .or .i64 acc (shl .i64 b (i : Int))) (i + 1) r
def bti (l : List Int) : Int := btiGo 0 0 l
theorem and1 (x : Int) : Go.bits .and .i64 x 1 = 0 ∨ Go.bits .and .i64 x 1 = 1 := by
  have h : ∀ n : Nat, n ≤ 1 → IntKind.i64.wrap (n : Int) = n := by
    intro n hn
    rw [IntKind.wrap_i64]
    omega
  have e : Go.bits .and .i64 x 1 = IntKind.i64.wrap ((BitVec.ofInt 64 x &&& BitVec.ofInt 64 1).toNat : Int) := rfl
  have hle : (BitVec.ofInt 64 x &&& BitVec.ofInt 64 1).toNat ≤ 1 := by
    rw [BitVec.toNat_and]
    exact Nat.and_le_right
  rw [e, h _ hle]
  omega
theorem itb_bits (n : Int) (c : Nat) : Bits (itb n c) := by
  intro x hx
  simp only [itb, List.mem_map] at hx
  obtain ⟨i, _, rfl⟩ := hx
  exact and1 _
theorem itb_length (n : Int) (c : Nat) : (itb n c).length = c := by simp [itb]
theorem round2 : ((List.range 4).all fun n => bti (itb (n : Int) 2) == (n : Int)) = true := by decide +kernel
theorem round8 : ((List.range 256).all fun n => bti (itb (n : Int) 8) == (n : Int)) = true := by decide +kernel
theorem round7 : ((List.range 128).all fun n => bti (itb (n : Int) 7) == (n : Int)) = true := by decide +kernel
theorem round_of {m c : Nat} (h : ((List.range m).all fun n => bti (itb (n : Int) c) == (n : Int)) = true) (n : Int) (h0 : 0 ≤ n ∧ n < m) : bti (itb n c) = n := by
  rw [List.all_eq_true] at h
  have := h n.toNat (by rw [List.mem_range]; omega)
  rw [show ((n.toNat : Nat) : Int) = n by omega] at this
  simpa using this
/-- The bit that two of three symbols say. -/
def majAt (l : List Int) (i : Nat) : Int := if ones [l.getD i 0, l.getD (i + 18) 0, l.getD (i + 36) 0] ≥ 2 then 1 else 0
def majL (l : List Int) : List Int := (List.range' 0 18).map (majAt l)
theorem majL_length (l : List Int) : (majL l).length = 18 := by simp [majL]
theorem majAt_bit (l : List Int) (i : Nat) : majAt l i = 0 ∨ majAt l i = 1 := by
  unfold majAt
  split <;> simp
theorem majL_bits (l : List Int) : Bits (majL l) := by
  intro x hx
  simp only [majL, List.mem_map] at hx
  obtain ⟨i, _, rfl⟩ := hx
  exact majAt_bit l i
theorem majL_at (l : List Int) (i : Nat) (h : i < 18) : (majL l).getD i 0 = majAt l i := by
  simp [majL, List.getD_eq_getElem?_getD, List.getElem?_map, List.getElem?_range' h]
theorem ones_append : ∀ (a b : List Int), ones (a ++ b) = ones a + ones b
  | [], b => by simp [ones]
  | x :: a, b => by
    simp only [List.cons_append, ones]
    rw [ones_append a b]
    omega
/-- What a header's bits come to. -/
def hdrV (b : List Int) : Int × Int × Int × Bool :=
  if Int.tmod (ones b) 2 = 0 ∧ ((1 ≤ bti (b.take 2) ∧ bti (b.take 2) ≤ 2) ∧ (0 ≤ bti ((b.take 10).drop 2) ∧ bti ((b.take 10).drop 2) ≤ 120) ∧ (1 ≤ bti ((b.take 17).drop 10) ∧ bti ((b.take 17).drop 10) ≤ 127)) then
    (bti (b.take 2), bti ((b.take 10).drop 2), bti ((b.take 17).drop 10), true) else (0, 0, 0, false)
theorem bits_take {b : List Int} (h : Bits b) (m n : Nat) : Bits ((b.take m).drop n) := fun x hx => h x (List.mem_of_mem_take (List.mem_of_mem_drop hx))

theorem in_some (x a b : Int) : impl_InRange.f x a b = some (decide (a ≤ x ∧ x ≤ b)) := by
  unfold impl_InRange.f
  by_cases h : a ≤ x <;> simp [h]

theorem take_set_next (x : List Int) (i : Nat) (v : Int) (h : i < x.length) : (x.set i v).take (i + 1) = x.take i ++ [v] := by
  rw [List.take_add_one, List.take_set_of_le (by omega)]
  simp [h]
theorem itb_loop (n : Int) (c : Nat) (hc : c ≤ 40) : ∀ (d i : Nat) (x : List Int), i + d = c → x.length = c → Ev (fun k => impl_IntToBits.l0 k n x c i) (x.take i ++ (List.range' i d).map (itbAt n)) := by
  intro d
  induction d with
  | zero =>
    intro i x hi hx
    rw [List.take_of_length_le (by omega)]
    exact ev1 (evn (by omega) (evc (by simp)))
  | succ d ih =>
    intro i x hi hx
    refine ev1 (evp (by omega) (evp (by omega) (evp (by omega) ?_)))
    rw [w64s (n := (i : Int) + 1) (by omega) (by omega), Int.toNat_natCast, List.range'_succ, List.map_cons]
    have h := ih (i + 1) (x.set i (itbAt n i)) (by omega) (by simpa using hx)
    rw [take_set_next x i _ (by omega), List.append_assoc] at h
    exact h
theorem itb_ev (n : Int) (c : Nat) (hc : c ≤ 40) (hn : 0 ≤ n) : Ev (fun k => impl_IntToBits.f k n c) (itb n c) := by
  unfold impl_IntToBits.f
  refine evn (by omega) (evs (in_some _ _ _) ?_)
  rw [decide_eq_true (by omega)]
  refine ev1 (evp (by omega) (evs rfl ?_))
  rw [show (((List.replicate (c : Int).toNat (0 : Int)).length : Nat) : Int) = (c : Int) by simp]
  have h := itb_loop n c hc c 0 (List.replicate (c : Int).toNat 0) (by omega) (by simp)
  rw [List.take_zero, List.nil_append] at h
  exact h

def hbits (r n s : Int) : List Int := (itb r 2 ++ itb n 8) ++ itb s 7
def hword (r n s : Int) : List Int := hbits r n s ++ [Int.tmod (ones (hbits r n s)) 2]
theorem hbits_length (r n s : Int) : (hbits r n s).length = 17 := by simp [hbits, itb_length]
theorem hword_length (r n s : Int) : (hword r n s).length = 18 := by simp [hword, hbits_length]
theorem hbits_bits (r n s : Int) : Bits (hbits r n s) := by
  intro x hx
  simp only [hbits, List.mem_append] at hx
  rcases hx with (hx | hx) | hx
  · exact itb_bits _ _ x hx
  · exact itb_bits _ _ x hx
  · exact itb_bits _ _ x hx
theorem hword_bits (r n s : Int) : Bits (hword r n s) := by
  intro x hx
  simp only [hword, List.mem_append, List.mem_singleton] at hx
  rcases hx with hx | rfl
  · exact hbits_bits r n s x hx
  · have := ones_range (hbits r n s)
    rw [Int.tmod_eq_emod_of_nonneg this.1]
    omega

theorem valid_some (a b c : Int) : impl_IsValidHeader.f a b c = some (decide ((1 ≤ a ∧ a ≤ 2) ∧ (0 ≤ b ∧ b ≤ 120) ∧ (1 ≤ c ∧ c ≤ 127))) := by
  unfold impl_IsValidHeader.f
  simp only [in_some, Option.bind_some]
  by_cases h1 : 1 ≤ a ∧ a ≤ 2 <;> by_cases h2 : 0 ≤ b ∧ b ≤ 120 <;> simp [h1, h2]

theorem iparity_ev (l : List Int) (hn : l.length ≤ 1000) : Ev (fun k => impl_Parity.f k l) (Int.tmod (ones l) 2) := by
  unfold impl_Parity.f
  exact Ev.bind (weight_ev l (by omega)) (evc rfl)

theorem enc_ev (r n s : Int) (h : (1 ≤ r ∧ r ≤ 2) ∧ (0 ≤ n ∧ n ≤ 120) ∧ (1 ≤ s ∧ s ≤ 127)) : Ev (fun k => impl_EncodeHeader.f k r n s) (hword r n s ++ hword r n s ++ hword r n s) := by
  unfold impl_EncodeHeader.f
  have hl := hbits_length r n s
  have hw := hword_length r n s
  refine evs (valid_some r n s) (evp (dt h) (Ev.bind (itb_ev r 2 (by omega) (by omega)) (Ev.bind (itb_ev n 8 (by omega) (by omega)) (evp (by rw [itb_length, itb_length]; omega) (evs rfl (Ev.bind (itb_ev s 7 (by omega) (by omega)) (evp (by simp [itb_length]) (evs rfl ?_))))))))
  refine Ev.bind (iparity_ev (hbits r n s) (by omega)) (evp (by simp [itb_length]) (evp (by decide) ?_))
  show Ev (fun k => impl_EncodeHeader.l0 k (hword r n s) [] 0) _
  have w : ∀ i : Nat, i ≤ 10 → wrap64 ((i : Int) + 1) = ((i + 1 : Nat) : Int) := fun i hi => by rw [w64s (by omega) (by omega)]; omega
  have h3 : Ev (fun k => impl_EncodeHeader.l0 k (hword r n s) (hword r n s ++ hword r n s ++ hword r n s) ((3 : Nat) : Int)) (hword r n s ++ hword r n s ++ hword r n s) :=
    ev1 (evn (by decide) (evc rfl))
  have h2 : Ev (fun k => impl_EncodeHeader.l0 k (hword r n s) (hword r n s ++ hword r n s) ((2 : Nat) : Int)) (hword r n s ++ hword r n s ++ hword r n s) := by
    refine ev1 (evp (by decide) (evp (by simp; omega) ?_))
    rw [w 2 (by omega)]
    exact h3
  have h1 : Ev (fun k => impl_EncodeHeader.l0 k (hword r n s) (hword r n s) ((1 : Nat) : Int)) (hword r n s ++ hword r n s ++ hword r n s) := by
    refine ev1 (evp (by decide) (evp (by omega) ?_))
    rw [w 1 (by omega)]
    exact h2
  refine ev1 (evp (by decide) (evp (by simp; omega) ?_))
  have e0 := w 0 (by omega)
  rw [show ((0 : Nat) : Int) + 1 = (0 : Int) + 1 from rfl] at e0
  rw [e0, List.nil_append]
  exact h1
theorem enc_bad (r n s : Int) (h : ¬ ((1 ≤ r ∧ r ≤ 2) ∧ (0 ≤ n ∧ n ≤ 120) ∧ (1 ≤ s ∧ s ≤ 127))) : Ev (fun k => impl_EncodeHeader.f k r n s) [] := by
  unfold impl_EncodeHeader.f
  exact evs (valid_some r n s) (evn (dnt h) (evc rfl))

theorem l1_some (x a b : Int) : spec_l1In.f x a b = some (decide (a ≤ x ∧ x ≤ b)) := by
  unfold spec_l1In.f
  by_cases h : a ≤ x <;> simp [h]

theorem svalid_some (a b c : Int) : spec_IsValidHeader.f a b c = some (decide ((1 ≤ a ∧ a ≤ 2) ∧ (0 ≤ b ∧ b ≤ 120) ∧ (1 ≤ c ∧ c ≤ 127))) := by
  unfold spec_IsValidHeader.f
  simp only [l1_some, Option.bind_some]
  by_cases h1 : 1 ≤ a ∧ a ≤ 2 <;> by_cases h2 : 0 ≤ b ∧ b ≤ 120 <;> simp [h1, h2]

theorem sitb_loop (n : Int) (c : Nat) (hc : c ≤ 40) : ∀ (d i : Nat) (x : List Int), i + d = c → x.length = i → Ev (fun k => spec_IntToBits.l0 k n c x i) (x ++ (List.range' i d).map (itbAt n)) := by
  intro d
  induction d with
  | zero =>
    intro i x hi hx
    exact ev1 (evn (by omega) (evc (by simp)))
  | succ d ih =>
    intro i x hi hx
    refine ev1 (evp (by omega) (evp (by omega) (evp (by omega) ?_)))
    rw [w64s (n := (i : Int) + 1) (by omega) (by omega), List.range'_succ, List.map_cons]
    have h := ih (i + 1) (x ++ [itbAt n i]) (by omega) (by simp; omega)
    rw [List.append_assoc] at h
    exact h
theorem sitb_ev (n : Int) (c : Nat) (hc : c ≤ 40) (hn : 0 ≤ n) : Ev (fun k => spec_IntToBits.f k n c) (itb n c) := by
  unfold spec_IntToBits.f
  refine evs rfl (evn (by omega) (evs (l1_some _ _ _) ?_))
  rw [decide_eq_true (by omega)]
  refine ev1 ?_
  have h := sitb_loop n c hc c 0 [] (by omega) rfl
  rw [List.nil_append] at h
  exact h
theorem sweight_loop (l : List Int) (hn : l.length ≤ 1000000000) : ∀ (d i : Nat) (m : Int), i + d = l.length → 0 ≤ m ∧ m ≤ i → Ev (fun k => spec_Weight.l0 k l m i) (m + ones (l.drop i)) := by
  intro d
  induction d with
  | zero =>
    intro i m hi hm
    rw [List.drop_of_length_le (by omega)]
    exact ev1 (evn (by omega) (evc (by simp [ones])))
  | succ d ih =>
    intro i m hi hm
    refine ev1 (evp (by omega) (evp (by omega) ?_))
    rw [drop_getD l i (by omega), ones, rd_nat, w64s (n := (i : Int) + 1) (by omega) (by omega), w64s (n := m + 1) (by omega) (by omega)]
    by_cases h : l.getD i 0 = 1
    · rw [if_pos h]
      exact evp h (ev_eq (ih (i + 1) (m + 1) (by omega) (by omega)) (by omega))
    · rw [if_neg h]
      exact evn h (ev_eq (ih (i + 1) m (by omega) (by omega)) (by omega))
theorem sweight_ev (l : List Int) (hn : l.length ≤ 1000000000) : Ev (fun k => spec_Weight.f k l) (ones l) := by
  refine ev_eq (sweight_loop l hn l.length 0 0 (by omega) (by omega)) ?_
  simp
theorem sparity_ev (l : List Int) (hn : l.length ≤ 1000) : Ev (fun k => spec_Parity.f k l) (Int.tmod (ones l) 2) := by
  unfold spec_Parity.f
  exact Ev.bind (sweight_ev l (by omega)) (evc rfl)
theorem senc_ev (r n s : Int) (h : (1 ≤ r ∧ r ≤ 2) ∧ (0 ≤ n ∧ n ≤ 120) ∧ (1 ≤ s ∧ s ≤ 127)) : Ev (fun k => spec_EncodeHeader.f k r n s) (hword r n s ++ hword r n s ++ hword r n s) := by
  unfold spec_EncodeHeader.f
  have hl := hbits_length r n s
  have hw := hword_length r n s
  refine evs (svalid_some r n s) (evp (dt h) (Ev.bind (sitb_ev r 2 (by omega) (by omega)) (Ev.bind (sitb_ev n 8 (by omega) (by omega)) (evp (by rw [itb_length, itb_length]; omega) (evs rfl (Ev.bind (sitb_ev s 7 (by omega) (by omega)) (evp (by simp [itb_length]) (evs rfl ?_))))))))
  refine Ev.bind (sparity_ev (hbits r n s) (by omega)) (evp (by simp [itb_length]) (evs rfl (evs rfl ?_)))
  show Ev (fun k => if ([] : List Int).length + (hword r n s).length < 17592186044416 then ((some (([] : List Int) ++ hword r n s)).bind fun y239 => (if y239.length + (hword r n s).length < 17592186044416 then ((some (y239 ++ hword r n s)).bind fun y242 => (if y242.length + (hword r n s).length < 17592186044416 then (some (y242 ++ hword r n s)) else none)) else none)) else none) _
  exact evp (by simp; omega) (evs (show some (([] : List Int) ++ hword r n s) = some (hword r n s) from rfl) (evp (by omega) (evs rfl (evp (by simp; omega) (evc rfl)))))

/-- The bytes of a number, seven bits each, the lowest first. -/
def uvL : Nat → Int → List Int
  | 0, x => [x % 256]
  | d + 1, x => if x > 127 then (x % 128 + 128) :: uvL d (x / 128) else [x % 256]
theorem uvL_length : ∀ (d : Nat) (x : Int), 1 ≤ (uvL d x).length ∧ (uvL d x).length ≤ d + 1
  | 0, x => by simp [uvL]
  | d + 1, x => by
    unfold uvL
    have := uvL_length d (x / 128)
    split
    · rw [List.length_cons]
      omega
    · simp
theorem uvL_byte : ∀ (d : Nat) (x : Int), ∀ b ∈ uvL d x, 0 ≤ b ∧ b ≤ 255
  | 0, x, b, hb => by
    simp only [uvL, List.mem_singleton] at hb
    omega
  | d + 1, x, b, hb => by
    unfold uvL at hb
    split at hb
    · simp only [List.mem_cons] at hb
      rcases hb with rfl | hb
      · omega
      · exact uvL_byte d _ b hb
    · simp only [List.mem_singleton] at hb
      omega
theorem and127 (x : Int) (h : 0 ≤ x ∧ x ≤ 1000000000000) : Go.bits .and .i64 x 127 = x % 128 := by
  obtain ⟨n, rfl⟩ := Int.eq_ofNat_of_zero_le h.1
  have hw : ∀ n : Nat, n ≤ 127 → IntKind.i64.wrap (n : Int) = n := by
    intro n hn
    rw [IntKind.wrap_i64]
    omega
  have e : Go.bits .and .i64 (n : Int) 127 = IntKind.i64.wrap ((BitVec.ofInt 64 (n : Int) &&& BitVec.ofInt 64 127).toNat : Int) := rfl
  have e2 : (BitVec.ofInt 64 (n : Int) &&& BitVec.ofInt 64 127).toNat = n % 128 := by
    rw [BitVec.toNat_and, BitVec.toNat_ofInt]
    have : (BitVec.ofInt 64 127).toNat = 2 ^ 7 - 1 := by decide
    rw [this, Nat.and_two_pow_sub_one_eq_mod]
    omega
  rw [e, e2, hw _ (by omega)]
  omega
theorem or128 (y : Nat) (h : y < 128) : Go.bits .or .i64 (y : Int) 128 = (y : Int) + 128 := by
  have : ∀ y : Fin 128, Go.bits .or .i64 (y.val : Int) 128 = (y.val : Int) + 128 := by decide +kernel
  exact this ⟨y, h⟩
def uvLs (l : List Int) : List Int := l.flatMap (uvL 5)
def Small (l : List Int) : Prop := ∀ x ∈ l, 0 ≤ x ∧ x ≤ 1000000000000
theorem uvLs_length (l : List Int) : (uvLs l).length ≤ 6 * l.length := by
  induction l with
  | nil => simp [uvLs]
  | cons x r ih =>
    have := uvL_length 5 x
    simp only [uvLs, List.flatMap_cons, List.length_append, List.length_cons] at *
    omega
theorem uvLs_byte (l : List Int) : ∀ b ∈ uvLs l, 0 ≤ b ∧ b ≤ 255 := by
  intro b hb
  simp only [uvLs, List.mem_flatMap] at hb
  obtain ⟨x, _, hb⟩ := hb
  exact uvL_byte 5 x b hb
theorem dropGetD (L : List Int) (i : Nat) (h : i < L.length) : L.drop i = L.getD i 0 :: L.drop (i + 1) := by
  rw [List.drop_eq_getElem_cons h]
  congr 1
  simp [List.getD_eq_getElem?_getD, h]

def crcIn : Nat → Int → Int
  | 0, x => x
  | d + 1, x => crcIn d (if Go.bits .and .i64 x 1 = 1 then Go.bits .xor .i64 (x / 2) 33800 else x / 2)
def crcGo : Int → List Int → Int
  | acc, [] => Go.bits .xor .i64 acc 65535
  | acc, b :: r => crcGo (crcIn 8 (Go.bits .xor .i64 acc b)) r
def Bytes (l : List Int) : Prop := ∀ x ∈ l, 0 ≤ x ∧ x ≤ 255
theorem xor16 (a b : Int) (ha : 0 ≤ a ∧ a < 65536) (hb : 0 ≤ b ∧ b < 65536) : 0 ≤ Go.bits .xor .i64 a b ∧ Go.bits .xor .i64 a b < 65536 := by
  obtain ⟨a, rfl⟩ := Int.eq_ofNat_of_zero_le ha.1
  obtain ⟨b, rfl⟩ := Int.eq_ofNat_of_zero_le hb.1
  have hw : ∀ n : Nat, n < 65536 → IntKind.i64.wrap (n : Int) = n := by
    intro n hn
    rw [IntKind.wrap_i64]
    omega
  have e : Go.bits .xor .i64 (a : Int) (b : Int) = IntKind.i64.wrap ((BitVec.ofInt 64 (a : Int) ^^^ BitVec.ofInt 64 (b : Int)).toNat : Int) := rfl
  have e2 : (BitVec.ofInt 64 (a : Int) ^^^ BitVec.ofInt 64 (b : Int)).toNat < 65536 := by
    rw [BitVec.toNat_xor, BitVec.toNat_ofInt, BitVec.toNat_ofInt]
    exact Nat.xor_lt_two_pow (n := 16) (by omega) (by omega)
  rw [e, hw _ e2]
  omega
theorem crcIn_range : ∀ (d : Nat) (x : Int), 0 ≤ x ∧ x < 65536 → 0 ≤ crcIn d x ∧ crcIn d x < 65536
  | 0, x, h => h
  | d + 1, x, h => by
    unfold crcIn
    refine crcIn_range d _ ?_
    split
    · exact xor16 _ _ (by omega) (by omega)
    · omega
theorem crcGo_range : ∀ (l : List Int) (x : Int), Bytes l → 0 ≤ x ∧ x < 65536 → 0 ≤ crcGo x l ∧ crcGo x l < 65536
  | [], x, _, h => xor16 _ _ h (by omega)
  | b :: r, x, hb, h => by
    have := hb b (by simp)
    exact crcGo_range r _ (fun y hy => hb y (by simp [hy])) (crcIn_range 8 _ (xor16 _ _ h (by omega)))
def crcL (l : List Int) : List Int := l ++ [crcGo 65535 l % 256, crcGo 65535 l / 256]

theorem copyB_some (l : List Int) (h : l.length ≤ 4000000) : impl_copyBytes.f l = some l := if_pos (by omega)

theorem icrc_in (l : List Int) (i : Nat) (hi : i ≤ 1000000) (r : Int) : ∀ (d j : Nat) (x : Int), j + d = 8 → Ev (fun k => impl_Crc16.l0 k (crcIn d x) l l.length ((i + 1 : Nat) : Int)) r → Ev (fun k => impl_Crc16.l1 k x j l l.length i) r := by
  intro d
  induction d with
  | zero =>
    intro j x hj h
    refine ev1 (evn (by omega) ?_)
    rw [w64s (n := (i : Int) + 1) (by omega) (by omega)]
    exact h
  | succ d ih =>
    intro j x hj h
    have hw : wrap64 ((j : Int) + 1) = ((j + 1 : Nat) : Int) := by rw [w64s (by omega) (by omega)]; omega
    refine ev1 (evp (by omega) ?_)
    rw [hw]
    unfold crcIn at h
    by_cases hb : Go.bits .and .i64 x 1 = 1
    · rw [if_pos hb] at h
      exact evp hb (ih (j + 1) _ (by omega) h)
    · rw [if_neg hb] at h
      exact evn hb (ih (j + 1) _ (by omega) h)
theorem icrc_loop (l : List Int) (hb : Bytes l) (hn : l.length ≤ 100000) : ∀ (d i : Nat) (x : Int), i + d = l.length → Ev (fun k => impl_Crc16.l0 k x l l.length i) (crcGo x (l.drop i)) := by
  intro d
  induction d with
  | zero =>
    intro i x hi
    rw [List.drop_of_length_le (by omega)]
    exact ev1 (evn (by omega) (evc rfl))
  | succ d ih =>
    intro i x hi
    have hx := hb _ (rd_mem (l := l) (i := i) (by omega))
    refine ev1 (evp (by omega) (evp (by omega) (evp (by omega) ?_)))
    rw [rd_nat, w64s (n := l.getD i 0) (by omega) (by omega), dropGetD l i (by omega)]
    exact icrc_in l i (by omega) _ 8 0 _ (by omega) (ih (i + 1) _ (by omega))
theorem iacrc_ev (l : List Int) (hb : Bytes l) (hn : l.length ≤ 100000) : Ev (fun k => impl_AppendCrc.f k l) (crcL l) := by
  have hr := crcGo_range l 65535 hb (by omega)
  unfold impl_AppendCrc.f
  refine Ev.bind (icrc_loop l hb hn l.length 0 65535 (by omega)) (evs (copyB_some l (by omega)) (evs rfl (evp (by simp; omega) (evc ?_))))
  rw [List.drop_zero]
  unfold crcL
  rw [Int.tmod_eq_emod_of_nonneg hr.1, Int.tdiv_eq_ediv_of_nonneg hr.1, w64s (n := crcGo 65535 l / 256) (by omega) (by omega), show crcGo 65535 l / 256 % 256 = crcGo 65535 l / 256 by omega, show crcGo 65535 l % 256 % 256 = crcGo 65535 l % 256 by omega]

theorem scrc_in (l : List Int) (i : Nat) (hi : i ≤ 1000000) (r : Int) : ∀ (d j : Nat) (x : Int), j + d = 8 → Ev (fun k => spec_Crc16.l0 k l (crcIn d x) ((i + 1 : Nat) : Int)) r → Ev (fun k => spec_Crc16.l1 k l x i j) r := by
  intro d
  induction d with
  | zero =>
    intro j x hj h
    refine ev1 (evn (by omega) ?_)
    rw [w64s (n := (i : Int) + 1) (by omega) (by omega)]
    exact h
  | succ d ih =>
    intro j x hj h
    have hw : wrap64 ((j : Int) + 1) = ((j + 1 : Nat) : Int) := by rw [w64s (by omega) (by omega)]; omega
    refine ev1 (evp (by omega) ?_)
    rw [hw]
    unfold crcIn at h
    by_cases hb : Go.bits .and .i64 x 1 = 1
    · rw [if_pos hb] at h
      exact evp hb (ih (j + 1) _ (by omega) h)
    · rw [if_neg hb] at h
      exact evn hb (ih (j + 1) _ (by omega) h)
theorem scrc_loop (l : List Int) (hb : Bytes l) (hn : l.length ≤ 100000) : ∀ (d i : Nat) (x : Int), i + d = l.length → Ev (fun k => spec_Crc16.l0 k l x i) (crcGo x (l.drop i)) := by
  intro d
  induction d with
  | zero =>
    intro i x hi
    rw [List.drop_of_length_le (by omega)]
    exact ev1 (evn (by omega) (evc rfl))
  | succ d ih =>
    intro i x hi
    have hx := hb _ (rd_mem (l := l) (i := i) (by omega))
    refine ev1 (evp (by omega) (evp (by omega) ?_))
    rw [rd_nat, w64s (n := l.getD i 0) (by omega) (by omega), dropGetD l i (by omega)]
    exact scrc_in l i (by omega) _ 8 0 _ (by omega) (ih (i + 1) _ (by omega))
theorem sacrc_ev (l : List Int) (hb : Bytes l) (hn : l.length ≤ 100000) : Ev (fun k => spec_AppendCrc.f k l) (crcL l) := by
  have hr := crcGo_range l 65535 hb (by omega)
  unfold spec_AppendCrc.f
  refine Ev.bind (scrc_loop l hb hn l.length 0 65535 (by omega)) (evs rfl (evp (by simp; omega) (evs (show some (([] : List Int) ++ l) = some l from rfl) (evs rfl (evp (by simp; omega) (evc ?_))))))
  rw [List.drop_zero]
  unfold crcL
  rw [show crcGo 65535 l / 256 % 256 = crcGo 65535 l / 256 by omega]

def b2bL (l : List Int) : List Int := l.flatMap fun b => itb b 8
theorem b2bL_length (l : List Int) : (b2bL l).length = 8 * l.length := by
  induction l with
  | nil => rfl
  | cons x r ih =>
    simp only [b2bL, List.flatMap_cons, List.length_append, List.length_cons, itb_length] at *
    omega
theorem b2bL_bits (l : List Int) : Bits (b2bL l) := by
  intro x hx
  simp only [b2bL, List.mem_flatMap] at hx
  obtain ⟨b, _, hx⟩ := hx
  exact itb_bits b 8 x hx
theorem b2bL_cons (b : Int) (r : List Int) : b2bL (b :: r) = itb b 8 ++ b2bL r := by simp [b2bL]

theorem u8bit : ∀ b : Fin 256, ∀ j : Fin 8, Go.bits .and .i64 (wrap64 (shr .u8 (b.val : Int) (j.val : Int))) 1 = Go.bits .and .i64 (shr .i64 (b.val : Int) (j.val : Int)) 1 := by decide +kernel
theorem u8bit_of (b : Int) (hb : 0 ≤ b ∧ b ≤ 255) (j : Nat) (hj : j < 8) : Go.bits .and .i64 (wrap64 (shr .u8 b (j : Int))) 1 = itbAt b j := by
  obtain ⟨b, rfl⟩ := Int.eq_ofNat_of_zero_le hb.1
  exact u8bit ⟨b, by omega⟩ ⟨j, hj⟩
theorem ib2b_in (l : List Int) (i : Nat) (hi : i < l.length) (hn : l.length ≤ 1000) (b : Int) (hb : 0 ≤ b ∧ b ≤ 255) (r : List Int) : ∀ (d j : Nat) (acc : List Int), j + d = 8 → acc.length + d ≤ 100000 → Ev (fun k => impl_BytesToBits.l0 k (acc ++ (List.range' j d).map (itbAt b)) l l.length ((i + 1 : Nat) : Int)) r → Ev (fun k => impl_BytesToBits.l1 k acc b j l l.length i) r := by
  intro d
  induction d with
  | zero =>
    intro j acc hj ha h
    refine ev1 (evn (by omega) ?_)
    rw [w64s (n := (i : Int) + 1) (by omega) (by omega)]
    simpa using h
  | succ d ih =>
    intro j acc hj ha h
    have hw : wrap64 ((j : Int) + 1) = ((j + 1 : Nat) : Int) := by rw [w64s (by omega) (by omega)]; omega
    refine ev1 (evp (by omega) (evp (by omega) (evp (by omega) ?_)))
    rw [hw, u8bit_of b hb j (by omega)]
    rw [List.range'_succ, List.map_cons] at h
    have h' : Ev (fun k => impl_BytesToBits.l0 k ((acc ++ [itbAt b j]) ++ (List.range' (j + 1) d).map (itbAt b)) l l.length ((i + 1 : Nat) : Int)) r := by
      rw [List.append_assoc]
      exact h
    exact ih (j + 1) _ (by omega) (by simp; omega) h'
theorem ib2b_loop (l : List Int) (hb : Bytes l) (hn : l.length ≤ 1000) : ∀ (d i : Nat) (acc : List Int), i + d = l.length → acc.length ≤ 8 * i → Ev (fun k => impl_BytesToBits.l0 k acc l l.length i) (acc ++ b2bL (l.drop i)) := by
  intro d
  induction d with
  | zero =>
    intro i acc hi ha
    rw [List.drop_of_length_le (by omega)]
    exact ev1 (evn (by omega) (evc (by simp [b2bL])))
  | succ d ih =>
    intro i acc hi ha
    refine ev1 (evp (by omega) (evp (by omega) (evp (by omega) ?_)))
    rw [rd_nat]
    have h := ih (i + 1) (acc ++ itb (l.getD i 0) 8) (by omega) (by simp [itb_length]; omega)
    rw [List.append_assoc, ← b2bL_cons, ← dropGetD l i (by omega)] at h
    exact ib2b_in l i (by omega) hn _ (hb _ (rd_mem (l := l) (i := i) (by omega))) _ 8 0 acc (by omega) (by omega) h
theorem ib2b_ev (l : List Int) (hb : Bytes l) (hn : l.length ≤ 1000) : Ev (fun k => impl_BytesToBits.f k l) (b2bL l) := by
  have := ib2b_loop l hb hn l.length 0 [] (by omega) (by simp)
  unfold impl_BytesToBits.f
  rw [w64s (n := 8 * (l.length : Int)) (by omega) (by omega)]
  exact evp (by omega) (evp (by omega) this)

theorem sb2b_in (l : List Int) (hb : Bytes l) (i : Nat) (hi : i < l.length) (hn : l.length ≤ 1000) (r : List Int) : ∀ (d j : Nat) (acc : List Int), j + d = 8 → acc.length + d ≤ 100000 → Ev (fun k => spec_BytesToBits.l0 k l (acc ++ (List.range' j d).map (itbAt (l.getD i 0))) ((i + 1 : Nat) : Int)) r → Ev (fun k => spec_BytesToBits.l1 k l acc i j) r := by
  intro d
  induction d with
  | zero =>
    intro j acc hj ha h
    refine ev1 (evn (by omega) ?_)
    rw [w64s (n := (i : Int) + 1) (by omega) (by omega)]
    simpa using h
  | succ d ih =>
    intro j acc hj ha h
    have hx := hb _ (rd_mem (l := l) (i := i) hi)
    have hw : wrap64 ((j : Int) + 1) = ((j + 1 : Nat) : Int) := by rw [w64s (by omega) (by omega)]; omega
    refine ev1 (evp (by omega) (evp (by omega) (evp (by omega) (evp (by omega) (evp (by omega) ?_)))))
    rw [hw, rd_nat, w64s (n := l.getD i 0) (by omega) (by omega)]
    rw [List.range'_succ, List.map_cons] at h
    have h' : Ev (fun k => spec_BytesToBits.l0 k l ((acc ++ [itbAt (l.getD i 0) j]) ++ (List.range' (j + 1) d).map (itbAt (l.getD i 0))) ((i + 1 : Nat) : Int)) r := by
      rw [List.append_assoc]
      exact h
    exact ih (j + 1) _ (by omega) (by simp; omega) h'
theorem sb2b_loop (l : List Int) (hb : Bytes l) (hn : l.length ≤ 1000) : ∀ (d i : Nat) (acc : List Int), i + d = l.length → acc.length ≤ 8 * i → Ev (fun k => spec_BytesToBits.l0 k l acc i) (acc ++ b2bL (l.drop i)) := by
  intro d
  induction d with
  | zero =>
    intro i acc hi ha
    rw [List.drop_of_length_le (by omega)]
    exact ev1 (evn (by omega) (evc (by simp [b2bL])))
  | succ d ih =>
    intro i acc hi ha
    refine ev1 (evp (by omega) ?_)
    have h := ih (i + 1) (acc ++ itb (l.getD i 0) 8) (by omega) (by simp [itb_length]; omega)
    rw [List.append_assoc, ← b2bL_cons, ← dropGetD l i (by omega)] at h
    exact sb2b_in l hb i (by omega) hn _ 8 0 acc (by omega) (by omega) h
theorem sb2b_ev (l : List Int) (hb : Bytes l) (hn : l.length ≤ 1000) : Ev (fun k => spec_BytesToBits.f k l) (b2bL l) := by
  have := sb2b_loop l hb hn l.length 0 [] (by omega) (by simp)
  exact this

def scrOut (s : Int) : Int := Go.bits .and .i64 (Go.bits .xor .i64 (s / 8) (s / 64)) 1
def scrNext (s : Int) : Int := if 1 ≤ s ∧ s ≤ 127 then Go.bits .or .i64 (Go.bits .and .i64 (wrap64 (s * 2)) 127) (scrOut s) else 0
def scrGo : Int → List Int → List Int
  | _, [] => []
  | s, b :: r => Go.bits .xor .i64 b (scrOut s) :: scrGo (scrNext s) r
theorem scrGo_length : ∀ (l : List Int) (s : Int), (scrGo s l).length = l.length
  | [], _ => rfl
  | b :: r, s => by
    simp only [scrGo, List.length_cons]
    rw [scrGo_length r]
theorem andOne (x : Int) : Go.bits .and .i64 x 1 = 0 ∨ Go.bits .and .i64 x 1 = 1 := by
  have h : ∀ n : Nat, n ≤ 1 → IntKind.i64.wrap (n : Int) = n := by
    intro n hn
    rw [IntKind.wrap_i64]
    omega
  have e : Go.bits .and .i64 x 1 = IntKind.i64.wrap ((BitVec.ofInt 64 x &&& BitVec.ofInt 64 1).toNat : Int) := rfl
  have hle : (BitVec.ofInt 64 x &&& BitVec.ofInt 64 1).toNat ≤ 1 := by
    rw [BitVec.toNat_and]
    exact Nat.and_le_right
  rw [e, h _ hle]
  omega
theorem xorbit (a b : Int) (ha : a = 0 ∨ a = 1) (hb : b = 0 ∨ b = 1) : Go.bits .xor .i64 a b = 0 ∨ Go.bits .xor .i64 a b = 1 := by
  rcases ha with rfl | rfl <;> rcases hb with rfl | rfl <;> decide +kernel
theorem scrGo_bits : ∀ (l : List Int) (s : Int), Bits l → Bits (scrGo s l)
  | [], _, _ => by intro x hx; simp [scrGo] at hx
  | b :: r, s, h => by
    intro x hx
    simp only [scrGo, List.mem_cons] at hx
    rcases hx with rfl | hx
    · exact xorbit _ _ (h b (by simp)) (andOne _)
    · exact scrGo_bits r _ (fun y hy => h y (by simp [hy])) x hx
def scrL (s : Int) (l : List Int) : List Int := if 1 ≤ s ∧ s ≤ 127 then scrGo s l else l
theorem take_set_succ (x : List Int) (i : Nat) (v : Int) (h : i < x.length) : (x.set i v).take (i + 1) = x.take i ++ [v] := by
  rw [List.take_add_one, List.take_set_of_le (by omega)]
  simp [h]

theorem ibits_loop (l : List Int) (hn : l.length ≤ 4000000000000000) : ∀ (d i : Nat), i + d = l.length → Ev (fun k => impl_IsBitString.l0 k l l.length i) ((l.drop i).all fun x => decide (x = 0 ∨ x = 1)) := by
  intro d
  induction d with
  | zero =>
    intro i hi
    rw [List.drop_of_length_le (by omega)]
    exact ev1 (evn (by omega) (evc rfl))
  | succ d ih =>
    intro i hi
    refine ev1 (evp (by omega) (evp (by omega) (evp (by omega) ?_)))
    rw [drop_getD l i (by omega), List.all_cons, rd_nat, w64s (n := (i : Int) + 1) (by omega) (by omega)]
    by_cases h0 : l.getD i 0 = 0
    · rw [decide_eq_true (Or.inl h0), Bool.true_and]
      exact evp h0 (ih (i + 1) (by omega))
    · refine evn h0 ?_
      by_cases h1 : l.getD i 0 = 1
      · rw [decide_eq_true (Or.inr h1), Bool.true_and]
        exact evp h1 (ih (i + 1) (by omega))
      · rw [decide_eq_false (by omega), Bool.false_and]
        exact evn h1 (evc rfl)
theorem ibits_ev (l : List Int) (hn : l.length ≤ 4000000000000000) : Ev (fun k => impl_IsBitString.f k l) (l.all fun x => decide (x = 0 ∨ x = 1)) := ibits_loop l hn l.length 0 (by omega)
theorem ibits_all {l : List Int} (h : Bits l) : (l.all fun x => decide (x = 0 ∨ x = 1)) = true := by
  rw [List.all_eq_true]
  intro x hx
  exact decide_eq_true (h x hx)
theorem iall_bits {l : List Int} (h : (l.all fun x => decide (x = 0 ∨ x = 1)) = true) : Bits l := by
  intro x hx
  rw [List.all_eq_true] at h
  exact of_decide_eq_true (h x hx)

theorem inextscr_some (s : Int) : impl_NextScramblerState.f s = some (scrNext s) := by
  unfold impl_NextScramblerState.f scrNext
  rw [in_some]
  simp only [Option.bind_some]
  by_cases h : 1 ≤ s ∧ s ≤ 127
  · rw [if_pos (dt h), if_pos h]
    rfl
  · rw [if_neg (dnt h), if_neg h]
theorem iscr_loop (n : Nat) (hn : n ≤ 1000000) : ∀ (d i : Nat) (s : Int) (x : List Int), i + d = n → x.length = n → Ev (fun k => impl_Scramble.l0 k s x n i) (x.take i ++ scrGo s (x.drop i)) := by
  intro d
  induction d with
  | zero =>
    intro i s x hi hx
    rw [List.drop_of_length_le (by omega), List.take_of_length_le (by omega)]
    exact ev1 (evn (by omega) (evc (by simp [scrGo])))
  | succ d ih =>
    intro i s x hi hx
    refine ev1 (evp (by omega) (evp (by omega) (evp (by omega) (evs (show impl_scramblerOutput.f s = some (scrOut s) from rfl) (evs (inextscr_some s) ?_)))))
    rw [w64s (n := (i : Int) + 1) (by omega) (by omega), Int.toNat_natCast, rd_nat, drop_getD x i (by omega), scrGo]
    have h := ih (i + 1) (scrNext s) (x.set i (Go.bits .xor .i64 (x.getD i 0) (scrOut s))) (by omega) (by simpa using hx)
    rw [take_set_succ x i _ (by omega), List.append_assoc, List.drop_set_of_lt (by omega)] at h
    exact h
theorem iscr_ev (s : Int) (l : List Int) (hb : Bits l) (hn : l.length ≤ 1000000) : Ev (fun k => impl_Scramble.f k s l) (scrL s l) := by
  unfold impl_Scramble.f scrL
  refine evs (show impl_copyInts.f l = some l from if_pos (by omega)) (evs (in_some _ _ _) ?_)
  by_cases h : 1 ≤ s ∧ s ≤ 127
  · rw [if_pos h]
    have hbb := ibits_ev l (by omega)
    rw [ibits_all hb] at hbb
    have hl : Ev (fun k => impl_Scramble.j0 k s l false) (scrGo s l) := by
      have := iscr_loop l.length hn l.length 0 s l (by omega) rfl
      exact ev1 this
    exact evp (dt h) (Ev.bind hbb hl)
  · rw [if_neg h]
    exact evn (dnt h) (ev1 (evk fun _ => rfl))

theorem sbits_loop (l : List Int) (hn : l.length ≤ 4000000000000000) : ∀ (d i : Nat), i + d = l.length → Ev (fun k => spec_IsBitString.l0 k l i) ((l.drop i).all fun x => decide (0 ≤ x ∧ x ≤ 1)) := by
  intro d
  induction d with
  | zero =>
    intro i hi
    rw [List.drop_of_length_le (by omega)]
    exact ev1 (evn (by omega) (evc rfl))
  | succ d ih =>
    intro i hi
    refine ev1 (evp (by omega) (evp (by omega) (evs (l1_some _ _ _) ?_)))
    rw [drop_getD l i (by omega), List.all_cons, rd_nat]
    by_cases h : 0 ≤ l.getD i 0 ∧ l.getD i 0 ≤ 1
    · rw [decide_eq_true h, w64s (n := (i : Int) + 1) (by omega) (by omega)]
      exact evp rfl (ih (i + 1) (by omega))
    · rw [decide_eq_false h]
      exact evn (by decide) (evc rfl)
theorem sbits_ev (l : List Int) (hn : l.length ≤ 4000000000000000) : Ev (fun k => spec_IsBitString.f k l) (l.all fun x => decide (0 ≤ x ∧ x ≤ 1)) := sbits_loop l hn l.length 0 (by omega)
theorem bits_all {l : List Int} (h : Bits l) : (l.all fun x => decide (0 ≤ x ∧ x ≤ 1)) = true := by
  rw [List.all_eq_true]
  intro x hx
  have := h x hx
  exact decide_eq_true (by omega)
theorem all_bits {l : List Int} (h : (l.all fun x => decide (0 ≤ x ∧ x ≤ 1)) = true) : Bits l := by
  intro x hx
  rw [List.all_eq_true] at h
  have := of_decide_eq_true (h x hx)
  omega

theorem snextscr_some (s : Int) : spec_NextScramblerState.f s = some (scrNext s) := by
  unfold spec_NextScramblerState.f scrNext
  rw [l1_some]
  simp only [Option.bind_some]
  by_cases h : 1 ≤ s ∧ s ≤ 127
  · rw [if_pos (dt h), if_pos h]
    rfl
  · rw [if_neg (dnt h), if_neg h]
theorem sscr_loop (l : List Int) (hn : l.length ≤ 1000000) : ∀ (d i : Nat) (s : Int) (x : List Int), i + d = l.length → x.length = l.length → Ev (fun k => spec_Scramble.l0 k s l x i) (x.take i ++ scrGo s (l.drop i)) := by
  intro d
  induction d with
  | zero =>
    intro i s x hi hx
    rw [List.drop_of_length_le (by omega), List.take_of_length_le (by omega)]
    exact ev1 (evn (by omega) (evc (by simp [scrGo])))
  | succ d ih =>
    intro i s x hi hx
    refine ev1 (evp (by omega) (evp (by omega) (evs (show spec_l5Out.f s = some (scrOut s) from rfl) (evp (by omega) (evs (snextscr_some s) ?_)))))
    rw [w64s (n := (i : Int) + 1) (by omega) (by omega), Int.toNat_natCast, rd_nat, drop_getD l i (by omega), scrGo]
    have h := ih (i + 1) (scrNext s) (x.set i (Go.bits .xor .i64 (l.getD i 0) (scrOut s))) (by omega) (by simpa using hx)
    rw [take_set_succ x i _ (by omega), List.append_assoc] at h
    exact h
theorem sscr_ev (s : Int) (l : List Int) (hb : Bits l) (hn : l.length ≤ 1000000) : Ev (fun k => spec_Scramble.f k s l) (scrL s l) := by
  unfold spec_Scramble.f scrL
  refine evs rfl (evp (by simp; omega) (evs (show some (([] : List Int) ++ l) = some l from rfl) (evs (l1_some _ _ _) ?_)))
  by_cases h : 1 ≤ s ∧ s ≤ 127
  · rw [if_pos h]
    have hbb := sbits_ev l (by omega)
    rw [bits_all hb] at hbb
    have hl : Ev (fun k => spec_Scramble.j0 k s l l false) (scrGo s l) := by
      have := sscr_loop l hn l.length 0 s l (by omega) rfl
      exact ev1 this
    exact evp (dt h) (Ev.bind hbb hl)
  · rw [if_neg h]
    exact evn (dnt h) (ev1 (evk fun _ => rfl))

theorem ipair_some (s b : Int) (hs : 0 ≤ s ∧ s ≤ 3) (hb : b = 0 ∨ b = 1) : impl_OutputPair.f s b = some (outX s b, outY s b) ∧ impl_NextState.f s b = some (nxt s b) := by
  have hc : s = 0 ∨ s = 1 ∨ s = 2 ∨ s = 3 := by omega
  rcases hc with rfl | rfl | rfl | rfl <;> rcases hb with rfl | rfl <;> exact ⟨by decide +kernel, by decide +kernel⟩
theorem iconv_loop (l : List Int) (hb : Bits l) (hn : l.length ≤ 1000000000) : ∀ (d i : Nat) (acc : List Int) (s : Int), i + d = l.length + 2 → acc.length + 2 * d ≤ 4000000000 → 0 ≤ s ∧ s ≤ 3 →
    Ev (fun k => impl_ConvolutionalEncode.l0 k l acc s i) (acc ++ convGo s ((l ++ [0, 0]).drop i)) := by
  intro d
  induction d with
  | zero =>
    intro i acc s hi ha hs
    rw [List.drop_of_length_le (by simp; omega)]
    refine ev1 (evn (by rw [w64s (by omega) (by omega)]; omega) (evc (by simp [convGo])))
  | succ d ih =>
    intro i acc s hi ha hs
    have hbit : (l ++ [0, 0]).getD i 0 = 0 ∨ (l ++ [0, 0]).getD i 0 = 1 := by
      rw [pad_getD]
      split
      · exact bits_getD hb i
      · exact .inl rfl
    obtain ⟨h1, h2⟩ := ipair_some s _ hs hbit
    have h3 := ih (i + 1) (acc ++ [outX s ((l ++ [0, 0]).getD i 0), outY s ((l ++ [0, 0]).getD i 0)]) (nxt s ((l ++ [0, 0]).getD i 0)) (by omega) (by simp; omega) (nxt_range _ _)
    rw [drop_getD (l ++ [0, 0]) i (by simp; omega), convGo]
    rw [List.append_assoc] at h3
    refine ev1 (evp (by rw [w64s (by omega) (by omega)]; omega) ?_)
    have hw : wrap64 ((i : Int) + 1) = ((i + 1 : Nat) : Int) := by rw [w64s (by omega) (by omega)]; omega
    by_cases h : i < l.length
    · rw [pad_getD, if_pos h] at h1 h2 h3 ⊢
      refine evp (by omega) (evp (by omega) ?_)
      rw [rd_nat, hw]
      exact evs h1 (evs rfl (evp (by simp; omega) (evs h2 h3)))
    · rw [pad_getD, if_neg h] at h1 h2 h3 ⊢
      refine evn (by omega) ?_
      rw [hw]
      exact evs h1 (evs rfl (evp (by simp; omega) (evs h2 h3)))
theorem iconv_ev (l : List Int) (hb : Bits l) (hn : l.length ≤ 1000000000) : Ev (fun k => impl_ConvolutionalEncode.f k l) (conv l) := by
  unfold impl_ConvolutionalEncode.f
  have h := ibits_ev l (by omega)
  rw [ibits_all hb] at h
  refine Ev.bind h (evp rfl ?_)
  rw [w64s (n := (l.length : Int) + 2) (by omega) (by omega), w64s (n := 2 * ((l.length : Int) + 2)) (by omega) (by omega)]
  refine evp (by omega) (evp (by omega) ?_)
  exact iconv_loop l hb hn (l.length + 2) 0 [] 0 (by omega) (by simp; omega) (by omega)
theorem iconv_bad (l : List Int) (hb : ¬ Bits l) (hn : l.length ≤ 1000000000) : Ev (fun k => impl_ConvolutionalEncode.f k l) [] := by
  unfold impl_ConvolutionalEncode.f
  have h := ibits_ev l (by omega)
  have hf : (l.all fun x => decide (x = 0 ∨ x = 1)) = false := by
    cases e : (l.all fun x => decide (x = 0 ∨ x = 1)) with
    | false => rfl
    | true => exact absurd (iall_bits e) hb
  rw [hf] at h
  exact Ev.bind h (evn (by decide) (evc rfl))

theorem spair_some (s b : Int) (hs : 0 ≤ s ∧ s ≤ 3) (hb : b = 0 ∨ b = 1) : spec_OutputPair.f s b = some (outX s b, outY s b) ∧ spec_NextState.f s b = some (nxt s b) := by
  have hc : s = 0 ∨ s = 1 ∨ s = 2 ∨ s = 3 := by omega
  rcases hc with rfl | rfl | rfl | rfl <;> rcases hb with rfl | rfl <;> exact ⟨by decide +kernel, by decide +kernel⟩
theorem sconv_loop (l : List Int) (hb : Bits l) (hn : l.length ≤ 1000000000) : ∀ (d i : Nat) (acc : List Int) (s : Int), i + d = l.length + 2 → acc.length + 2 * d ≤ 4000000000 → 0 ≤ s ∧ s ≤ 3 →
    Ev (fun k => spec_ConvolutionalEncode.l0 k l acc s i) (acc ++ convGo s ((l ++ [0, 0]).drop i)) := by
  intro d
  induction d with
  | zero =>
    intro i acc s hi ha hs
    rw [List.drop_of_length_le (by simp; omega)]
    refine ev1 (evn (by rw [w64s (by omega) (by omega)]; omega) (evc (by simp [convGo])))
  | succ d ih =>
    intro i acc s hi ha hs
    have hbit : (l ++ [0, 0]).getD i 0 = 0 ∨ (l ++ [0, 0]).getD i 0 = 1 := by
      rw [pad_getD]
      split
      · exact bits_getD hb i
      · exact .inl rfl
    obtain ⟨h1, h2⟩ := spair_some s _ hs hbit
    have h3 := ih (i + 1) (acc ++ [outX s ((l ++ [0, 0]).getD i 0), outY s ((l ++ [0, 0]).getD i 0)]) (nxt s ((l ++ [0, 0]).getD i 0)) (by omega) (by simp; omega) (nxt_range _ _)
    rw [drop_getD (l ++ [0, 0]) i (by simp; omega), convGo]
    rw [List.append_assoc] at h3
    refine ev1 (evp (by rw [w64s (by omega) (by omega)]; omega) ?_)
    have hw : wrap64 ((i : Int) + 1) = ((i + 1 : Nat) : Int) := by rw [w64s (by omega) (by omega)]; omega
    by_cases h : i < l.length
    · rw [pad_getD, if_pos h] at h1 h2 h3 ⊢
      refine evp (by omega) (evp (by omega) ?_)
      rw [rd_nat, hw]
      exact evs h1 (evs rfl (evp (by simp; omega) (evs h2 h3)))
    · rw [pad_getD, if_neg h] at h1 h2 h3 ⊢
      refine evn (by omega) ?_
      rw [hw]
      exact evs h1 (evs rfl (evp (by simp; omega) (evs h2 h3)))
theorem sconv_ev (l : List Int) (hb : Bits l) (hn : l.length ≤ 1000000000) : Ev (fun k => spec_ConvolutionalEncode.f k l) (conv l) := by
  unfold spec_ConvolutionalEncode.f
  have h := sbits_ev l (by omega)
  rw [bits_all hb] at h
  refine evs rfl (Ev.bind h (evp rfl ?_))
  exact sconv_loop l hb hn (l.length + 2) 0 [] 0 (by omega) (by simp; omega) (by omega)
theorem sconv_bad (l : List Int) (hb : ¬ Bits l) (hn : l.length ≤ 1000000000) : Ev (fun k => spec_ConvolutionalEncode.f k l) [] := by
  unfold spec_ConvolutionalEncode.f
  have h := sbits_ev l (by omega)
  have hf : (l.all fun x => decide (0 ≤ x ∧ x ≤ 1)) = false := by
    cases e : (l.all fun x => decide (0 ≤ x ∧ x ≤ 1)) with
    | false => rfl
    | true => exact absurd (all_bits e) hb
  rw [hf] at h
  exact evs rfl (Ev.bind h (evn (by decide) (evc rfl)))

/-- What puncturing leaves of the symbols from the i-th on. -/
def punctGo : Nat → List Int → List Int
  | _, [] => []
  | i, s :: r => if i % 4 = 3 then punctGo (i + 1) r else s :: punctGo (i + 1) r
theorem drop_getD' (L : List Int) (i : Nat) (h : i < L.length) : L.drop i = L.getD i 0 :: L.drop (i + 1) := by
  rw [List.drop_eq_getElem_cons h, List.getD_eq_getElem?_getD, List.getElem?_eq_getElem h]
  rfl
theorem punctGo_length : ∀ (l : List Int) (i : Nat), (punctGo i l).length + (i + l.length) / 4 = l.length + i / 4
  | [], i => by simp [punctGo]
  | s :: r, i => by
    have h := punctGo_length r (i + 1)
    unfold punctGo
    split
    · simp only [List.length_cons] at *
      rw [show i + (r.length + 1) = i + 1 + r.length by omega]
      omega
    · simp only [List.length_cons] at *
      rw [show i + (r.length + 1) = i + 1 + r.length by omega]
      omega
theorem tmod4 (i : Nat) : Int.tmod (i : Int) 4 = ((i % 4 : Nat) : Int) := by
  rw [Int.tmod_eq_emod_of_nonneg (by omega)]
  omega
theorem punct_loop (l : List Int) (hn : l.length ≤ 1000000000) : ∀ (d i : Nat) (acc : List Int), i + d = l.length → acc.length ≤ i → Ev (fun k => impl_Puncture.l0 k acc l l.length i) (acc ++ punctGo i (l.drop i)) := by
  intro d
  induction d with
  | zero =>
    intro i acc hi ha
    rw [List.drop_of_length_le (by omega)]
    exact ev1 (evn (by omega) (evc (by simp [punctGo])))
  | succ d ih =>
    intro i acc hi ha
    rw [drop_getD' l i (by omega), punctGo]
    refine ev1 (evp (by omega) (evp (by omega) (evp (by omega) ?_)))
    rw [tmod4, w64s (n := (i : Int) + 1) (by omega) (by omega), rd_nat]
    by_cases h : i % 4 = 3
    · rw [if_pos h]
      exact evp (by omega) (ih (i + 1) acc (by omega) (by omega))
    · rw [if_neg h]
      refine evn (by omega) (evp (by omega) ?_)
      have := ih (i + 1) (acc ++ [l.getD i 0]) (by omega) (by simp; omega)
      rw [List.append_assoc] at this
      exact this
theorem punct_ev (l : List Int) (hn : l.length ≤ 1000000000) : Ev (fun k => impl_Puncture.f k l) (punctGo 0 l) := by
  have := punct_loop l hn l.length 0 [] (by omega) (by simp)
  rw [List.drop_zero] at this
  exact this

theorem spunct_loop (l : List Int) (hn : l.length ≤ 1000000000) : ∀ (d i : Nat) (acc : List Int), i + d = l.length → acc.length ≤ i → Ev (fun k => spec_Puncture.l0 k l acc i) (acc ++ punctGo i (l.drop i)) := by
  intro d
  induction d with
  | zero =>
    intro i acc hi ha
    rw [List.drop_of_length_le (by omega)]
    exact ev1 (evn (by omega) (evc (by simp [punctGo])))
  | succ d ih =>
    intro i acc hi ha
    rw [drop_getD' l i (by omega), punctGo]
    refine ev1 (evp (by omega) ?_)
    rw [tmod4, w64s (n := (i : Int) + 1) (by omega) (by omega), rd_nat]
    by_cases h : i % 4 = 3
    · rw [if_pos h]
      exact evp (by omega) (ih (i + 1) acc (by omega) (by omega))
    · rw [if_neg h]
      refine evn (by omega) (evp (by omega) (evp (by omega) ?_))
      have := ih (i + 1) (acc ++ [l.getD i 0]) (by omega) (by simp; omega)
      rw [List.append_assoc] at this
      exact this
theorem spunct_ev (l : List Int) (hn : l.length ≤ 1000000000) : Ev (fun k => spec_Puncture.f k l) (punctGo 0 l) := by
  have := spunct_loop l hn l.length 0 [] (by omega) (by simp)
  rw [List.drop_zero] at this
  exact this

theorem min_some (a b : Int) : impl_Min.f a b = some (if b < a then b else a) := by
  unfold impl_Min.f
  split <;> rfl
theorem isInter_some (a b : Int) : impl_isInterleaver.f a b = some (decide ((1 ≤ b ∧ b ≤ 64) ∧ (0 ≤ a ∧ a ≤ 10000))) := by
  unfold impl_isInterleaver.f
  by_cases h : 1 ≤ b ∧ b ≤ 64 <;> simp [in_some, h]
theorem idx_some (a b c : Int) : ∃ r, impl_InterleavedIndex.f a b c = some r := by
  unfold impl_InterleavedIndex.f
  simp only [isInter_some, in_some, min_some, Option.bind_some]
  by_cases h : (1 ≤ b ∧ b ≤ 64) ∧ (0 ≤ a ∧ a ≤ 10000)
  · rw [if_pos (by simpa using h)]
    split
    · rw [if_neg (by omega)]
      exact ⟨_, rfl⟩
    · exact ⟨_, rfl⟩
  · rw [if_neg (by simpa using h)]
    exact ⟨_, rfl⟩

/-- The place of a symbol: in plain numbers. -/
def idxS (a b x : Int) : Int := x * (a / b) + (if a % b < x then a % b else x)
def idxF (a b c : Int) : Int := idxS a b (c % b) + c / b
theorem idx_upper (a b c : Int) (hb : 1 ≤ b) (hc : 0 ≤ c ∧ c < a) : idxF a b c < idxS a b (c % b + 1) ∧ idxS a b (c % b) ≤ idxF a b c := by
  have h1 : b * (c / b) + c % b = c := Int.mul_ediv_add_emod c b
  have h2 : b * (a / b) + a % b = a := Int.mul_ediv_add_emod a b
  have m1 : 0 ≤ c % b := Int.emod_nonneg _ (by omega)
  have m2 : c % b < b := Int.emod_lt_of_pos _ (by omega)
  have m3 : 0 ≤ a % b := Int.emod_nonneg _ (by omega)
  have m4 : a % b < b := Int.emod_lt_of_pos _ (by omega)
  have d1 : 0 ≤ a / b := Int.ediv_nonneg (by omega) (by omega)
  have d3 : 0 ≤ c / b := Int.ediv_nonneg hc.1 (by omega)
  unfold idxF idxS
  generalize c % b = x at *
  generalize a % b = y at *
  generalize a / b = z at *
  generalize c / b = u at *
  rw [Int.add_mul]
  by_cases hxy : x < y
  · have hu : u ≤ z := by
      rcases Int.lt_or_le z u with h | h
      · exfalso
        have : b * (z + 1) ≤ b * u := Int.mul_le_mul_of_nonneg_left (by omega) (by omega)
        rw [Int.mul_add] at this
        omega
      · exact h
    rw [if_neg (by omega), if_neg (by omega)]
    omega
  · have hu : u < z := by
      rcases Int.lt_or_le u z with h | h
      · exact h
      · exfalso
        have : b * z ≤ b * u := Int.mul_le_mul_of_nonneg_left (by omega) (by omega)
        omega
    rw [if_pos (show y < x + 1 by omega)]
    have e : (if y < x then y else x) = y := by split <;> omega
    rw [e]
    omega
theorem idxS_mono (a b x x' : Int) (hb : 1 ≤ b) (ha : 0 ≤ a) (h : x ≤ x') : idxS a b x ≤ idxS a b x' := by
  unfold idxS
  have d1 : 0 ≤ a / b := Int.ediv_nonneg ha (by omega)
  have : x * (a / b) ≤ x' * (a / b) := Int.mul_le_mul_of_nonneg_right h d1
  split <;> split <;> omega
theorem idxF_range (a b c : Int) (hb : 1 ≤ b) (hc : 0 ≤ c ∧ c < a) : 0 ≤ idxF a b c ∧ idxF a b c < a := by
  obtain ⟨h1, h2⟩ := idx_upper a b c hb hc
  have m1 : 0 ≤ c % b := Int.emod_nonneg _ (by omega)
  have m2 : c % b < b := Int.emod_lt_of_pos _ (by omega)
  have m3 : 0 ≤ a % b := Int.emod_nonneg _ (by omega)
  have m4 : a % b < b := Int.emod_lt_of_pos _ (by omega)
  have k1 := idxS_mono a b 0 (c % b) hb (by omega) m1
  have k2 := idxS_mono a b (c % b + 1) b hb (by omega) (by omega)
  have e0 : idxS a b 0 = 0 := by
    unfold idxS
    rw [Int.zero_mul, if_neg (by omega)]
    omega
  have e1 : idxS a b b = a := by
    unfold idxS
    rw [if_pos m4]
    exact Int.mul_ediv_add_emod a b
  omega
theorem idxF_inj (a b c c' : Int) (hb : 1 ≤ b) (hc : 0 ≤ c ∧ c < a) (hc' : 0 ≤ c' ∧ c' < a) (h : idxF a b c = idxF a b c') : c = c' := by
  obtain ⟨h1, h2⟩ := idx_upper a b c hb hc
  obtain ⟨h3, h4⟩ := idx_upper a b c' hb hc'
  have e : c % b = c' % b := by
    rcases Int.lt_trichotomy (c % b) (c' % b) with k | k | k
    · have := idxS_mono a b (c % b + 1) (c' % b) hb (by omega) (by omega)
      omega
    · exact k
    · have := idxS_mono a b (c' % b + 1) (c % b) hb (by omega) (by omega)
      omega
  have e2 : c / b = c' / b := by
    unfold idxF at h
    rw [e] at h
    omega
  have h5 : b * (c / b) + c % b = c := Int.mul_ediv_add_emod c b
  have h6 : b * (c' / b) + c' % b = c' := Int.mul_ediv_add_emod c' b
  rw [← h5, ← h6, e, e2]
theorem idx_is (a b c : Int) (hb : 1 ≤ b ∧ b ≤ 64) (ha : 0 ≤ a ∧ a ≤ 10000) (hc : 0 ≤ c ∧ c < a) : impl_InterleavedIndex.f a b c = some (idxF a b c) := by
  have hr := idxF_range a b c hb.1 hc
  unfold impl_InterleavedIndex.f
  simp only [isInter_some, in_some, min_some, Option.bind_some]
  rw [if_pos (by simpa using ⟨hb, ha⟩), if_pos (by rw [w64s (by omega) (by omega)]; simp; omega), if_neg (by omega)]
  have e1 : Int.tmod c b = c % b := Int.tmod_eq_emod_of_nonneg hc.1
  have e2 : Int.tmod a b = a % b := Int.tmod_eq_emod_of_nonneg ha.1
  have e3 : Int.tdiv a b = a / b := Int.tdiv_eq_ediv_of_nonneg ha.1
  have e4 : Int.tdiv c b = c / b := Int.tdiv_eq_ediv_of_nonneg hc.1
  rw [e1, e2, e3, e4]
  unfold idxF idxS at *
  have m1 : 0 ≤ c % b := Int.emod_nonneg _ (by omega)
  have m2 : c % b < b := Int.emod_lt_of_pos _ (by omega)
  have m3 : 0 ≤ a % b := Int.emod_nonneg _ (by omega)
  have m4 : a % b < b := Int.emod_lt_of_pos _ (by omega)
  have d1 : 0 ≤ a / b := Int.ediv_nonneg ha.1 (by omega)
  have d2 : a / b ≤ a := Int.ediv_le_self _ ha.1
  have d3 : 0 ≤ c / b := Int.ediv_nonneg hc.1 (by omega)
  have d4 : c / b ≤ c := Int.ediv_le_self _ hc.1
  generalize c % b = x at *
  generalize a % b = y at *
  generalize a / b = z at *
  generalize c / b = u at *
  have hx : 0 ≤ x * z := Int.mul_nonneg m1 d1
  have hx2 : x * z ≤ 64 * 10000 := Int.mul_le_mul (by omega) (by omega) d1 (by omega)
  rw [w64s (n := z) (by omega) (by omega), w64s (n := u) (by omega) (by omega)]
  have hmn : 0 ≤ (if y < x then y else x) ∧ (if y < x then y else x) ≤ 64 := by split <;> omega
  generalize (if y < x then y else x) = q at *
  generalize x * z = v at *
  rw [w64s (n := v) (by omega) (by omega), w64s (n := v + q) (by omega) (by omega), w64s (n := v + q + u) (by omega) (by omega)]

def ipl (l : List Int) (b : Int) (c : Nat) : Nat := (idxF (l.length : Int) b (c : Int)).toNat
def intGo (l : List Int) (b : Int) : Nat → Nat → List Int → List Int
  | 0, _, x => x
  | d + 1, i, x => intGo l b d (i + 1) (x.set (ipl l b i) (l.getD i 0))
def deGo (l : List Int) (b : Int) : Nat → Nat → List Int → List Int
  | 0, _, x => x
  | d + 1, i, x => deGo l b d (i + 1) (x.set i (l.getD (ipl l b i) 0))
theorem intGo_length (l : List Int) (b : Int) : ∀ (d i : Nat) (x : List Int), (intGo l b d i x).length = x.length
  | 0, _, _ => rfl
  | d + 1, i, x => by
    unfold intGo
    rw [intGo_length l b d]
    simp
theorem deGo_length (l : List Int) (b : Int) : ∀ (d i : Nat) (x : List Int), (deGo l b d i x).length = x.length
  | 0, _, _ => rfl
  | d + 1, i, x => by
    unfold deGo
    rw [deGo_length l b d]
    simp
theorem ipl_lt (l : List Int) (b : Int) (hb : 1 ≤ b) (c : Nat) (h : c < l.length) : ipl l b c < l.length ∧ ((ipl l b c : Nat) : Int) = idxF (l.length : Int) b (c : Int) := by
  have := idxF_range (l.length : Int) b (c : Int) hb (by omega)
  unfold ipl
  omega
theorem ipl_inj (l : List Int) (b : Int) (hb : 1 ≤ b) (c e : Nat) (h : c < l.length) (h' : e < l.length) (q : ipl l b c = ipl l b e) : c = e := by
  have h1 := (ipl_lt l b hb c h).2
  have h2 := (ipl_lt l b hb e h').2
  have := idxF_inj (l.length : Int) b (c : Int) (e : Int) hb (by omega) (by omega) (by omega)
  omega
theorem step_up (f : Int → Int) (p : Int) : ∀ n : Nat, f 0 ≤ p → p < f n → ∃ x : Nat, x < n ∧ f (x : Int) ≤ p ∧ p < f ((x : Int) + 1)
  | 0, h0, h1 => absurd h1 (by simp; omega)
  | n + 1, h0, h1 => by
    by_cases h : f (n : Int) ≤ p
    · exact ⟨n, by omega, h, by simpa using h1⟩
    · obtain ⟨x, hx, h2, h3⟩ := step_up f p n h0 (by omega)
      exact ⟨x, by omega, h2, h3⟩
theorem idxF_surj (a b p : Int) (hb : 1 ≤ b) (hp : 0 ≤ p ∧ p < a) : ∃ c : Int, (0 ≤ c ∧ c < a) ∧ idxF a b c = p := by
  have m3 : 0 ≤ a % b := Int.emod_nonneg _ (by omega)
  have m4 : a % b < b := Int.emod_lt_of_pos _ (by omega)
  have d1 : 0 ≤ a / b := Int.ediv_nonneg (by omega) (by omega)
  have e0 : idxS a b 0 = 0 := by
    unfold idxS
    rw [Int.zero_mul, if_neg (by omega)]
    omega
  have e1 : idxS a b b = a := by
    unfold idxS
    rw [if_pos m4]
    exact Int.mul_ediv_add_emod a b
  obtain ⟨x, hx, h2, h3⟩ := step_up (idxS a b) p b.toNat (by omega) (by rw [show ((b.toNat : Nat) : Int) = b by omega, e1]; omega)
  have hu : 0 ≤ p - idxS a b x := by omega
  have hm : ((p - idxS a b x) * b + x) % b = x := by
    rw [Int.add_comm, Int.add_mul_emod_self_right]
    exact Int.emod_eq_of_lt (by omega) (by omega)
  have hd : ((p - idxS a b x) * b + x) / b = p - idxS a b x := by
    rw [Int.add_comm, Int.add_mul_ediv_right _ _ (by omega), Int.ediv_eq_zero_of_lt (by omega) (by omega)]
    omega
  have hlt : (p - idxS a b x) * b + x < a := by
    have e2 : b * (a / b) + a % b = a := Int.mul_ediv_add_emod a b
    have e3 : idxS a b ((x : Int) + 1) = idxS a b x + a / b + (if (x : Int) < a % b then 1 else 0) := by
      unfold idxS
      rw [Int.add_mul, Int.one_mul]
      split <;> split <;> split <;> omega
    rw [e3] at h3
    have hu2 : p - idxS a b x < a / b + (if (x : Int) < a % b then 1 else 0) := by omega
    clear hm hd hu e3 h3 h2
    generalize p - idxS a b x = u at *
    by_cases hxy : (x : Int) < a % b
    · rw [if_pos hxy] at hu2
      have : u * b ≤ (a / b) * b := Int.mul_le_mul_of_nonneg_right (by omega) (by omega)
      rw [Int.mul_comm (a / b) b] at this
      omega
    · rw [if_neg hxy] at hu2
      have : (u + 1) * b ≤ (a / b) * b := Int.mul_le_mul_of_nonneg_right (by omega) (by omega)
      rw [Int.mul_comm (a / b) b, Int.add_mul] at this
      omega
  refine ⟨(p - idxS a b x) * b + x, ⟨?_, hlt⟩, ?_⟩
  · have := Int.mul_nonneg hu (show 0 ≤ b by omega)
    omega
  · unfold idxF
    rw [hm, hd]
    omega
theorem ipl_surj (l : List Int) (b : Int) (hb : 1 ≤ b) (p : Nat) (hp : p < l.length) : ∃ c : Nat, c < l.length ∧ ipl l b c = p := by
  obtain ⟨c, hc, e⟩ := idxF_surj (l.length : Int) b (p : Int) hb (by omega)
  obtain ⟨c, rfl⟩ := Int.eq_ofNat_of_zero_le hc.1
  refine ⟨c, by omega, ?_⟩
  unfold ipl
  rw [e]
  omega
theorem intGo_at (l : List Int) (b : Int) (hb : 1 ≤ b) : ∀ (d i : Nat) (x : List Int), i + d = l.length → x.length = l.length → (∀ j, j < i → x.getD (ipl l b j) 0 = l.getD j 0) → ∀ j, j < l.length → (intGo l b d i x).getD (ipl l b j) 0 = l.getD j 0 := by
  intro d
  induction d with
  | zero =>
    intro i x hi hx hj j h
    exact hj j (by omega)
  | succ d ih =>
    intro i x hi hx hj j h
    unfold intGo
    refine ih (i + 1) _ (by omega) (by simpa using hx) (fun j hj' => ?_) j h
    have := (ipl_lt l b hb j (by omega)).1
    rw [getD_set]
    by_cases e : i = j
    · subst e
      rw [if_pos ⟨rfl, by omega⟩]
    · rw [if_neg (fun q => e (ipl_inj l b hb i j (by omega) (by omega) q.1))]
      exact hj j (by omega)
theorem deGo_at (l : List Int) (b : Int) : ∀ (d i : Nat) (x : List Int), i + d = l.length → x.length = l.length → (∀ j, j < i → x.getD j 0 = l.getD (ipl l b j) 0) → ∀ j, j < l.length → (deGo l b d i x).getD j 0 = l.getD (ipl l b j) 0 := by
  intro d
  induction d with
  | zero =>
    intro i x hi hx hj j h
    exact hj j (by omega)
  | succ d ih =>
    intro i x hi hx hj j h
    unfold deGo
    refine ih (i + 1) _ (by omega) (by simpa using hx) (fun j hj' => ?_) j h
    rw [getD_set]
    by_cases e : i = j
    · subst e
      rw [if_pos ⟨rfl, by omega⟩]
    · rw [if_neg (fun q => e q.1)]
      exact hj j (by omega)
def intL (l : List Int) (b : Int) : List Int := if (1 ≤ b ∧ b ≤ 64) ∧ (0 ≤ (l.length : Int) ∧ (l.length : Int) ≤ 10000) then intGo l b l.length 0 l else l
def deL (l : List Int) (b : Int) : List Int := if (1 ≤ b ∧ b ≤ 64) ∧ (0 ≤ (l.length : Int) ∧ (l.length : Int) ≤ 10000) then deGo l b l.length 0 l else l
theorem intL_length (l : List Int) (b : Int) : (intL l b).length = l.length := by
  unfold intL
  split
  · exact intGo_length _ _ _ _ _
  · rfl
theorem deL_length (l : List Int) (b : Int) : (deL l b).length = l.length := by
  unfold deL
  split
  · exact deGo_length _ _ _ _ _
  · rfl

theorem iint_loop (l : List Int) (b : Int) (hb : 1 ≤ b ∧ b ≤ 64) (hn : l.length ≤ 10000) : ∀ (d i : Nat) (x : List Int), i + d = l.length → x.length = l.length → Ev (fun k => impl_Interleave.l0 k l b x l l.length i) (intGo l b d i x) := by
  intro d
  induction d with
  | zero =>
    intro i x hi hx
    exact ev1 (evn (by omega) (evc rfl))
  | succ d ih =>
    intro i x hi hx
    obtain ⟨h1, h2⟩ := ipl_lt l b hb.1 i (by omega)
    refine ev1 (evp (by omega) (evp (by omega) (evp (by omega) (evs (idx_is _ _ _ hb (by omega) (by omega)) ?_))))
    rw [← h2, rd_nat, w64s (n := (i : Int) + 1) (by omega) (by omega), Int.toNat_natCast]
    exact evp (by omega) (evp (by omega) (ih (i + 1) _ (by omega) (by simpa using hx)))
theorem iint_ev (l : List Int) (b : Int) (hn : l.length ≤ 4000000) : Ev (fun k => impl_Interleave.f k l b) (intL l b) := by
  unfold impl_Interleave.f intL
  refine evs (show impl_copyInts.f l = some l from if_pos (by omega)) (evs (isInter_some _ _) ?_)
  by_cases h : (1 ≤ b ∧ b ≤ 64) ∧ (0 ≤ (l.length : Int) ∧ (l.length : Int) ≤ 10000)
  · rw [if_pos h]
    exact evp (dt h) (iint_loop l b h.1 (by omega) l.length 0 l (by omega) rfl)
  · rw [if_neg h]
    exact evn (dnt h) (evc rfl)

theorem smin_some (a b : Int) : spec_Min.f a b = some (if b < a then b else a) := by
  unfold spec_Min.f
  split <;> rfl
theorem l8_some (a b : Int) : spec_l8Ok.f a b = some (decide ((1 ≤ b ∧ b ≤ 64) ∧ (0 ≤ a ∧ a ≤ 10000))) := by
  unfold spec_l8Ok.f
  by_cases h : 1 ≤ b ∧ b ≤ 64 <;> simp [l1_some, h]
theorem idx_same (a b c : Int) : spec_InterleavedIndex.f a b c = impl_InterleavedIndex.f a b c := by
  unfold spec_InterleavedIndex.f impl_InterleavedIndex.f
  simp only [isInter_some, l8_some, in_some, l1_some, min_some, smin_some]

theorem sint_loop (l : List Int) (b : Int) (hb : 1 ≤ b ∧ b ≤ 64) (hn : l.length ≤ 10000) : ∀ (d i : Nat) (x : List Int), i + d = l.length → x.length = l.length → Ev (fun k => spec_Interleave.l0 k l b x i) (intGo l b d i x) := by
  intro d
  induction d with
  | zero =>
    intro i x hi hx
    exact ev1 (evn (by omega) (evc rfl))
  | succ d ih =>
    intro i x hi hx
    obtain ⟨h1, h2⟩ := ipl_lt l b hb.1 i (by omega)
    refine ev1 (evp (by omega) (evs ((idx_same _ _ _).trans (idx_is _ _ _ hb (by omega) (by omega))) ?_))
    rw [← h2, rd_nat, w64s (n := (i : Int) + 1) (by omega) (by omega), Int.toNat_natCast]
    exact evp (by omega) (evp (by omega) (evp (by omega) (ih (i + 1) _ (by omega) (by simpa using hx))))
theorem sint_ev (l : List Int) (b : Int) (hn : l.length ≤ 4000000) : Ev (fun k => spec_Interleave.f k l b) (intL l b) := by
  unfold spec_Interleave.f intL
  refine evs rfl (evp (by simp; omega) (evs (show some (([] : List Int) ++ l) = some l from rfl) (evs (l8_some _ _) ?_)))
  by_cases h : (1 ≤ b ∧ b ≤ 64) ∧ (0 ≤ (l.length : Int) ∧ (l.length : Int) ≤ 10000)
  · rw [if_pos h]
    exact evp (dt h) (sint_loop l b h.1 (by omega) l.length 0 l (by omega) rfl)
  · rw [if_neg h]
    exact evn (dnt h) (evc rfl)

theorem toBytes_loop (x0 : List Int) (hn : x0.length ≤ 4000000000000000) : ∀ (d i : Nat) (x3 : List Int), i + d = x0.length → x3.length = x0.length → (∀ j, j < i → x3.getD j 0 = x0.getD j 0) → Ev (fun k => laws_toByteS.l0 k x0 x3 i) x0 := by
  intro d
  induction d with
  | zero =>
    intro i x3 hi hl hj
    refine ev1 ?_
    refine evn (by omega) (evc ?_)
    rw [list_ext hl (fun j h => hj j (by omega))]
  | succ d ih =>
    intro i x3 hi hl hj
    refine ev1 ?_
    refine evp (by omega) (evp (by omega) (evp (by omega) ?_))
    rw [w64s (by omega) (by omega), Int.toNat_natCast, rd_nat]
    have := ih (i + 1) (x3.set i (x0.getD i 0)) (by omega) (by simpa using hl) (by
      intro j h
      rw [getD_set]
      by_cases e : i = j
      · subst e
        rw [if_pos ⟨rfl, by omega⟩]
      · rw [if_neg (fun h' => e h'.1)]
        exact hj j (by omega))
    exact this
theorem toBytes_ev (l : List Int) (hn : l.length ≤ 1048576) : Ev (fun k => laws_toByteS.f k l) l := by
  unfold laws_toByteS.f
  refine evp (by omega) (evp (by omega) ?_)
  exact toBytes_loop l (by omega) l.length 0 _ (by omega) (by simp) (by intro j h; omega)

theorem eqBytes_loop (x : List Int) (hn : x.length ≤ 4000000000000000) : ∀ (d i : Nat), i + d = x.length → Ev (fun k => laws_eqByteS.l0 k x x i) true := by
  intro d
  induction d with
  | zero =>
    intro i hi
    refine ev1 ?_
    exact evn (by omega) (evc rfl)
  | succ d ih =>
    intro i hi
    refine ev1 ?_
    refine evp (by omega) (evp (by omega) (evp (by omega) (evp rfl ?_)))
    rw [w64s (by omega) (by omega)]
    exact ih (i + 1) (by omega)
theorem eqBytes_ev (l : List Int) (hn : l.length ≤ 4000000000000000) : Ev (fun k => laws_eqByteS.f k l l) true := by
  unfold laws_eqByteS.f
  exact evp rfl (eqBytes_loop l hn l.length 0 (by omega))

theorem eqInts_loop (x : List Int) (hn : x.length ≤ 4000000000000000) : ∀ (d i : Nat), i + d = x.length → Ev (fun k => laws_eqIntS.l0 k x x i) true := by
  intro d
  induction d with
  | zero =>
    intro i hi
    refine ev1 ?_
    exact evn (by omega) (evc rfl)
  | succ d ih =>
    intro i hi
    refine ev1 ?_
    refine evp (by omega) (evp (by omega) (evp (by omega) (evp rfl ?_)))
    rw [w64s (by omega) (by omega)]
    exact ih (i + 1) (by omega)
theorem eqInts_ev (l : List Int) (hn : l.length ≤ 4000000000000000) : Ev (fun k => laws_eqIntS.f k l l) true := by
  unfold laws_eqIntS.f
  exact evp rfl (eqInts_loop l hn l.length 0 (by omega))

def marksI (s : Int) (n : Nat) : List Int := (List.range n).map fun j : Nat => (s + (j : Int))
theorem marksI_length (s : Int) (n : Nat) : (marksI s n).length = n := by simp [marksI]
theorem marksI_at (s : Int) (n j : Nat) (h : j < n) : (marksI s n).getD j 0 = (s + (j : Int)) := by
  simp [marksI, List.getD_eq_getElem?_getD, List.getElem?_map, List.getElem?_range h]
theorem markInts_loop (n : Nat) (hn : n ≤ 4000000000000000) (s : Int) (h0 : 0 ≤ s) (hs : s ≤ 4000000000000000) : ∀ (d i : Nat) (x : List Int), i + d = n → x.length = n → (∀ j, j < i → x.getD j 0 = (s + (j : Int))) →
    Ev (fun k => laws_markIntS.l0 k x (s + i) i) (s + n, marksI s n) := by
  intro d
  induction d with
  | zero =>
    intro i x hi hl hj
    refine ev1 ?_
    refine evn (by omega) (evc ?_)
    rw [show i = n by omega, list_ext (a := x) (b := marksI s n) (by rw [hl, marksI_length]) (fun j h => by rw [hj j (by omega), marksI_at s n j (by omega)])]
  | succ d ih =>
    intro i x hi hl hj
    refine ev1 ?_
    refine evp (by omega) (evp (by omega) ?_)
    rw [w64s (by omega) (by omega), w64s (by omega) (by omega), Int.toNat_natCast]
    have := ih (i + 1) (x.set i (s + (i : Int))) (by omega) (by simpa using hl) (by
      intro j h
      rw [getD_set]
      by_cases e : i = j
      · subst e
        rw [if_pos ⟨rfl, by omega⟩]
      · rw [if_neg (fun h' => e h'.1)]
        exact hj j (by omega))
    rw [show s + ((i + 1 : Nat) : Int) = s + (i : Int) + 1 by omega] at this
    exact this
theorem markInts_ev (l : List Int) (hn : l.length ≤ 4000000000000000) (s : Int) (h0 : 0 ≤ s) (hs : s ≤ 4000000000000000) : Ev (fun k => laws_markIntS.f k l s) (s + l.length, marksI s l.length) := by
  have := markInts_loop l.length hn s h0 hs l.length 0 l (by omega) rfl (by intro j h; omega)
  rw [show s + ((0 : Nat) : Int) = s by omega] at this
  exact this
theorem heldInts_loop (n : Nat) (hn : n ≤ 4000000000000000) (s : Int) (h0 : 0 ≤ s) (hs : s ≤ 4000000000000000) : ∀ (d i : Nat), i + d = n →
    Ev (fun k => laws_heldIntS.l0 k (marksI s n) (s + i) i) (s + n) := by
  intro d
  induction d with
  | zero =>
    intro i hi
    refine ev1 ?_
    refine evn (by rw [marksI_length]; omega) (evc ?_)
    rw [show i = n by omega]
  | succ d ih =>
    intro i hi
    refine ev1 ?_
    refine evp (by rw [marksI_length]; omega) (evp (by omega) (evp (by rw [rd_nat, marksI_at s n i (by omega)]) ?_))
    rw [w64s (by omega) (by omega), w64s (by omega) (by omega)]
    have := ih (i + 1) (by omega)
    rw [show s + ((i + 1 : Nat) : Int) = s + (i : Int) + 1 by omega] at this
    exact this
theorem heldInts_ev (n : Nat) (hn : n ≤ 4000000000000000) (s : Int) (h0 : 0 ≤ s) (hs : s ≤ 4000000000000000) : Ev (fun k => laws_heldIntS.f k (marksI s n) s) (s + n) := by
  have := heldInts_loop n hn s h0 hs n 0 (by omega)
  rw [show s + ((0 : Nat) : Int) = s by omega] at this
  exact this

def marksB (s : Int) (n : Nat) : List Int := (List.range n).map fun j : Nat => ((s + (j : Int)) % 256)
theorem marksB_length (s : Int) (n : Nat) : (marksB s n).length = n := by simp [marksB]
theorem marksB_at (s : Int) (n j : Nat) (h : j < n) : (marksB s n).getD j 0 = ((s + (j : Int)) % 256) := by
  simp [marksB, List.getD_eq_getElem?_getD, List.getElem?_map, List.getElem?_range h]
theorem markBytes_loop (n : Nat) (hn : n ≤ 4000000000000000) (s : Int) (h0 : 0 ≤ s) (hs : s ≤ 4000000000000000) : ∀ (d i : Nat) (x : List Int), i + d = n → x.length = n → (∀ j, j < i → x.getD j 0 = ((s + (j : Int)) % 256)) →
    Ev (fun k => laws_markByteS.l0 k x (s + i) i) (s + n, marksB s n) := by
  intro d
  induction d with
  | zero =>
    intro i x hi hl hj
    refine ev1 ?_
    refine evn (by omega) (evc ?_)
    rw [show i = n by omega, list_ext (a := x) (b := marksB s n) (by rw [hl, marksB_length]) (fun j h => by rw [hj j (by omega), marksB_at s n j (by omega)])]
  | succ d ih =>
    intro i x hi hl hj
    refine ev1 ?_
    refine evp (by omega) (evp (by omega) ?_)
    rw [w64s (by omega) (by omega), w64s (by omega) (by omega), Int.toNat_natCast]
    have := ih (i + 1) (x.set i ((s + (i : Int)) % 256)) (by omega) (by simpa using hl) (by
      intro j h
      rw [getD_set]
      by_cases e : i = j
      · subst e
        rw [if_pos ⟨rfl, by omega⟩]
      · rw [if_neg (fun h' => e h'.1)]
        exact hj j (by omega))
    rw [show s + ((i + 1 : Nat) : Int) = s + (i : Int) + 1 by omega] at this
    exact this
theorem markBytes_ev (l : List Int) (hn : l.length ≤ 4000000000000000) (s : Int) (h0 : 0 ≤ s) (hs : s ≤ 4000000000000000) : Ev (fun k => laws_markByteS.f k l s) (s + l.length, marksB s l.length) := by
  have := markBytes_loop l.length hn s h0 hs l.length 0 l (by omega) rfl (by intro j h; omega)
  rw [show s + ((0 : Nat) : Int) = s by omega] at this
  exact this

theorem wf64 {a : Int} (h : (Lit.int .i64 a).wf = true) : -9223372036854775808 ≤ a ∧ a ≤ 9223372036854775807 := by
  simpa [Lit.wf, IntKind.min, IntKind.max, IntKind.bits, IntKind.signed] using h
theorem wf8 {a : Int} (h : (Lit.int .u8 a).wf = true) : 0 ≤ a ∧ a ≤ 255 := by
  simpa [Lit.wf, IntKind.min, IntKind.max, IntKind.bits, IntKind.signed] using h

def txL (a0 a1 a2 : Int) (l : List Int) : List Int := hword a0 a1 a2 ++ hword a0 a1 a2 ++ hword a0 a1 a2 ++ intL (if a0 = 2 then punctGo 0 (conv (scrL a2 (b2bL (crcL l)))) else conv (scrL a2 (b2bL (crcL l)))) 8
def validH (a b c : Int) : Prop := (1 ≤ a ∧ a ≤ 2) ∧ (0 ≤ b ∧ b ≤ 120) ∧ (1 ≤ c ∧ c ≤ 127)
theorem scrL_length (s : Int) (l : List Int) : (scrL s l).length = l.length := by
  unfold scrL
  split
  · exact scrGo_length _ _
  · rfl
theorem scrL_bits (s : Int) (l : List Int) (h : Bits l) : Bits (scrL s l) := by
  unfold scrL
  split
  · exact scrGo_bits _ _ h
  · exact h
theorem crcL_bytes (l : List Int) (h : Bytes l) : Bytes (crcL l) := by
  have hr := crcGo_range l 65535 h (by omega)
  intro x hx
  simp only [crcL, List.mem_append, List.mem_cons, List.not_mem_nil, or_false] at hx
  rcases hx with hx | rfl | rfl
  · exact h x hx
  · omega
  · omega
theorem crc_len (l : List Int) : (crcL l).length = l.length + 2 := by simp [crcL]
theorem tx_len (a0 a1 a2 : Int) (l : List Int) (hn : l.length ≤ 120) : (txL a0 a1 a2 l).length ≤ 3000 := by
  have h1 := hword_length a0 a1 a2
  have h2 : (scrL a2 (b2bL (crcL l))).length = 8 * (l.length + 2) := by rw [scrL_length, b2bL_length, crc_len]
  have h3 := conv_length (scrL a2 (b2bL (crcL l)))
  have h4 := punctGo_length (conv (scrL a2 (b2bL (crcL l)))) 0
  unfold txL
  simp only [List.length_append, intL_length]
  split <;> omega
theorem itx_ev (a0 a1 a2 : Int) (l : List Int) (hl : Bytes l) (h : validH a0 a1 a2) (hn : (l.length : Int) = a1) : Ev (fun k => impl_TransmitFrame.f k a0 a1 a2 l) (txL a0 a1 a2 l) := by
  have hn2 : l.length ≤ 120 := by unfold validH at h; omega
  have h1 := hword_length a0 a1 a2
  have h2 : (scrL a2 (b2bL (crcL l))).length = 8 * (l.length + 2) := by rw [scrL_length, b2bL_length, crc_len]
  have h3 := conv_length (scrL a2 (b2bL (crcL l)))
  have h4 := punctGo_length (conv (scrL a2 (b2bL (crcL l)))) 0
  have hb := scrL_bits a2 _ (b2bL_bits (crcL l))
  unfold impl_TransmitFrame.f
  refine evs (valid_some a0 a1 a2) (evp (dt h) ?_)
  have hne : ((l.length : Int) != a1) = false := by simp [hn]
  rw [hne]
  refine ev1 (Ev.bind (iacrc_ev l hl (by omega)) (Ev.bind (ib2b_ev _ (crcL_bytes l hl) (by rw [crc_len]; omega)) (Ev.bind (iscr_ev a2 _ (b2bL_bits _) (by rw [b2bL_length, crc_len]; omega)) (Ev.bind (iconv_ev _ hb (by omega)) ?_))))
  unfold txL
  by_cases h0 : a0 = 2
  · rw [if_pos h0]
    refine evp h0 (Ev.bind (punct_ev _ (by omega)) (Ev.bind (enc_ev a0 a1 a2 h) (Ev.bind (iint_ev _ 8 (by omega)) (evp (by simp only [List.length_append, intL_length]; omega) (evc rfl)))))
  · rw [if_neg h0]
    refine evn h0 (Ev.bind (enc_ev a0 a1 a2 h) (Ev.bind (iint_ev _ 8 (by omega)) (evp (by simp only [List.length_append, intL_length]; omega) (evc rfl))))
theorem stx_ev (a0 a1 a2 : Int) (l : List Int) (hl : Bytes l) (h : validH a0 a1 a2) (hn : (l.length : Int) = a1) : Ev (fun k => spec_TransmitFrame.f k a0 a1 a2 l) (txL a0 a1 a2 l) := by
  have hn2 : l.length ≤ 120 := by unfold validH at h; omega
  have h1 := hword_length a0 a1 a2
  have h2 : (scrL a2 (b2bL (crcL l))).length = 8 * (l.length + 2) := by rw [scrL_length, b2bL_length, crc_len]
  have h3 := conv_length (scrL a2 (b2bL (crcL l)))
  have h4 := punctGo_length (conv (scrL a2 (b2bL (crcL l)))) 0
  have hb := scrL_bits a2 _ (b2bL_bits (crcL l))
  unfold spec_TransmitFrame.f
  refine evs (svalid_some a0 a1 a2) (evp (dt h) ?_)
  have hne : ((l.length : Int) != a1) = false := by simp [hn]
  rw [hne]
  refine ev1 (Ev.bind (sacrc_ev l hl (by omega)) (Ev.bind (sb2b_ev _ (crcL_bytes l hl) (by rw [crc_len]; omega)) (Ev.bind (sscr_ev a2 _ (b2bL_bits _) (by rw [b2bL_length, crc_len]; omega)) (Ev.bind (sconv_ev _ hb (by omega)) ?_))))
  unfold txL
  by_cases h0 : a0 = 2
  · rw [if_pos h0]
    refine evp h0 (Ev.bind (spunct_ev _ (by omega)) (Ev.bind (senc_ev a0 a1 a2 h) (Ev.bind (sint_ev _ 8 (by omega)) (evp (by simp only [List.length_append, intL_length]; omega) (evc rfl)))))
  · rw [if_neg h0]
    refine evn h0 (Ev.bind (senc_ev a0 a1 a2 h) (Ev.bind (sint_ev _ 8 (by omega)) (evp (by simp only [List.length_append, intL_length]; omega) (evc rfl))))
theorem tx_ex (a0 a1 a2 : Int) (l : List Int) (hl : Bytes l) : ∃ r : List Int, r.length ≤ 3000 ∧ Ev (fun k => spec_TransmitFrame.f k a0 a1 a2 l) r ∧ Ev (fun k => impl_TransmitFrame.f k a0 a1 a2 l) r := by
  have hbi : Ev (fun k => impl_TransmitFrame.j0 k l true a0 a1 a2) [] := ev1 (evk fun _ => rfl)
  have hbs : Ev (fun k => spec_TransmitFrame.j0 k l true a0 a1 a2) [] := ev1 (evk fun _ => rfl)
  by_cases h : (1 ≤ a0 ∧ a0 ≤ 2) ∧ (0 ≤ a1 ∧ a1 ≤ 120) ∧ (1 ≤ a2 ∧ a2 ≤ 127)
  · by_cases hn : (l.length : Int) = a1
    · exact ⟨_, tx_len a0 a1 a2 l (by omega), stx_ev a0 a1 a2 l hl h hn, itx_ev a0 a1 a2 l hl h hn⟩
    · have hne : ((l.length : Int) != a1) = true := by simp [hn]
      refine ⟨[], by simp, ?_, ?_⟩
      · unfold spec_TransmitFrame.f
        refine evs (svalid_some a0 a1 a2) (evp (dt h) ?_)
        rw [hne]
        exact hbs
      · unfold impl_TransmitFrame.f
        refine evs (valid_some a0 a1 a2) (evp (dt h) ?_)
        rw [hne]
        exact hbi
  · refine ⟨[], by simp, ?_, ?_⟩
    · unfold spec_TransmitFrame.f
      exact evs (svalid_some a0 a1 a2) (evn (dnt h) hbs)
    · unfold impl_TransmitFrame.f
      exact evs (valid_some a0 a1 a2) (evn (dnt h) hbi)
theorem FnExactTransmitFrame (a0 a1 a2 : Int) (l : List Int) (_ : (Lit.int .i64 a0).wf = true) (_ : (Lit.int .i64 a1).wf = true) (_ : (Lit.int .i64 a2).wf = true) (hm : l.length ≤ maxLen) (_ : l.length * 1 ≤ 140737488351232) (hw : ∀ x ∈ l, (Lit.int .u8 x).wf = true) :
    ∃ k, laws_FnExactTransmitFrame.f k a0 a1 a2 l = some true := by
  refine Ev.rounds (r := true) ?_
  unfold laws_FnExactTransmitFrame.f
  by_cases hn : (l.length : Int) > 1048576
  · exact evp hn (evc rfl)
  refine evn hn ?_
  have hl : l.length ≤ 1048576 := by omega
  have hb : Bytes l := fun x hx => wf8 (hw x hx)
  obtain ⟨r, hr, hs, hi⟩ := tx_ex a0 a1 a2 l hb
  have hh0 : laws_toPhyHeader.f a0 a1 a2 = some (a0, a1, a2) := rfl
  have ht := toBytes_ev l hl
  have he := eqInts_ev r (by omega)
  have hmk := markInts_ev r (by omega) 1 (by omega) (by omega)
  have hh := heldInts_ev r.length (by omega) 1 (by omega) (by omega)
  have hj : Ev (fun k => laws_FnExactTransmitFrame.j0 k l r r false a0 a1 a2) true :=
    ev1 (Ev.bind hmk (Ev.bind hh (evn (by omega) (evp rfl (evs hh0 (Ev.bind ht (Ev.bind hi (Ev.bind he (evp rfl (Ev.bind hh (evn (by omega) (evp rfl (evc rfl)))))))))))))
  exact evs hh0 (Ev.bind ht (Ev.bind hs (Ev.bind ht (evs hh0 (Ev.bind hi (Ev.bind he (evp rfl (Ev.bind ht (Ev.bind (eqBytes_ev l (by omega)) (evp rfl (Ev.bind (markBytes_ev l (by omega) 1 (by omega) (by omega)) (evn (by dsimp only; omega) (Ev.bind he hj)))))))))))))

end Go.Proofs.Ythdjoogholigbaa.Pure
