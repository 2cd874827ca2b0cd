/-
  The program's ReceiveFrame and the reference's agree at every list of at most 2^20 symbols, the argument is left as it was, and the answers share no memory.
  Conditions: none beyond the given statement's own.
-/
import Derived.Test.YtldbmljooafkcaaPFnExactReceiveFramex18
set_option linter.unusedVariables false
set_option linter.unusedSimpArgs false
namespace Go.Proofs.Ytldbmljooafkcaa.Pure
open Go.RowKit Go.Proofs.Ytldbmljooafkcaa.PFnExactReceiveFrame Go.Proofs.YtldbmljooafkcaaW.PrintWords Go.Proofs.YtldbmljooafkcaaW.PrintLast Go.Proofs.YtldbmljooafkcaaW.PrintMore

theorem evp {α : Type} {c : Prop} [Decidable c] {A B : Nat → Option α} {r : α} (hc : c) (h : Ev A r) : Ev (fun k => if c then A k else B k) r :=
  Ev.congr (fun k => if_pos hc) h
theorem evn {α : Type} {c : Prop} [Decidable c] {A B : Nat → Option α} {r : α} (hc : ¬ c) (h : Ev B r) : Ev (fun k => if c then A k else B k) r :=
  Ev.congr (fun k => if_neg hc) h
theorem evs {α β : Type} {g : Option α} {a : α} {f : Nat → α → Option β} {r : β} (hg : g = some a) (h : Ev (fun k => f k a) r) : Ev (fun k => g.bind (f k)) r :=
  Ev.congr (fun k => by rw [hg]; rfl) h
theorem evc {α : Type} {g : Option α} {r : α} (h : g = some r) : Ev (fun _ => g) r := ⟨0, fun _ _ => h⟩
theorem ev_eq {α : Type} {g : Nat → Option α} {r r' : α} (h : Ev g r) (e : r = r') : Ev g r' := e ▸ h
theorem w64 {n : Int} (h0 : -9223372036854775808 ≤ n) (h1 : n ≤ 9223372036854775807) : wrap64 n = n := by
  unfold wrap64
  omega
theorem w64s {n : Int} (h0 : -1000000000000000000 ≤ n) (h1 : n ≤ 1000000000000000000) : wrap64 n = n := w64 (by omega) (by omega)
theorem ev1 {α : Type} {g : Nat → Option α} {r : α} (h : Ev (fun k => g (k + 1)) r) : Ev g r := Ev.step (fun _ => rfl) h
theorem dt {p : Prop} [Decidable p] (h : p) : decide p = true := decide_eq_true h
theorem dnt {p : Prop} [Decidable p] (h : ¬ p) : ¬ (decide p = true) := by simp [h]
theorem evk {α : Type} {g : Nat → Option α} {r : α} (h : ∀ k, g k = some r) : Ev g r := ⟨0, fun k _ => h k⟩
theorem dec_iff {p q : Prop} [Decidable p] [Decidable q] (h : p ↔ q) : decide p = decide q := by
  by_cases hq : q
  · rw [decide_eq_true hq, decide_eq_true (h.2 hq)]
  · rw [decide_eq_false hq, decide_eq_false (fun hp => hq (h.1 hp))]
theorem rd_nat (l : List Int) (i : Nat) : rd l (i : Int) = l.getD i 0 := by
  unfold rd
  rw [Int.toNat_natCast]
theorem rd_mem {l : List Int} {i : Nat} (h : i < l.length) : l.getD i 0 ∈ l := by
  rw [List.getD_eq_getElem?_getD, List.getElem?_eq_getElem h]
  exact List.getElem_mem h
theorem list_ext {a b : List Int} (hl : a.length = b.length) (h : ∀ i, i < a.length → a.getD i 0 = b.getD i 0) : a = b := by
  apply List.ext_getElem hl
  intro i h1 h2
  have := h i h1
  rw [List.getD_eq_getElem?_getD, List.getD_eq_getElem?_getD, List.getElem?_eq_getElem h1, List.getElem?_eq_getElem h2] at this
  simpa using this
theorem getD_set (l : List Int) (i j : Nat) (v : Int) : (l.set i v).getD j 0 = if i = j ∧ j < l.length then v else l.getD j 0 := by
  rw [List.getD_eq_getElem?_getD, List.getElem?_set, List.getD_eq_getElem?_getD]
  by_cases h : i = j
  · subst h
    by_cases h2 : i < l.length
    · simp [h2]
    · simp [h2]
  · simp [h]
def outX (s b : Int) : Int := (b + s % 2 + s / 2) % 2
def outY (s b : Int) : Int := (b + s / 2) % 2
def nxt (s b : Int) : Int := (2 * s + b) % 4
def Bits (l : List Int) : Prop := ∀ x ∈ l, x = 0 ∨ x = 1
theorem nxt_range (s b : Int) : 0 ≤ nxt s b ∧ nxt s b ≤ 3 := by unfold nxt; omega
theorem drop_getD (L : List Int) (i : Nat) (h : i < L.length) : L.drop i = L.getD i 0 :: L.drop (i + 1) := by
  rw [List.drop_eq_getElem_cons h, List.getD_eq_getElem?_getD, List.getElem?_eq_getElem h]
  rfl
def ones : List Int → Int
  | [] => 0
  | x :: r => (if x = 1 then 1 else 0) + ones r
theorem weight_loop (l : List Int) (hn : l.length ≤ 1000000000) : ∀ (d i : Nat) (m : Int), i + d = l.length → 0 ≤ m ∧ m ≤ i → Ev (fun k => impl_Weight.l0 k m l l.length i) (m + ones (l.drop i)) := by
  intro d
  induction d with
  | zero =>
    intro i m hi hm
    rw [List.drop_of_length_le (by omega)]
    exact ev1 (evn (by omega) (evc (by simp [ones])))
  | succ d ih =>
    intro i m hi hm
    refine ev1 (evp (by omega) (evp (by omega) (evp (by omega) ?_)))
    rw [drop_getD l i (by omega), ones, rd_nat, w64s (n := (i : Int) + 1) (by omega) (by omega), w64s (n := m + 1) (by omega) (by omega)]
    by_cases h : l.getD i 0 = 1
    · rw [if_pos h]
      exact evp h (ev_eq (ih (i + 1) (m + 1) (by omega) (by omega)) (by omega))
    · rw [if_neg h]
      exact evn h (ev_eq (ih (i + 1) m (by omega) (by omega)) (by omega))
theorem weight_ev (l : List Int) (hn : l.length ≤ 1000000000) : Ev (fun k => impl_Weight.f k l) (ones l) := by
  refine ev_eq (weight_loop l hn l.length 0 0 (by omega) (by omega)) ?_
  simp
def btiGo : Int → Nat → List Int → Int
  | acc, _, [] => acc
  | acc, i, b :: r => btiGo (Go.bits .or .i64 acc (shl .i64 b (i : Int))) (i + 1) r
def bti (l : List Int) : Int := btiGo 0 0 l
def majAt (l : List Int) (i : Nat) : Int := if ones [l.getD i 0, l.getD (i + 18) 0, l.getD (i + 36) 0] ≥ 2 then 1 else 0
def majL (l : List Int) : List Int := (List.range' 0 18).map (majAt l)
theorem majL_length (l : List Int) : (majL l).length = 18 := by simp [majL]
theorem majAt_bit (l : List Int) (i : Nat) : majAt l i = 0 ∨ majAt l i = 1 := by
  unfold majAt
  split <;> simp
theorem majL_bits (l : List Int) : Bits (majL l) := by
  intro x hx
  simp only [majL, List.mem_map] at hx
  obtain ⟨i, _, rfl⟩ := hx
  exact majAt_bit l i
theorem majL_at (l : List Int) (i : Nat) (h : i < 18) : (majL l).getD i 0 = majAt l i := by
  simp [majL, List.getD_eq_getElem?_getD, List.getElem?_map, List.getElem?_range' h]
def hdrV (b : List Int) : Int × Int × Int × Bool :=
  if Int.tmod (ones b) 2 = 0 ∧ ((1 ≤ bti (b.take 2) ∧ bti (b.take 2) ≤ 2) ∧ (0 ≤ bti ((b.take 10).drop 2) ∧ bti ((b.take 10).drop 2) ≤ 120) ∧ (1 ≤ bti ((b.take 17).drop 10) ∧ bti ((b.take 17).drop 10) ≤ 127)) then
    (bti (b.take 2), bti ((b.take 10).drop 2), bti ((b.take 17).drop 10), true) else (0, 0, 0, false)
theorem bits_take {b : List Int} (h : Bits b) (m n : Nat) : Bits ((b.take m).drop n) := fun x hx => h x (List.mem_of_mem_take (List.mem_of_mem_drop hx))
theorem ibits_loop (l : List Int) (hn : l.length ≤ 4000000000000000) : ∀ (d i : Nat), i + d = l.length → Ev (fun k => impl_IsBitString.l0 k l l.length i) ((l.drop i).all fun x => decide (x = 0 ∨ x = 1)) := by
  intro d
  induction d with
  | zero =>
    intro i hi
    rw [List.drop_of_length_le (by omega)]
    exact ev1 (evn (by omega) (evc rfl))
  | succ d ih =>
    intro i hi
    refine ev1 (evp (by omega) (evp (by omega) (evp (by omega) ?_)))
    rw [drop_getD l i (by omega), List.all_cons, rd_nat, w64s (n := (i : Int) + 1) (by omega) (by omega)]
    by_cases h0 : l.getD i 0 = 0
    · rw [decide_eq_true (Or.inl h0), Bool.true_and]
      exact evp h0 (ih (i + 1) (by omega))
    · refine evn h0 ?_
      by_cases h1 : l.getD i 0 = 1
      · rw [decide_eq_true (Or.inr h1), Bool.true_and]
        exact evp h1 (ih (i + 1) (by omega))
      · rw [decide_eq_false (by omega), Bool.false_and]
        exact evn h1 (evc rfl)
theorem ibits_ev (l : List Int) (hn : l.length ≤ 4000000000000000) : Ev (fun k => impl_IsBitString.f k l) (l.all fun x => decide (x = 0 ∨ x = 1)) := ibits_loop l hn l.length 0 (by omega)
theorem ibits_all {l : List Int} (h : Bits l) : (l.all fun x => decide (x = 0 ∨ x = 1)) = true := by
  rw [List.all_eq_true]
  intro x hx
  exact decide_eq_true (h x hx)
theorem in_some (x a b : Int) : impl_InRange.f x a b = some (decide (a ≤ x ∧ x ≤ b)) := by
  unfold impl_InRange.f
  by_cases h : a ≤ x <;> simp [h]
theorem valid_some (a b c : Int) : impl_IsValidHeader.f a b c = some (decide ((1 ≤ a ∧ a ≤ 2) ∧ (0 ≤ b ∧ b ≤ 120) ∧ (1 ≤ c ∧ c ≤ 127))) := by
  unfold impl_IsValidHeader.f
  simp only [in_some, Option.bind_some]
  by_cases h1 : 1 ≤ a ∧ a ≤ 2 <;> by_cases h2 : 0 ≤ b ∧ b ≤ 120 <;> simp [h1, h2]
theorem iparity_ev (l : List Int) (hn : l.length ≤ 1000) : Ev (fun k => impl_Parity.f k l) (Int.tmod (ones l) 2) := by
  unfold impl_Parity.f
  exact Ev.bind (weight_ev l (by omega)) (evc rfl)
theorem ibti_loop (l : List Int) (hn : l.length ≤ 40) : ∀ (d i : Nat) (acc : Int), i + d = l.length → Ev (fun k => impl_BitsToInt.l0 k acc l l.length i) (btiGo acc i (l.drop i)) := by
  intro d
  induction d with
  | zero =>
    intro i acc hi
    rw [List.drop_of_length_le (by omega)]
    exact ev1 (evn (by omega) (evc rfl))
  | succ d ih =>
    intro i acc hi
    refine ev1 (evp (by omega) (evp (by omega) (evp (by omega) ?_)))
    rw [drop_getD l i (by omega), btiGo, rd_nat, w64s (n := (i : Int) + 1) (by omega) (by omega)]
    exact ih (i + 1) _ (by omega)
theorem ibti_ev (l : List Int) (hb : Bits l) (hn : l.length ≤ 40) : Ev (fun k => impl_BitsToInt.f k l) (bti l) := by
  unfold impl_BitsToInt.f
  have h := ibits_ev l (by omega)
  rw [ibits_all hb] at h
  refine Ev.bind h (evp rfl ?_)
  rw [decide_eq_false (by omega)]
  refine ev1 ?_
  exact ibti_loop l hn l.length 0 0 (by omega)
theorem ihdr_end (l : List Int) (x : List Int) (hx : x = majL l) : Ev (fun k => impl_DecodeHeader.l0 k l x 18 18) (hdrV (majL l)) := by
  subst hx
  have hl := majL_length l
  have hb := majL_bits l
  have e1 := ibti_ev ((majL l).take 2) (fun z hz => hb z (List.mem_of_mem_take hz)) (by simp; omega)
  have e2 := ibti_ev (((majL l).take 10).drop 2) (bits_take hb _ _) (by simp; omega)
  have e3 := ibti_ev (((majL l).take 17).drop 10) (bits_take hb _ _) (by simp; omega)
  have e4 := iparity_ev (majL l) (by omega)
  unfold hdrV
  generalize bti ((majL l).take 2) = a at *
  generalize bti (((majL l).take 10).drop 2) = b at *
  generalize bti (((majL l).take 17).drop 10) = c at *
  refine ev1 (evn (by decide) (evp (by omega) (Ev.bind e1 (evp (by decide) (evp (by omega) (Ev.bind e2 (evp (by decide) (evp (by omega) (Ev.bind e3 (Ev.bind e4 ?_))))))))))
  by_cases h1 : Int.tmod (ones (majL l)) 2 = 0
  · by_cases h2 : (1 ≤ a ∧ a ≤ 2) ∧ (0 ≤ b ∧ b ≤ 120) ∧ (1 ≤ c ∧ c ≤ 127)
    · exact ev_eq (evp h1 (evs (valid_some a b c) (evp (dt h2) (evc rfl)))) (if_pos ⟨h1, h2⟩).symm
    · exact ev_eq (evp h1 (evs (valid_some a b c) (evn (dnt h2) (evc rfl)))) (if_neg (fun h => h2 h.2)).symm
  · exact ev_eq (evn h1 (evc rfl)) (if_neg (fun h => h1 h.1)).symm
theorem ihdr_loop (l : List Int) (hl : l.length = 54) : ∀ (d i : Nat) (x : List Int), i + d = 18 → x.length = 18 → (∀ j, j < i → x.getD j 0 = majAt l j) → (∀ j, i ≤ j → x.getD j 0 = 0) →
    Ev (fun k => impl_DecodeHeader.l0 k l x 18 i) (hdrV (majL l)) := by
  intro d
  induction d with
  | zero =>
    intro i x hi hx h1 h2
    have he : x = majL l := list_ext (by rw [hx, majL_length]) (fun j hj => by rw [h1 j (by omega), majL_at l j (by omega)])
    have := ihdr_end l x he
    rw [show i = 18 by omega]
    exact this
  | succ d ih =>
    intro i x hi hx h1 h2
    have w1 : wrap64 ((i : Int) + 18) = ((i + 18 : Nat) : Int) := by rw [w64s (by omega) (by omega)]; omega
    have w2 : wrap64 ((i : Int) + 36) = ((i + 36 : Nat) : Int) := by rw [w64s (by omega) (by omega)]; omega
    refine ev1 (evp (by omega) (evp (by omega) (evp (by omega) (evp (by rw [w1]; omega) (evp (by rw [w1]; omega) (evp (by rw [w2]; omega) (evp (by rw [w2]; omega) ?_)))))))
    rw [w1, w2, rd_nat, rd_nat, rd_nat, w64s (n := (i : Int) + 1) (by omega) (by omega)]
    refine Ev.bind (weight_ev _ (by simp)) ?_
    by_cases h : ones [l.getD i 0, l.getD (i + 18) 0, l.getD (i + 36) 0] ≥ 2
    · refine evp h (evp (by omega) (ih (i + 1) (x.set i 1) (by omega) (by simpa using hx) ?_ ?_))
      · intro j hj
        rw [getD_set]
        by_cases e : i = j
        · subst e
          rw [if_pos ⟨rfl, by omega⟩]
          unfold majAt
          rw [if_pos h]
        · rw [if_neg (fun q => e q.1)]
          exact h1 j (by omega)
      · intro j hj
        rw [getD_set, if_neg (fun q => by omega)]
        exact h2 j (by omega)
    · refine evn h (ih (i + 1) x (by omega) hx ?_ (fun j hj => h2 j (by omega)))
      intro j hj
      by_cases e : j = i
      · rw [e, h2 i (by omega)]
        unfold majAt
        rw [if_neg h]
      · exact h1 j (by omega)
theorem ihdr_ev (l : List Int) (hl : l.length = 54) : Ev (fun k => impl_DecodeHeader.f k l) (hdrV (majL l)) := by
  unfold impl_DecodeHeader.f
  refine evp (by omega) (evp (by decide) (evs rfl ?_))
  exact ihdr_loop l hl 18 0 (List.replicate 18 0) (by omega) (by simp) (fun j hj => by omega) (fun j hj => by
    rw [List.getD_eq_getElem?_getD, List.getElem?_replicate]
    split <;> rfl)
theorem l1_some (x a b : Int) : spec_l1In.f x a b = some (decide (a ≤ x ∧ x ≤ b)) := by
  unfold spec_l1In.f
  by_cases h : a ≤ x <;> simp [h]
theorem svalid_some (a b c : Int) : spec_IsValidHeader.f a b c = some (decide ((1 ≤ a ∧ a ≤ 2) ∧ (0 ≤ b ∧ b ≤ 120) ∧ (1 ≤ c ∧ c ≤ 127))) := by
  unfold spec_IsValidHeader.f
  simp only [l1_some, Option.bind_some]
  by_cases h1 : 1 ≤ a ∧ a ≤ 2 <;> by_cases h2 : 0 ≤ b ∧ b ≤ 120 <;> simp [h1, h2]
theorem payload_same (a b c : Int) : spec_PayloadSymbols.f a b c = impl_PayloadSymbols.f a b c := by
  unfold spec_PayloadSymbols.f impl_PayloadSymbols.f
  simp only [valid_some, svalid_some, Option.bind_some, impl_codedSymbols.f, spec_EncodedLength.f, impl_EncodedLength.f, in_some, l1_some, spec_PuncturedLength.f, impl_PuncturedLength.f]
  repeat' split
  all_goals simp_all
def scrOut (s : Int) : Int := Go.bits .and .i64 (Go.bits .xor .i64 (s / 8) (s / 64)) 1
def scrNext (s : Int) : Int := if 1 ≤ s ∧ s ≤ 127 then Go.bits .or .i64 (Go.bits .and .i64 (wrap64 (s * 2)) 127) (scrOut s) else 0
def scrGo : Int → List Int → List Int
  | _, [] => []
  | s, b :: r => Go.bits .xor .i64 b (scrOut s) :: scrGo (scrNext s) r
theorem scrGo_length : ∀ (l : List Int) (s : Int), (scrGo s l).length = l.length
  | [], _ => rfl
  | b :: r, s => by
    simp only [scrGo, List.length_cons]
    rw [scrGo_length r]
theorem andOne (x : Int) : Go.bits .and .i64 x 1 = 0 ∨ Go.bits .and .i64 x 1 = 1 := by
  have h : ∀ n : Nat, n ≤ 1 → IntKind.i64.wrap (n : Int) = n := by
    intro n hn
    rw [IntKind.wrap_i64]
    omega
  have e : Go.bits .and .i64 x 1 = IntKind.i64.wrap ((BitVec.ofInt 64 x &&& BitVec.ofInt 64 1).toNat : Int) := rfl
  have hle : (BitVec.ofInt 64 x &&& BitVec.ofInt 64 1).toNat ≤ 1 := by
    rw [BitVec.toNat_and]
    exact Nat.and_le_right
  rw [e, h _ hle]
  omega
theorem xorbit (a b : Int) (ha : a = 0 ∨ a = 1) (hb : b = 0 ∨ b = 1) : Go.bits .xor .i64 a b = 0 ∨ Go.bits .xor .i64 a b = 1 := by
  rcases ha with rfl | rfl <;> rcases hb with rfl | rfl <;> decide +kernel
theorem scrGo_bits : ∀ (l : List Int) (s : Int), Bits l → Bits (scrGo s l)
  | [], _, _ => by intro x hx; simp [scrGo] at hx
  | b :: r, s, h => by
    intro x hx
    simp only [scrGo, List.mem_cons] at hx
    rcases hx with rfl | hx
    · exact xorbit _ _ (h b (by simp)) (andOne _)
    · exact scrGo_bits r _ (fun y hy => h y (by simp [hy])) x hx
def scrL (s : Int) (l : List Int) : List Int := if 1 ≤ s ∧ s ≤ 127 then scrGo s l else l
theorem take_set_succ (x : List Int) (i : Nat) (v : Int) (h : i < x.length) : (x.set i v).take (i + 1) = x.take i ++ [v] := by
  rw [List.take_add_one, List.take_set_of_le (by omega)]
  simp [h]
theorem dropGetD (L : List Int) (i : Nat) (h : i < L.length) : L.drop i = L.getD i 0 :: L.drop (i + 1) := by
  rw [List.drop_eq_getElem_cons h]
  congr 1
  simp [List.getD_eq_getElem?_getD, h]
def crcIn : Nat → Int → Int
  | 0, x => x
  | d + 1, x => crcIn d (if Go.bits .and .i64 x 1 = 1 then Go.bits .xor .i64 (x / 2) 33800 else x / 2)
def crcGo : Int → List Int → Int
  | acc, [] => Go.bits .xor .i64 acc 65535
  | acc, b :: r => crcGo (crcIn 8 (Go.bits .xor .i64 acc b)) r
def Bytes (l : List Int) : Prop := ∀ x ∈ l, 0 ≤ x ∧ x ≤ 255
theorem xor16 (a b : Int) (ha : 0 ≤ a ∧ a < 65536) (hb : 0 ≤ b ∧ b < 65536) : 0 ≤ Go.bits .xor .i64 a b ∧ Go.bits .xor .i64 a b < 65536 := by
  obtain ⟨a, rfl⟩ := Int.eq_ofNat_of_zero_le ha.1
  obtain ⟨b, rfl⟩ := Int.eq_ofNat_of_zero_le hb.1
  have hw : ∀ n : Nat, n < 65536 → IntKind.i64.wrap (n : Int) = n := by
    intro n hn
    rw [IntKind.wrap_i64]
    omega
  have e : Go.bits .xor .i64 (a : Int) (b : Int) = IntKind.i64.wrap ((BitVec.ofInt 64 (a : Int) ^^^ BitVec.ofInt 64 (b : Int)).toNat : Int) := rfl
  have e2 : (BitVec.ofInt 64 (a : Int) ^^^ BitVec.ofInt 64 (b : Int)).toNat < 65536 := by
    rw [BitVec.toNat_xor, BitVec.toNat_ofInt, BitVec.toNat_ofInt]
    exact Nat.xor_lt_two_pow (n := 16) (by omega) (by omega)
  rw [e, hw _ e2]
  omega
theorem crcIn_range : ∀ (d : Nat) (x : Int), 0 ≤ x ∧ x < 65536 → 0 ≤ crcIn d x ∧ crcIn d x < 65536
  | 0, x, h => h
  | d + 1, x, h => by
    unfold crcIn
    refine crcIn_range d _ ?_
    split
    · exact xor16 _ _ (by omega) (by omega)
    · omega
theorem crcGo_range : ∀ (l : List Int) (x : Int), Bytes l → 0 ≤ x ∧ x < 65536 → 0 ≤ crcGo x l ∧ crcGo x l < 65536
  | [], x, _, h => xor16 _ _ h (by omega)
  | b :: r, x, hb, h => by
    have := hb b (by simp)
    exact crcGo_range r _ (fun y hy => hb y (by simp [hy])) (crcIn_range 8 _ (xor16 _ _ h (by omega)))
def crcL (l : List Int) : List Int := l ++ [crcGo 65535 l % 256, crcGo 65535 l / 256]
def validH (a b c : Int) : Prop := (1 ≤ a ∧ a ≤ 2) ∧ (0 ≤ b ∧ b ≤ 120) ∧ (1 ≤ c ∧ c ≤ 127)
theorem scrL_length (s : Int) (l : List Int) : (scrL s l).length = l.length := by
  unfold scrL
  split
  · exact scrGo_length _ _
  · rfl
theorem scrL_bits (s : Int) (l : List Int) (h : Bits l) : Bits (scrL s l) := by
  unfold scrL
  split
  · exact scrGo_bits _ _ h
  · exact h
theorem crc_len (l : List Int) : (crcL l).length = l.length + 2 := by simp [crcL]
theorem or256 (a b : Int) (ha : 0 ≤ a ∧ a ≤ 255) (hb : 0 ≤ b ∧ b ≤ 255) : Go.bits .or .i64 a (b * 256) = a + b * 256 := by
  obtain ⟨a, rfl⟩ := Int.eq_ofNat_of_zero_le ha.1
  obtain ⟨b, rfl⟩ := Int.eq_ofNat_of_zero_le hb.1
  have e : Go.bits .or .i64 (a : Int) ((b : Int) * 256) = IntKind.i64.wrap ((BitVec.ofInt 64 (a : Int) ||| BitVec.ofInt 64 ((b : Int) * 256)).toNat : Int) := rfl
  have e2 : (BitVec.ofInt 64 (a : Int) ||| BitVec.ofInt 64 ((b : Int) * 256)).toNat = a + b * 256 := by
    rw [BitVec.toNat_or, BitVec.toNat_ofInt, BitVec.toNat_ofInt]
    have h := Nat.shiftLeft_add_eq_or_of_lt (i := 8) (b := a) (by omega) b
    rw [Nat.shiftLeft_eq] at h
    have e3 : (((a : Int)) % ((2 ^ 64 : Nat) : Int)).toNat = a := by omega
    have e4 : (((b : Int) * 256) % ((2 ^ 64 : Nat) : Int)).toNat = b * 256 := by omega
    rw [e3, e4, Nat.or_comm]
    have h2 : (2 : Nat) ^ 8 = 256 := by decide
    rw [h2] at h
    omega
  rw [e, e2, IntKind.wrap_i64]
  omega
def chkV (l : List Int) : List Int × Bool := if 2 ≤ l.length ∧ crcL (l.take (l.length - 2)) = l then (l.take (l.length - 2), true) else ([], false)
theorem chkV_length (l : List Int) : (chkV l).1.length ≤ l.length := by
  unfold chkV
  split
  · simp
  · simp
theorem last_two (l : List Int) (n : Nat) (h : l.length = n + 2) : l = l.take n ++ [l.getD n 0, l.getD (n + 1) 0] := by
  have h1 := (List.take_append_drop n l).symm
  rw [dropGetD l n (by omega), dropGetD l (n + 1) (by omega), List.drop_of_length_le (by omega)] at h1
  exact h1
theorem crc_eq (l : List Int) (hb : Bytes l) (n : Nat) (h : l.length = n + 2) : crcL (l.take n) = l ↔ l.getD n 0 + l.getD (n + 1) 0 * 256 = crcGo 65535 (l.take n) := by
  have h1 := hb _ (rd_mem (l := l) (i := n) (by omega))
  have h2 := hb _ (rd_mem (l := l) (i := n + 1) (by omega))
  have hr := crcGo_range (l.take n) 65535 (fun x hx => hb x (List.mem_of_mem_take hx)) (by omega)
  have e := last_two l n h
  unfold crcL
  generalize crcGo 65535 (l.take n) = c at *
  generalize l.getD n 0 = x at *
  generalize l.getD (n + 1) 0 = y at *
  generalize l.take n = t at *
  rw [e]
  constructor
  · intro q
    have q2 := List.append_cancel_left q
    simp only [List.cons.injEq, and_true] at q2
    omega
  · intro q
    rw [show c % 256 = x by omega, show c / 256 = y by omega]
def bp (l : List Int) : Nat → Int
  | 0 => 0
  | c + 1 => Go.bits .or .i64 (bp l c) (shl .i64 (l.getD c 0) (c : Int))
theorem or8 : ∀ a : Fin 256, ∀ b : Fin 2, ∀ j : Fin 8, a.val < 2 ^ j.val → (Go.bits .or .u8 (a.val : Int) ((shl .i64 (b.val : Int) (j.val : Int)) % 256) = Go.bits .or .i64 (a.val : Int) (shl .i64 (b.val : Int) (j.val : Int)) ∧ 0 ≤ Go.bits .or .i64 (a.val : Int) (shl .i64 (b.val : Int) (j.val : Int)) ∧ Go.bits .or .i64 (a.val : Int) (shl .i64 (b.val : Int) (j.val : Int)) < ((2 ^ (j.val + 1) : Nat) : Int)) := by decide +kernel
theorem or8_of (a b : Int) (j : Nat) (hj : j < 8) (ha : 0 ≤ a ∧ a < ((2 ^ j : Nat) : Int)) (hb : b = 0 ∨ b = 1) : Go.bits .or .u8 a ((shl .i64 b (j : Int)) % 256) = Go.bits .or .i64 a (shl .i64 b (j : Int)) ∧ 0 ≤ Go.bits .or .i64 a (shl .i64 b (j : Int)) ∧ Go.bits .or .i64 a (shl .i64 b (j : Int)) < ((2 ^ (j + 1) : Nat) : Int) := by
  obtain ⟨a, rfl⟩ := Int.eq_ofNat_of_zero_le ha.1
  have h1 : a < 2 ^ j := by omega
  have h2 : 2 ^ j ≤ 2 ^ 7 := Nat.pow_le_pow_right (by omega) (by omega)
  rcases hb with rfl | rfl
  · exact or8 ⟨a, by omega⟩ ⟨0, by omega⟩ ⟨j, hj⟩ h1
  · exact or8 ⟨a, by omega⟩ ⟨1, by omega⟩ ⟨j, hj⟩ h1
theorem bit_getD {l : List Int} (h : Bits l) (i : Nat) : l.getD i 0 = 0 ∨ l.getD i 0 = 1 := by
  by_cases q : i < l.length
  · exact h _ (rd_mem q)
  · rw [List.getD_eq_getElem?_getD, List.getElem?_eq_none (by omega)]
    exact .inl rfl
theorem bp_range (l : List Int) (h : Bits l) : ∀ c : Nat, c ≤ 8 → 0 ≤ bp l c ∧ bp l c < ((2 ^ c : Nat) : Int)
  | 0, _ => ⟨Int.le_refl 0, show (0 : Int) < ((2 ^ 0 : Nat) : Int) by decide⟩
  | c + 1, hc => (or8_of _ _ c (by omega) (bp_range l h c (by omega)) (bit_getD h c)).2
theorem btiGo_bp (l : List Int) : ∀ (d i : Nat), i + d = l.length → btiGo (bp l i) i (l.drop i) = bp l l.length := by
  intro d
  induction d with
  | zero =>
    intro i hi
    rw [List.drop_of_length_le (by omega), show i = l.length by omega]
    rfl
  | succ d ih =>
    intro i hi
    rw [dropGetD l i (by omega), btiGo]
    exact ih (i + 1) (by omega)
theorem bti_bp (l : List Int) : bti l = bp l l.length := by
  have := btiGo_bp l l.length 0 (by omega)
  rw [List.drop_zero] at this
  exact this
def bitsAt (l : List Int) (q : Nat) : List Int := (l.take (8 * q + 8)).drop (8 * q)
theorem bitsAt_length (l : List Int) (q : Nat) (h : 8 * q + 8 ≤ l.length) : (bitsAt l q).length = 8 := by
  unfold bitsAt
  rw [List.length_drop, List.length_take]
  omega
theorem bitsAt_bits {l : List Int} (h : Bits l) (q : Nat) : Bits (bitsAt l q) := bits_take h _ _
theorem bitsAt_at (l : List Int) (q j : Nat) (hj : j < 8) : (bitsAt l q).getD j 0 = l.getD (8 * q + j) 0 := by
  unfold bitsAt
  rw [List.getD_eq_getElem?_getD, List.getElem?_drop, List.getElem?_take_of_lt (by omega), List.getD_eq_getElem?_getD]
def bytesL (l : List Int) : List Int := (List.range (l.length / 8)).map fun q => bti (bitsAt l q)
theorem bytesL_length (l : List Int) : (bytesL l).length = l.length / 8 := by simp [bytesL]
theorem bytesL_at (l : List Int) (q : Nat) (h : q < l.length / 8) : (bytesL l).getD q 0 = bti (bitsAt l q) := by
  simp [bytesL, List.getD_eq_getElem?_getD, List.getElem?_map, List.getElem?_range h]
theorem byte_bp (l : List Int) (q : Nat) (h : q < l.length / 8) : bti (bitsAt l q) = bp (bitsAt l q) 8 := by
  rw [bti_bp, bitsAt_length l q (by omega)]
theorem byte_range (l : List Int) (hb : Bits l) (q : Nat) (h : q < l.length / 8) : 0 ≤ bti (bitsAt l q) ∧ bti (bitsAt l q) ≤ 255 := by
  have := bp_range (bitsAt l q) (bitsAt_bits hb q) 8 (by omega)
  rw [byte_bp l q h]
  omega
theorem bytesL_bytes (l : List Int) (hb : Bits l) : Bytes (bytesL l) := by
  intro x hx
  simp only [bytesL, List.mem_map, List.mem_range] at hx
  obtain ⟨q, hq, rfl⟩ := hx
  exact byte_range l hb q hq
def symD (a b : Int) : Int := if a = 2 then 0 else if a = b then 0 else 1
theorem symD_range (a b : Int) : 0 ≤ symD a b ∧ symD a b ≤ 1 := by
  unfold symD
  split
  · omega
  · split <;> omega
def bdist (s b x y : Int) : Int := symD x (outX s b) + symD y (outY s b)
theorem bdist_range (s b x y : Int) : 0 ≤ bdist s b x y ∧ bdist s b x y ≤ 2 := by
  have h1 := symD_range x (outX s b)
  have h2 := symD_range y (outY s b)
  unfold bdist
  omega
def offer (cur c d : Int) : Int := if c < 0 then cur else if cur < 0 then c + d else if c + d < cur then c + d else cur
def costT (c : Int → Int) (x y : Int) (free : Bool) (t : Int) : Int :=
  if t % 2 = 1 ∧ free = false then -1 else offer (offer (-1) (c (t / 2)) (bdist (t / 2) (t % 2) x y)) (c (t / 2 + 2)) (bdist (t / 2 + 2) (t % 2) x y)
def prevT (c : Int → Int) (x y : Int) (free : Bool) (t : Int) : Int :=
  if t % 2 = 1 ∧ free = false then 0
  else if c (t / 2) < 0 then (if c (t / 2 + 2) < 0 then 0 else t / 2 + 2)
  else if c (t / 2 + 2) < 0 then t / 2
  else if c (t / 2 + 2) + bdist (t / 2 + 2) (t % 2) x y < c (t / 2) + bdist (t / 2) (t % 2) x y then t / 2 + 2 else t / 2
def In4 (s : Int) : Prop := 0 ≤ s ∧ s ≤ 3
theorem four {s : Int} (h : In4 s) : s = 0 ∨ s = 1 ∨ s = 2 ∨ s = 3 := by
  unfold In4 at h
  omega
theorem prevT_in (c : Int → Int) (x y : Int) (free : Bool) (t : Int) (h : In4 t) : In4 (prevT c x y free t) := by
  unfold In4 at h ⊢
  unfold prevT
  repeat' split
  all_goals omega
theorem costT_back (c : Int → Int) (x y : Int) (free : Bool) (t : Int) (h : In4 t) (h0 : 0 ≤ costT c x y free t) :
    0 ≤ c (prevT c x y free t) ∧ nxt (prevT c x y free t) (t % 2) = t ∧ (t % 2 = 1 → free = true) ∧
      costT c x y free t = c (prevT c x y free t) + bdist (prevT c x y free t) (t % 2) x y := by
  unfold In4 at h
  have r1 := bdist_range (t / 2) (t % 2) x y
  have r2 := bdist_range (t / 2 + 2) (t % 2) x y
  unfold costT at h0 ⊢
  unfold prevT nxt
  by_cases hf : t % 2 = 1 ∧ free = false
  · rw [if_pos hf] at h0
    omega
  rw [if_neg hf] at h0 ⊢
  have hfr : t % 2 = 1 → free = true := fun q => by
    cases free
    · exact absurd ⟨q, rfl⟩ hf
    · rfl
  rw [if_neg hf]
  by_cases h1 : c (t / 2) < 0
  · by_cases h2 : c (t / 2 + 2) < 0
    · exfalso
      unfold offer at h0
      rw [if_pos h2, if_pos h1] at h0
      omega
    · rw [if_pos h1, if_neg h2]
      refine ⟨by omega, by omega, hfr, ?_⟩
      unfold offer
      rw [if_neg h2, if_pos h1, if_pos (by omega)]
  · by_cases h2 : c (t / 2 + 2) < 0
    · rw [if_neg h1, if_pos h2]
      refine ⟨by omega, by omega, hfr, ?_⟩
      unfold offer
      rw [if_pos h2, if_neg h1, if_pos (by omega)]
    · rw [if_neg h1, if_neg h2]
      have e1 : offer (-1) (c (t / 2)) (bdist (t / 2) (t % 2) x y) = c (t / 2) + bdist (t / 2) (t % 2) x y := by
        unfold offer
        rw [if_neg h1, if_pos (by omega)]
      rw [e1]
      unfold offer
      rw [if_neg h2, if_neg (show ¬ c (t / 2) + bdist (t / 2) (t % 2) x y < 0 by omega)]
      by_cases h3 : c (t / 2 + 2) + bdist (t / 2 + 2) (t % 2) x y < c (t / 2) + bdist (t / 2) (t % 2) x y
      · rw [if_pos h3, if_pos h3]
        exact ⟨by omega, by omega, hfr, rfl⟩
      · rw [if_neg h3, if_neg h3]
        exact ⟨by omega, by omega, hfr, rfl⟩
theorem offer_cur (cur c d : Int) (h : 0 ≤ cur) (hd : 0 ≤ d) : 0 ≤ offer cur c d ∧ offer cur c d ≤ cur := by
  unfold offer
  repeat' split
  all_goals omega
theorem offer_new (cur c d : Int) (h : 0 ≤ c) (hd : 0 ≤ d) : 0 ≤ offer cur c d ∧ offer cur c d ≤ c + d := by
  unfold offer
  repeat' split
  all_goals omega
theorem costT_best (c : Int → Int) (x y : Int) (free : Bool) (s b : Int) (h : In4 s) (hb : b = 0 ∨ b = 1) (hf : b = 1 → free = true) (h0 : 0 ≤ c s) :
    0 ≤ costT c x y free (nxt s b) ∧ costT c x y free (nxt s b) ≤ c s + bdist s b x y := by
  unfold In4 at h
  have e : (2 * s + b) % 4 % 2 = b := by omega
  unfold costT nxt
  rw [e]
  have r1 := bdist_range ((2 * s + b) % 4 / 2) b x y
  have r2 := bdist_range ((2 * s + b) % 4 / 2 + 2) b x y
  rw [if_neg (fun q => by have := hf q.1; rw [this] at q; exact absurd q.2 (by decide))]
  by_cases hs : s < 2
  · have e2 : (2 * s + b) % 4 / 2 = s := by omega
    rw [e2] at r1 r2 ⊢
    have h1 := offer_new (-1) (c s) (bdist s b x y) h0 r1.1
    have h2 := offer_cur (offer (-1) (c s) (bdist s b x y)) (c (s + 2)) (bdist (s + 2) b x y) h1.1 r2.1
    omega
  · have e2 : (2 * s + b) % 4 / 2 + 2 = s := by omega
    rw [e2] at r2 ⊢
    exact offer_new _ (c s) (bdist s b x y) h0 r2.1
theorem offer_le (cur c d m : Int) (h : cur ≤ m) (hc : c + d ≤ m) : offer cur c d ≤ m := by
  unfold offer
  repeat' split
  all_goals omega
def costs (l : List Int) (n : Nat) : Nat → Int → Int
  | 0 => fun s => if s = 0 then 0 else -1
  | i + 1 => costT (costs l n i) (l.getD (2 * i) 0) (l.getD (2 * i + 1) 0) (decide (i < n))
theorem costs_le (l : List Int) (n : Nat) : ∀ (i : Nat) (s : Int), costs l n i s ≤ 2 * i
  | 0, s => by
    unfold costs
    split <;> omega
  | i + 1, s => by
    unfold costs costT
    have h1 := costs_le l n i (s / 2)
    have h2 := costs_le l n i (s / 2 + 2)
    have r1 := bdist_range (s / 2) (s % 2) (l.getD (2 * i) 0) (l.getD (2 * i + 1) 0)
    have r2 := bdist_range (s / 2 + 2) (s % 2) (l.getD (2 * i) 0) (l.getD (2 * i + 1) 0)
    split
    · omega
    · exact offer_le _ _ _ _ (offer_le _ _ _ _ (by omega) (by omega)) (by omega)
theorem costs_zero (l : List Int) (n : Nat) : ∀ i : Nat, 0 ≤ costs l n i 0
  | 0 => by
    unfold costs
    rw [if_pos rfl]
    omega
  | i + 1 => by
    have h := (costT_best (costs l n i) (l.getD (2 * i) 0) (l.getD (2 * i + 1) 0) (decide (i < n)) 0 0 ⟨by omega, by omega⟩ (.inl rfl) (fun q => by omega) (costs_zero l n i)).1
    exact h
def stB (l : List Int) (n m : Nat) : Nat → Int
  | 0 => 0
  | d + 1 => prevT (costs l n (m - (d + 1))) (l.getD (2 * (m - (d + 1))) 0) (l.getD (2 * (m - (d + 1)) + 1) 0) (decide (m - (d + 1) < n)) (stB l n m d)
def vst (l : List Int) (n i : Nat) : Int := stB l n (n + 2) (n + 2 - i)
theorem vst_end (l : List Int) (n : Nat) : vst l n (n + 2) = 0 := by
  unfold vst
  rw [Nat.sub_self]
  rfl
theorem vst_step (l : List Int) (n i : Nat) (h : i < n + 2) :
    vst l n i = prevT (costs l n i) (l.getD (2 * i) 0) (l.getD (2 * i + 1) 0) (decide (i < n)) (vst l n (i + 1)) := by
  unfold vst
  obtain ⟨d, hd⟩ : ∃ d, n + 2 - i = d + 1 := ⟨n + 1 - i, by omega⟩
  have e : n + 2 - (i + 1) = d := by omega
  have e2 : n + 2 - (d + 1) = i := by omega
  rw [hd, e, stB, e2]
theorem vst_in (l : List Int) (n : Nat) : ∀ (d i : Nat), i + d = n + 2 → In4 (vst l n i)
  | 0, i, h => by
    rw [show i = n + 2 by omega, vst_end]
    exact ⟨by omega, by omega⟩
  | d + 1, i, h => by
    rw [vst_step l n i (by omega)]
    exact prevT_in _ _ _ _ _ (vst_in l n d (i + 1) (by omega))
theorem vst_good (l : List Int) (n : Nat) : ∀ (d i : Nat), i + d = n + 2 → 0 ≤ costs l n i (vst l n i)
  | 0, i, h => by
    rw [show i = n + 2 by omega, vst_end]
    exact costs_zero l n _
  | d + 1, i, h => by
    rw [vst_step l n i (by omega)]
    have h1 := vst_good l n d (i + 1) (by omega)
    exact (costT_back _ _ _ _ _ (vst_in l n d (i + 1) (by omega)) h1).1
def vbits (l : List Int) (n : Nat) : List Int := (List.range n).map fun i => vst l n (i + 1) % 2
def vcost (l : List Int) (n : Nat) : Int := costs l n (n + 2) 0
theorem vbits_length (l : List Int) (n : Nat) : (vbits l n).length = n := by simp [vbits]
theorem vbits_at (l : List Int) (n i : Nat) (h : i < n) : (vbits l n).getD i 0 = vst l n (i + 1) % 2 := by
  simp [vbits, List.getD_eq_getElem?_getD, List.getElem?_map, List.getElem?_range h]
theorem vbits_bits (l : List Int) (n : Nat) : Bits (vbits l n) := by
  intro x hx
  simp only [vbits, List.mem_map] at hx
  obtain ⟨i, _, rfl⟩ := hx
  omega
def Syms (l : List Int) : Prop := ∀ x ∈ l, 0 ≤ x ∧ x ≤ 2
theorem syms_all {l : List Int} (h : Syms l) : (l.all fun x => decide (0 ≤ x ∧ x ≤ 2)) = true := by
  rw [List.all_eq_true]
  intro x hx
  exact decide_eq_true (h x hx)
theorem all_syms {l : List Int} (h : (l.all fun x => decide (0 ≤ x ∧ x ≤ 2)) = true) : Syms l := by
  intro x hx
  rw [List.all_eq_true] at h
  exact of_decide_eq_true (h x hx)
def lenV (c : Nat) : Int := if c % 2 = 0 ∧ 4 ≤ c ∧ c ≤ 2004 then (c : Int) / 2 - 2 else -1
def vdec (l : List Int) : List Int × Int := if (l.all fun x => decide (0 ≤ x ∧ x ≤ 2)) = true ∧ l.length % 2 = 0 ∧ 4 ≤ l.length ∧ l.length ≤ 2004 then (vbits l (l.length / 2 - 2), vcost l (l.length / 2 - 2)) else ([], -1)
theorem vdec_length (l : List Int) : (vdec l).1.length ≤ 1000 := by
  unfold vdec
  split
  · show (vbits _ _).length ≤ 1000
    rw [vbits_length]
    omega
  · simp
theorem tmod4 (i : Nat) : Int.tmod (i : Int) 4 = ((i % 4 : Nat) : Int) := by
  rw [Int.tmod_eq_emod_of_nonneg (by omega)]
  omega
theorem plen_some (n : Nat) (hn : n ≤ 1000000000) : impl_PuncturedLength.f n = some ((n - n / 4 : Nat) : Int) := by
  unfold impl_PuncturedLength.f
  rw [if_neg (by omega), Int.tdiv_eq_ediv_of_nonneg (by omega), w64s (n := (n : Int) / 4) (by omega) (by omega), w64s (by omega) (by omega)]
  congr 1
  omega
def depunct (p : List Int) : Nat → Nat → Nat → List Int
  | _, _, 0 => []
  | i, j, d + 1 => if i % 4 = 3 then 2 :: depunct p (i + 1) j d else p.getD j 0 :: depunct p (i + 1) (j + 1) d
theorem depunct_length (p : List Int) : ∀ (d i j : Nat), (depunct p i j d).length = d
  | 0, _, _ => rfl
  | d + 1, i, j => by
    unfold depunct
    split <;> simp [depunct_length p d]
theorem take_set_next (x : List Int) (i : Nat) (v : Int) (h : i < x.length) : (x.set i v).take (i + 1) = x.take i ++ [v] := by
  rw [List.take_add_one, List.take_set_of_le (by omega)]
  simp [h]
theorem depunct_loop (p : List Int) (n : Nat) (hn : n ≤ 1000000) : ∀ (d i j : Nat) (x : List Int), i + d = n → x.length = n → j = i - i / 4 → n - n / 4 ≤ p.length →
    Ev (fun k => impl_Depuncture.l0 k p x j n i) (x.take i ++ depunct p i j d) := by
  intro d
  induction d with
  | zero =>
    intro i j x hi hl hj hp
    refine ev1 (evn (by omega) (evc ?_))
    rw [List.take_of_length_le (by omega)]
    simp [depunct]
  | succ d ih =>
    intro i j x hi hl hj hp
    refine ev1 (evp (by omega) ?_)
    rw [tmod4, depunct]
    by_cases h : i % 4 = 3
    · rw [if_pos h]
      refine evp (by omega) (evp (by omega) (evp (by omega) ?_))
      rw [w64s (n := (i : Int) + 1) (by omega) (by omega), Int.toNat_natCast]
      have := ih (i + 1) j (x.set i 2) (by omega) (by simpa using hl) (by omega) hp
      rw [take_set_next x i 2 (by omega), List.append_assoc] at this
      exact this
    · rw [if_neg h]
      refine evn (by omega) (evp (by omega) (evp (by omega) (evp (by omega) (evp (by omega) ?_))))
      rw [w64s (n := (i : Int) + 1) (by omega) (by omega), w64s (n := (j : Int) + 1) (by omega) (by omega), Int.toNat_natCast, rd_nat]
      have := ih (i + 1) (j + 1) (x.set i (p.getD j 0)) (by omega) (by simpa using hl) (by omega) hp
      rw [take_set_next x i _ (by omega), List.append_assoc] at this
      exact this
theorem depunct_ev (p : List Int) (n : Nat) (hn : n ≤ 4000) (hp : p.length = n - n / 4) : Ev (fun k => impl_Depuncture.f k p n) (depunct p 0 0 n) := by
  unfold impl_Depuncture.f
  refine evs (in_some _ _ _) (evp (dt (by omega)) (evs (plen_some n (by omega)) ?_))
  have e : ((p.length : Int) != ((n - n / 4 : Nat) : Int)) = false := by
    rw [hp]
    simp
  rw [e]
  refine ev1 (evp (by omega) (evs rfl ?_))
  have := depunct_loop p n (by omega) n 0 0 (List.replicate (n : Int).toNat 0) (by omega) (by simp) (by omega) (by omega)
  rw [show (((List.replicate (n : Int).toNat (0 : Int)).length : Nat) : Int) = (n : Int) by simp]
  exact this
theorem min_some (a b : Int) : impl_Min.f a b = some (if b < a then b else a) := by
  unfold impl_Min.f
  split <;> rfl
theorem isInter_some (a b : Int) : impl_isInterleaver.f a b = some (decide ((1 ≤ b ∧ b ≤ 64) ∧ (0 ≤ a ∧ a ≤ 10000))) := by
  unfold impl_isInterleaver.f
  by_cases h : 1 ≤ b ∧ b ≤ 64 <;> simp [in_some, h]
def idxS (a b x : Int) : Int := x * (a / b) + (if a % b < x then a % b else x)
def idxF (a b c : Int) : Int := idxS a b (c % b) + c / b
theorem idx_upper (a b c : Int) (hb : 1 ≤ b) (hc : 0 ≤ c ∧ c < a) : idxF a b c < idxS a b (c % b + 1) ∧ idxS a b (c % b) ≤ idxF a b c := by
  have h1 : b * (c / b) + c % b = c := Int.mul_ediv_add_emod c b
  have h2 : b * (a / b) + a % b = a := Int.mul_ediv_add_emod a b
  have m1 : 0 ≤ c % b := Int.emod_nonneg _ (by omega)
  have m2 : c % b < b := Int.emod_lt_of_pos _ (by omega)
  have m3 : 0 ≤ a % b := Int.emod_nonneg _ (by omega)
  have m4 : a % b < b := Int.emod_lt_of_pos _ (by omega)
  have d1 : 0 ≤ a / b := Int.ediv_nonneg (by omega) (by omega)
  have d3 : 0 ≤ c / b := Int.ediv_nonneg hc.1 (by omega)
  unfold idxF idxS
  generalize c % b = x at *
  generalize a % b = y at *
  generalize a / b = z at *
  generalize c / b = u at *
  rw [Int.add_mul]
  by_cases hxy : x < y
  · have hu : u ≤ z := by
      rcases Int.lt_or_le z u with h | h
      · exfalso
        have : b * (z + 1) ≤ b * u := Int.mul_le_mul_of_nonneg_left (by omega) (by omega)
        rw [Int.mul_add] at this
        omega
      · exact h
    rw [if_neg (by omega), if_neg (by omega)]
    omega
  · have hu : u < z := by
      rcases Int.lt_or_le u z with h | h
      · exact h
      · exfalso
        have : b * z ≤ b * u := Int.mul_le_mul_of_nonneg_left (by omega) (by omega)
        omega
    rw [if_pos (show y < x + 1 by omega)]
    have e : (if y < x then y else x) = y := by split <;> omega
    rw [e]
    omega
theorem idxS_mono (a b x x' : Int) (hb : 1 ≤ b) (ha : 0 ≤ a) (h : x ≤ x') : idxS a b x ≤ idxS a b x' := by
  unfold idxS
  have d1 : 0 ≤ a / b := Int.ediv_nonneg ha (by omega)
  have : x * (a / b) ≤ x' * (a / b) := Int.mul_le_mul_of_nonneg_right h d1
  split <;> split <;> omega
theorem idxF_range (a b c : Int) (hb : 1 ≤ b) (hc : 0 ≤ c ∧ c < a) : 0 ≤ idxF a b c ∧ idxF a b c < a := by
  obtain ⟨h1, h2⟩ := idx_upper a b c hb hc
  have m1 : 0 ≤ c % b := Int.emod_nonneg _ (by omega)
  have m2 : c % b < b := Int.emod_lt_of_pos _ (by omega)
  have m3 : 0 ≤ a % b := Int.emod_nonneg _ (by omega)
  have m4 : a % b < b := Int.emod_lt_of_pos _ (by omega)
  have k1 := idxS_mono a b 0 (c % b) hb (by omega) m1
  have k2 := idxS_mono a b (c % b + 1) b hb (by omega) (by omega)
  have e0 : idxS a b 0 = 0 := by
    unfold idxS
    rw [Int.zero_mul, if_neg (by omega)]
    omega
  have e1 : idxS a b b = a := by
    unfold idxS
    rw [if_pos m4]
    exact Int.mul_ediv_add_emod a b
  omega
theorem idx_is (a b c : Int) (hb : 1 ≤ b ∧ b ≤ 64) (ha : 0 ≤ a ∧ a ≤ 10000) (hc : 0 ≤ c ∧ c < a) : impl_InterleavedIndex.f a b c = some (idxF a b c) := by
  have hr := idxF_range a b c hb.1 hc
  unfold impl_InterleavedIndex.f
  simp only [isInter_some, in_some, min_some, Option.bind_some]
  rw [if_pos (by simpa using ⟨hb, ha⟩), if_pos (by rw [w64s (by omega) (by omega)]; simp; omega), if_neg (by omega)]
  have e1 : Int.tmod c b = c % b := Int.tmod_eq_emod_of_nonneg hc.1
  have e2 : Int.tmod a b = a % b := Int.tmod_eq_emod_of_nonneg ha.1
  have e3 : Int.tdiv a b = a / b := Int.tdiv_eq_ediv_of_nonneg ha.1
  have e4 : Int.tdiv c b = c / b := Int.tdiv_eq_ediv_of_nonneg hc.1
  rw [e1, e2, e3, e4]
  unfold idxF idxS at *
  have m1 : 0 ≤ c % b := Int.emod_nonneg _ (by omega)
  have m2 : c % b < b := Int.emod_lt_of_pos _ (by omega)
  have m3 : 0 ≤ a % b := Int.emod_nonneg _ (by omega)
  have m4 : a % b < b := Int.emod_lt_of_pos _ (by omega)
  have d1 : 0 ≤ a / b := Int.ediv_nonneg ha.1 (by omega)
  have d2 : a / b ≤ a := Int.ediv_le_self _ ha.1
  have d3 : 0 ≤ c / b := Int.ediv_nonneg hc.1 (by omega)
  have d4 : c / b ≤ c := Int.ediv_le_self _ hc.1
  generalize c % b = x at *
  generalize a % b = y at *
  generalize a / b = z at *
  generalize c / b = u at *
  have hx : 0 ≤ x * z := Int.mul_nonneg m1 d1
  have hx2 : x * z ≤ 64 * 10000 := Int.mul_le_mul (by omega) (by omega) d1 (by omega)
  rw [w64s (n := z) (by omega) (by omega), w64s (n := u) (by omega) (by omega)]
  have hmn : 0 ≤ (if y < x then y else x) ∧ (if y < x then y else x) ≤ 64 := by split <;> omega
  generalize (if y < x then y else x) = q at *
  generalize x * z = v at *
  rw [w64s (n := v) (by omega) (by omega), w64s (n := v + q) (by omega) (by omega), w64s (n := v + q + u) (by omega) (by omega)]
def ipl (l : List Int) (b : Int) (c : Nat) : Nat := (idxF (l.length : Int) b (c : Int)).toNat
def deGo (l : List Int) (b : Int) : Nat → Nat → List Int → List Int
  | 0, _, x => x
  | d + 1, i, x => deGo l b d (i + 1) (x.set i (l.getD (ipl l b i) 0))
theorem deGo_length (l : List Int) (b : Int) : ∀ (d i : Nat) (x : List Int), (deGo l b d i x).length = x.length
  | 0, _, _ => rfl
  | d + 1, i, x => by
    unfold deGo
    rw [deGo_length l b d]
    simp
theorem ipl_lt (l : List Int) (b : Int) (hb : 1 ≤ b) (c : Nat) (h : c < l.length) : ipl l b c < l.length ∧ ((ipl l b c : Nat) : Int) = idxF (l.length : Int) b (c : Int) := by
  have := idxF_range (l.length : Int) b (c : Int) hb (by omega)
  unfold ipl
  omega
def deL (l : List Int) (b : Int) : List Int := if (1 ≤ b ∧ b ≤ 64) ∧ (0 ≤ (l.length : Int) ∧ (l.length : Int) ≤ 10000) then deGo l b l.length 0 l else l
theorem deL_length (l : List Int) (b : Int) : (deL l b).length = l.length := by
  unfold deL
  split
  · exact deGo_length _ _ _ _ _
  · rfl
def rxC (a0 a1 : Int) (p : List Int) : List Int := if a0 = 2 then depunct (deL p 8) 0 0 (16 * a1 + 36).toNat else deL p 8
def rxB (a0 a1 a2 : Int) (p : List Int) : List Int := bytesL (scrL a2 (vdec (rxC a0 a1 p)).1)
def rxE (a0 a1 a2 : Int) (p : List Int) : Int × Int × Int × List Int × Int :=
  if (vdec (rxC a0 a1 p)).2 < 0 then (a0, a1, a2, [], 2) else if (chkV (rxB a0 a1 a2 p)).2 = true then (a0, a1, a2, (chkV (rxB a0 a1 a2 p)).1, 0) else (a0, a1, a2, [], 2)
def psym (a0 a1 : Int) : Nat := if a0 = 2 then (16 * a1 + 36).toNat - (16 * a1 + 36).toNat / 4 else (16 * a1 + 36).toNat
theorem rxC_length (a0 a1 : Int) (p : List Int) (hp : p.length = psym a0 a1) : (rxC a0 a1 p).length = (16 * a1 + 36).toNat := by
  unfold rxC
  unfold psym at hp
  split at hp
  · rw [if_pos (by assumption), depunct_length]
  · rw [if_neg (by assumption), deL_length, hp]
theorem vdec_bits (l : List Int) : Bits (vdec l).1 := by
  unfold vdec
  split
  · exact vbits_bits _ _
  · intro x hx
    simp at hx
theorem vdec_len8 (l : List Int) (n : Nat) (h : l.length = 16 * n + 36) : ∃ m : Nat, (vdec l).1.length = 8 * m ∧ m ≤ 125 := by
  have hr := vdec_length l
  unfold vdec at hr ⊢
  split at hr
  · rw [if_pos (by assumption)]
    dsimp only at hr ⊢
    rw [vbits_length] at hr ⊢
    exact ⟨n + 2, by omega, by omega⟩
  · rw [if_neg (by assumption)]
    exact ⟨0, rfl, by omega⟩
theorem rxE_length (a0 a1 a2 : Int) (p : List Int) : (rxE a0 a1 a2 p).2.2.2.1.length ≤ 1000 := by
  have h1 := chkV_length (rxB a0 a1 a2 p)
  have h2 : (rxB a0 a1 a2 p).length ≤ 1000 := by
    unfold rxB
    rw [bytesL_length, scrL_length]
    have := vdec_length (rxC a0 a1 p)
    omega
  unfold rxE
  split
  · simp
  · split
    · dsimp only
      omega
    · simp
def rxV (h : Int × Int × Int × Bool) (l : List Int) : Int × Int × Int × List Int × Int :=
  if h.2.2.2 = true ∧ l.length = 54 + psym h.1 h.2.1 then rxE h.1 h.2.1 h.2.2.1 (l.drop 54) else (0, 0, 0, [], 1)
theorem rxV_length (h : Int × Int × Int × Bool) (l : List Int) : (rxV h l).2.2.2.1.length ≤ 1000 := by
  unfold rxV
  split
  · exact rxE_length _ _ _ _
  · simp
theorem hdrV_ok (b : List Int) (h : (hdrV b).2.2.2 = true) : validH (hdrV b).1 (hdrV b).2.1 (hdrV b).2.2.1 := by
  unfold hdrV at h ⊢
  split at h
  · rename_i q
    rw [if_pos q]
    exact q.2
  · exact absurd h (by decide)
theorem icoded_some (a0 a1 a2 : Int) (h : validH a0 a1 a2) : impl_codedSymbols.f a0 a1 a2 = some (((16 * a1 + 36).toNat : Nat) : Int) := by
  unfold validH at h
  unfold impl_codedSymbols.f impl_EncodedLength.f
  rw [w64s (n := a1 + 2) (by omega) (by omega), w64s (n := 8 * (a1 + 2)) (by omega) (by omega), in_some]
  simp only [Option.bind_some]
  rw [if_pos (dt (by omega)), w64s (n := 8 * (a1 + 2) + 2) (by omega) (by omega), w64s (by omega) (by omega)]
  simp only [Option.bind_some]
  congr 1
  omega
theorem scoded_some (a0 a1 a2 : Int) (h : validH a0 a1 a2) : spec_EncodedLength.f (wrap64 (8 * (wrap64 (a1 + 2)))) = some (((16 * a1 + 36).toNat : Nat) : Int) := by
  unfold validH at h
  unfold spec_EncodedLength.f
  rw [w64s (n := a1 + 2) (by omega) (by omega), w64s (n := 8 * (a1 + 2)) (by omega) (by omega), l1_some]
  simp only [Option.bind_some]
  rw [if_pos (dt (by omega)), w64s (n := 8 * (a1 + 2) + 2) (by omega) (by omega), w64s (by omega) (by omega)]
  congr 1
  omega
theorem ipay_some (a0 a1 a2 : Int) (h : validH a0 a1 a2) : impl_PayloadSymbols.f a0 a1 a2 = some ((psym a0 a1 : Nat) : Int) := by
  have hv := h
  unfold validH at hv
  unfold impl_PayloadSymbols.f psym
  rw [valid_some, icoded_some a0 a1 a2 h]
  simp only [Option.bind_some]
  rw [if_pos (dt hv)]
  by_cases h2 : a0 = 2
  · rw [if_pos h2, if_pos h2, plen_some _ (by omega)]
    rfl
  · rw [if_neg h2, if_neg h2]
theorem spay_some (a0 a1 a2 : Int) (h : validH a0 a1 a2) : spec_PayloadSymbols.f a0 a1 a2 = some ((psym a0 a1 : Nat) : Int) := by
  rw [payload_same]
  exact ipay_some a0 a1 a2 h
theorem ide_loop (l : List Int) (b : Int) (hb : 1 ≤ b ∧ b ≤ 64) (hn : l.length ≤ 10000) : ∀ (d i : Nat) (x : List Int), i + d = l.length → x.length = l.length → Ev (fun k => impl_Deinterleave.l0 k l b x l.length i) (deGo l b d i x) := by
  intro d
  induction d with
  | zero =>
    intro i x hi hx
    exact ev1 (evn (by omega) (evc rfl))
  | succ d ih =>
    intro i x hi hx
    obtain ⟨h1, h2⟩ := ipl_lt l b hb.1 i (by omega)
    refine ev1 (evp (by omega) (evs (idx_is _ _ _ hb (by omega) (by omega)) ?_))
    rw [← h2, rd_nat, w64s (n := (i : Int) + 1) (by omega) (by omega), Int.toNat_natCast]
    exact evp (by omega) (evp (by omega) (evp (by omega) (evp (by omega) (ih (i + 1) _ (by omega) (by simpa using hx)))))
theorem ide_ev (l : List Int) (b : Int) (hn : l.length ≤ 4000000) : Ev (fun k => impl_Deinterleave.f k l b) (deL l b) := by
  unfold impl_Deinterleave.f deL
  refine evs (show impl_copyInts.f l = some l from if_pos (by omega)) (evs (isInter_some _ _) ?_)
  by_cases h : (1 ≤ b ∧ b ≤ 64) ∧ (0 ≤ (l.length : Int) ∧ (l.length : Int) ≤ 10000)
  · rw [if_pos h]
    exact evp (dt h) (ide_loop l b h.1 (by omega) l.length 0 l (by omega) rfl)
  · rw [if_neg h]
    exact evn (dnt h) (evc rfl)
theorem ipair_some (s b : Int) (hs : 0 ≤ s ∧ s ≤ 3) (hb : b = 0 ∨ b = 1) : impl_OutputPair.f s b = some (outX s b, outY s b) ∧ impl_NextState.f s b = some (nxt s b) := by
  have hc : s = 0 ∨ s = 1 ∨ s = 2 ∨ s = 3 := by omega
  rcases hc with rfl | rfl | rfl | rfl <;> rcases hb with rfl | rfl <;> exact ⟨by decide +kernel, by decide +kernel⟩
theorem isym_loop (l : List Int) (hn : l.length ≤ 4000000000000000) : ∀ (d i : Nat), i + d = l.length → Ev (fun k => impl_IsSymbolString.l0 k l l.length i) ((l.drop i).all fun x => decide (0 ≤ x ∧ x ≤ 2)) := by
  intro d
  induction d with
  | zero =>
    intro i hi
    rw [List.drop_of_length_le (by omega)]
    exact ev1 (evn (by omega) (evc rfl))
  | succ d ih =>
    intro i hi
    refine ev1 (evp (by omega) (evp (by omega) (evp (by omega) ?_)))
    rw [drop_getD l i (by omega), List.all_cons, rd_nat, w64s (n := (i : Int) + 1) (by omega) (by omega)]
    have hrec := ih (i + 1) (by omega)
    by_cases h0 : l.getD i 0 = 0
    · rw [decide_eq_true (by omega), Bool.true_and]
      exact evp h0 hrec
    · refine evn h0 ?_
      by_cases h1 : l.getD i 0 = 1
      · rw [decide_eq_true (by omega), Bool.true_and]
        exact evp h1 hrec
      · refine evn h1 ?_
        by_cases h2 : l.getD i 0 = 2
        · rw [decide_eq_true (by omega), Bool.true_and]
          exact evp h2 hrec
        · rw [decide_eq_false (by omega), Bool.false_and]
          exact evn h2 (evc rfl)
theorem isym_ev (l : List Int) (hn : l.length ≤ 4000000000000000) : Ev (fun k => impl_IsSymbolString.f k l) (l.all fun x => decide (0 ≤ x ∧ x ≤ 2)) := isym_loop l hn l.length 0 (by omega)
theorem isymD_some (a b : Int) : impl_symbolDistance.f a b = some (symD a b) := by
  unfold impl_symbolDistance.f symD
  split
  · rfl
  · split <;> rfl
theorem ibd_some (s b x y : Int) (hs : In4 s) (hb : b = 0 ∨ b = 1) : impl_BranchDistance.f s b x y = some (bdist s b x y) := by
  unfold impl_BranchDistance.f
  rw [(ipair_some s b hs hb).1]
  simp only [Option.bind_some]
  rw [isymD_some, isymD_some]
  simp only [Option.bind_some]
  have h1 := symD_range x (outX s b)
  have h2 := symD_range y (outY s b)
  rw [w64s (by omega) (by omega)]
  rfl
def pr (l : List Int) (t : Int) : Int × Int := (rd l t, rd l (4 + t))
def updP (p : Int × Int) (c d s : Int) : Int × Int := if p.1 < 0 then (c + d, s) else if c + d < p.1 then (c + d, s) else p
def updL (l : List Int) (t c d s : Int) : List Int := if rd l t < 0 then (l.set t.toNat (c + d)).set (4 + t.toNat) s else if c + d < rd l t then (l.set t.toNat (c + d)).set (4 + t.toNat) s else l
theorem updL_length (l : List Int) (t c d s : Int) : (updL l t c d s).length = l.length := by
  unfold updL
  split
  · simp
  · split <;> simp
theorem pr_set (l : List Int) (t u x y : Int) (hl : l.length = 8) (ht : In4 t) (hu : In4 u) : pr ((l.set t.toNat x).set (4 + t.toNat) y) u = if t = u then (x, y) else pr l u := by
  unfold In4 at ht hu
  unfold pr rd
  rw [getD_set, getD_set, getD_set, getD_set]
  simp only [List.length_set, hl]
  by_cases e : t = u
  · subst e
    rw [if_neg (by omega), if_pos (by omega), if_pos (by omega), if_pos rfl]
  · rw [if_neg (by omega), if_neg (by omega), if_neg (by omega), if_neg (by omega), if_neg e]
theorem pr_upd (l : List Int) (t u c d s : Int) (hl : l.length = 8) (ht : In4 t) (hu : In4 u) : pr (updL l t c d s) u = if t = u then updP (pr l u) c d s else pr l u := by
  unfold updL
  by_cases h1 : rd l t < 0
  · rw [if_pos h1, pr_set l t u _ _ hl ht hu]
    by_cases e : t = u
    · subst e
      rw [if_pos rfl, if_pos rfl]
      unfold updP pr
      rw [if_pos h1]
    · rw [if_neg e, if_neg e]
  · rw [if_neg h1]
    by_cases h2 : c + d < rd l t
    · rw [if_pos h2, pr_set l t u _ _ hl ht hu]
      by_cases e : t = u
      · subst e
        rw [if_pos rfl, if_pos rfl]
        unfold updP pr
        rw [if_neg h1, if_pos h2]
      · rw [if_neg e, if_neg e]
    · rw [if_neg h2]
      by_cases e : t = u
      · subst e
        rw [if_pos rfl]
        unfold updP pr
        rw [if_neg h1, if_neg h2]
      · rw [if_neg e]
theorem ext1_some (s : List Int) (x y st b : Int) (nx : List Int) (hs : In4 st) (hb : b = 0 ∨ b = 1) (h0 : 0 ≤ rd s st) (h1 : rd s st ≤ 1000000) :
    ext1 s x y st b nx = some (updL nx (nxt st b) (rd s st) (bdist st b x y) st) := by
  have hn := nxt_range st b
  have hd := bdist_range st b x y
  unfold ext1 updL
  rw [(ipair_some st b hs hb).2, ibd_some st b x y hs hb]
  simp only [Option.bind_some]
  rw [if_pos hn.1, if_pos (by omega), w64s (n := rd s st + bdist st b x y) (by omega) (by omega)]
  split
  · rfl
  · split <;> rfl
def rowL (s : List Int) (x y : Int) (oz : Bool) (st : Int) (nx : List Int) : List Int :=
  if rd s st < 0 then nx else if oz = true then updL nx (nxt st 0) (rd s st) (bdist st 0 x y) st else updL (updL nx (nxt st 0) (rd s st) (bdist st 0 x y) st) (nxt st 1) (rd s st) (bdist st 1 x y) st
theorem rowL_length (s : List Int) (x y : Int) (oz : Bool) (st : Int) (nx : List Int) : (rowL s x y oz st nx).length = nx.length := by
  unfold rowL
  split
  · rfl
  · split
    · exact updL_length _ _ _ _ _
    · rw [updL_length, updL_length]
theorem extI_some (s : List Int) (x y : Int) (oz : Bool) (st : Int) (nx : List Int) (hs : In4 st) (h0 : ¬ rd s st < 0) (h1 : rd s st ≤ 1000000) : extI s x y oz st 3 0 nx = some (rowL s x y oz st nx) := by
  have e0 := fun nx => ext1_some s x y st 0 nx hs (.inl rfl) (by omega) h1
  have e1 := fun nx => ext1_some s x y st 1 nx hs (.inr rfl) (by omega) h1
  have w1 : wrap64 1 = 1 := w64s (by omega) (by omega)
  have w2 : wrap64 2 = 2 := w64s (by omega) (by omega)
  unfold rowL
  rw [if_neg h0]
  cases oz with
  | true =>
    simp [extI, w1, w2, e0]
  | false =>
    simp [extI, w1, w2, e0, e1]
theorem extO_some (s : List Int) (x y : Int) (oz : Bool) (hc : ∀ st, In4 st → rd s st ≤ 1000000) (nx : List Int) : extO s x y oz 5 0 nx = some (rowL s x y oz 3 (rowL s x y oz 2 (rowL s x y oz 1 (rowL s x y oz 0 nx)))) := by
  have step : ∀ (k : Nat) (st : Int) (nx : List Int), In4 st → extO s x y oz (k + 1) st nx = extO s x y oz k (st + 1) (rowL s x y oz st nx) := by
    intro k st nx hs
    have hs2 := hs
    unfold In4 at hs2
    rw [extO, if_pos (by omega), if_pos hs2.1, w64s (n := st + 1) (by omega) (by omega)]
    by_cases h : rd s st < 0
    · rw [if_pos h]
      congr 1
      unfold rowL
      rw [if_pos h]
    · rw [if_neg h, extI_some s x y oz st nx hs h (hc st hs)]
      rfl
  rw [step 4 0 nx ⟨by omega, by omega⟩, step 3 (0 + 1) _ ⟨by omega, by omega⟩, step 2 (0 + 1 + 1) _ ⟨by omega, by omega⟩, step 1 (0 + 1 + 1 + 1) _ ⟨by omega, by omega⟩]
  rfl
theorem pr_row (s : List Int) (x y : Int) (oz : Bool) (st u : Int) (nx : List Int) (hl : nx.length = 8) (hu : In4 u) :
    pr (rowL s x y oz st nx) u = if rd s st < 0 then pr nx u else if nxt st 0 = u then updP (pr nx u) (rd s st) (bdist st 0 x y) st else if nxt st 1 = u ∧ oz = false then updP (pr nx u) (rd s st) (bdist st 1 x y) st else pr nx u := by
  unfold rowL
  by_cases h : rd s st < 0
  · rw [if_pos h, if_pos h]
  · rw [if_neg h, if_neg h]
    have hne : nxt st 0 ≠ nxt st 1 := by unfold nxt; omega
    cases oz with
    | true =>
      rw [if_pos rfl, pr_upd nx _ u _ _ _ hl (nxt_range _ _) hu]
      by_cases e : nxt st 0 = u
      · rw [if_pos e, if_pos e]
      · rw [if_neg e, if_neg e, if_neg (fun q => by simp at q)]
    | false =>
      rw [if_neg (by decide), pr_upd _ _ u _ _ _ (by rw [updL_length]; exact hl) (nxt_range _ _) hu, pr_upd nx _ u _ _ _ hl (nxt_range _ _) hu]
      by_cases e : nxt st 0 = u
      · rw [if_neg (fun q => hne (e.trans q.symm)), if_pos e, if_pos e]
      · by_cases e1 : nxt st 1 = u
        · rw [if_pos e1, if_neg e, if_neg e, if_pos ⟨e1, rfl⟩]
        · rw [if_neg e1, if_neg e, if_neg e, if_neg (fun q => e1 q.1)]
def svL (l : List Int) (n : Nat) : Nat → List Int
  | 0 => [0, -1, -1, -1, 0, 0, 0, 0]
  | i + 1 => [costs l n (i + 1) 0, costs l n (i + 1) 1, costs l n (i + 1) 2, costs l n (i + 1) 3] ++ [0, 1, 2, 3].map (prevT (costs l n i) (l.getD (2 * i) 0) (l.getD (2 * i + 1) 0) (decide (i < n)))
theorem svL_length (l : List Int) (n i : Nat) : (svL l n i).length = 8 := by
  cases i <;> rfl
theorem svL_cost (l : List Int) (n i : Nat) (s : Int) (h : In4 s) : rd (svL l n i) s = costs l n i s := by
  rcases four h with rfl | rfl | rfl | rfl <;> cases i <;> rfl
theorem svL_prev (l : List Int) (n i : Nat) (s : Int) (h : In4 s) : rd (svL l n (i + 1)) (4 + s) = prevT (costs l n i) (l.getD (2 * i) 0) (l.getD (2 * i + 1) 0) (decide (i < n)) s := by
  rcases four h with rfl | rfl | rfl | rfl <;> rfl
theorem pr_ext {a b : List Int} (ha : a.length = 8) (hb : b.length = 8) (h : ∀ u, In4 u → pr a u = pr b u) : a = b := by
  refine list_ext (by omega) (fun i hi => ?_)
  by_cases q : i < 4
  · have h1 := congrArg Prod.fst (h (i : Int) ⟨by omega, by omega⟩)
    simpa [pr, rd] using h1
  · obtain ⟨j, rfl⟩ : ∃ j, i = 4 + j := ⟨i - 4, by omega⟩
    have h1 := congrArg Prod.snd (h (j : Int) ⟨by omega, by omega⟩)
    unfold pr rd at h1
    rw [show ((4 : Int) + (j : Int)).toNat = 4 + j by omega] at h1
    exact h1
theorem two_offers (c0 c1 d0 d1 s0 s1 : Int) (h0 : 0 ≤ d0) (h1 : 0 ≤ d1) :
    (if c1 < 0 then (if c0 < 0 then ((-1 : Int), (0 : Int)) else updP (-1, 0) c0 d0 s0) else updP (if c0 < 0 then ((-1 : Int), (0 : Int)) else updP (-1, 0) c0 d0 s0) c1 d1 s1) =
      (offer (offer (-1) c0 d0) c1 d1, if c0 < 0 then (if c1 < 0 then 0 else s1) else if c1 < 0 then s0 else if c1 + d1 < c0 + d0 then s1 else s0) := by
  unfold offer updP
  by_cases a : c0 < 0 <;> by_cases b : c1 < 0
  · simp [a, b]
  · simp [a, b]
  · simp [a, b]
  · have f : ¬ c0 + d0 < 0 := by omega
    by_cases e : c1 + d1 < c0 + d0
    · simp [a, b, e, f]
    · simp [a, b, e, f]
theorem ext_some (l : List Int) (n i : Nat) (hn : n ≤ 1000) (hi : i < n + 2) : impl_extendSurvivors.f (svL l n i) (l.getD (2 * i) 0) (l.getD (2 * i + 1) 0) (decide ((i : Int) ≥ (n : Int))) = some (svL l n (i + 1)) := by
  have hle : ∀ st, In4 st → rd (svL l n i) st ≤ 1000000 := fun st hs => by
    rw [svL_cost l n i st hs]
    have := costs_le l n i st
    omega
  unfold impl_extendSurvivors.f
  rw [if_pos (svL_length l n i), extO_some _ _ _ _ hle]
  congr 1
  have hoz : decide ((i : Int) ≥ (n : Int)) = !decide (i < n) := by
    by_cases q : i < n
    · rw [decide_eq_true q, decide_eq_false (by omega)]
      rfl
    · rw [decide_eq_false q, decide_eq_true (by omega)]
      rfl
  rw [hoz]
  have c0 := svL_cost l n i 0 ⟨by omega, by omega⟩
  have c1 := svL_cost l n i 1 ⟨by omega, by omega⟩
  have c2 := svL_cost l n i 2 ⟨by omega, by omega⟩
  have c3 := svL_cost l n i 3 ⟨by omega, by omega⟩
  generalize hx : l.getD (2 * i) 0 = x
  generalize hy : l.getD (2 * i + 1) 0 = y
  have r0 := fun s b => (bdist_range s b x y).1
  have hi0 : (([-1, -1, -1, -1, 0, 0, 0, 0] : List Int)).length = 8 := rfl
  refine pr_ext (by simp only [rowL_length]; rfl) (svL_length _ _ _) (fun u hu => ?_)
  have hR : pr (svL l n (i + 1)) u = (costT (costs l n i) x y (decide (i < n)) u, prevT (costs l n i) x y (decide (i < n)) u) := by
    unfold pr
    rw [svL_cost l n (i + 1) u hu, svL_prev l n i u hu, hx, hy]
    show (costT (costs l n i) (l.getD (2 * i) 0) (l.getD (2 * i + 1) 0) (decide (i < n)) u, _) = _
    rw [hx, hy]
  rw [hR, pr_row _ _ _ _ _ _ _ (by simp only [rowL_length]; rfl) hu, pr_row _ _ _ _ _ _ _ (by simp only [rowL_length]; rfl) hu, pr_row _ _ _ _ _ _ _ (by simp only [rowL_length]; rfl) hu, pr_row _ _ _ _ _ _ _ rfl hu, c0, c1, c2, c3]
  have hp : pr ([-1, -1, -1, -1, 0, 0, 0, 0] : List Int) u = (-1, 0) := by rcases four hu with rfl | rfl | rfl | rfl <;> rfl
  rw [hp]
  have n00 : nxt 0 0 = 0 := rfl
  have n01 : nxt 0 1 = 1 := rfl
  have n10 : nxt 1 0 = 2 := rfl
  have n11 : nxt 1 1 = 3 := rfl
  have n20 : nxt 2 0 = 0 := rfl
  have n21 : nxt 2 1 = 1 := rfl
  have n30 : nxt 3 0 = 2 := rfl
  have n31 : nxt 3 1 = 3 := rfl
  rw [n00, n01, n10, n11, n20, n21, n30, n31]
  unfold costT prevT
  rcases four hu with rfl | rfl | rfl | rfl
  · have h := two_offers (costs l n i 0) (costs l n i 2) (bdist 0 0 x y) (bdist 2 0 x y) 0 2 (r0 _ _) (r0 _ _)
    simpa using h
  · cases decide (i < n) with
    | true =>
      have h := two_offers (costs l n i 0) (costs l n i 2) (bdist 0 1 x y) (bdist 2 1 x y) 0 2 (r0 _ _) (r0 _ _)
      simpa using h
    | false => simp
  · have h := two_offers (costs l n i 1) (costs l n i 3) (bdist 1 0 x y) (bdist 3 0 x y) 1 3 (r0 _ _) (r0 _ _)
    simpa using h
  · cases decide (i < n) with
    | true =>
      have h := two_offers (costs l n i 1) (costs l n i 3) (bdist 1 1 x y) (bdist 3 1 x y) 1 3 (r0 _ _) (r0 _ _)
      simpa using h
    | false => simp
def svs (l : List Int) (n c : Nat) : List (List Int) := (List.range c).map (svL l n)
theorem svs_length (l : List Int) (n c : Nat) : (svs l n c).length = c := by simp [svs]
theorem svs_at (l : List Int) (n c i : Nat) (h : i < c) : rdS (svs l n c) (i : Int) = svL l n i := by
  simp [rdS, svs, List.getD_eq_getElem?_getD, List.getElem?_map, List.getElem?_range h]
theorem svs_snoc (l : List Int) (n c : Nat) : svs l n c ++ [svL l n c] = svs l n (c + 1) := by simp [svs, List.range_succ]
theorem vitS_ev (l : List Int) (n : Nat) (hn : n ≤ 1000) (hl : l.length = 2 * n + 4) : ∀ (d i : Nat), i + d = n + 2 → Ev (fun k => vitS l (n : Int) ((n : Int) + 2) k (svs l n (i + 1)) (i : Int)) (svs l n (n + 3)) := by
  intro d
  induction d with
  | zero =>
    intro i hi
    refine ev1 (evn (by omega) (evc ?_))
    rw [show i + 1 = n + 3 by omega]
  | succ d ih =>
    intro i hi
    refine ev1 (evp (by omega) (evp (by omega) (evp (by rw [svs_length]; omega) (evp (by omega) (evp (by rw [svs_length]; omega) ?_)))))
    rw [svs_at l n (i + 1) i (by omega), show (2 : Int) * (i : Int) = ((2 * i : Nat) : Int) by omega, show ((2 * i : Nat) : Int) + 1 = ((2 * i + 1 : Nat) : Int) by omega, rd_nat, rd_nat, ext_some l n i hn (by omega), w64s (n := (i : Int) + 1) (by omega) (by omega)]
    have h := ih (i + 1) (by omega)
    rw [← svs_snoc] at h
    exact h
theorem and_one {s : Int} (h : In4 s) : Go.bits .and .i64 s 1 = s % 2 := by
  rcases four h with rfl | rfl | rfl | rfl <;> decide +kernel
theorem vitT_ev (l : List Int) (n : Nat) (hn : n ≤ 1000) : ∀ (i : Nat) (bs : List Int), i ≤ n + 2 → bs.length = n → (∀ j, i ≤ j → j < n → bs.getD j 0 = vst l n (j + 1) % 2) →
    Ev (fun k => vitT (svs l n (n + 3)) (n : Int) k bs (vst l n i) (i : Int)) (vbits l n) := by
  intro i
  induction i with
  | zero =>
    intro bs _ hb hj
    refine ev1 (evn (by omega) (evc ?_))
    rw [list_ext (a := bs) (b := vbits l n) (by rw [hb, vbits_length]) (fun j h => by rw [hj j (by omega) (by omega), vbits_at l n j (by omega)])]
  | succ i ih =>
    intro bs hi hb hj
    have hv := vst_in l n (n + 1 - i) (i + 1) (by omega)
    refine ev1 (evp (by omega) (evp (by rw [svs_length]; omega) (evp hv.1 (evp (by have := hv.2; omega) ?_))))
    rw [show ((i + 1 : Nat) : Int) - 1 = (i : Int) by omega, svs_at l n (n + 3) (i + 1) (by omega), svL_prev l n i _ hv, ← vst_step l n i (by omega)]
    by_cases h : i < n
    · refine evp (by omega) (evp (by omega) ?_)
      rw [Int.toNat_natCast, and_one hv]
      refine ih _ (by omega) (by simpa using hb) (fun j h1 h2 => ?_)
      rw [getD_set]
      by_cases e : i = j
      · subst e
        rw [if_pos ⟨rfl, by omega⟩]
      · rw [if_neg (fun q => e q.1)]
        exact hj j (by omega) h2
    · refine evn (by omega) (ih bs (by omega) hb (fun j h1 h2 => by omega))
theorem ilen_ev (c : Nat) (hc : c ≤ 4000000000000) : Ev (fun k => impl_InputLength.f k (c : Int)) (lenV c) := by
  unfold impl_InputLength.f lenV
  refine evn (by omega) ?_
  rw [Int.tmod_eq_emod_of_nonneg (by omega)]
  by_cases h2 : c % 2 = 0
  · have e : (((c : Int) % 2) != 0) = false := by
      have : (c : Int) % 2 = 0 := by omega
      simp [this]
    rw [e]
    have hw : wrap64 (wrap64 (Int.tdiv (c : Int) 2) - 2) = (c : Int) / 2 - 2 := by
      rw [Int.tdiv_eq_ediv_of_nonneg (by omega), w64s (n := (c : Int) / 2) (by omega) (by omega), w64s (by omega) (by omega)]
    refine ev1 (Ev.congr (f := fun _ => (impl_InRange.f (wrap64 (wrap64 (Int.tdiv (c : Int) 2) - 2)) 0 1000).bind fun q => if q = true then some (wrap64 (wrap64 (Int.tdiv (c : Int) 2) - 2)) else some (-1)) (fun _ => by rw [impl_InputLength.j0, if_neg (by decide)]) ?_)
    rw [hw]
    refine evs (in_some _ _ _) ?_
    by_cases h : 0 ≤ (c : Int) / 2 - 2 ∧ (c : Int) / 2 - 2 ≤ 1000
    · rw [if_pos (show c % 2 = 0 ∧ 4 ≤ c ∧ c ≤ 2004 by omega)]
      exact evp (dt h) (evc rfl)
    · rw [if_neg (show ¬ (c % 2 = 0 ∧ 4 ≤ c ∧ c ≤ 2004) by omega)]
      exact evn (dnt h) (evc rfl)
  · have e : (((c : Int) % 2) != 0) = true := by
      have : (c : Int) % 2 = 1 := by omega
      simp [this]
    rw [e, if_neg (by omega)]
    exact ev1 (evk fun _ => by rw [impl_InputLength.j0, if_pos rfl])
theorem ivit_ev (l : List Int) (hl : l.length ≤ 1000000000) : Ev (fun k => impl_ViterbiDecode.f k l) (vdec l) := by
  unfold impl_ViterbiDecode.f vdec
  have h1 := ilen_ev l.length (by omega)
  have h2 := isym_ev l (by omega)
  refine Ev.bind h1 (Ev.bind h2 ?_)
  by_cases hs : Syms l
  · rw [syms_all hs]
    refine evp rfl ?_
    unfold lenV
    by_cases hc : l.length % 2 = 0 ∧ 4 ≤ l.length ∧ l.length ≤ 2004
    · rw [if_pos hc, if_pos ⟨rfl, hc⟩]
      obtain ⟨n, hn⟩ : ∃ n : Nat, l.length = 2 * n + 4 := ⟨l.length / 2 - 2, by omega⟩
      have e : (l.length : Int) / 2 - 2 = (n : Int) := by omega
      have e2 : l.length / 2 - 2 = n := by omega
      rw [e, e2]
      refine evn (by omega) ?_
      unfold vitB
      refine evp (by omega) (evp (by omega) ?_)
      have h3 := vitS_ev l n (by omega) hn (n + 2) 0 (by omega)
      refine Ev.bind h3 ?_
      rw [Int.toNat_natCast]
      have h4 := vitT_ev l n (by omega) (n + 2) (List.replicate n 0) (by omega) (by simp) (fun j h5 h6 => by omega)
      rw [vst_end] at h4
      refine Ev.bind h4 (evp (by rw [svs_length]; omega) (evc ?_))
      rw [show (n : Int) + 2 = ((n + 2 : Nat) : Int) by omega, svs_at l n (n + 3) (n + 2) (by omega), svL_cost l n (n + 2) 0 ⟨by omega, by omega⟩]
      rfl
    · rw [if_neg hc, if_neg (fun q => hc q.2)]
      exact evp (by decide) (evc rfl)
  · have e : (l.all fun x => decide (0 ≤ x ∧ x ≤ 2)) = false := by
      cases q : (l.all fun x => decide (0 ≤ x ∧ x ≤ 2)) with
      | false => rfl
      | true => exact absurd (all_syms q) hs
    rw [e, if_neg (fun q => absurd q.1 (by decide))]
    exact evn (by decide) (evc rfl)
theorem inextscr_some (s : Int) : impl_NextScramblerState.f s = some (scrNext s) := by
  unfold impl_NextScramblerState.f scrNext
  rw [in_some]
  simp only [Option.bind_some]
  by_cases h : 1 ≤ s ∧ s ≤ 127
  · rw [if_pos (dt h), if_pos h]
    rfl
  · rw [if_neg (dnt h), if_neg h]
theorem iscr_loop (n : Nat) (hn : n ≤ 1000000) : ∀ (d i : Nat) (s : Int) (x : List Int), i + d = n → x.length = n → Ev (fun k => impl_Scramble.l0 k s x n i) (x.take i ++ scrGo s (x.drop i)) := by
  intro d
  induction d with
  | zero =>
    intro i s x hi hx
    rw [List.drop_of_length_le (by omega), List.take_of_length_le (by omega)]
    exact ev1 (evn (by omega) (evc (by simp [scrGo])))
  | succ d ih =>
    intro i s x hi hx
    refine ev1 (evp (by omega) (evp (by omega) (evp (by omega) (evs (show impl_scramblerOutput.f s = some (scrOut s) from rfl) (evs (inextscr_some s) ?_)))))
    rw [w64s (n := (i : Int) + 1) (by omega) (by omega), Int.toNat_natCast, rd_nat, drop_getD x i (by omega), scrGo]
    have h := ih (i + 1) (scrNext s) (x.set i (Go.bits .xor .i64 (x.getD i 0) (scrOut s))) (by omega) (by simpa using hx)
    rw [take_set_succ x i _ (by omega), List.append_assoc, List.drop_set_of_lt (by omega)] at h
    exact h
theorem iscr_ev (s : Int) (l : List Int) (hb : Bits l) (hn : l.length ≤ 1000000) : Ev (fun k => impl_Scramble.f k s l) (scrL s l) := by
  unfold impl_Scramble.f scrL
  refine evs (show impl_copyInts.f l = some l from if_pos (by omega)) (evs (in_some _ _ _) ?_)
  by_cases h : 1 ≤ s ∧ s ≤ 127
  · rw [if_pos h]
    have hbb := ibits_ev l (by omega)
    rw [ibits_all hb] at hbb
    have hl : Ev (fun k => impl_Scramble.j0 k s l false) (scrGo s l) := by
      have := iscr_loop l.length hn l.length 0 s l (by omega) rfl
      exact ev1 this
    exact evp (dt h) (Ev.bind hbb hl)
  · rw [if_neg h]
    exact evn (dnt h) (ev1 (evk fun _ => rfl))
theorem ibtb_loop (l : List Int) (hb : Bits l) (m : Nat) (hn : l.length = 8 * m) (hm : m ≤ 1000) : ∀ (d i : Nat) (x : List Int), i + d = l.length → x.length = m → (∀ q, q < m → x.getD q 0 = bp (bitsAt l q) (min 8 (i - 8 * q))) → Ev (fun k => impl_BitsToBytes.l0 k x l l.length i) (bytesL l, true) := by
  intro d
  induction d with
  | zero =>
    intro i x hi hx hq
    refine ev1 (evn (by omega) (evc ?_))
    rw [list_ext (a := x) (b := bytesL l) (by rw [hx, bytesL_length]; omega) (fun q h => by
      rw [hq q (by omega), bytesL_at l q (by omega), byte_bp l q (by omega), show min 8 (i - 8 * q) = 8 by omega])]
  | succ d ih =>
    intro i x hi hx hq
    have w1 : wrap64 (Int.tdiv (i : Int) 8) = ((i / 8 : Nat) : Int) := by rw [Int.tdiv_eq_ediv_of_nonneg (by omega), w64s (by omega) (by omega)]; omega
    have w2 : Int.tmod (i : Int) 8 = ((i % 8 : Nat) : Int) := by rw [Int.tmod_eq_emod_of_nonneg (by omega)]; omega
    refine ev1 (evp (by omega) (evp (by omega) (evp (by omega) (evp (by rw [w1]; omega) (evp (by rw [w1]; omega) (evp (by rw [w2]; omega) ?_))))))
    rw [w1, w2, rd_nat, rd_nat, Int.toNat_natCast, w64s (n := (i : Int) + 1) (by omega) (by omega)]
    have hbit := bit_getD hb i
    have hr := bp_range (bitsAt l (i / 8)) (bitsAt_bits hb _) (i % 8) (by omega)
    have h0 := hq (i / 8) (by omega)
    rw [show min 8 (i - 8 * (i / 8)) = i % 8 by omega] at h0
    rw [h0, (or8_of _ _ (i % 8) (by omega) hr hbit).1]
    refine ih (i + 1) _ (by omega) (by simpa using hx) (fun q h => ?_)
    rw [getD_set]
    by_cases e : i / 8 = q
    · subst e
      rw [if_pos ⟨rfl, by omega⟩, show min 8 (i + 1 - 8 * (i / 8)) = i % 8 + 1 by omega, bp, bitsAt_at _ _ _ (by omega), show 8 * (i / 8) + i % 8 = i by omega]
    · rw [if_neg (fun h' => e h'.1), hq q h]
      congr 1
      omega
theorem ibtb_ev (l : List Int) (hb : Bits l) (m : Nat) (hn : l.length = 8 * m) (hm : m ≤ 1000) : Ev (fun k => impl_BitsToBytes.f k l) (bytesL l, true) := by
  unfold impl_BitsToBytes.f
  have h := ibits_ev l (by omega)
  rw [ibits_all hb] at h
  refine Ev.bind h (evp rfl ?_)
  have e : (((l.length : Int) % 8) != 0) = false := by
    have : (l.length : Int) % 8 = 0 := by omega
    simp [this]
  rw [e]
  have w : wrap64 ((l.length : Int) / 8) = (m : Int) := by rw [w64s (by omega) (by omega)]; omega
  refine ev1 (Ev.congr (f := fun k => if 0 ≤ (wrap64 ((l.length : Int) / 8)) then (if (wrap64 ((l.length : Int) / 8) : Int).toNat ≤ 281474976710656 then (impl_BitsToBytes.l0 k (List.replicate (wrap64 ((l.length : Int) / 8) : Int).toNat 0) l (l.length : Int) 0) else (none)) else (none)) (fun k => by rw [impl_BitsToBytes.j0, if_neg (by decide)]) ?_)
  rw [w, Int.toNat_natCast]
  refine evp (by omega) (evp (by omega) ?_)
  exact ibtb_loop l hb m hn hm l.length 0 (List.replicate m 0) (by omega) (by simp) (fun q h => by
    rw [show min 8 (0 - 8 * q) = 0 by omega, List.getD_eq_getElem?_getD, List.getElem?_replicate]
    split <;> rfl)
theorem copyB_some (l : List Int) (h : l.length ≤ 4000000) : impl_copyBytes.f l = some l := if_pos (by omega)
theorem icrc_in (l : List Int) (i : Nat) (hi : i ≤ 1000000) (r : Int) : ∀ (d j : Nat) (x : Int), j + d = 8 → Ev (fun k => impl_Crc16.l0 k (crcIn d x) l l.length ((i + 1 : Nat) : Int)) r → Ev (fun k => impl_Crc16.l1 k x j l l.length i) r := by
  intro d
  induction d with
  | zero =>
    intro j x hj h
    refine ev1 (evn (by omega) ?_)
    rw [w64s (n := (i : Int) + 1) (by omega) (by omega)]
    exact h
  | succ d ih =>
    intro j x hj h
    have hw : wrap64 ((j : Int) + 1) = ((j + 1 : Nat) : Int) := by rw [w64s (by omega) (by omega)]; omega
    refine ev1 (evp (by omega) ?_)
    rw [hw]
    unfold crcIn at h
    by_cases hb : Go.bits .and .i64 x 1 = 1
    · rw [if_pos hb] at h
      exact evp hb (ih (j + 1) _ (by omega) h)
    · rw [if_neg hb] at h
      exact evn hb (ih (j + 1) _ (by omega) h)
theorem icrc_loop (l : List Int) (hb : Bytes l) (hn : l.length ≤ 100000) : ∀ (d i : Nat) (x : Int), i + d = l.length → Ev (fun k => impl_Crc16.l0 k x l l.length i) (crcGo x (l.drop i)) := by
  intro d
  induction d with
  | zero =>
    intro i x hi
    rw [List.drop_of_length_le (by omega)]
    exact ev1 (evn (by omega) (evc rfl))
  | succ d ih =>
    intro i x hi
    have hx := hb _ (rd_mem (l := l) (i := i) (by omega))
    refine ev1 (evp (by omega) (evp (by omega) (evp (by omega) ?_)))
    rw [rd_nat, w64s (n := l.getD i 0) (by omega) (by omega), dropGetD l i (by omega)]
    exact icrc_in l i (by omega) _ 8 0 _ (by omega) (ih (i + 1) _ (by omega))
theorem iacrc_ev (l : List Int) (hb : Bytes l) (hn : l.length ≤ 100000) : Ev (fun k => impl_AppendCrc.f k l) (crcL l) := by
  have hr := crcGo_range l 65535 hb (by omega)
  unfold impl_AppendCrc.f
  refine Ev.bind (icrc_loop l hb hn l.length 0 65535 (by omega)) (evs (copyB_some l (by omega)) (evs rfl (evp (by simp; omega) (evc ?_))))
  rw [List.drop_zero]
  unfold crcL
  rw [Int.tmod_eq_emod_of_nonneg hr.1, Int.tdiv_eq_ediv_of_nonneg hr.1, w64s (n := crcGo 65535 l / 256) (by omega) (by omega), show crcGo 65535 l / 256 % 256 = crcGo 65535 l / 256 by omega, show crcGo 65535 l % 256 % 256 = crcGo 65535 l % 256 by omega]
theorem ieqb_loop (a b : List Int) (hl : a.length = b.length) (hn : a.length ≤ 4000000000000000) : ∀ (d i : Nat), i + d = a.length → (∀ j, j < i → a.getD j 0 = b.getD j 0) → Ev (fun k => impl_EqualBytes.l0 k a b a.length i) (decide (a = b)) := by
  intro d
  induction d with
  | zero =>
    intro i hi hj
    rw [decide_eq_true (list_ext hl (fun j h => hj j (by omega)))]
    exact ev1 (evn (by omega) (evc rfl))
  | succ d ih =>
    intro i hi hj
    refine ev1 (evp (by omega) (evp (by omega) (evp (by omega) (evp (by omega) ?_))))
    rw [rd_nat, rd_nat, w64s (n := (i : Int) + 1) (by omega) (by omega)]
    by_cases h : a.getD i 0 = b.getD i 0
    · refine evp h (ih (i + 1) (by omega) (fun j hj2 => ?_))
      by_cases e : j = i
      · rw [e]
        exact h
      · exact hj j (by omega)
    · refine evn h ?_
      rw [decide_eq_false (fun e => h (by rw [e]))]
      exact evc rfl
theorem ieqb_ev (a b : List Int) (hn : a.length ≤ 4000000000000000) : Ev (fun k => impl_EqualBytes.f k a b) (decide (a = b)) := by
  unfold impl_EqualBytes.f
  by_cases h : a.length = b.length
  · exact evp (by omega) (ieqb_loop a b h hn a.length 0 (by omega) (fun j hj => by omega))
  · refine evn (by omega) ?_
    rw [decide_eq_false (fun e => h (by rw [e]))]
    exact evc rfl
theorem ichk_ev (l : List Int) (hb : Bytes l) (hn : l.length ≤ 1000) : Ev (fun k => impl_CheckCrc.f k l) (chkV l) := by
  unfold impl_CheckCrc.f chkV
  by_cases h : l.length < 2
  · rw [if_neg (fun q => by omega)]
    exact evp (by omega) (evc rfl)
  have w : wrap64 ((l.length : Int) - 2) = ((l.length - 2 : Nat) : Int) := by rw [w64s (by omega) (by omega)]; omega
  refine evn (by omega) (evp (by rw [w]; omega) (evp (by rw [w]; omega) ?_))
  rw [w, Int.toNat_natCast]
  have e1 := iacrc_ev (l.take (l.length - 2)) (fun x hx => hb x (List.mem_of_mem_take hx)) (by simp; omega)
  have e2 := ieqb_ev (crcL (l.take (l.length - 2))) l (by rw [crc_len]; simp; omega)
  refine evs (copyB_some _ (by simp; omega)) (Ev.bind e1 (Ev.bind e2 ?_))
  by_cases q : crcL (l.take (l.length - 2)) = l
  · exact ev_eq (evp (dt q) (evc rfl)) (if_pos ⟨by omega, q⟩).symm
  · exact ev_eq (evn (dnt q) (evc rfl)) (if_neg (fun z => q z.2)).symm
theorem irx_j1 (a0 a1 a2 : Int) (h : validH a0 a1 a2) (c p : List Int) (hc : c = rxC a0 a1 p) (hl : c.length = (16 * a1 + 36).toNat) : Ev (fun k => impl_ReceiveFrame.j1 k c a0 a1 a2) (rxE a0 a1 a2 p) := by
  unfold validH at h
  obtain ⟨m, hm, hm2⟩ := vdec_len8 c a1.toNat (by omega)
  have hb := vdec_bits c
  have hv := ivit_ev c (by omega)
  unfold rxE rxB
  rw [← hc]
  generalize vdec c = v at *
  obtain ⟨v, d⟩ := v
  dsimp only at hm hb
  have hs := iscr_ev a2 v hb (by omega)
  have hsb := scrL_bits a2 v hb
  have hbt := ibtb_ev (scrL a2 v) hsb m (by rw [scrL_length]; exact hm) (by omega)
  have hck := ichk_ev (bytesL (scrL a2 v)) (bytesL_bytes _ hsb) (by rw [bytesL_length, scrL_length]; omega)
  generalize chkV (bytesL (scrL a2 v)) = q at *
  refine ev1 (Ev.bind hv ?_)
  dsimp only
  by_cases hd : d < 0
  · rw [if_pos hd]
    exact evp hd (evc rfl)
  · rw [if_neg hd]
    refine evn hd (Ev.bind hs (Ev.bind hbt (evp rfl (Ev.bind hck ?_))))
    by_cases hq : q.2 = true
    · exact ev_eq (evp hq (evc rfl)) (if_pos hq).symm
    · exact ev_eq (evn hq (evc rfl)) (if_neg hq).symm
theorem irx_j0 (a0 a1 a2 : Int) (h : validH a0 a1 a2) (l : List Int) (hl : l.length = 54 + psym a0 a1) : Ev (fun k => impl_ReceiveFrame.j0 k l false a0 a1 a2) (rxE a0 a1 a2 (l.drop 54)) := by
  have hv := h
  unfold validH at hv
  have hp : (l.drop 54).length = psym a0 a1 := by rw [List.length_drop]; omega
  have hpl : psym a0 a1 ≤ 4000 := by unfold psym; split <;> omega
  have hd := ide_ev (l.drop 54) 8 (by omega)
  have hrl := rxC_length a0 a1 (l.drop 54) hp
  refine ev1 (Ev.congr (f := fun k => if 54 ≤ (l.length : Int) then ((impl_Deinterleave.f k (l.drop 54) 8).bind fun t477 => (if a0 = 2 then ((impl_codedSymbols.f a0 a1 a2).bind fun t480 => ((impl_Depuncture.f k t477 t480).bind fun t481 => (impl_ReceiveFrame.j1 k t481 a0 a1 a2))) else (impl_ReceiveFrame.j1 k t477 a0 a1 a2))) else none) (fun k => by rw [impl_ReceiveFrame.j0, if_neg (by decide)]) (evp (by omega) (Ev.bind hd ?_)))
  by_cases h2 : a0 = 2
  · have hdp := depunct_ev (deL (l.drop 54) 8) (16 * a1 + 36).toNat (by omega) (by rw [deL_length, hp]; unfold psym; rw [if_pos h2])
    refine evp h2 (evs (icoded_some a0 a1 a2 h) (Ev.bind hdp ?_))
    have e : depunct (deL (l.drop 54) 8) 0 0 (16 * a1 + 36).toNat = rxC a0 a1 (l.drop 54) := by unfold rxC; rw [if_pos h2]
    exact irx_j1 a0 a1 a2 h _ (l.drop 54) e (by rw [e]; exact hrl)
  · have e : deL (l.drop 54) 8 = rxC a0 a1 (l.drop 54) := by unfold rxC; rw [if_neg h2]
    exact evn h2 (irx_j1 a0 a1 a2 h _ (l.drop 54) e (by rw [e]; exact hrl))
theorem irx_bad (l : List Int) (a0 a1 a2 : Int) : Ev (fun k => impl_ReceiveFrame.j0 k l true a0 a1 a2) (0, 0, 0, [], 1) := ev1 (evk fun _ => rfl)
theorem irx_ev (l : List Int) (hn : l.length ≤ 4000000) (h54 : 54 ≤ l.length) : Ev (fun k => impl_ReceiveFrame.f k l) (rxV (hdrV (majL (l.take 54))) l) := by
  have hh := ihdr_ev (l.take 54) (by simp; omega)
  have hok := hdrV_ok (majL (l.take 54))
  unfold impl_ReceiveFrame.f
  refine evn (by omega) (evp (by omega) (Ev.bind hh ?_))
  generalize hdrV (majL (l.take 54)) = t at *
  obtain ⟨a, b, c, q⟩ := t
  dsimp only at hok ⊢
  by_cases hq : q = true
  · have hv := hok hq
    refine evp hq (evs (ipay_some a b c hv) ?_)
    rw [w64s (n := (l.length : Int) - 54) (by omega) (by omega)]
    unfold rxV
    by_cases hl : l.length = 54 + psym a b
    · have e : (((l.length : Int) - 54) != ((psym a b : Nat) : Int)) = false := by
        have : (l.length : Int) - 54 = ((psym a b : Nat) : Int) := by omega
        simp [this]
      rw [e, if_pos ⟨hq, hl⟩]
      exact irx_j0 a b c hv l hl
    · have e : (((l.length : Int) - 54) != ((psym a b : Nat) : Int)) = true := by
        rw [bne_iff_ne]
        omega
      rw [e, if_neg (fun z => hl z.2)]
      exact irx_bad l a b c
  · refine evn hq ?_
    unfold rxV
    rw [if_neg (fun z => hq z.1)]
    exact irx_bad l a b c
theorem irx_short (l : List Int) (h54 : l.length < 54) : Ev (fun k => impl_ReceiveFrame.f k l) (0, 0, 0, [], 1) := by
  unfold impl_ReceiveFrame.f
  exact evp (by omega) (evc rfl)
theorem sbits_loop (l : List Int) (hn : l.length ≤ 4000000000000000) : ∀ (d i : Nat), i + d = l.length → Ev (fun k => spec_IsBitString.l0 k l i) ((l.drop i).all fun x => decide (0 ≤ x ∧ x ≤ 1)) := by
  intro d
  induction d with
  | zero =>
    intro i hi
    rw [List.drop_of_length_le (by omega)]
    exact ev1 (evn (by omega) (evc rfl))
  | succ d ih =>
    intro i hi
    refine ev1 (evp (by omega) (evp (by omega) (evs (l1_some _ _ _) ?_)))
    rw [drop_getD l i (by omega), List.all_cons, rd_nat]
    by_cases h : 0 ≤ l.getD i 0 ∧ l.getD i 0 ≤ 1
    · rw [decide_eq_true h, w64s (n := (i : Int) + 1) (by omega) (by omega)]
      exact evp rfl (ih (i + 1) (by omega))
    · rw [decide_eq_false h]
      exact evn (by decide) (evc rfl)
theorem sbits_ev (l : List Int) (hn : l.length ≤ 4000000000000000) : Ev (fun k => spec_IsBitString.f k l) (l.all fun x => decide (0 ≤ x ∧ x ≤ 1)) := sbits_loop l hn l.length 0 (by omega)
theorem bits_all {l : List Int} (h : Bits l) : (l.all fun x => decide (0 ≤ x ∧ x ≤ 1)) = true := by
  rw [List.all_eq_true]
  intro x hx
  have := h x hx
  exact decide_eq_true (by omega)
theorem sweight_loop (l : List Int) (hn : l.length ≤ 1000000000) : ∀ (d i : Nat) (m : Int), i + d = l.length → 0 ≤ m ∧ m ≤ i → Ev (fun k => spec_Weight.l0 k l m i) (m + ones (l.drop i)) := by
  intro d
  induction d with
  | zero =>
    intro i m hi hm
    rw [List.drop_of_length_le (by omega)]
    exact ev1 (evn (by omega) (evc (by simp [ones])))
  | succ d ih =>
    intro i m hi hm
    refine ev1 (evp (by omega) (evp (by omega) ?_))
    rw [drop_getD l i (by omega), ones, rd_nat, w64s (n := (i : Int) + 1) (by omega) (by omega), w64s (n := m + 1) (by omega) (by omega)]
    by_cases h : l.getD i 0 = 1
    · rw [if_pos h]
      exact evp h (ev_eq (ih (i + 1) (m + 1) (by omega) (by omega)) (by omega))
    · rw [if_neg h]
      exact evn h (ev_eq (ih (i + 1) m (by omega) (by omega)) (by omega))
theorem sweight_ev (l : List Int) (hn : l.length ≤ 1000000000) : Ev (fun k => spec_Weight.f k l) (ones l) := by
  refine ev_eq (sweight_loop l hn l.length 0 0 (by omega) (by omega)) ?_
  simp
theorem sparity_ev (l : List Int) (hn : l.length ≤ 1000) : Ev (fun k => spec_Parity.f k l) (Int.tmod (ones l) 2) := by
  unfold spec_Parity.f
  exact Ev.bind (sweight_ev l (by omega)) (evc rfl)
theorem sbti_loop (l : List Int) (hn : l.length ≤ 40) : ∀ (d i : Nat) (acc : Int), i + d = l.length → Ev (fun k => spec_BitsToInt.l0 k l acc i) (btiGo acc i (l.drop i)) := by
  intro d
  induction d with
  | zero =>
    intro i acc hi
    rw [List.drop_of_length_le (by omega)]
    exact ev1 (evn (by omega) (evc rfl))
  | succ d ih =>
    intro i acc hi
    refine ev1 (evp (by omega) (evp (by omega) ?_))
    rw [drop_getD l i (by omega), btiGo, rd_nat, w64s (n := (i : Int) + 1) (by omega) (by omega)]
    exact ih (i + 1) _ (by omega)
theorem sbti_ev (l : List Int) (hb : Bits l) (hn : l.length ≤ 40) : Ev (fun k => spec_BitsToInt.f k l) (bti l) := by
  unfold spec_BitsToInt.f
  have h := sbits_ev l (by omega)
  rw [bits_all hb] at h
  refine Ev.bind h (evp rfl ?_)
  rw [decide_eq_false (by omega)]
  refine ev1 ?_
  exact sbti_loop l hn l.length 0 0 (by omega)
theorem shdr_end (l : List Int) : Ev (fun k => spec_DecodeHeader.l0 k l (majL l) 18) (hdrV (majL l)) := by
  have hl := majL_length l
  have hb := majL_bits l
  have e1 := sbti_ev ((majL l).take 2) (fun z hz => hb z (List.mem_of_mem_take hz)) (by simp; omega)
  have e2 := sbti_ev (((majL l).take 10).drop 2) (bits_take hb _ _) (by simp; omega)
  have e3 := sbti_ev (((majL l).take 17).drop 10) (bits_take hb _ _) (by simp; omega)
  have e4 := sparity_ev (majL l) (by omega)
  unfold hdrV
  generalize bti ((majL l).take 2) = a at *
  generalize bti (((majL l).take 10).drop 2) = b at *
  generalize bti (((majL l).take 17).drop 10) = c at *
  refine ev1 (evn (by decide) (evp (by omega) (Ev.bind e1 (evp (by decide) (evp (by omega) (Ev.bind e2 (evp (by decide) (evp (by omega) (Ev.bind e3 (Ev.bind e4 ?_))))))))))
  by_cases h1 : Int.tmod (ones (majL l)) 2 = 0
  · by_cases h2 : (1 ≤ a ∧ a ≤ 2) ∧ (0 ≤ b ∧ b ≤ 120) ∧ (1 ≤ c ∧ c ≤ 127)
    · exact ev_eq (evp h1 (evs (svalid_some a b c) (evp (dt h2) (evc rfl)))) (if_pos ⟨h1, h2⟩).symm
    · exact ev_eq (evp h1 (evs (svalid_some a b c) (evn (dnt h2) (evc rfl)))) (if_neg (fun h => h2 h.2)).symm
  · exact ev_eq (evn h1 (evc rfl)) (if_neg (fun h => h1 h.1)).symm
theorem shdr_loop (l : List Int) (hl : l.length = 54) : ∀ (d i : Nat) (x : List Int), i + d = 18 → x.length = i → x ++ (List.range' i d).map (majAt l) = majL l →
    Ev (fun k => spec_DecodeHeader.l0 k l x i) (hdrV (majL l)) := by
  intro d
  induction d with
  | zero =>
    intro i x hi hx h1
    have he : x = majL l := by simpa using h1
    rw [he, show i = 18 by omega]
    exact shdr_end l
  | succ d ih =>
    intro i x hi hx h1
    have w1 : wrap64 ((i : Int) + 18) = ((i + 18 : Nat) : Int) := by rw [w64s (by omega) (by omega)]; omega
    have w2 : wrap64 ((i : Int) + 36) = ((i + 36 : Nat) : Int) := by rw [w64s (by omega) (by omega)]; omega
    refine ev1 (evp (by omega) (evp (by omega) (evp (by omega) (evp (by rw [w1]; omega) (evp (by rw [w1]; omega) (evp (by rw [w2]; omega) (evp (by rw [w2]; omega) ?_)))))))
    rw [w1, w2, rd_nat, rd_nat, rd_nat, w64s (n := (i : Int) + 1) (by omega) (by omega)]
    refine Ev.bind (sweight_ev _ (by simp)) ?_
    rw [List.range'_succ, List.map_cons] at h1
    by_cases h : ones [l.getD i 0, l.getD (i + 18) 0, l.getD (i + 36) 0] ≥ 2
    · have e : majAt l i = 1 := by unfold majAt; rw [if_pos h]
      rw [e] at h1
      exact evp h (evp (by omega) (ih (i + 1) (x ++ [1]) (by omega) (by simp; omega) (by rw [List.append_assoc]; exact h1)))
    · have e : majAt l i = 0 := by unfold majAt; rw [if_neg h]
      rw [e] at h1
      exact evn h (evp (by omega) (ih (i + 1) (x ++ [0]) (by omega) (by simp; omega) (by rw [List.append_assoc]; exact h1)))
theorem shdr_ev (l : List Int) (hl : l.length = 54) : Ev (fun k => spec_DecodeHeader.f k l) (hdrV (majL l)) := by
  unfold spec_DecodeHeader.f
  exact evp (by omega) (shdr_loop l hl 18 0 [] (by omega) rfl rfl)
theorem smin_some (a b : Int) : spec_Min.f a b = some (if b < a then b else a) := by
  unfold spec_Min.f
  split <;> rfl
theorem l8_some (a b : Int) : spec_l8Ok.f a b = some (decide ((1 ≤ b ∧ b ≤ 64) ∧ (0 ≤ a ∧ a ≤ 10000))) := by
  unfold spec_l8Ok.f
  by_cases h : 1 ≤ b ∧ b ≤ 64 <;> simp [l1_some, h]
theorem idx_same (a b c : Int) : spec_InterleavedIndex.f a b c = impl_InterleavedIndex.f a b c := by
  unfold spec_InterleavedIndex.f impl_InterleavedIndex.f
  simp only [isInter_some, l8_some, in_some, l1_some, min_some, smin_some]
theorem sde_loop (l : List Int) (b : Int) (hb : 1 ≤ b ∧ b ≤ 64) (hn : l.length ≤ 10000) : ∀ (d i : Nat) (x : List Int), i + d = l.length → x.length = l.length → Ev (fun k => spec_Deinterleave.l0 k l b x i) (deGo l b d i x) := by
  intro d
  induction d with
  | zero =>
    intro i x hi hx
    exact ev1 (evn (by omega) (evc rfl))
  | succ d ih =>
    intro i x hi hx
    obtain ⟨h1, h2⟩ := ipl_lt l b hb.1 i (by omega)
    refine ev1 (evp (by omega) (evs ((idx_same _ _ _).trans (idx_is _ _ _ hb (by omega) (by omega))) ?_))
    rw [← h2, rd_nat, w64s (n := (i : Int) + 1) (by omega) (by omega), Int.toNat_natCast]
    exact evp (by omega) (evp (by omega) (evp (by omega) (evp (by omega) (ih (i + 1) _ (by omega) (by simpa using hx)))))
theorem sde_ev (l : List Int) (b : Int) (hn : l.length ≤ 4000000) : Ev (fun k => spec_Deinterleave.f k l b) (deL l b) := by
  unfold spec_Deinterleave.f deL
  refine evs rfl (evp (by simp; omega) (evs (show some (([] : List Int) ++ l) = some l from rfl) (evs (l8_some _ _) ?_)))
  by_cases h : (1 ≤ b ∧ b ≤ 64) ∧ (0 ≤ (l.length : Int) ∧ (l.length : Int) ≤ 10000)
  · rw [if_pos h]
    exact evp (dt h) (sde_loop l b h.1 (by omega) l.length 0 l (by omega) rfl)
  · rw [if_neg h]
    exact evn (dnt h) (evc rfl)
theorem splen_some (n : Nat) (hn : n ≤ 1000000000) : spec_PuncturedLength.f n = some ((n - n / 4 : Nat) : Int) := by
  unfold spec_PuncturedLength.f
  rw [if_neg (by omega), Int.tdiv_eq_ediv_of_nonneg (by omega), w64s (n := (n : Int) / 4) (by omega) (by omega), w64s (by omega) (by omega)]
  congr 1
  omega
theorem sdepunct_loop (p : List Int) (n : Nat) (hn : n ≤ 1000000) (hp : n - n / 4 ≤ p.length) : ∀ (d i j : Nat) (x : List Int), i + d = n → x.length = i → j = i - i / 4 →
    Ev (fun k => spec_Depuncture.l0 k p n x j i) (x ++ depunct p i j d) := by
  intro d
  induction d with
  | zero =>
    intro i j x hi hl hj
    exact ev1 (evn (by omega) (evc (by simp [depunct])))
  | succ d ih =>
    intro i j x hi hl hj
    refine ev1 (evp (by omega) ?_)
    rw [tmod4, depunct]
    by_cases h : i % 4 = 3
    · rw [if_pos h]
      refine evp (by omega) (evp (by omega) ?_)
      rw [w64s (n := (i : Int) + 1) (by omega) (by omega)]
      have := ih (i + 1) j (x ++ [2]) (by omega) (by simp; omega) (by omega)
      rw [List.append_assoc] at this
      exact this
    · rw [if_neg h]
      refine evn (by omega) (evp (by omega) (evp (by omega) (evp (by omega) ?_)))
      rw [w64s (n := (i : Int) + 1) (by omega) (by omega), w64s (n := (j : Int) + 1) (by omega) (by omega), rd_nat]
      have := ih (i + 1) (j + 1) (x ++ [p.getD j 0]) (by omega) (by simp; omega) (by omega)
      rw [List.append_assoc] at this
      exact this
theorem sdepunct_ev (p : List Int) (n : Nat) (hn : n ≤ 4000) (hp : p.length = n - n / 4) : Ev (fun k => spec_Depuncture.f k p n) (depunct p 0 0 n) := by
  unfold spec_Depuncture.f
  refine evs rfl (evs (l1_some _ _ _) (evp (dt (by omega)) (evs (splen_some n (by omega)) ?_)))
  have e : ((p.length : Int) != ((n - n / 4 : Nat) : Int)) = false := by
    rw [hp]
    simp
  rw [e]
  refine ev1 (Ev.congr (f := fun k => spec_Depuncture.l0 k p n [] 0 0) (fun k => by rw [spec_Depuncture.j0, if_neg (by decide)]) ?_)
  exact sdepunct_loop p n (by omega) (by omega) n 0 0 [] (by omega) rfl (by omega)
theorem spair_some (s b : Int) (hs : 0 ≤ s ∧ s ≤ 3) (hb : b = 0 ∨ b = 1) : spec_OutputPair.f s b = some (outX s b, outY s b) ∧ spec_NextState.f s b = some (nxt s b) := by
  have hc : s = 0 ∨ s = 1 ∨ s = 2 ∨ s = 3 := by omega
  rcases hc with rfl | rfl | rfl | rfl <;> rcases hb with rfl | rfl <;> exact ⟨by decide +kernel, by decide +kernel⟩
theorem ssym_loop (l : List Int) (hn : l.length ≤ 4000000000000000) : ∀ (d i : Nat), i + d = l.length → Ev (fun k => spec_IsSymbolString.l0 k l i) ((l.drop i).all fun x => decide (0 ≤ x ∧ x ≤ 2)) := by
  intro d
  induction d with
  | zero =>
    intro i hi
    rw [List.drop_of_length_le (by omega)]
    exact ev1 (evn (by omega) (evc rfl))
  | succ d ih =>
    intro i hi
    refine ev1 (evp (by omega) (evp (by omega) (evs (l1_some _ _ _) ?_)))
    rw [drop_getD l i (by omega), List.all_cons, rd_nat]
    by_cases h : 0 ≤ l.getD i 0 ∧ l.getD i 0 ≤ 2
    · rw [decide_eq_true h, w64s (n := (i : Int) + 1) (by omega) (by omega)]
      exact evp rfl (ih (i + 1) (by omega))
    · rw [decide_eq_false h]
      exact evn (by decide) (evc rfl)
theorem ssym_ev (l : List Int) (hn : l.length ≤ 4000000000000000) : Ev (fun k => spec_IsSymbolString.f k l) (l.all fun x => decide (0 ≤ x ∧ x ≤ 2)) := ssym_loop l hn l.length 0 (by omega)
theorem slen_ev (c : Nat) (hc : c ≤ 4000000000000) : spec_InputLength.f (c : Int) = some (lenV c) := by
  unfold spec_InputLength.f lenV
  rw [if_neg (by omega), Int.tmod_eq_emod_of_nonneg (by omega)]
  by_cases h2 : c % 2 = 0
  · rw [if_pos (by omega), Int.tdiv_eq_ediv_of_nonneg (by omega), w64s (n := (c : Int) / 2) (by omega) (by omega), w64s (by omega) (by omega), l1_some]
    simp only [Option.bind_some]
    by_cases h : 0 ≤ (c : Int) / 2 - 2 ∧ (c : Int) / 2 - 2 ≤ 1000
    · rw [if_pos (dt h), if_pos (by omega)]
    · rw [if_neg (dnt h), if_neg (by omega)]
  · rw [if_neg (by omega), if_neg (by omega)]
theorem sbd_j (b2 : Bool) (y q m : Int) (hm : 0 ≤ m ∧ m ≤ 10) : Ev (fun k => spec_BranchDistance.j0 k y q m b2) (m + (if b2 = true then 1 else 0) + symD y q) := by
  have w1 := w64s (n := m + 1) (by omega) (by omega)
  have w2 := w64s (n := m + 1 + 1) (by omega) (by omega)
  refine ev1 (Ev.congr (f := fun _ => some (m + (if b2 = true then 1 else 0) + symD y q)) (fun k => ?_) (evc rfl))
  rw [spec_BranchDistance.j0, w1, w2]
  unfold symD
  cases b2 with
  | true =>
    rw [if_pos rfl, if_pos rfl]
    by_cases h2 : y = 2
    · rw [if_pos h2, if_pos h2]
      congr 1
      omega
    · rw [if_neg h2, if_neg h2]
      by_cases h3 : y = q
      · rw [if_pos h3, if_pos h3]
        congr 1
        omega
      · rw [if_neg h3, if_neg h3]
  | false =>
    rw [if_neg (show ¬ (false = true) by decide), if_neg (show ¬ (false = true) by decide)]
    by_cases h2 : y = 2
    · rw [if_pos h2, if_pos h2]
      congr 1
      omega
    · rw [if_neg h2, if_neg h2]
      by_cases h3 : y = q
      · rw [if_pos h3, if_pos h3]
        congr 1
        omega
      · rw [if_neg h3, if_neg h3]
        congr 1
        omega
theorem sbd_ev (s b x y : Int) (hs : In4 s) (hb : b = 0 ∨ b = 1) : Ev (fun k => spec_BranchDistance.f k s b x y) (bdist s b x y) := by
  unfold spec_BranchDistance.f
  refine evs (spair_some s b hs hb).1 ?_
  have e : bdist s b x y = 0 + (if (x != outX s b && x != 2) = true then 1 else 0) + symD y (outY s b) := by
    unfold bdist
    congr 1
    unfold symD
    by_cases h2 : x = 2
    · rw [if_pos h2]
      simp [h2]
    · rw [if_neg h2]
      by_cases h3 : x = outX s b
      · rw [if_pos h3]
        simp [h3]
      · rw [if_neg h3]
        simp [h2, h3]
  rw [e]
  by_cases h2 : x = 2
  · refine evp h2 ?_
    have := sbd_j false y (outY s b) 0 ⟨by omega, by omega⟩
    simpa [h2] using this
  · refine evn h2 ?_
    have h3 : (x != outX s b && x != 2) = (x != outX s b) := by simp [h2]
    rw [h3]
    exact sbd_j _ y (outY s b) 0 ⟨by omega, by omega⟩
def cL (l : List Int) (n i : Nat) : List Int := [costs l n i 0, costs l n i 1, costs l n i 2, costs l n i 3]
theorem cL_at (l : List Int) (n i : Nat) (s : Int) (h : In4 s) : rd (cL l n i) s = costs l n i s := by
  rcases four h with rfl | rfl | rfl | rfl <;> rfl
theorem cL_length (l : List Int) (n i : Nat) : (cL l n i).length = 4 := rfl
def csL (l : List Int) (n c : Nat) : List (List Int) := (List.range c).map (cL l n)
theorem csL_length (l : List Int) (n c : Nat) : (csL l n c).length = c := by simp [csL]
theorem csL_at (l : List Int) (n c i : Nat) (h : i < c) : rd_L2 (csL l n c) (i : Int) = cL l n i := by
  simp [rd_L2, csL, List.getD_eq_getElem?_getD, List.getElem?_map, List.getElem?_range h]
theorem csL_snoc (l : List Int) (n c : Nat) : csL l n c ++ [cL l n c] = csL l n (c + 1) := by simp [csL, List.range_succ]
def updC (nx : List Int) (t v : Int) : List Int := if rd nx t < 0 then nx.set t.toNat v else if v < rd nx t then nx.set t.toNat v else nx
theorem updC_length (nx : List Int) (t v : Int) : (updC nx t v).length = nx.length := by
  unfold updC
  split
  · simp
  · split <;> simp
theorem updC_at (nx : List Int) (t u c d : Int) (hl : nx.length = 4) (ht : In4 t) (hu : In4 u) (hc : ¬ c < 0) : rd (updC nx t (c + d)) u = if t = u then offer (rd nx u) c d else rd nx u := by
  have hs : rd (nx.set t.toNat (c + d)) u = if t = u then c + d else rd nx u := by
    unfold In4 at ht hu
    unfold rd
    rw [getD_set]
    by_cases e : t = u
    · subst e
      rw [if_pos (by omega), if_pos rfl]
    · rw [if_neg (by omega), if_neg e]
  unfold updC offer
  by_cases e : t = u
  · subst e
    rw [if_pos rfl, if_neg hc]
    rw [if_pos rfl] at hs
    by_cases h1 : rd nx t < 0
    · rw [if_pos h1, if_pos h1, hs]
    · rw [if_neg h1, if_neg h1]
      by_cases h2 : c + d < rd nx t
      · rw [if_pos h2, if_pos h2, hs]
      · rw [if_neg h2, if_neg h2]
  · rw [if_neg e] at hs
    rw [if_neg e]
    by_cases h1 : rd nx t < 0
    · rw [if_pos h1, hs]
    · rw [if_neg h1]
      by_cases h2 : c + d < rd nx t
      · rw [if_pos h2, hs]
      · rw [if_neg h2]
def stepC (l : List Int) (n i : Nat) (s b : Int) (nx : List Int) : List Int :=
  if costs l n i s < 0 ∨ (b = 1 ∧ ¬ i < n) then nx else updC nx (nxt s b) (costs l n i s + bdist s b (l.getD (2 * i) 0) (l.getD (2 * i + 1) 0))
theorem stepC_length (l : List Int) (n i : Nat) (s b : Int) (nx : List Int) : (stepC l n i s b nx).length = nx.length := by
  unfold stepC
  split
  · rfl
  · exact updC_length _ _ _
theorem j3_skip {l nx : List Int} {cs : List (List Int)} {n i s b : Int} {r : List (List Int)} (h : Ev (fun k => spec_l7Costs.l2 k l n cs i nx s (wrap64 (b + 1))) r) : Ev (fun k => spec_l7Costs.j3 k l n cs i nx s b true) r :=
  ev1 (Ev.congr (fun k => by rw [spec_l7Costs.j3, if_pos rfl]) h)
theorem l2_step (l : List Int) (n : Nat) (hn : n ≤ 1000) (hl : l.length = 2 * n + 4) (i : Nat) (hi : i < n + 2) (s b : Int) (hs : In4 s) (hb : b = 0 ∨ b = 1) (nx : List Int) (hx : nx.length = 4) (r : List (List Int))
    (h : Ev (fun k => spec_l7Costs.l2 k l (n : Int) (csL l n (i + 1)) (i : Int) (stepC l n i s b nx) s (b + 1)) r) : Ev (fun k => spec_l7Costs.l2 k l (n : Int) (csL l n (i + 1)) (i : Int) nx s b) r := by
  have hs2 := hs
  unfold In4 at hs2
  have hle := costs_le l n i s
  have hr := bdist_range s b (l.getD (2 * i) 0) (l.getD (2 * i + 1) 0)
  have hnr := nxt_range s b
  have hwb : wrap64 (b + 1) = b + 1 := w64s (by omega) (by omega)
  refine ev1 (evp (by omega) (evp (by omega) (evp (by rw [csL_length]; omega) (evp hs2.1 ?_))))
  rw [csL_at l n (i + 1) i (by omega), cL_at l n i s hs, cL_length]
  refine evp (by omega) ?_
  have body : ¬ (costs l n i s < 0 ∨ (b = 1 ∧ ¬ i < n)) → ∀ k, spec_l7Costs.j3 (k + 1) l (n : Int) (csL l n (i + 1)) (i : Int) nx s b false = (spec_BranchDistance.f k s b (l.getD (2 * i) 0) (l.getD (2 * i + 1) 0)).bind fun d => ((spec_NextState.f s b).bind fun t => (if 0 ≤ t then (if t < (nx.length : Int) then (if (rd nx t) < 0 then (spec_l7Costs.l2 k l (n : Int) (csL l n (i + 1)) (i : Int) (nx.set (t : Int).toNat (wrap64 (costs l n i s + d))) s (wrap64 (b + 1))) else (if (wrap64 (costs l n i s + d)) < (rd nx t) then (spec_l7Costs.l2 k l (n : Int) (csL l n (i + 1)) (i : Int) (nx.set (t : Int).toNat (wrap64 (costs l n i s + d))) s (wrap64 (b + 1))) else (spec_l7Costs.l2 k l (n : Int) (csL l n (i + 1)) (i : Int) nx s (wrap64 (b + 1))))) else (none)) else (none))) := by
    intro _ k
    rw [spec_l7Costs.j3, if_neg (by decide), if_pos (by omega), csL_length, if_pos (by omega), if_pos hs2.1, csL_at l n (i + 1) i (by omega), cL_length, if_pos (by omega), cL_at l n i s hs,
      show (2 : Int) * (i : Int) = ((2 * i : Nat) : Int) by omega, w64s (n := ((2 * i : Nat) : Int)) (by omega) (by omega), if_pos (by omega), if_pos (by omega), show ((2 * i : Nat) : Int) + 1 = ((2 * i + 1 : Nat) : Int) by omega, w64s (n := ((2 * i + 1 : Nat) : Int)) (by omega) (by omega), if_pos (by omega), if_pos (by omega), rd_nat, rd_nat]
  have go : ¬ (costs l n i s < 0 ∨ (b = 1 ∧ ¬ i < n)) → Ev (fun k => spec_l7Costs.j3 k l (n : Int) (csL l n (i + 1)) (i : Int) nx s b false) r := by
    intro hne
    have h0 : ¬ costs l n i s < 0 := fun q => hne (.inl q)
    unfold stepC at h
    rw [if_neg hne] at h
    refine ev1 (Ev.congr (body hne) ?_)
    refine Ev.bind (sbd_ev s b _ _ hs hb) (evs (spair_some s b hs hb).2 (evp hnr.1 (evp (by rw [hx]; omega) ?_)))
    rw [w64s (n := costs l n i s + _) (by omega) (by omega), hwb]
    unfold updC at h
    by_cases h1 : rd nx (nxt s b) < 0
    · rw [if_pos h1] at h
      exact evp h1 h
    · rw [if_neg h1] at h
      refine evn h1 ?_
      by_cases h2 : costs l n i s + bdist s b (l.getD (2 * i) 0) (l.getD (2 * i + 1) 0) < rd nx (nxt s b)
      · rw [if_pos h2] at h
        exact evp h2 h
      · rw [if_neg h2] at h
        exact evn h2 h
  have skip : (costs l n i s < 0 ∨ (b = 1 ∧ ¬ i < n)) → Ev (fun k => spec_l7Costs.j3 k l (n : Int) (csL l n (i + 1)) (i : Int) nx s b true) r := by
    intro hp
    unfold stepC at h
    rw [if_pos hp] at h
    refine j3_skip ?_
    rw [hwb]
    exact h
  by_cases h0 : costs l n i s < 0
  · exact evp h0 (skip (.inl h0))
  · refine evn h0 ?_
    by_cases h1 : b = 1
    · refine evp h1 ?_
      by_cases h2 : i < n
      · rw [decide_eq_false (show ¬ (i : Int) ≥ (n : Int) by omega)]
        exact go (fun q => by omega)
      · rw [decide_eq_true (show (i : Int) ≥ (n : Int) by omega)]
        exact skip (.inr ⟨h1, h2⟩)
    · exact evn h1 (go (fun q => by omega))
def rowC (l : List Int) (n i : Nat) (s : Int) (nx : List Int) : List Int := stepC l n i s 1 (stepC l n i s 0 nx)
theorem rowC_length (l : List Int) (n i : Nat) (s : Int) (nx : List Int) : (rowC l n i s nx).length = nx.length := by
  unfold rowC
  rw [stepC_length, stepC_length]
theorem l2_end {l nx : List Int} {cs : List (List Int)} {n i s b : Int} {r : List (List Int)} (hb : ¬ b < 2) (h : Ev (fun k => spec_l7Costs.l1 k l n cs i nx (wrap64 (s + 1))) r) : Ev (fun k => spec_l7Costs.l2 k l n cs i nx s b) r :=
  ev1 (Ev.congr (fun k => by rw [spec_l7Costs.l2, if_neg hb]) h)
theorem l1_end {l nx : List Int} {cs : List (List Int)} {n i s : Int} {r : List (List Int)} (hs : ¬ s < 4) (hc : cs.length < 5864062014805) (h : Ev (fun k => spec_l7Costs.l0 k l n (cs ++ [nx]) (wrap64 (i + 1))) r) : Ev (fun k => spec_l7Costs.l1 k l n cs i nx s) r :=
  ev1 (Ev.congr (fun k => by rw [spec_l7Costs.l1, if_neg hs, if_pos hc]) h)
theorem l1_step (l : List Int) (n : Nat) (hn : n ≤ 1000) (hl : l.length = 2 * n + 4) (i : Nat) (hi : i < n + 2) (s : Int) (hs : In4 s) (nx : List Int) (hx : nx.length = 4) (r : List (List Int))
    (h : Ev (fun k => spec_l7Costs.l1 k l (n : Int) (csL l n (i + 1)) (i : Int) (rowC l n i s nx) (s + 1)) r) : Ev (fun k => spec_l7Costs.l1 k l (n : Int) (csL l n (i + 1)) (i : Int) nx s) r := by
  have hs2 := hs
  unfold In4 at hs2
  refine ev1 (evp (by omega) ?_)
  refine l2_step l n hn hl i hi s 0 hs (.inl rfl) nx hx r (l2_step l n hn hl i hi s (0 + 1) hs (.inr rfl) _ (by rw [stepC_length]; exact hx) r ?_)
  refine l2_end (by omega) ?_
  rw [w64s (n := s + 1) (by omega) (by omega)]
  exact h
theorem rowC_at (l : List Int) (n i : Nat) (s u : Int) (nx : List Int) (hx : nx.length = 4) (hs : In4 s) (hu : In4 u) :
    rd (rowC l n i s nx) u = if nxt s 0 = u then offer (rd nx u) (costs l n i s) (bdist s 0 (l.getD (2 * i) 0) (l.getD (2 * i + 1) 0)) else if nxt s 1 = u ∧ i < n then offer (rd nx u) (costs l n i s) (bdist s 1 (l.getD (2 * i) 0) (l.getD (2 * i + 1) 0)) else rd nx u := by
  have hne : nxt s 0 ≠ nxt s 1 := by unfold nxt; omega
  unfold rowC stepC
  by_cases h : costs l n i s < 0
  · rw [if_pos (.inl h), if_pos (.inl h)]
    unfold offer
    rw [if_pos h, if_pos h]
    split
    · rfl
    · split <;> rfl
  · have hx1 : (updC nx (nxt s 0) (costs l n i s + bdist s 0 (l.getD (2 * i) 0) (l.getD (2 * i + 1) 0))).length = 4 := by rw [updC_length]; exact hx
    rw [if_neg (show ¬ (costs l n i s < 0 ∨ ((0 : Int) = 1 ∧ ¬ i < n)) by omega)]
    by_cases hi : i < n
    · rw [if_neg (by omega), updC_at _ _ u _ _ hx1 (nxt_range _ _) hu h, updC_at _ _ u _ _ hx (nxt_range _ _) hu h]
      by_cases e : nxt s 0 = u
      · rw [if_neg (fun q => hne (e.trans q.symm)), if_pos e, if_pos e]
      · by_cases e1 : nxt s 1 = u
        · rw [if_pos e1, if_neg e, if_neg e, if_pos ⟨e1, hi⟩]
        · rw [if_neg e1, if_neg e, if_neg e, if_neg (fun q => e1 q.1)]
    · rw [if_pos (.inr ⟨rfl, hi⟩), updC_at _ _ u _ _ hx (nxt_range _ _) hu h]
      by_cases e : nxt s 0 = u
      · rw [if_pos e, if_pos e]
      · rw [if_neg e, if_neg e, if_neg (fun q => hi q.2)]
theorem rows_all (l : List Int) (n i : Nat) : rowC l n i 3 (rowC l n i 2 (rowC l n i 1 (rowC l n i 0 [-1, -1, -1, -1]))) = cL l n (i + 1) := by
  have key : ∀ u, In4 u → rd (rowC l n i 3 (rowC l n i 2 (rowC l n i 1 (rowC l n i 0 [-1, -1, -1, -1])))) u = rd (cL l n (i + 1)) u := by
    intro u hu
    rw [cL_at l n (i + 1) u hu, rowC_at _ _ _ _ _ _ (by simp only [rowC_length]; rfl) ⟨by omega, by omega⟩ hu, rowC_at _ _ _ _ _ _ (by simp only [rowC_length]; rfl) ⟨by omega, by omega⟩ hu, rowC_at _ _ _ _ _ _ (by simp only [rowC_length]; rfl) ⟨by omega, by omega⟩ hu, rowC_at _ _ _ _ _ _ rfl ⟨by omega, by omega⟩ hu]
    have hp : rd ([-1, -1, -1, -1] : List Int) u = -1 := by rcases four hu with rfl | rfl | rfl | rfl <;> rfl
    rw [hp]
    have n00 : nxt 0 0 = 0 := rfl
    have n01 : nxt 0 1 = 1 := rfl
    have n10 : nxt 1 0 = 2 := rfl
    have n11 : nxt 1 1 = 3 := rfl
    have n20 : nxt 2 0 = 0 := rfl
    have n21 : nxt 2 1 = 1 := rfl
    have n30 : nxt 3 0 = 2 := rfl
    have n31 : nxt 3 1 = 3 := rfl
    rw [n00, n01, n10, n11, n20, n21, n30, n31]
    show _ = costT (costs l n i) (l.getD (2 * i) 0) (l.getD (2 * i + 1) 0) (decide (i < n)) u
    unfold costT
    rcases four hu with rfl | rfl | rfl | rfl
    · simp
    · by_cases h : i < n <;> simp [h]
    · simp
    · by_cases h : i < n <;> simp [h]
  refine list_ext (by simp only [rowC_length]; rfl) (fun j hj => ?_)
  have hj4 : j < 4 := by
    simp only [rowC_length] at hj
    exact hj
  have := key (j : Int) ⟨by omega, by omega⟩
  rwa [rd_nat, rd_nat] at this
theorem l7_ev (l : List Int) (n : Nat) (hn : n ≤ 1000) (hl : l.length = 2 * n + 4) : ∀ (d i : Nat), i + d = n + 2 → Ev (fun k => spec_l7Costs.l0 k l (n : Int) (csL l n (i + 1)) (i : Int)) (csL l n (n + 3)) := by
  intro d
  induction d with
  | zero =>
    intro i hi
    refine ev1 (evn (by rw [w64s (by omega) (by omega)]; omega) (evc ?_))
    rw [show i + 1 = n + 3 by omega]
  | succ d ih =>
    intro i hi
    refine ev1 (evp (by rw [w64s (by omega) (by omega)]; omega) ?_)
    refine l1_step l n hn hl i (by omega) 0 ⟨by omega, by omega⟩ _ rfl _ (l1_step l n hn hl i (by omega) (0 + 1) ⟨by omega, by omega⟩ _ (by simp only [rowC_length]; rfl) _ (l1_step l n hn hl i (by omega) (0 + 1 + 1) ⟨by omega, by omega⟩ _ (by simp only [rowC_length]; rfl) _ (l1_step l n hn hl i (by omega) (0 + 1 + 1 + 1) ⟨by omega, by omega⟩ _ (by simp only [rowC_length]; rfl) _ ?_)))
    refine l1_end (by omega) (by rw [csL_length]; omega) ?_
    have e := rows_all l n i
    rw [show (0 : Int) + 1 + 1 + 1 = 3 by omega, show (0 : Int) + 1 + 1 = 2 by omega, show (0 : Int) + 1 = 1 by omega, e, csL_snoc, w64s (n := (i : Int) + 1) (by omega) (by omega)]
    exact ih (i + 1) (by omega)
theorem sand_one {s : Int} (h : In4 s) : Go.bits .and .i64 s 1 = s % 2 := by
  rcases four h with rfl | rfl | rfl | rfl <;> decide +kernel
theorem j1_skip {c : List Int} {a1 a2 a4 a5 b s : Int} {a3 : Bool} {r : Int × Int} (h : Ev (fun k => spec_l7Back.l0 k c a1 a2 a3 a4 a5 b (wrap64 (s + 1))) r) : Ev (fun k => spec_l7Back.j1 k c a1 a2 a3 a4 a5 b s true) r :=
  ev1 (Ev.congr (fun k => by rw [spec_l7Back.j1, if_pos rfl]) h)
theorem j1_go {c : List Int} {a1 a2 a4 a5 b s : Int} {a3 : Bool} {r : Int × Int} (h0 : 0 ≤ s) (h1 : s < (c.length : Int)) (h : Ev (fun k => (spec_BranchDistance.f k s b a4 a5).bind fun d => (if (wrap64 ((rd c s) + d)) = a1 then (some (s, b)) else (spec_l7Back.l0 k c a1 a2 a3 a4 a5 b (wrap64 (s + 1))))) r) : Ev (fun k => spec_l7Back.j1 k c a1 a2 a3 a4 a5 b s false) r :=
  ev1 (Ev.congr (fun k => by rw [spec_l7Back.j1, if_neg (by decide), if_pos h0, if_pos h1]) h)
theorem back_skip (l : List Int) (n i : Nat) (hn : i ≤ 2000) (s b u cost x y : Int) (free : Bool) (hs : In4 s) (hb : b = 0 ∨ b = 1) (r : Int × Int)
    (hno : ¬ (0 ≤ costs l n i s ∧ (b = 1 → free = true) ∧ nxt s b = u ∧ costs l n i s + bdist s b x y = cost)) (h : Ev (fun k => spec_l7Back.l0 k (cL l n i) cost u free x y b (s + 1)) r) : Ev (fun k => spec_l7Back.l0 k (cL l n i) cost u free x y b s) r := by
  have hs2 := hs
  unfold In4 at hs2
  have hle := costs_le l n i s
  have hr := bdist_range s b x y
  have hw : wrap64 (s + 1) = s + 1 := w64s (by omega) (by omega)
  have h' : Ev (fun k => spec_l7Back.l0 k (cL l n i) cost u free x y b (wrap64 (s + 1))) r := by
    rw [hw]
    exact h
  have mid : 0 ≤ costs l n i s → (b = 1 → free = true) → Ev (fun k => spec_l7Back.j1 k (cL l n i) cost u free x y b s (nxt s b != u)) r := by
    intro h0 hf
    by_cases hu : nxt s b = u
    · rw [show (nxt s b != u) = false by simp [hu]]
      refine j1_go hs2.1 (by rw [cL_length]; omega) (Ev.bind (sbd_ev s b x y hs hb) ?_)
      rw [cL_at l n i s hs, w64s (by omega) (by omega)]
      exact evn (fun q => hno ⟨h0, hf, hu, q⟩) h'
    · rw [show (nxt s b != u) = true by simp [hu]]
      exact j1_skip h'
  refine ev1 (evp (by omega) (evp hs2.1 (evp (by rw [cL_length]; omega) ?_)))
  rw [cL_at l n i s hs]
  by_cases h0 : costs l n i s < 0
  · exact evp h0 (j1_skip h')
  · refine evn h0 ?_
    by_cases hb1 : b = 1
    · refine evp hb1 ?_
      by_cases hf : free = true
      · exact evp hf (evs (spair_some s b hs hb).2 (mid (by omega) (fun _ => hf)))
      · exact evn hf (j1_skip h')
    · exact evn hb1 (evs (spair_some s b hs hb).2 (mid (by omega) (fun q => absurd q hb1)))
theorem back_hit (l : List Int) (n i : Nat) (hn : i ≤ 2000) (s b u cost x y : Int) (free : Bool) (hs : In4 s) (hb : b = 0 ∨ b = 1)
    (h0 : 0 ≤ costs l n i s) (hf : b = 1 → free = true) (hu : nxt s b = u) (hc : costs l n i s + bdist s b x y = cost) : Ev (fun k => spec_l7Back.l0 k (cL l n i) cost u free x y b s) (s, b) := by
  have hs2 := hs
  unfold In4 at hs2
  have hle := costs_le l n i s
  have hr := bdist_range s b x y
  have mid : Ev (fun k => spec_l7Back.j1 k (cL l n i) cost u free x y b s (nxt s b != u)) (s, b) := by
    rw [show (nxt s b != u) = false by simp [hu]]
    refine j1_go hs2.1 (by rw [cL_length]; omega) (Ev.bind (sbd_ev s b x y hs hb) ?_)
    rw [cL_at l n i s hs, w64s (by omega) (by omega)]
    exact evp hc (evc rfl)
  refine ev1 (evp (by omega) (evp hs2.1 (evp (by rw [cL_length]; omega) ?_)))
  rw [cL_at l n i s hs]
  refine evn (by omega) ?_
  by_cases hb1 : b = 1
  · exact evp hb1 (evp (hf hb1) (evs (spair_some s b hs hb).2 mid))
  · exact evn hb1 (evs (spair_some s b hs hb).2 mid)
theorem back_ev (l : List Int) (n i : Nat) (hn : i ≤ 2000) (u : Int) (hu : In4 u) (x y : Int) (free : Bool) (h0 : 0 ≤ costT (costs l n i) x y free u) :
    Ev (fun k => spec_l7Back.f k (cL l n i) (costT (costs l n i) x y free u) u free x y) (prevT (costs l n i) x y free u, u % 2) := by
  obtain ⟨p0, p1, p2, p3⟩ := costT_back (costs l n i) x y free u hu h0
  have hu2 := hu
  unfold In4 at hu2
  have hb : u % 2 = 0 ∨ u % 2 = 1 := by omega
  unfold spec_l7Back.f
  rw [sand_one hu]
  have hno : ∀ s, In4 s → s ≠ u / 2 → s ≠ u / 2 + 2 → nxt s (u % 2) ≠ u := fun s hs q1 q2 q3 => by
    unfold In4 at hs
    unfold nxt at q3
    omega
  have hprev : prevT (costs l n i) x y free u = u / 2 ∨ (prevT (costs l n i) x y free u = u / 2 + 2 ∧ ¬ (0 ≤ costs l n i (u / 2) ∧ (u % 2 = 1 → free = true) ∧ nxt (u / 2) (u % 2) = u ∧ costs l n i (u / 2) + bdist (u / 2) (u % 2) x y = costT (costs l n i) x y free u)) := by
    by_cases e : prevT (costs l n i) x y free u = u / 2
    · exact .inl e
    · refine .inr ?_
      have hf : ¬ (u % 2 = 1 ∧ free = false) := fun q => by
        have := p2 q.1
        rw [this] at q
        exact absurd q.2 (by decide)
      unfold prevT at e p3 ⊢
      rw [if_neg hf] at e p3 ⊢
      by_cases c1 : costs l n i (u / 2) < 0
      · rw [if_pos c1] at e p3 ⊢
        unfold prevT at p0
        rw [if_neg hf, if_pos c1] at p0
        by_cases c2 : costs l n i (u / 2 + 2) < 0
        · rw [if_pos c2] at p0
          unfold costT offer at h0
          rw [if_neg hf, if_pos c2, if_pos c1] at h0
          omega
        · rw [if_neg c2]
          exact ⟨rfl, fun q => by omega⟩
      · rw [if_neg c1] at e p3 ⊢
        by_cases c2 : costs l n i (u / 2 + 2) < 0
        · rw [if_pos c2] at e
          exact absurd rfl e
        · rw [if_neg c2] at e p3 ⊢
          by_cases c3 : costs l n i (u / 2 + 2) + bdist (u / 2 + 2) (u % 2) x y < costs l n i (u / 2) + bdist (u / 2) (u % 2) x y
          · rw [if_pos c3] at p3 ⊢
            exact ⟨rfl, fun q => by omega⟩
          · rw [if_neg c3] at e
            exact absurd rfl e
  have hp := prevT_in (costs l n i) x y free u hu
  generalize hP : prevT (costs l n i) x y free u = P at p0 p1 p3 hprev hp ⊢
  have fin : Ev (fun k => spec_l7Back.l0 k (cL l n i) (costT (costs l n i) x y free u) u free x y (u % 2) P) (P, u % 2) :=
    back_hit l n i hn P (u % 2) u _ x y free hp hb p0 p2 p1 p3.symm
  have skip : ∀ s, In4 s → s < P → Ev (fun k => spec_l7Back.l0 k (cL l n i) (costT (costs l n i) x y free u) u free x y (u % 2) (s + 1)) (P, u % 2) → Ev (fun k => spec_l7Back.l0 k (cL l n i) (costT (costs l n i) x y free u) u free x y (u % 2) s) (P, u % 2) := by
    intro s hs hlt h
    refine back_skip l n i hn s (u % 2) u _ x y free hs hb _ ?_ h
    rcases hprev with e | ⟨e, hne⟩
    · exact fun q => hno s hs (by omega) (by omega) q.2.2.1
    · by_cases e2 : s = u / 2
      · rw [e2]
        exact hne
      · exact fun q => hno s hs e2 (by omega) q.2.2.1
  have down : ∀ d : Nat, (d : Int) ≤ P → Ev (fun k => spec_l7Back.l0 k (cL l n i) (costT (costs l n i) x y free u) u free x y (u % 2) (P - d)) (P, u % 2) := by
    intro d
    induction d with
    | zero =>
      intro _
      rw [show P - ((0 : Nat) : Int) = P by omega]
      exact fin
    | succ d ih =>
      intro hd
      unfold In4 at hp
      refine skip _ ⟨by omega, by omega⟩ (by omega) ?_
      rw [show P - ((d + 1 : Nat) : Int) + 1 = P - (d : Int) by omega]
      exact ih (by omega)
  have := down P.toNat (by unfold In4 at hp; omega)
  rwa [show P - (P.toNat : Int) = 0 by unfold In4 at hp; omega] at this
theorem svit_loop (l : List Int) (n : Nat) (hn : n ≤ 1000) (hl : l.length = 2 * n + 4) : ∀ (i : Nat) (bs : List Int), i ≤ n + 2 → bs.length = n → (∀ j, i ≤ j → j < n → bs.getD j 0 = vst l n (j + 1) % 2) →
    Ev (fun k => spec_ViterbiDecode.l0 k l (n : Int) (csL l n (n + 3)) bs (vst l n i) ((i : Int) - 1)) (vbits l n, vcost l n) := by
  intro i
  induction i with
  | zero =>
    intro bs _ hb hj
    refine ev1 (evn (by omega) ?_)
    rw [w64s (n := (n : Int) + 2) (by omega) (by omega), csL_length]
    refine evp (by omega) (evp (by omega) ?_)
    rw [show (n : Int) + 2 = ((n + 2 : Nat) : Int) by omega, csL_at l n (n + 3) (n + 2) (by omega), cL_length, cL_at l n (n + 2) 0 ⟨by omega, by omega⟩]
    refine evp (by omega) (evc ?_)
    rw [list_ext (a := bs) (b := vbits l n) (by rw [hb, vbits_length]) (fun j h => by rw [hj j (by omega) (by omega), vbits_at l n j (by omega)])]
    rfl
  | succ i ih =>
    intro bs hi hb hj
    have hv := vst_in l n (n + 1 - i) (i + 1) (by omega)
    have hv2 := hv
    unfold In4 at hv2
    have hg := vst_good l n (n + 1 - i) (i + 1) (by omega)
    rw [show ((i + 1 : Nat) : Int) - 1 = (i : Int) by omega]
    refine ev1 (evp (by omega) (evp (by omega) (evp (by rw [csL_length]; omega) ?_)))
    rw [w64s (n := (i : Int) + 1) (by omega) (by omega), csL_length, csL_at l n (n + 3) i (by omega), show (i : Int) + 1 = ((i + 1 : Nat) : Int) by omega, csL_at l n (n + 3) (i + 1) (by omega), cL_length, cL_at l n (i + 1) _ hv,
      show (2 : Int) * (i : Int) = ((2 * i : Nat) : Int) by omega, w64s (n := ((2 * i : Nat) : Int)) (by omega) (by omega), show ((2 * i : Nat) : Int) + 1 = ((2 * i + 1 : Nat) : Int) by omega, w64s (n := ((2 * i + 1 : Nat) : Int)) (by omega) (by omega), rd_nat, rd_nat, w64s (n := (i : Int) - 1) (by omega) (by omega)]
    have hdec : decide ((i : Int) < (n : Int)) = decide (i < n) := dec_iff (by omega)
    have hB := back_ev l n i (by omega) (vst l n (i + 1)) hv (l.getD (2 * i) 0) (l.getD (2 * i + 1) 0) (decide (i < n)) hg
    rw [← vst_step l n i (by omega)] at hB
    have hB' : Ev (fun k => spec_l7Back.f k (cL l n i) (costs l n (i + 1) (vst l n (i + 1))) (vst l n (i + 1)) (decide ((i : Int) < (n : Int))) (l.getD (2 * i) 0) (l.getD (2 * i + 1) 0)) (vst l n i, vst l n (i + 1) % 2) := by
      rw [hdec]
      exact hB
    refine evp (by omega) (evp (by omega) (evp hv2.1 (evp (by omega) (evp (by omega) (evp (by omega) (evp (by omega) (evp (by omega) (Ev.bind hB' ?_))))))))
    by_cases h : i < n
    · refine evp (by omega) (evp (by omega) ?_)
      rw [Int.toNat_natCast]
      refine ih _ (by omega) (by simpa using hb) (fun j h1 h2 => ?_)
      rw [getD_set]
      by_cases e : i = j
      · subst e
        rw [if_pos ⟨rfl, by omega⟩]
      · rw [if_neg (fun q => e q.1)]
        exact hj j (by omega) h2
    · exact evn (by omega) (ih bs (by omega) hb (fun j h1 h2 => by omega))
theorem svit_bad (l : List Int) (n : Int) : Ev (fun k => spec_ViterbiDecode.j0 k l n true) ([], -1) := ev1 (Ev.congr (fun k => by rw [spec_ViterbiDecode.j0, if_pos rfl]) (evc rfl))
theorem svit_good (l : List Int) (n : Nat) (hn : n ≤ 1000) (hl : l.length = 2 * n + 4) : Ev (fun k => spec_ViterbiDecode.j0 k l (n : Int) false) (vbits l n, vcost l n) := by
  refine ev1 (Ev.congr (f := fun k => (spec_l7Costs.f k l (n : Int)).bind fun t => (if 0 ≤ (n : Int) then (if ((n : Int)).toNat ≤ 35184372088832 then (spec_ViterbiDecode.l0 k l (n : Int) t (List.replicate ((n : Int)).toNat 0) 0 (wrap64 ((wrap64 ((n : Int) + 2)) - 1))) else (none)) else (none))) (fun k => by rw [spec_ViterbiDecode.j0, if_neg (by decide)]) ?_)
  have h1 := l7_ev l n hn hl (n + 2) 0 (by omega)
  have h1' : Ev (fun k => spec_l7Costs.f k l (n : Int)) (csL l n (n + 3)) := h1
  refine Ev.bind h1' (evp (by omega) (evp (by omega) ?_))
  rw [Int.toNat_natCast, w64s (n := (n : Int) + 2) (by omega) (by omega), w64s (n := (n : Int) + 2 - 1) (by omega) (by omega)]
  have h4 := svit_loop l n hn hl (n + 2) (List.replicate n 0) (by omega) (by simp) (fun j h5 h6 => by omega)
  rw [vst_end, show ((n + 2 : Nat) : Int) - 1 = (n : Int) + 2 - 1 by omega] at h4
  exact h4
theorem svit_ev (l : List Int) (hl : l.length ≤ 1000000000) : Ev (fun k => spec_ViterbiDecode.f k l) (vdec l) := by
  unfold spec_ViterbiDecode.f vdec
  refine evs (slen_ev l.length (by omega)) ?_
  have h2 := ssym_ev l (by omega)
  unfold lenV
  by_cases hc : l.length % 2 = 0 ∧ 4 ≤ l.length ∧ l.length ≤ 2004
  · rw [if_pos hc]
    obtain ⟨n, hn⟩ : ∃ n : Nat, l.length = 2 * n + 4 := ⟨l.length / 2 - 2, by omega⟩
    rw [show (l.length : Int) / 2 - 2 = (n : Int) by omega, show l.length / 2 - 2 = n by omega]
    refine evn (by omega) (Ev.bind h2 ?_)
    cases hs : (l.all fun x => decide (0 ≤ x ∧ x ≤ 2)) with
    | true =>
      rw [if_pos ⟨rfl, hc⟩]
      exact svit_good l n (by omega) hn
    | false =>
      rw [if_neg (fun q => absurd q.1 (by decide))]
      exact svit_bad _ _
  · rw [if_neg hc, if_neg (fun q => hc q.2)]
    exact evp (by decide) (svit_bad _ _)
theorem snextscr_some (s : Int) : spec_NextScramblerState.f s = some (scrNext s) := by
  unfold spec_NextScramblerState.f scrNext
  rw [l1_some]
  simp only [Option.bind_some]
  by_cases h : 1 ≤ s ∧ s ≤ 127
  · rw [if_pos (dt h), if_pos h]
    rfl
  · rw [if_neg (dnt h), if_neg h]
theorem sscr_loop (l : List Int) (hn : l.length ≤ 1000000) : ∀ (d i : Nat) (s : Int) (x : List Int), i + d = l.length → x.length = l.length → Ev (fun k => spec_Scramble.l0 k s l x i) (x.take i ++ scrGo s (l.drop i)) := by
  intro d
  induction d with
  | zero =>
    intro i s x hi hx
    rw [List.drop_of_length_le (by omega), List.take_of_length_le (by omega)]
    exact ev1 (evn (by omega) (evc (by simp [scrGo])))
  | succ d ih =>
    intro i s x hi hx
    refine ev1 (evp (by omega) (evp (by omega) (evs (show spec_l5Out.f s = some (scrOut s) from rfl) (evp (by omega) (evs (snextscr_some s) ?_)))))
    rw [w64s (n := (i : Int) + 1) (by omega) (by omega), Int.toNat_natCast, rd_nat, drop_getD l i (by omega), scrGo]
    have h := ih (i + 1) (scrNext s) (x.set i (Go.bits .xor .i64 (l.getD i 0) (scrOut s))) (by omega) (by simpa using hx)
    rw [take_set_succ x i _ (by omega), List.append_assoc] at h
    exact h
theorem sscr_ev (s : Int) (l : List Int) (hb : Bits l) (hn : l.length ≤ 1000000) : Ev (fun k => spec_Scramble.f k s l) (scrL s l) := by
  unfold spec_Scramble.f scrL
  refine evs rfl (evp (by simp; omega) (evs (show some (([] : List Int) ++ l) = some l from rfl) (evs (l1_some _ _ _) ?_)))
  by_cases h : 1 ≤ s ∧ s ≤ 127
  · rw [if_pos h]
    have hbb := sbits_ev l (by omega)
    rw [bits_all hb] at hbb
    have hl : Ev (fun k => spec_Scramble.j0 k s l l false) (scrGo s l) := by
      have := sscr_loop l hn l.length 0 s l (by omega) rfl
      exact ev1 this
    exact evp (dt h) (Ev.bind hbb hl)
  · rw [if_neg h]
    exact evn (dnt h) (ev1 (evk fun _ => rfl))
theorem sbtb_loop (l : List Int) (hb : Bits l) (m : Nat) (hn : l.length = 8 * m) (hm : m ≤ 1000) : ∀ (d q : Nat) (x : List Int), q + d = m → x.length = q → (∀ j, j < q → x.getD j 0 = bti (bitsAt l j)) → Ev (fun k => spec_BitsToBytes.l0 k l x ((8 * q : Nat) : Int)) (bytesL l, true) := by
  intro d
  induction d with
  | zero =>
    intro q x hi hx hq
    refine ev1 (evn (by omega) (evc ?_))
    rw [list_ext (a := x) (b := bytesL l) (by rw [hx, bytesL_length]; omega) (fun j h => by
      rw [hq j (by omega), bytesL_at l j (by omega)])]
  | succ d ih =>
    intro q x hi hx hq
    have w : wrap64 (((8 * q : Nat) : Int) + 8) = ((8 * q + 8 : Nat) : Int) := by rw [w64s (by omega) (by omega)]; omega
    refine ev1 (evp (by omega) (evp (by omega) (evp (by rw [w]; omega) (evp (by rw [w]; omega) ?_))))
    rw [w, Int.toNat_natCast, Int.toNat_natCast]
    have h1 := sbti_ev (bitsAt l q) (bitsAt_bits hb q) (by rw [bitsAt_length l q (by omega)]; omega)
    have hr := byte_range l hb q (by omega)
    refine Ev.bind h1 (evp (by omega) ?_)
    rw [show bti (bitsAt l q) % 256 = bti (bitsAt l q) by omega]
    refine ih (q + 1) _ (by omega) (by simp; omega) (fun j h => ?_)
    by_cases e : j < q
    · rw [List.getD_eq_getElem?_getD, List.getElem?_append_left (by omega), ← List.getD_eq_getElem?_getD]
      exact hq j e
    · rw [show j = q by omega, List.getD_eq_getElem?_getD, List.getElem?_append_right (by omega), hx]
      simp
theorem sbtb_ev (l : List Int) (hb : Bits l) (m : Nat) (hn : l.length = 8 * m) (hm : m ≤ 1000) : Ev (fun k => spec_BitsToBytes.f k l) (bytesL l, true) := by
  unfold spec_BitsToBytes.f
  have h := sbits_ev l (by omega)
  rw [bits_all hb] at h
  refine evs rfl (Ev.bind h (evp rfl ?_))
  have e : (((l.length : Int) % 8) != 0) = false := by
    have : (l.length : Int) % 8 = 0 := by omega
    simp [this]
  rw [e]
  refine ev1 (Ev.congr (f := fun k => spec_BitsToBytes.l0 k l [] 0) (fun k => by rw [spec_BitsToBytes.j0, if_neg (by decide)]) ?_)
  exact sbtb_loop l hb m hn hm m 0 [] (by omega) rfl (fun j hj => by omega)
theorem scrc_in (l : List Int) (i : Nat) (hi : i ≤ 1000000) (r : Int) : ∀ (d j : Nat) (x : Int), j + d = 8 → Ev (fun k => spec_Crc16.l0 k l (crcIn d x) ((i + 1 : Nat) : Int)) r → Ev (fun k => spec_Crc16.l1 k l x i j) r := by
  intro d
  induction d with
  | zero =>
    intro j x hj h
    refine ev1 (evn (by omega) ?_)
    rw [w64s (n := (i : Int) + 1) (by omega) (by omega)]
    exact h
  | succ d ih =>
    intro j x hj h
    have hw : wrap64 ((j : Int) + 1) = ((j + 1 : Nat) : Int) := by rw [w64s (by omega) (by omega)]; omega
    refine ev1 (evp (by omega) ?_)
    rw [hw]
    unfold crcIn at h
    by_cases hb : Go.bits .and .i64 x 1 = 1
    · rw [if_pos hb] at h
      exact evp hb (ih (j + 1) _ (by omega) h)
    · rw [if_neg hb] at h
      exact evn hb (ih (j + 1) _ (by omega) h)
theorem scrc_loop (l : List Int) (hb : Bytes l) (hn : l.length ≤ 100000) : ∀ (d i : Nat) (x : Int), i + d = l.length → Ev (fun k => spec_Crc16.l0 k l x i) (crcGo x (l.drop i)) := by
  intro d
  induction d with
  | zero =>
    intro i x hi
    rw [List.drop_of_length_le (by omega)]
    exact ev1 (evn (by omega) (evc rfl))
  | succ d ih =>
    intro i x hi
    have hx := hb _ (rd_mem (l := l) (i := i) (by omega))
    refine ev1 (evp (by omega) (evp (by omega) ?_))
    rw [rd_nat, w64s (n := l.getD i 0) (by omega) (by omega), dropGetD l i (by omega)]
    exact scrc_in l i (by omega) _ 8 0 _ (by omega) (ih (i + 1) _ (by omega))
theorem schk_ev (l : List Int) (hb : Bytes l) (hn : l.length ≤ 1000) : Ev (fun k => spec_CheckCrc.f k l) (chkV l) := by
  unfold spec_CheckCrc.f chkV
  by_cases h : l.length < 2
  · rw [if_neg (fun q => by omega)]
    exact evp (by rw [w64s (by omega) (by omega)]; omega) (evc rfl)
  obtain ⟨n, hl⟩ : ∃ n : Nat, l.length = n + 2 := ⟨l.length - 2, by omega⟩
  have w : wrap64 ((l.length : Int) - 2) = (n : Int) := by rw [w64s (by omega) (by omega)]; omega
  have w2 : wrap64 ((n : Int) + 1) = ((n + 1 : Nat) : Int) := by rw [w64s (by omega) (by omega)]; omega
  have h1 := hb _ (rd_mem (l := l) (i := n) (by omega))
  have h2 := hb _ (rd_mem (l := l) (i := n + 1) (by omega))
  rw [w, w2]
  have e1 := scrc_loop (l.take n) (fun x hx => hb x (List.mem_of_mem_take hx)) (by simp; omega) (l.take n).length 0 65535 (by omega)
  rw [List.drop_zero] at e1
  have ht : (l.take n).length = n := by simp; omega
  refine evn (by omega) (evp (by omega) (evp (by omega) (evp (by omega) (evp (by omega) (evp (by omega) ?_)))))
  rw [Int.toNat_natCast, rd_nat, rd_nat, w64s (n := l.getD n 0) (by omega) (by omega), w64s (n := l.getD (n + 1) 0) (by omega) (by omega), w64s (n := l.getD (n + 1) 0 * 256) (by omega) (by omega), or256 _ _ h1 h2, show l.length - 2 = n by omega]
  refine Ev.bind e1 ?_
  by_cases q : crcL (l.take n) = l
  · exact ev_eq (evp ((crc_eq l hb n hl).1 q) (evs rfl (evp (by simp; omega) (evc rfl)))) (if_pos ⟨by omega, q⟩).symm
  · exact ev_eq (evn (fun z => q ((crc_eq l hb n hl).2 z)) (evc rfl)) (if_neg (fun z => q z.2)).symm
theorem srx_j1 (a0 a1 a2 : Int) (h : validH a0 a1 a2) (c p : List Int) (hc : c = rxC a0 a1 p) (hl : c.length = (16 * a1 + 36).toNat) : Ev (fun k => spec_ReceiveFrame.j1 k c a0 a1 a2) (rxE a0 a1 a2 p) := by
  unfold validH at h
  obtain ⟨m, hm, hm2⟩ := vdec_len8 c a1.toNat (by omega)
  have hb := vdec_bits c
  have hv := svit_ev c (by omega)
  unfold rxE rxB
  rw [← hc]
  generalize vdec c = v at *
  obtain ⟨v, d⟩ := v
  dsimp only at hm hb
  have hs := sscr_ev a2 v hb (by omega)
  have hsb := scrL_bits a2 v hb
  have hbt := sbtb_ev (scrL a2 v) hsb m (by rw [scrL_length]; exact hm) (by omega)
  have hck := schk_ev (bytesL (scrL a2 v)) (bytesL_bytes _ hsb) (by rw [bytesL_length, scrL_length]; omega)
  generalize chkV (bytesL (scrL a2 v)) = q at *
  refine ev1 (Ev.bind hv (Ev.bind hs (Ev.bind hbt ?_)))
  dsimp only
  by_cases hd : d < 0
  · rw [if_pos hd]
    exact evp hd (ev1 (evk fun _ => rfl))
  · rw [if_neg hd]
    refine evn hd (ev1 (Ev.congr (f := fun k => (spec_CheckCrc.f k (bytesL (scrL a2 v))).bind fun bt327 => (if bt327.2 = true then (some (a0, a1, a2, bt327.1, 0)) else (some (a0, a1, a2, (([] : List Int)), 2)))) (fun k => by rw [Bool.not_true, spec_ReceiveFrame.j2, if_neg (by decide)]) (Ev.bind hck ?_)))
    by_cases hq : q.2 = true
    · exact ev_eq (evp hq (evc rfl)) (if_pos hq).symm
    · exact ev_eq (evn hq (evc rfl)) (if_neg hq).symm
theorem srx_j0 (a0 a1 a2 : Int) (h : validH a0 a1 a2) (l : List Int) (hl : l.length = 54 + psym a0 a1) : Ev (fun k => spec_ReceiveFrame.j0 k l false a0 a1 a2) (rxE a0 a1 a2 (l.drop 54)) := by
  have hv := h
  unfold validH at hv
  have hp : (l.drop 54).length = psym a0 a1 := by rw [List.length_drop]; omega
  have hpl : psym a0 a1 ≤ 4000 := by unfold psym; split <;> omega
  have hd := sde_ev (l.drop 54) 8 (by omega)
  have hrl := rxC_length a0 a1 (l.drop 54) hp
  refine ev1 (Ev.congr (f := fun k => if 54 ≤ (l.length : Int) then ((spec_Deinterleave.f k (l.drop 54) 8).bind fun t306 => (if a0 = 2 then ((spec_EncodedLength.f (wrap64 (8 * (wrap64 (a1 + 2))))).bind fun t309 => ((spec_Depuncture.f k t306 t309).bind fun t310 => (spec_ReceiveFrame.j1 k t310 a0 a1 a2))) else (spec_ReceiveFrame.j1 k t306 a0 a1 a2))) else none) (fun k => by rw [spec_ReceiveFrame.j0, if_neg (by decide)]) (evp (by omega) (Ev.bind hd ?_)))
  by_cases h2 : a0 = 2
  · have hdp := sdepunct_ev (deL (l.drop 54) 8) (16 * a1 + 36).toNat (by omega) (by rw [deL_length, hp]; unfold psym; rw [if_pos h2])
    refine evp h2 (evs (scoded_some a0 a1 a2 h) (Ev.bind hdp ?_))
    have e : depunct (deL (l.drop 54) 8) 0 0 (16 * a1 + 36).toNat = rxC a0 a1 (l.drop 54) := by unfold rxC; rw [if_pos h2]
    exact srx_j1 a0 a1 a2 h _ (l.drop 54) e (by rw [e]; exact hrl)
  · have e : deL (l.drop 54) 8 = rxC a0 a1 (l.drop 54) := by unfold rxC; rw [if_neg h2]
    exact evn h2 (srx_j1 a0 a1 a2 h _ (l.drop 54) e (by rw [e]; exact hrl))
theorem srx_bad (l : List Int) (a0 a1 a2 : Int) : Ev (fun k => spec_ReceiveFrame.j0 k l true a0 a1 a2) (0, 0, 0, [], 1) := ev1 (evk fun _ => rfl)
theorem srx_ev (l : List Int) (hn : l.length ≤ 4000000) (h54 : 54 ≤ l.length) : Ev (fun k => spec_ReceiveFrame.f k l) (rxV (hdrV (majL (l.take 54))) l) := by
  have hh := shdr_ev (l.take 54) (by simp; omega)
  have hok := hdrV_ok (majL (l.take 54))
  unfold spec_ReceiveFrame.f
  refine evn (by omega) (evp (by omega) (Ev.bind hh ?_))
  generalize hdrV (majL (l.take 54)) = t at *
  obtain ⟨a, b, c, q⟩ := t
  dsimp only at hok ⊢
  by_cases hq : q = true
  · have hv := hok hq
    refine evp hq (evs (spay_some a b c hv) ?_)
    rw [w64s (n := (l.length : Int) - 54) (by omega) (by omega)]
    unfold rxV
    by_cases hl : l.length = 54 + psym a b
    · have e : (((l.length : Int) - 54) != ((psym a b : Nat) : Int)) = false := by
        have : (l.length : Int) - 54 = ((psym a b : Nat) : Int) := by omega
        simp [this]
      rw [e, if_pos ⟨hq, hl⟩]
      exact srx_j0 a b c hv l hl
    · have e : (((l.length : Int) - 54) != ((psym a b : Nat) : Int)) = true := by
        rw [bne_iff_ne]
        omega
      rw [e, if_neg (fun z => hl z.2)]
      exact srx_bad l a b c
  · refine evn hq ?_
    unfold rxV
    rw [if_neg (fun z => hq z.1)]
    exact srx_bad l a b c
theorem srx_short (l : List Int) (h54 : l.length < 54) : Ev (fun k => spec_ReceiveFrame.f k l) (0, 0, 0, [], 1) := by
  unfold spec_ReceiveFrame.f
  exact evp (by omega) (evc rfl)
theorem toInts_loop (x0 : List Int) (hn : x0.length ≤ 4000000000000000) : ∀ (d i : Nat) (x3 : List Int), i + d = x0.length → x3.length = x0.length → (∀ j, j < i → x3.getD j 0 = x0.getD j 0) → Ev (fun k => laws_toIntS.l0 k x0 x3 i) x0 := by
  intro d
  induction d with
  | zero =>
    intro i x3 hi hl hj
    refine ev1 ?_
    refine evn (by omega) (evc ?_)
    rw [list_ext hl (fun j h => hj j (by omega))]
  | succ d ih =>
    intro i x3 hi hl hj
    refine ev1 ?_
    refine evp (by omega) (evp (by omega) (evp (by omega) ?_))
    rw [w64s (by omega) (by omega), Int.toNat_natCast, rd_nat]
    have := ih (i + 1) (x3.set i (x0.getD i 0)) (by omega) (by simpa using hl) (by
      intro j h
      rw [getD_set]
      by_cases e : i = j
      · subst e
        rw [if_pos ⟨rfl, by omega⟩]
      · rw [if_neg (fun h' => e h'.1)]
        exact hj j (by omega))
    exact this
theorem toInts_ev (l : List Int) (hn : l.length ≤ 1048576) : Ev (fun k => laws_toIntS.f k l) l := by
  unfold laws_toIntS.f
  refine evp (by omega) (evp (by omega) ?_)
  exact toInts_loop l (by omega) l.length 0 _ (by omega) (by simp) (by intro j h; omega)
theorem eqInts_loop (x : List Int) (hn : x.length ≤ 4000000000000000) : ∀ (d i : Nat), i + d = x.length → Ev (fun k => laws_eqIntS.l0 k x x i) true := by
  intro d
  induction d with
  | zero =>
    intro i hi
    refine ev1 ?_
    exact evn (by omega) (evc rfl)
  | succ d ih =>
    intro i hi
    refine ev1 ?_
    refine evp (by omega) (evp (by omega) (evp (by omega) (evp rfl ?_)))
    rw [w64s (by omega) (by omega)]
    exact ih (i + 1) (by omega)
theorem eqInts_ev (l : List Int) (hn : l.length ≤ 4000000000000000) : Ev (fun k => laws_eqIntS.f k l l) true := by
  unfold laws_eqIntS.f
  exact evp rfl (eqInts_loop l hn l.length 0 (by omega))
theorem eqBytes_loop (x : List Int) (hn : x.length ≤ 4000000000000000) : ∀ (d i : Nat), i + d = x.length → Ev (fun k => laws_eqByteS.l0 k x x i) true := by
  intro d
  induction d with
  | zero =>
    intro i hi
    refine ev1 ?_
    exact evn (by omega) (evc rfl)
  | succ d ih =>
    intro i hi
    refine ev1 ?_
    refine evp (by omega) (evp (by omega) (evp (by omega) (evp rfl ?_)))
    rw [w64s (by omega) (by omega)]
    exact ih (i + 1) (by omega)
theorem eqBytes_ev (l : List Int) (hn : l.length ≤ 4000000000000000) : Ev (fun k => laws_eqByteS.f k l l) true := by
  unfold laws_eqByteS.f
  exact evp rfl (eqBytes_loop l hn l.length 0 (by omega))
def marksI (s : Int) (n : Nat) : List Int := (List.range n).map fun j : Nat => (s + (j : Int))
theorem marksI_length (s : Int) (n : Nat) : (marksI s n).length = n := by simp [marksI]
theorem marksI_at (s : Int) (n j : Nat) (h : j < n) : (marksI s n).getD j 0 = (s + (j : Int)) := by
  simp [marksI, List.getD_eq_getElem?_getD, List.getElem?_map, List.getElem?_range h]
theorem markInts_loop (n : Nat) (hn : n ≤ 4000000000000000) (s : Int) (h0 : 0 ≤ s) (hs : s ≤ 4000000000000000) : ∀ (d i : Nat) (x : List Int), i + d = n → x.length = n → (∀ j, j < i → x.getD j 0 = (s + (j : Int))) →
    Ev (fun k => laws_markIntS.l0 k x (s + i) i) (s + n, marksI s n) := by
  intro d
  induction d with
  | zero =>
    intro i x hi hl hj
    refine ev1 ?_
    refine evn (by omega) (evc ?_)
    rw [show i = n by omega, list_ext (a := x) (b := marksI s n) (by rw [hl, marksI_length]) (fun j h => by rw [hj j (by omega), marksI_at s n j (by omega)])]
  | succ d ih =>
    intro i x hi hl hj
    refine ev1 ?_
    refine evp (by omega) (evp (by omega) ?_)
    rw [w64s (by omega) (by omega), w64s (by omega) (by omega), Int.toNat_natCast]
    have := ih (i + 1) (x.set i (s + (i : Int))) (by omega) (by simpa using hl) (by
      intro j h
      rw [getD_set]
      by_cases e : i = j
      · subst e
        rw [if_pos ⟨rfl, by omega⟩]
      · rw [if_neg (fun h' => e h'.1)]
        exact hj j (by omega))
    rw [show s + ((i + 1 : Nat) : Int) = s + (i : Int) + 1 by omega] at this
    exact this
theorem markInts_ev (l : List Int) (hn : l.length ≤ 4000000000000000) (s : Int) (h0 : 0 ≤ s) (hs : s ≤ 4000000000000000) : Ev (fun k => laws_markIntS.f k l s) (s + l.length, marksI s l.length) := by
  have := markInts_loop l.length hn s h0 hs l.length 0 l (by omega) rfl (by intro j h; omega)
  rw [show s + ((0 : Nat) : Int) = s by omega] at this
  exact this
def marksB (s : Int) (n : Nat) : List Int := (List.range n).map fun j : Nat => ((s + (j : Int)) % 256)
theorem marksB_length (s : Int) (n : Nat) : (marksB s n).length = n := by simp [marksB]
theorem marksB_at (s : Int) (n j : Nat) (h : j < n) : (marksB s n).getD j 0 = ((s + (j : Int)) % 256) := by
  simp [marksB, List.getD_eq_getElem?_getD, List.getElem?_map, List.getElem?_range h]
theorem markBytes_loop (n : Nat) (hn : n ≤ 4000000000000000) (s : Int) (h0 : 0 ≤ s) (hs : s ≤ 4000000000000000) : ∀ (d i : Nat) (x : List Int), i + d = n → x.length = n → (∀ j, j < i → x.getD j 0 = ((s + (j : Int)) % 256)) →
    Ev (fun k => laws_markByteS.l0 k x (s + i) i) (s + n, marksB s n) := by
  intro d
  induction d with
  | zero =>
    intro i x hi hl hj
    refine ev1 ?_
    refine evn (by omega) (evc ?_)
    rw [show i = n by omega, list_ext (a := x) (b := marksB s n) (by rw [hl, marksB_length]) (fun j h => by rw [hj j (by omega), marksB_at s n j (by omega)])]
  | succ d ih =>
    intro i x hi hl hj
    refine ev1 ?_
    refine evp (by omega) (evp (by omega) ?_)
    rw [w64s (by omega) (by omega), w64s (by omega) (by omega), Int.toNat_natCast]
    have := ih (i + 1) (x.set i ((s + (i : Int)) % 256)) (by omega) (by simpa using hl) (by
      intro j h
      rw [getD_set]
      by_cases e : i = j
      · subst e
        rw [if_pos ⟨rfl, by omega⟩]
      · rw [if_neg (fun h' => e h'.1)]
        exact hj j (by omega))
    rw [show s + ((i + 1 : Nat) : Int) = s + (i : Int) + 1 by omega] at this
    exact this
theorem markBytes_ev (l : List Int) (hn : l.length ≤ 4000000000000000) (s : Int) (h0 : 0 ≤ s) (hs : s ≤ 4000000000000000) : Ev (fun k => laws_markByteS.f k l s) (s + l.length, marksB s l.length) := by
  have := markBytes_loop l.length hn s h0 hs l.length 0 l (by omega) rfl (by intro j h; omega)
  rw [show s + ((0 : Nat) : Int) = s by omega] at this
  exact this
theorem heldBytes_loop (n : Nat) (hn : n ≤ 4000000000000000) (s : Int) (h0 : 0 ≤ s) (hs : s ≤ 4000000000000000) : ∀ (d i : Nat), i + d = n →
    Ev (fun k => laws_heldByteS.l0 k (marksB s n) (s + i) i) (s + n) := by
  intro d
  induction d with
  | zero =>
    intro i hi
    refine ev1 ?_
    refine evn (by rw [marksB_length]; omega) (evc ?_)
    rw [show i = n by omega]
  | succ d ih =>
    intro i hi
    refine ev1 ?_
    refine evp (by rw [marksB_length]; omega) (evp (by omega) (evp (by rw [rd_nat, marksB_at s n i (by omega)]) ?_))
    rw [w64s (by omega) (by omega), w64s (by omega) (by omega)]
    have := ih (i + 1) (by omega)
    rw [show s + ((i + 1 : Nat) : Int) = s + (i : Int) + 1 by omega] at this
    exact this
theorem heldBytes_ev (n : Nat) (hn : n ≤ 4000000000000000) (s : Int) (h0 : 0 ≤ s) (hs : s ≤ 4000000000000000) : Ev (fun k => laws_heldByteS.f k (marksB s n) s) (s + n) := by
  have := heldBytes_loop n hn s h0 hs n 0 (by omega)
  rw [show s + ((0 : Nat) : Int) = s by omega] at this
  exact this
theorem FnExactReceiveFrame : laws_FnExactReceiveFrame.Pure := by
  intro l _ _ _
  refine Ev.rounds (r := true) ?_
  unfold laws_FnExactReceiveFrame.f
  by_cases hn : (l.length : Int) > 1048576
  · exact evp hn (evc rfl)
  refine evn hn ?_
  have hl : l.length ≤ 1048576 := by omega
  have hex : ∃ (a b c : Int) (r : List Int) (q : Int), r.length ≤ 1000 ∧ Ev (fun k => spec_ReceiveFrame.f k l) (a, b, c, r, q) ∧ Ev (fun k => impl_ReceiveFrame.f k l) (a, b, c, r, q) := by
    by_cases h : 54 ≤ l.length
    · exact ⟨_, _, _, _, _, rxV_length _ _, srx_ev l (by omega) h, irx_ev l (by omega) h⟩
    · exact ⟨_, _, _, _, _, by simp, srx_short l (by omega), irx_short l (by omega)⟩
  obtain ⟨a, b, c, r, q, hr, hs, hi⟩ := hex
  have ht := toInts_ev l hl
  have heb := eqBytes_ev r (by omega)
  have hel := eqInts_ev l (by omega)
  have hml := markInts_ev l (by omega) 1 (by omega) (by omega)
  have hm := markBytes_ev r (by omega) 1 (by omega) (by omega)
  have hh := heldBytes_ev r.length (by omega) 1 (by omega) (by omega)
  have heq : laws_eqPhyHeader.f a b c a b c = some true := by
    unfold laws_eqPhyHeader.f
    rw [if_pos rfl, if_pos rfl, if_pos rfl]
  have h2 : Ev (fun k => laws_FnExactReceiveFrame.j2 k (marksB 1 r.length) (1 + (r.length : Int)) (q != q)) true :=
    ev1 (evn (by simp) (Ev.bind hh (evn (by omega) (evp rfl (evc rfl)))))
  have h1 : Ev (fun k => laws_FnExactReceiveFrame.j1 k l r q r (q != q) a b c) true :=
    ev1 (evn (by simp) (Ev.bind hm (Ev.bind hh (evn (by omega) (evp rfl (Ev.bind ht (Ev.bind hi (evs heq (evp rfl (Ev.bind heb (evp rfl h2)))))))))))
  have h0 : Ev (fun k => laws_FnExactReceiveFrame.j0 k l r q l r q (q != q) a b c a b c) true :=
    ev1 (evn (by simp) (Ev.bind ht (Ev.bind hel (evp rfl (Ev.bind hml (evn (by dsimp only; omega) (evs heq (evp rfl (Ev.bind heb (evp rfl h1))))))))))
  exact Ev.bind ht (Ev.bind hs (Ev.bind ht (Ev.bind hi (evs heq (evp rfl (Ev.bind heb (evp rfl h0)))))))

end Go.Proofs.Ytldbmljooafkcaa.Pure
