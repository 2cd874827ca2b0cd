/-
  A drawn robust frame is received although any two of its payload's symbols were inverted; of a fast one the header is received, and a received payload has the header's length.
  Conditions: none beyond the given statement's own.
-/
import Derived.Test.YtldbmljooafkcaaPFnFrameErrorsx17
set_option linter.unusedVariables false
set_option linter.unusedSimpArgs false
namespace Go.Proofs.Ytldbmljooafkcaa.Pure
open Go.RowKit Go.Proofs.Ytldbmljooafkcaa.PFnFrameErrors Go.Proofs.YtldbmljooafkcaaW.PrintWords Go.Proofs.YtldbmljooafkcaaW.PrintLast Go.Proofs.YtldbmljooafkcaaW.PrintMore

theorem evp {α : Type} {c : Prop} [Decidable c] {A B : Nat → Option α} {r : α} (hc : c) (h : Ev A r) : Ev (fun k => if c then A k else B k) r :=
  Ev.congr (fun k => if_pos hc) h
theorem evn {α : Type} {c : Prop} [Decidable c] {A B : Nat → Option α} {r : α} (hc : ¬ c) (h : Ev B r) : Ev (fun k => if c then A k else B k) r :=
  Ev.congr (fun k => if_neg hc) h
theorem evs {α β : Type} {g : Option α} {a : α} {f : Nat → α → Option β} {r : β} (hg : g = some a) (h : Ev (fun k => f k a) r) : Ev (fun k => g.bind (f k)) r :=
  Ev.congr (fun k => by rw [hg]; rfl) h
theorem evc {α : Type} {g : Option α} {r : α} (h : g = some r) : Ev (fun _ => g) r := ⟨0, fun _ _ => h⟩
theorem ev_eq {α : Type} {g : Nat → Option α} {r r' : α} (h : Ev g r) (e : r = r') : Ev g r' := e ▸ h
theorem w64 {n : Int} (h0 : -9223372036854775808 ≤ n) (h1 : n ≤ 9223372036854775807) : wrap64 n = n := by
  unfold wrap64
  omega
theorem w64s {n : Int} (h0 : -1000000000000000000 ≤ n) (h1 : n ≤ 1000000000000000000) : wrap64 n = n := w64 (by omega) (by omega)
theorem ev1 {α : Type} {g : Nat → Option α} {r : α} (h : Ev (fun k => g (k + 1)) r) : Ev g r := Ev.step (fun _ => rfl) h
theorem dt {p : Prop} [Decidable p] (h : p) : decide p = true := decide_eq_true h
theorem dnt {p : Prop} [Decidable p] (h : ¬ p) : ¬ (decide p = true) := by simp [h]
theorem evk {α : Type} {g : Nat → Option α} {r : α} (h : ∀ k, g k = some r) : Ev g r := ⟨0, fun k _ => h k⟩
theorem rd_nat (l : List Int) (i : Nat) : rd l (i : Int) = l.getD i 0 := by
  unfold rd
  rw [Int.toNat_natCast]
theorem rd_mem {l : List Int} {i : Nat} (h : i < l.length) : l.getD i 0 ∈ l := by
  rw [List.getD_eq_getElem?_getD, List.getElem?_eq_getElem h]
  exact List.getElem_mem h
theorem list_ext {a b : List Int} (hl : a.length = b.length) (h : ∀ i, i < a.length → a.getD i 0 = b.getD i 0) : a = b := by
  apply List.ext_getElem hl
  intro i h1 h2
  have := h i h1
  rw [List.getD_eq_getElem?_getD, List.getD_eq_getElem?_getD, List.getElem?_eq_getElem h1, List.getElem?_eq_getElem h2] at this
  simpa using this
theorem getD_set (l : List Int) (i j : Nat) (v : Int) : (l.set i v).getD j 0 = if i = j ∧ j < l.length then v else l.getD j 0 := by
  rw [List.getD_eq_getElem?_getD, List.getElem?_set, List.getD_eq_getElem?_getD]
  by_cases h : i = j
  · subst h
    by_cases h2 : i < l.length
    · simp [h2]
    · simp [h2]
  · simp [h]
def outX (s b : Int) : Int := (b + s % 2 + s / 2) % 2
def outY (s b : Int) : Int := (b + s / 2) % 2
def nxt (s b : Int) : Int := (2 * s + b) % 4
def convGo : Int → List Int → List Int
  | _, [] => []
  | s, b :: r => outX s b :: outY s b :: convGo (nxt s b) r
def conv (l : List Int) : List Int := convGo 0 (l ++ [0, 0])
def Bits (l : List Int) : Prop := ∀ x ∈ l, x = 0 ∨ x = 1
theorem convGo_length : ∀ (l : List Int) (s : Int), (convGo s l).length = 2 * l.length
  | [], _ => rfl
  | b :: r, s => by
    simp only [convGo, List.length_cons, convGo_length r]
    omega
theorem conv_length (l : List Int) : (conv l).length = 2 * l.length + 4 := by
  unfold conv
  rw [convGo_length]
  simp
  omega
theorem nxt_range (s b : Int) : 0 ≤ nxt s b ∧ nxt s b ≤ 3 := by unfold nxt; omega
theorem out_bits (s b : Int) : (outX s b = 0 ∨ outX s b = 1) ∧ (outY s b = 0 ∨ outY s b = 1) := by unfold outX outY; omega
theorem convGo_bits : ∀ (l : List Int) (s : Int), Bits (convGo s l)
  | [], _ => by intro x hx; simp [convGo] at hx
  | b :: r, s => by
    intro x hx
    simp only [convGo, List.mem_cons] at hx
    rcases hx with rfl | rfl | hx
    · exact (out_bits s b).1
    · exact (out_bits s b).2
    · exact convGo_bits r _ x hx
theorem drop_getD (L : List Int) (i : Nat) (h : i < L.length) : L.drop i = L.getD i 0 :: L.drop (i + 1) := by
  rw [List.drop_eq_getElem_cons h, List.getD_eq_getElem?_getD, List.getElem?_eq_getElem h]
  rfl
theorem pad_getD (l : List Int) (i : Nat) : (l ++ [0, 0]).getD i 0 = if i < l.length then l.getD i 0 else 0 := by
  simp only [List.getD_eq_getElem?_getD, List.getElem?_append]
  by_cases h : i < l.length
  · simp [h]
  · rw [if_neg h, if_neg h]
    rcases Nat.lt_or_ge (i - l.length) 2 with h2 | h2
    · have : i - l.length = 0 ∨ i - l.length = 1 := by omega
      rcases this with e | e <;> rw [e] <;> rfl
    · rw [List.getElem?_eq_none (by simpa using h2)]
      rfl
theorem bits_getD {l : List Int} (h : Bits l) (i : Nat) : l.getD i 0 = 0 ∨ l.getD i 0 = 1 := by
  rw [List.getD_eq_getElem?_getD]
  cases e : l[i]? with
  | none => exact .inl rfl
  | some v => exact h v (List.mem_of_getElem? e)
def ones : List Int → Int
  | [] => 0
  | x :: r => (if x = 1 then 1 else 0) + ones r
theorem ones_range : ∀ (l : List Int), 0 ≤ ones l ∧ ones l ≤ l.length
  | [] => by simp [ones]
  | x :: r => by
    have := ones_range r
    simp only [ones, List.length_cons]
    split <;> omega
theorem weight_loop (l : List Int) (hn : l.length ≤ 1000000000) : ∀ (d i : Nat) (m : Int), i + d = l.length → 0 ≤ m ∧ m ≤ i → Ev (fun k => impl_Weight.l0 k m l l.length i) (m + ones (l.drop i)) := by
  intro d
  induction d with
  | zero =>
    intro i m hi hm
    rw [List.drop_of_length_le (by omega)]
    exact ev1 (evn (by omega) (evc (by simp [ones])))
  | succ d ih =>
    intro i m hi hm
    refine ev1 (evp (by omega) (evp (by omega) (evp (by omega) ?_)))
    rw [drop_getD l i (by omega), ones, rd_nat, w64s (n := (i : Int) + 1) (by omega) (by omega), w64s (n := m + 1) (by omega) (by omega)]
    by_cases h : l.getD i 0 = 1
    · rw [if_pos h]
      exact evp h (ev_eq (ih (i + 1) (m + 1) (by omega) (by omega)) (by omega))
    · rw [if_neg h]
      exact evn h (ev_eq (ih (i + 1) m (by omega) (by omega)) (by omega))
theorem weight_ev (l : List Int) (hn : l.length ≤ 1000000000) : Ev (fun k => impl_Weight.f k l) (ones l) := by
  refine ev_eq (weight_loop l hn l.length 0 0 (by omega) (by omega)) ?_
  simp
def itbAt (n : Int) (i : Nat) : Int := Go.bits .and .i64 (shr .i64 n (i : Int)) 1
def itb (n : Int) (c : Nat) : List Int := (List.range' 0 c).map (itbAt n)
def btiGo : Int → Nat → List Int → Int
  | acc, _, [] => acc
  | acc, i, b :: r => btiGo (Go.bits .or .i64 acc (shl .i64 b (i : Int))) (i + 1) r
def bti (l : List Int) : Int := btiGo 0 0 l
theorem and1 (x : Int) : Go.bits .and .i64 x 1 = 0 ∨ Go.bits .and .i64 x 1 = 1 := by
  have h : ∀ n : Nat, n ≤ 1 → IntKind.i64.wrap (n : Int) = n := by
    intro n hn
    rw [IntKind.wrap_i64]
    omega
  have e : Go.bits .and .i64 x 1 = IntKind.i64.wrap ((BitVec.ofInt 64 x &&& BitVec.ofInt 64 1).toNat : Int) := rfl
  have hle : (BitVec.ofInt 64 x &&& BitVec.ofInt 64 1).toNat ≤ 1 := by
    rw [BitVec.toNat_and]
    exact Nat.and_le_right
  rw [e, h _ hle]
  omega
theorem itb_bits (n : Int) (c : Nat) : Bits (itb n c) := by
  intro x hx
  simp only [itb, List.mem_map] at hx
  obtain ⟨i, _, rfl⟩ := hx
  exact and1 _
theorem itb_length (n : Int) (c : Nat) : (itb n c).length = c := by simp [itb]
theorem round2 : ((List.range 4).all fun n => bti (itb (n : Int) 2) == (n : Int)) = true := by decide +kernel
theorem round8 : ((List.range 256).all fun n => bti (itb (n : Int) 8) == (n : Int)) = true := by decide +kernel
theorem round7 : ((List.range 128).all fun n => bti (itb (n : Int) 7) == (n : Int)) = true := by decide +kernel
theorem round_of {m c : Nat} (h : ((List.range m).all fun n => bti (itb (n : Int) c) == (n : Int)) = true) (n : Int) (h0 : 0 ≤ n ∧ n < m) : bti (itb n c) = n := by
  rw [List.all_eq_true] at h
  have := h n.toNat (by rw [List.mem_range]; omega)
  rw [show ((n.toNat : Nat) : Int) = n by omega] at this
  simpa using this
def majAt (l : List Int) (i : Nat) : Int := if ones [l.getD i 0, l.getD (i + 18) 0, l.getD (i + 36) 0] ≥ 2 then 1 else 0
def majL (l : List Int) : List Int := (List.range' 0 18).map (majAt l)
theorem majL_length (l : List Int) : (majL l).length = 18 := by simp [majL]
theorem majAt_bit (l : List Int) (i : Nat) : majAt l i = 0 ∨ majAt l i = 1 := by
  unfold majAt
  split <;> simp
theorem majL_bits (l : List Int) : Bits (majL l) := by
  intro x hx
  simp only [majL, List.mem_map] at hx
  obtain ⟨i, _, rfl⟩ := hx
  exact majAt_bit l i
theorem majL_at (l : List Int) (i : Nat) (h : i < 18) : (majL l).getD i 0 = majAt l i := by
  simp [majL, List.getD_eq_getElem?_getD, List.getElem?_map, List.getElem?_range' h]
theorem ones_append : ∀ (a b : List Int), ones (a ++ b) = ones a + ones b
  | [], b => by simp [ones]
  | x :: a, b => by
    simp only [List.cons_append, ones]
    rw [ones_append a b]
    omega
def hdrV (b : List Int) : Int × Int × Int × Bool :=
  if Int.tmod (ones b) 2 = 0 ∧ ((1 ≤ bti (b.take 2) ∧ bti (b.take 2) ≤ 2) ∧ (0 ≤ bti ((b.take 10).drop 2) ∧ bti ((b.take 10).drop 2) ≤ 120) ∧ (1 ≤ bti ((b.take 17).drop 10) ∧ bti ((b.take 17).drop 10) ≤ 127)) then
    (bti (b.take 2), bti ((b.take 10).drop 2), bti ((b.take 17).drop 10), true) else (0, 0, 0, false)
theorem bits_take {b : List Int} (h : Bits b) (m n : Nat) : Bits ((b.take m).drop n) := fun x hx => h x (List.mem_of_mem_take (List.mem_of_mem_drop hx))
theorem ibits_loop (l : List Int) (hn : l.length ≤ 4000000000000000) : ∀ (d i : Nat), i + d = l.length → Ev (fun k => impl_IsBitString.l0 k l l.length i) ((l.drop i).all fun x => decide (x = 0 ∨ x = 1)) := by
  intro d
  induction d with
  | zero =>
    intro i hi
    rw [List.drop_of_length_le (by omega)]
    exact ev1 (evn (by omega) (evc rfl))
  | succ d ih =>
    intro i hi
    refine ev1 (evp (by omega) (evp (by omega) (evp (by omega) ?_)))
    rw [drop_getD l i (by omega), List.all_cons, rd_nat, w64s (n := (i : Int) + 1) (by omega) (by omega)]
    by_cases h0 : l.getD i 0 = 0
    · rw [decide_eq_true (Or.inl h0), Bool.true_and]
      exact evp h0 (ih (i + 1) (by omega))
    · refine evn h0 ?_
      by_cases h1 : l.getD i 0 = 1
      · rw [decide_eq_true (Or.inr h1), Bool.true_and]
        exact evp h1 (ih (i + 1) (by omega))
      · rw [decide_eq_false (by omega), Bool.false_and]
        exact evn h1 (evc rfl)
theorem ibits_ev (l : List Int) (hn : l.length ≤ 4000000000000000) : Ev (fun k => impl_IsBitString.f k l) (l.all fun x => decide (x = 0 ∨ x = 1)) := ibits_loop l hn l.length 0 (by omega)
theorem ibits_all {l : List Int} (h : Bits l) : (l.all fun x => decide (x = 0 ∨ x = 1)) = true := by
  rw [List.all_eq_true]
  intro x hx
  exact decide_eq_true (h x hx)
theorem in_some (x a b : Int) : impl_InRange.f x a b = some (decide (a ≤ x ∧ x ≤ b)) := by
  unfold impl_InRange.f
  by_cases h : a ≤ x <;> simp [h]
theorem valid_some (a b c : Int) : impl_IsValidHeader.f a b c = some (decide ((1 ≤ a ∧ a ≤ 2) ∧ (0 ≤ b ∧ b ≤ 120) ∧ (1 ≤ c ∧ c ≤ 127))) := by
  unfold impl_IsValidHeader.f
  simp only [in_some, Option.bind_some]
  by_cases h1 : 1 ≤ a ∧ a ≤ 2 <;> by_cases h2 : 0 ≤ b ∧ b ≤ 120 <;> simp [h1, h2]
theorem iparity_ev (l : List Int) (hn : l.length ≤ 1000) : Ev (fun k => impl_Parity.f k l) (Int.tmod (ones l) 2) := by
  unfold impl_Parity.f
  exact Ev.bind (weight_ev l (by omega)) (evc rfl)
theorem ibti_loop (l : List Int) (hn : l.length ≤ 40) : ∀ (d i : Nat) (acc : Int), i + d = l.length → Ev (fun k => impl_BitsToInt.l0 k acc l l.length i) (btiGo acc i (l.drop i)) := by
  intro d
  induction d with
  | zero =>
    intro i acc hi
    rw [List.drop_of_length_le (by omega)]
    exact ev1 (evn (by omega) (evc rfl))
  | succ d ih =>
    intro i acc hi
    refine ev1 (evp (by omega) (evp (by omega) (evp (by omega) ?_)))
    rw [drop_getD l i (by omega), btiGo, rd_nat, w64s (n := (i : Int) + 1) (by omega) (by omega)]
    exact ih (i + 1) _ (by omega)
theorem ibti_ev (l : List Int) (hb : Bits l) (hn : l.length ≤ 40) : Ev (fun k => impl_BitsToInt.f k l) (bti l) := by
  unfold impl_BitsToInt.f
  have h := ibits_ev l (by omega)
  rw [ibits_all hb] at h
  refine Ev.bind h (evp rfl ?_)
  rw [decide_eq_false (by omega)]
  refine ev1 ?_
  exact ibti_loop l hn l.length 0 0 (by omega)
theorem ihdr_end (l : List Int) (x : List Int) (hx : x = majL l) : Ev (fun k => impl_DecodeHeader.l0 k l x 18 18) (hdrV (majL l)) := by
  subst hx
  have hl := majL_length l
  have hb := majL_bits l
  have e1 := ibti_ev ((majL l).take 2) (fun z hz => hb z (List.mem_of_mem_take hz)) (by simp; omega)
  have e2 := ibti_ev (((majL l).take 10).drop 2) (bits_take hb _ _) (by simp; omega)
  have e3 := ibti_ev (((majL l).take 17).drop 10) (bits_take hb _ _) (by simp; omega)
  have e4 := iparity_ev (majL l) (by omega)
  unfold hdrV
  generalize bti ((majL l).take 2) = a at *
  generalize bti (((majL l).take 10).drop 2) = b at *
  generalize bti (((majL l).take 17).drop 10) = c at *
  refine ev1 (evn (by decide) (evp (by omega) (Ev.bind e1 (evp (by decide) (evp (by omega) (Ev.bind e2 (evp (by decide) (evp (by omega) (Ev.bind e3 (Ev.bind e4 ?_))))))))))
  by_cases h1 : Int.tmod (ones (majL l)) 2 = 0
  · by_cases h2 : (1 ≤ a ∧ a ≤ 2) ∧ (0 ≤ b ∧ b ≤ 120) ∧ (1 ≤ c ∧ c ≤ 127)
    · exact ev_eq (evp h1 (evs (valid_some a b c) (evp (dt h2) (evc rfl)))) (if_pos ⟨h1, h2⟩).symm
    · exact ev_eq (evp h1 (evs (valid_some a b c) (evn (dnt h2) (evc rfl)))) (if_neg (fun h => h2 h.2)).symm
  · exact ev_eq (evn h1 (evc rfl)) (if_neg (fun h => h1 h.1)).symm
theorem ihdr_loop (l : List Int) (hl : l.length = 54) : ∀ (d i : Nat) (x : List Int), i + d = 18 → x.length = 18 → (∀ j, j < i → x.getD j 0 = majAt l j) → (∀ j, i ≤ j → x.getD j 0 = 0) →
    Ev (fun k => impl_DecodeHeader.l0 k l x 18 i) (hdrV (majL l)) := by
  intro d
  induction d with
  | zero =>
    intro i x hi hx h1 h2
    have he : x = majL l := list_ext (by rw [hx, majL_length]) (fun j hj => by rw [h1 j (by omega), majL_at l j (by omega)])
    have := ihdr_end l x he
    rw [show i = 18 by omega]
    exact this
  | succ d ih =>
    intro i x hi hx h1 h2
    have w1 : wrap64 ((i : Int) + 18) = ((i + 18 : Nat) : Int) := by rw [w64s (by omega) (by omega)]; omega
    have w2 : wrap64 ((i : Int) + 36) = ((i + 36 : Nat) : Int) := by rw [w64s (by omega) (by omega)]; omega
    refine ev1 (evp (by omega) (evp (by omega) (evp (by omega) (evp (by rw [w1]; omega) (evp (by rw [w1]; omega) (evp (by rw [w2]; omega) (evp (by rw [w2]; omega) ?_)))))))
    rw [w1, w2, rd_nat, rd_nat, rd_nat, w64s (n := (i : Int) + 1) (by omega) (by omega)]
    refine Ev.bind (weight_ev _ (by simp)) ?_
    by_cases h : ones [l.getD i 0, l.getD (i + 18) 0, l.getD (i + 36) 0] ≥ 2
    · refine evp h (evp (by omega) (ih (i + 1) (x.set i 1) (by omega) (by simpa using hx) ?_ ?_))
      · intro j hj
        rw [getD_set]
        by_cases e : i = j
        · subst e
          rw [if_pos ⟨rfl, by omega⟩]
          unfold majAt
          rw [if_pos h]
        · rw [if_neg (fun q => e q.1)]
          exact h1 j (by omega)
      · intro j hj
        rw [getD_set, if_neg (fun q => by omega)]
        exact h2 j (by omega)
    · refine evn h (ih (i + 1) x (by omega) hx ?_ (fun j hj => h2 j (by omega)))
      intro j hj
      by_cases e : j = i
      · rw [e, h2 i (by omega)]
        unfold majAt
        rw [if_neg h]
      · exact h1 j (by omega)
theorem ihdr_ev (l : List Int) (hl : l.length = 54) : Ev (fun k => impl_DecodeHeader.f k l) (hdrV (majL l)) := by
  unfold impl_DecodeHeader.f
  refine evp (by omega) (evp (by decide) (evs rfl ?_))
  exact ihdr_loop l hl 18 0 (List.replicate 18 0) (by omega) (by simp) (fun j hj => by omega) (fun j hj => by
    rw [List.getD_eq_getElem?_getD, List.getElem?_replicate]
    split <;> rfl)
def punctGo : Nat → List Int → List Int
  | _, [] => []
  | i, s :: r => if i % 4 = 3 then punctGo (i + 1) r else s :: punctGo (i + 1) r
theorem drop_getD' (L : List Int) (i : Nat) (h : i < L.length) : L.drop i = L.getD i 0 :: L.drop (i + 1) := by
  rw [List.drop_eq_getElem_cons h, List.getD_eq_getElem?_getD, List.getElem?_eq_getElem h]
  rfl
theorem punctGo_length : ∀ (l : List Int) (i : Nat), (punctGo i l).length + (i + l.length) / 4 = l.length + i / 4
  | [], i => by simp [punctGo]
  | s :: r, i => by
    have h := punctGo_length r (i + 1)
    unfold punctGo
    split
    · simp only [List.length_cons] at *
      rw [show i + (r.length + 1) = i + 1 + r.length by omega]
      omega
    · simp only [List.length_cons] at *
      rw [show i + (r.length + 1) = i + 1 + r.length by omega]
      omega
theorem tmod4 (i : Nat) : Int.tmod (i : Int) 4 = ((i % 4 : Nat) : Int) := by
  rw [Int.tmod_eq_emod_of_nonneg (by omega)]
  omega
theorem plen_some (n : Nat) (hn : n ≤ 1000000000) : impl_PuncturedLength.f n = some ((n - n / 4 : Nat) : Int) := by
  unfold impl_PuncturedLength.f
  rw [if_neg (by omega), Int.tdiv_eq_ediv_of_nonneg (by omega), w64s (n := (n : Int) / 4) (by omega) (by omega), w64s (by omega) (by omega)]
  congr 1
  omega
def depunct (p : List Int) : Nat → Nat → Nat → List Int
  | _, _, 0 => []
  | i, j, d + 1 => if i % 4 = 3 then 2 :: depunct p (i + 1) j d else p.getD j 0 :: depunct p (i + 1) (j + 1) d
theorem depunct_length (p : List Int) : ∀ (d i j : Nat), (depunct p i j d).length = d
  | 0, _, _ => rfl
  | d + 1, i, j => by
    unfold depunct
    split <;> simp [depunct_length p d]
theorem take_set_next (x : List Int) (i : Nat) (v : Int) (h : i < x.length) : (x.set i v).take (i + 1) = x.take i ++ [v] := by
  rw [List.take_add_one, List.take_set_of_le (by omega)]
  simp [h]
theorem depunct_loop (p : List Int) (n : Nat) (hn : n ≤ 1000000) : ∀ (d i j : Nat) (x : List Int), i + d = n → x.length = n → j = i - i / 4 → n - n / 4 ≤ p.length →
    Ev (fun k => impl_Depuncture.l0 k p x j n i) (x.take i ++ depunct p i j d) := by
  intro d
  induction d with
  | zero =>
    intro i j x hi hl hj hp
    refine ev1 (evn (by omega) (evc ?_))
    rw [List.take_of_length_le (by omega)]
    simp [depunct]
  | succ d ih =>
    intro i j x hi hl hj hp
    refine ev1 (evp (by omega) ?_)
    rw [tmod4, depunct]
    by_cases h : i % 4 = 3
    · rw [if_pos h]
      refine evp (by omega) (evp (by omega) (evp (by omega) ?_))
      rw [w64s (n := (i : Int) + 1) (by omega) (by omega), Int.toNat_natCast]
      have := ih (i + 1) j (x.set i 2) (by omega) (by simpa using hl) (by omega) hp
      rw [take_set_next x i 2 (by omega), List.append_assoc] at this
      exact this
    · rw [if_neg h]
      refine evn (by omega) (evp (by omega) (evp (by omega) (evp (by omega) (evp (by omega) ?_))))
      rw [w64s (n := (i : Int) + 1) (by omega) (by omega), w64s (n := (j : Int) + 1) (by omega) (by omega), Int.toNat_natCast, rd_nat]
      have := ih (i + 1) (j + 1) (x.set i (p.getD j 0)) (by omega) (by simpa using hl) (by omega) hp
      rw [take_set_next x i _ (by omega), List.append_assoc] at this
      exact this
theorem depunct_ev (p : List Int) (n : Nat) (hn : n ≤ 4000) (hp : p.length = n - n / 4) : Ev (fun k => impl_Depuncture.f k p n) (depunct p 0 0 n) := by
  unfold impl_Depuncture.f
  refine evs (in_some _ _ _) (evp (dt (by omega)) (evs (plen_some n (by omega)) ?_))
  have e : ((p.length : Int) != ((n - n / 4 : Nat) : Int)) = false := by
    rw [hp]
    simp
  rw [e]
  refine ev1 (evp (by omega) (evs rfl ?_))
  have := depunct_loop p n (by omega) n 0 0 (List.replicate (n : Int).toNat 0) (by omega) (by simp) (by omega) (by omega)
  rw [show (((List.replicate (n : Int).toNat (0 : Int)).length : Nat) : Int) = (n : Int) by simp]
  exact this
theorem l1_some (x a b : Int) : spec_l1In.f x a b = some (decide (a ≤ x ∧ x ≤ b)) := by
  unfold spec_l1In.f
  by_cases h : a ≤ x <;> simp [h]
def scrOut (s : Int) : Int := Go.bits .and .i64 (Go.bits .xor .i64 (s / 8) (s / 64)) 1
def scrNext (s : Int) : Int := if 1 ≤ s ∧ s ≤ 127 then Go.bits .or .i64 (Go.bits .and .i64 (wrap64 (s * 2)) 127) (scrOut s) else 0
def scrGo : Int → List Int → List Int
  | _, [] => []
  | s, b :: r => Go.bits .xor .i64 b (scrOut s) :: scrGo (scrNext s) r
theorem scrGo_length : ∀ (l : List Int) (s : Int), (scrGo s l).length = l.length
  | [], _ => rfl
  | b :: r, s => by
    simp only [scrGo, List.length_cons]
    rw [scrGo_length r]
theorem andOne (x : Int) : Go.bits .and .i64 x 1 = 0 ∨ Go.bits .and .i64 x 1 = 1 := by
  have h : ∀ n : Nat, n ≤ 1 → IntKind.i64.wrap (n : Int) = n := by
    intro n hn
    rw [IntKind.wrap_i64]
    omega
  have e : Go.bits .and .i64 x 1 = IntKind.i64.wrap ((BitVec.ofInt 64 x &&& BitVec.ofInt 64 1).toNat : Int) := rfl
  have hle : (BitVec.ofInt 64 x &&& BitVec.ofInt 64 1).toNat ≤ 1 := by
    rw [BitVec.toNat_and]
    exact Nat.and_le_right
  rw [e, h _ hle]
  omega
theorem xorbit (a b : Int) (ha : a = 0 ∨ a = 1) (hb : b = 0 ∨ b = 1) : Go.bits .xor .i64 a b = 0 ∨ Go.bits .xor .i64 a b = 1 := by
  rcases ha with rfl | rfl <;> rcases hb with rfl | rfl <;> decide +kernel
theorem scrGo_bits : ∀ (l : List Int) (s : Int), Bits l → Bits (scrGo s l)
  | [], _, _ => by intro x hx; simp [scrGo] at hx
  | b :: r, s, h => by
    intro x hx
    simp only [scrGo, List.mem_cons] at hx
    rcases hx with rfl | hx
    · exact xorbit _ _ (h b (by simp)) (andOne _)
    · exact scrGo_bits r _ (fun y hy => h y (by simp [hy])) x hx
def scrL (s : Int) (l : List Int) : List Int := if 1 ≤ s ∧ s ≤ 127 then scrGo s l else l
theorem take_set_succ (x : List Int) (i : Nat) (v : Int) (h : i < x.length) : (x.set i v).take (i + 1) = x.take i ++ [v] := by
  rw [List.take_add_one, List.take_set_of_le (by omega)]
  simp [h]
theorem dropGetD (L : List Int) (i : Nat) (h : i < L.length) : L.drop i = L.getD i 0 :: L.drop (i + 1) := by
  rw [List.drop_eq_getElem_cons h]
  congr 1
  simp [List.getD_eq_getElem?_getD, h]
def crcIn : Nat → Int → Int
  | 0, x => x
  | d + 1, x => crcIn d (if Go.bits .and .i64 x 1 = 1 then Go.bits .xor .i64 (x / 2) 33800 else x / 2)
def crcGo : Int → List Int → Int
  | acc, [] => Go.bits .xor .i64 acc 65535
  | acc, b :: r => crcGo (crcIn 8 (Go.bits .xor .i64 acc b)) r
def Bytes (l : List Int) : Prop := ∀ x ∈ l, 0 ≤ x ∧ x ≤ 255
theorem xor16 (a b : Int) (ha : 0 ≤ a ∧ a < 65536) (hb : 0 ≤ b ∧ b < 65536) : 0 ≤ Go.bits .xor .i64 a b ∧ Go.bits .xor .i64 a b < 65536 := by
  obtain ⟨a, rfl⟩ := Int.eq_ofNat_of_zero_le ha.1
  obtain ⟨b, rfl⟩ := Int.eq_ofNat_of_zero_le hb.1
  have hw : ∀ n : Nat, n < 65536 → IntKind.i64.wrap (n : Int) = n := by
    intro n hn
    rw [IntKind.wrap_i64]
    omega
  have e : Go.bits .xor .i64 (a : Int) (b : Int) = IntKind.i64.wrap ((BitVec.ofInt 64 (a : Int) ^^^ BitVec.ofInt 64 (b : Int)).toNat : Int) := rfl
  have e2 : (BitVec.ofInt 64 (a : Int) ^^^ BitVec.ofInt 64 (b : Int)).toNat < 65536 := by
    rw [BitVec.toNat_xor, BitVec.toNat_ofInt, BitVec.toNat_ofInt]
    exact Nat.xor_lt_two_pow (n := 16) (by omega) (by omega)
  rw [e, hw _ e2]
  omega
theorem crcIn_range : ∀ (d : Nat) (x : Int), 0 ≤ x ∧ x < 65536 → 0 ≤ crcIn d x ∧ crcIn d x < 65536
  | 0, x, h => h
  | d + 1, x, h => by
    unfold crcIn
    refine crcIn_range d _ ?_
    split
    · exact xor16 _ _ (by omega) (by omega)
    · omega
theorem crcGo_range : ∀ (l : List Int) (x : Int), Bytes l → 0 ≤ x ∧ x < 65536 → 0 ≤ crcGo x l ∧ crcGo x l < 65536
  | [], x, _, h => xor16 _ _ h (by omega)
  | b :: r, x, hb, h => by
    have := hb b (by simp)
    exact crcGo_range r _ (fun y hy => hb y (by simp [hy])) (crcIn_range 8 _ (xor16 _ _ h (by omega)))
def crcL (l : List Int) : List Int := l ++ [crcGo 65535 l % 256, crcGo 65535 l / 256]
def b2bL (l : List Int) : List Int := l.flatMap fun b => itb b 8
theorem b2bL_length (l : List Int) : (b2bL l).length = 8 * l.length := by
  induction l with
  | nil => rfl
  | cons x r ih =>
    simp only [b2bL, List.flatMap_cons, List.length_append, List.length_cons, itb_length] at *
    omega
theorem b2bL_bits (l : List Int) : Bits (b2bL l) := by
  intro x hx
  simp only [b2bL, List.mem_flatMap] at hx
  obtain ⟨b, _, hx⟩ := hx
  exact itb_bits b 8 x hx
theorem b2bL_cons (b : Int) (r : List Int) : b2bL (b :: r) = itb b 8 ++ b2bL r := by simp [b2bL]
def validH (a b c : Int) : Prop := (1 ≤ a ∧ a ≤ 2) ∧ (0 ≤ b ∧ b ≤ 120) ∧ (1 ≤ c ∧ c ≤ 127)
theorem scrL_length (s : Int) (l : List Int) : (scrL s l).length = l.length := by
  unfold scrL
  split
  · exact scrGo_length _ _
  · rfl
theorem scrL_bits (s : Int) (l : List Int) (h : Bits l) : Bits (scrL s l) := by
  unfold scrL
  split
  · exact scrGo_bits _ _ h
  · exact h
theorem crcL_bytes (l : List Int) (h : Bytes l) : Bytes (crcL l) := by
  have hr := crcGo_range l 65535 h (by omega)
  intro x hx
  simp only [crcL, List.mem_append, List.mem_cons, List.not_mem_nil, or_false] at hx
  rcases hx with hx | rfl | rfl
  · exact h x hx
  · omega
  · omega
theorem crc_len (l : List Int) : (crcL l).length = l.length + 2 := by simp [crcL]
def chkV (l : List Int) : List Int × Bool := if 2 ≤ l.length ∧ crcL (l.take (l.length - 2)) = l then (l.take (l.length - 2), true) else ([], false)
theorem chkV_crc (l : List Int) : chkV (crcL l) = (l, true) := by
  unfold chkV
  rw [crc_len, show l.length + 2 - 2 = l.length by omega]
  have e : (crcL l).take l.length = l := by simp [crcL]
  rw [e, if_pos ⟨by omega, rfl⟩]
def bp (l : List Int) : Nat → Int
  | 0 => 0
  | c + 1 => Go.bits .or .i64 (bp l c) (shl .i64 (l.getD c 0) (c : Int))
theorem or8 : ∀ a : Fin 256, ∀ b : Fin 2, ∀ j : Fin 8, a.val < 2 ^ j.val → (Go.bits .or .u8 (a.val : Int) ((shl .i64 (b.val : Int) (j.val : Int)) % 256) = Go.bits .or .i64 (a.val : Int) (shl .i64 (b.val : Int) (j.val : Int)) ∧ 0 ≤ Go.bits .or .i64 (a.val : Int) (shl .i64 (b.val : Int) (j.val : Int)) ∧ Go.bits .or .i64 (a.val : Int) (shl .i64 (b.val : Int) (j.val : Int)) < ((2 ^ (j.val + 1) : Nat) : Int)) := by decide +kernel
theorem or8_of (a b : Int) (j : Nat) (hj : j < 8) (ha : 0 ≤ a ∧ a < ((2 ^ j : Nat) : Int)) (hb : b = 0 ∨ b = 1) : Go.bits .or .u8 a ((shl .i64 b (j : Int)) % 256) = Go.bits .or .i64 a (shl .i64 b (j : Int)) ∧ 0 ≤ Go.bits .or .i64 a (shl .i64 b (j : Int)) ∧ Go.bits .or .i64 a (shl .i64 b (j : Int)) < ((2 ^ (j + 1) : Nat) : Int) := by
  obtain ⟨a, rfl⟩ := Int.eq_ofNat_of_zero_le ha.1
  have h1 : a < 2 ^ j := by omega
  have h2 : 2 ^ j ≤ 2 ^ 7 := Nat.pow_le_pow_right (by omega) (by omega)
  rcases hb with rfl | rfl
  · exact or8 ⟨a, by omega⟩ ⟨0, by omega⟩ ⟨j, hj⟩ h1
  · exact or8 ⟨a, by omega⟩ ⟨1, by omega⟩ ⟨j, hj⟩ h1
theorem bit_getD {l : List Int} (h : Bits l) (i : Nat) : l.getD i 0 = 0 ∨ l.getD i 0 = 1 := by
  by_cases q : i < l.length
  · exact h _ (rd_mem q)
  · rw [List.getD_eq_getElem?_getD, List.getElem?_eq_none (by omega)]
    exact .inl rfl
theorem bp_range (l : List Int) (h : Bits l) : ∀ c : Nat, c ≤ 8 → 0 ≤ bp l c ∧ bp l c < ((2 ^ c : Nat) : Int)
  | 0, _ => ⟨Int.le_refl 0, show (0 : Int) < ((2 ^ 0 : Nat) : Int) by decide⟩
  | c + 1, hc => (or8_of _ _ c (by omega) (bp_range l h c (by omega)) (bit_getD h c)).2
theorem btiGo_bp (l : List Int) : ∀ (d i : Nat), i + d = l.length → btiGo (bp l i) i (l.drop i) = bp l l.length := by
  intro d
  induction d with
  | zero =>
    intro i hi
    rw [List.drop_of_length_le (by omega), show i = l.length by omega]
    rfl
  | succ d ih =>
    intro i hi
    rw [dropGetD l i (by omega), btiGo]
    exact ih (i + 1) (by omega)
theorem bti_bp (l : List Int) : bti l = bp l l.length := by
  have := btiGo_bp l l.length 0 (by omega)
  rw [List.drop_zero] at this
  exact this
def bitsAt (l : List Int) (q : Nat) : List Int := (l.take (8 * q + 8)).drop (8 * q)
theorem bitsAt_length (l : List Int) (q : Nat) (h : 8 * q + 8 ≤ l.length) : (bitsAt l q).length = 8 := by
  unfold bitsAt
  rw [List.length_drop, List.length_take]
  omega
theorem bitsAt_bits {l : List Int} (h : Bits l) (q : Nat) : Bits (bitsAt l q) := bits_take h _ _
theorem bitsAt_at (l : List Int) (q j : Nat) (hj : j < 8) : (bitsAt l q).getD j 0 = l.getD (8 * q + j) 0 := by
  unfold bitsAt
  rw [List.getD_eq_getElem?_getD, List.getElem?_drop, List.getElem?_take_of_lt (by omega), List.getD_eq_getElem?_getD]
def bytesL (l : List Int) : List Int := (List.range (l.length / 8)).map fun q => bti (bitsAt l q)
theorem bytesL_length (l : List Int) : (bytesL l).length = l.length / 8 := by simp [bytesL]
theorem bytesL_at (l : List Int) (q : Nat) (h : q < l.length / 8) : (bytesL l).getD q 0 = bti (bitsAt l q) := by
  simp [bytesL, List.getD_eq_getElem?_getD, List.getElem?_map, List.getElem?_range h]
theorem byte_bp (l : List Int) (q : Nat) (h : q < l.length / 8) : bti (bitsAt l q) = bp (bitsAt l q) 8 := by
  rw [bti_bp, bitsAt_length l q (by omega)]
theorem byte_range (l : List Int) (hb : Bits l) (q : Nat) (h : q < l.length / 8) : 0 ≤ bti (bitsAt l q) ∧ bti (bitsAt l q) ≤ 255 := by
  have := bp_range (bitsAt l q) (bitsAt_bits hb q) 8 (by omega)
  rw [byte_bp l q h]
  omega
theorem bytesL_bytes (l : List Int) (hb : Bits l) : Bytes (bytesL l) := by
  intro x hx
  simp only [bytesL, List.mem_map, List.mem_range] at hx
  obtain ⟨q, hq, rfl⟩ := hx
  exact byte_range l hb q hq
def symD (a b : Int) : Int := if a = 2 then 0 else if a = b then 0 else 1
def diffs : List Int → List Int → Int
  | a :: s, b :: w => symD a b + diffs s w
  | _, _ => 0
theorem symD_range (a b : Int) : 0 ≤ symD a b ∧ symD a b ≤ 1 := by
  unfold symD
  split
  · omega
  · split <;> omega
theorem diffs_range : ∀ (s w : List Int), 0 ≤ diffs s w ∧ diffs s w ≤ s.length
  | [], w => by simp [diffs]
  | a :: s, [] => by simp [diffs]; omega
  | a :: s, b :: w => by
    have h1 := symD_range a b
    have h2 := diffs_range s w
    simp only [diffs, List.length_cons]
    omega
def bdist (s b x y : Int) : Int := symD x (outX s b) + symD y (outY s b)
theorem bdist_range (s b x y : Int) : 0 ≤ bdist s b x y ∧ bdist s b x y ≤ 2 := by
  have h1 := symD_range x (outX s b)
  have h2 := symD_range y (outY s b)
  unfold bdist
  omega
def offer (cur c d : Int) : Int := if c < 0 then cur else if cur < 0 then c + d else if c + d < cur then c + d else cur
def costT (c : Int → Int) (x y : Int) (free : Bool) (t : Int) : Int :=
  if t % 2 = 1 ∧ free = false then -1 else offer (offer (-1) (c (t / 2)) (bdist (t / 2) (t % 2) x y)) (c (t / 2 + 2)) (bdist (t / 2 + 2) (t % 2) x y)
def prevT (c : Int → Int) (x y : Int) (free : Bool) (t : Int) : Int :=
  if t % 2 = 1 ∧ free = false then 0
  else if c (t / 2) < 0 then (if c (t / 2 + 2) < 0 then 0 else t / 2 + 2)
  else if c (t / 2 + 2) < 0 then t / 2
  else if c (t / 2 + 2) + bdist (t / 2 + 2) (t % 2) x y < c (t / 2) + bdist (t / 2) (t % 2) x y then t / 2 + 2 else t / 2
def In4 (s : Int) : Prop := 0 ≤ s ∧ s ≤ 3
theorem four {s : Int} (h : In4 s) : s = 0 ∨ s = 1 ∨ s = 2 ∨ s = 3 := by
  unfold In4 at h
  omega
theorem prevT_in (c : Int → Int) (x y : Int) (free : Bool) (t : Int) (h : In4 t) : In4 (prevT c x y free t) := by
  unfold In4 at h ⊢
  unfold prevT
  repeat' split
  all_goals omega
theorem costT_back (c : Int → Int) (x y : Int) (free : Bool) (t : Int) (h : In4 t) (h0 : 0 ≤ costT c x y free t) :
    0 ≤ c (prevT c x y free t) ∧ nxt (prevT c x y free t) (t % 2) = t ∧ (t % 2 = 1 → free = true) ∧
      costT c x y free t = c (prevT c x y free t) + bdist (prevT c x y free t) (t % 2) x y := by
  unfold In4 at h
  have r1 := bdist_range (t / 2) (t % 2) x y
  have r2 := bdist_range (t / 2 + 2) (t % 2) x y
  unfold costT at h0 ⊢
  unfold prevT nxt
  by_cases hf : t % 2 = 1 ∧ free = false
  · rw [if_pos hf] at h0
    omega
  rw [if_neg hf] at h0 ⊢
  have hfr : t % 2 = 1 → free = true := fun q => by
    cases free
    · exact absurd ⟨q, rfl⟩ hf
    · rfl
  rw [if_neg hf]
  by_cases h1 : c (t / 2) < 0
  · by_cases h2 : c (t / 2 + 2) < 0
    · exfalso
      unfold offer at h0
      rw [if_pos h2, if_pos h1] at h0
      omega
    · rw [if_pos h1, if_neg h2]
      refine ⟨by omega, by omega, hfr, ?_⟩
      unfold offer
      rw [if_neg h2, if_pos h1, if_pos (by omega)]
  · by_cases h2 : c (t / 2 + 2) < 0
    · rw [if_neg h1, if_pos h2]
      refine ⟨by omega, by omega, hfr, ?_⟩
      unfold offer
      rw [if_pos h2, if_neg h1, if_pos (by omega)]
    · rw [if_neg h1, if_neg h2]
      have e1 : offer (-1) (c (t / 2)) (bdist (t / 2) (t % 2) x y) = c (t / 2) + bdist (t / 2) (t % 2) x y := by
        unfold offer
        rw [if_neg h1, if_pos (by omega)]
      rw [e1]
      unfold offer
      rw [if_neg h2, if_neg (show ¬ c (t / 2) + bdist (t / 2) (t % 2) x y < 0 by omega)]
      by_cases h3 : c (t / 2 + 2) + bdist (t / 2 + 2) (t % 2) x y < c (t / 2) + bdist (t / 2) (t % 2) x y
      · rw [if_pos h3, if_pos h3]
        exact ⟨by omega, by omega, hfr, rfl⟩
      · rw [if_neg h3, if_neg h3]
        exact ⟨by omega, by omega, hfr, rfl⟩
theorem offer_cur (cur c d : Int) (h : 0 ≤ cur) (hd : 0 ≤ d) : 0 ≤ offer cur c d ∧ offer cur c d ≤ cur := by
  unfold offer
  repeat' split
  all_goals omega
theorem offer_new (cur c d : Int) (h : 0 ≤ c) (hd : 0 ≤ d) : 0 ≤ offer cur c d ∧ offer cur c d ≤ c + d := by
  unfold offer
  repeat' split
  all_goals omega
theorem costT_best (c : Int → Int) (x y : Int) (free : Bool) (s b : Int) (h : In4 s) (hb : b = 0 ∨ b = 1) (hf : b = 1 → free = true) (h0 : 0 ≤ c s) :
    0 ≤ costT c x y free (nxt s b) ∧ costT c x y free (nxt s b) ≤ c s + bdist s b x y := by
  unfold In4 at h
  have e : (2 * s + b) % 4 % 2 = b := by omega
  unfold costT nxt
  rw [e]
  have r1 := bdist_range ((2 * s + b) % 4 / 2) b x y
  have r2 := bdist_range ((2 * s + b) % 4 / 2 + 2) b x y
  rw [if_neg (fun q => by have := hf q.1; rw [this] at q; exact absurd q.2 (by decide))]
  by_cases hs : s < 2
  · have e2 : (2 * s + b) % 4 / 2 = s := by omega
    rw [e2] at r1 r2 ⊢
    have h1 := offer_new (-1) (c s) (bdist s b x y) h0 r1.1
    have h2 := offer_cur (offer (-1) (c s) (bdist s b x y)) (c (s + 2)) (bdist (s + 2) b x y) h1.1 r2.1
    omega
  · have e2 : (2 * s + b) % 4 / 2 + 2 = s := by omega
    rw [e2] at r2 ⊢
    exact offer_new _ (c s) (bdist s b x y) h0 r2.1
theorem offer_le (cur c d m : Int) (h : cur ≤ m) (hc : c + d ≤ m) : offer cur c d ≤ m := by
  unfold offer
  repeat' split
  all_goals omega
def costs (l : List Int) (n : Nat) : Nat → Int → Int
  | 0 => fun s => if s = 0 then 0 else -1
  | i + 1 => costT (costs l n i) (l.getD (2 * i) 0) (l.getD (2 * i + 1) 0) (decide (i < n))
theorem costs_le (l : List Int) (n : Nat) : ∀ (i : Nat) (s : Int), costs l n i s ≤ 2 * i
  | 0, s => by
    unfold costs
    split <;> omega
  | i + 1, s => by
    unfold costs costT
    have h1 := costs_le l n i (s / 2)
    have h2 := costs_le l n i (s / 2 + 2)
    have r1 := bdist_range (s / 2) (s % 2) (l.getD (2 * i) 0) (l.getD (2 * i + 1) 0)
    have r2 := bdist_range (s / 2 + 2) (s % 2) (l.getD (2 * i) 0) (l.getD (2 * i + 1) 0)
    split
    · omega
    · exact offer_le _ _ _ _ (offer_le _ _ _ _ (by omega) (by omega)) (by omega)
theorem costs_zero (l : List Int) (n : Nat) : ∀ i : Nat, 0 ≤ costs l n i 0
  | 0 => by
    unfold costs
    rw [if_pos rfl]
    omega
  | i + 1 => by
    have h := (costT_best (costs l n i) (l.getD (2 * i) 0) (l.getD (2 * i + 1) 0) (decide (i < n)) 0 0 ⟨by omega, by omega⟩ (.inl rfl) (fun q => by omega) (costs_zero l n i)).1
    exact h
def stB (l : List Int) (n m : Nat) : Nat → Int
  | 0 => 0
  | d + 1 => prevT (costs l n (m - (d + 1))) (l.getD (2 * (m - (d + 1))) 0) (l.getD (2 * (m - (d + 1)) + 1) 0) (decide (m - (d + 1) < n)) (stB l n m d)
def vst (l : List Int) (n i : Nat) : Int := stB l n (n + 2) (n + 2 - i)
theorem vst_end (l : List Int) (n : Nat) : vst l n (n + 2) = 0 := by
  unfold vst
  rw [Nat.sub_self]
  rfl
theorem vst_step (l : List Int) (n i : Nat) (h : i < n + 2) :
    vst l n i = prevT (costs l n i) (l.getD (2 * i) 0) (l.getD (2 * i + 1) 0) (decide (i < n)) (vst l n (i + 1)) := by
  unfold vst
  obtain ⟨d, hd⟩ : ∃ d, n + 2 - i = d + 1 := ⟨n + 1 - i, by omega⟩
  have e : n + 2 - (i + 1) = d := by omega
  have e2 : n + 2 - (d + 1) = i := by omega
  rw [hd, e, stB, e2]
theorem vst_in (l : List Int) (n : Nat) : ∀ (d i : Nat), i + d = n + 2 → In4 (vst l n i)
  | 0, i, h => by
    rw [show i = n + 2 by omega, vst_end]
    exact ⟨by omega, by omega⟩
  | d + 1, i, h => by
    rw [vst_step l n i (by omega)]
    exact prevT_in _ _ _ _ _ (vst_in l n d (i + 1) (by omega))
theorem vst_good (l : List Int) (n : Nat) : ∀ (d i : Nat), i + d = n + 2 → 0 ≤ costs l n i (vst l n i)
  | 0, i, h => by
    rw [show i = n + 2 by omega, vst_end]
    exact costs_zero l n _
  | d + 1, i, h => by
    rw [vst_step l n i (by omega)]
    have h1 := vst_good l n d (i + 1) (by omega)
    exact (costT_back _ _ _ _ _ (vst_in l n d (i + 1) (by omega)) h1).1
theorem vst_back (l : List Int) (n i : Nat) (h : i < n + 2) :
    nxt (vst l n i) (vst l n (i + 1) % 2) = vst l n (i + 1) ∧ (vst l n (i + 1) % 2 = 1 → i < n) ∧
      costs l n (i + 1) (vst l n (i + 1)) = costs l n i (vst l n i) + bdist (vst l n i) (vst l n (i + 1) % 2) (l.getD (2 * i) 0) (l.getD (2 * i + 1) 0) := by
  have h1 := vst_good l n (n + 1 - i) (i + 1) (by omega)
  have h2 := costT_back (costs l n i) (l.getD (2 * i) 0) (l.getD (2 * i + 1) 0) (decide (i < n)) _ (vst_in l n (n + 1 - i) (i + 1) (by omega)) h1
  rw [← vst_step l n i h] at h2
  exact ⟨h2.2.1, fun q => by simpa using h2.2.2.1 q, h2.2.2.2⟩
theorem vst_start (l : List Int) (n : Nat) : vst l n 0 = 0 := by
  have h := vst_good l n (n + 2) 0 (by omega)
  unfold costs at h
  by_cases q : vst l n 0 = 0
  · exact q
  · rw [if_neg q] at h
    omega
def vbits (l : List Int) (n : Nat) : List Int := (List.range n).map fun i => vst l n (i + 1) % 2
def vcost (l : List Int) (n : Nat) : Int := costs l n (n + 2) 0
theorem vbits_length (l : List Int) (n : Nat) : (vbits l n).length = n := by simp [vbits]
theorem vbits_at (l : List Int) (n i : Nat) (h : i < n) : (vbits l n).getD i 0 = vst l n (i + 1) % 2 := by
  simp [vbits, List.getD_eq_getElem?_getD, List.getElem?_map, List.getElem?_range h]
theorem vbits_bits (l : List Int) (n : Nat) : Bits (vbits l n) := by
  intro x hx
  simp only [vbits, List.mem_map] at hx
  obtain ⟨i, _, rfl⟩ := hx
  omega
theorem vbits_pad (l : List Int) (n i : Nat) (h : i < n + 2) : (vbits l n ++ [0, 0]).getD i 0 = vst l n (i + 1) % 2 := by
  rw [pad_getD, vbits_length]
  by_cases q : i < n
  · rw [if_pos q, vbits_at l n i q]
  · rw [if_neg q]
    have h1 := (vst_back l n i h).2.1
    omega
theorem diffs_step (l : List Int) (i : Nat) (hl : 2 * i + 1 < l.length) (s b : Int) (r : List Int) :
    diffs (l.drop (2 * i)) (convGo s (b :: r)) = bdist s b (l.getD (2 * i) 0) (l.getD (2 * i + 1) 0) + diffs (l.drop (2 * (i + 1))) (convGo (nxt s b) r) := by
  rw [drop_getD l (2 * i) (by omega), drop_getD l (2 * i + 1) (by omega), convGo, diffs, diffs, show 2 * i + 1 + 1 = 2 * (i + 1) by omega]
  unfold bdist
  omega
theorem vdiffs (l : List Int) (n : Nat) (hl : l.length = 2 * n + 4) : ∀ (d i : Nat), i + d = n + 2 →
    diffs (l.drop (2 * i)) (convGo (vst l n i) ((vbits l n ++ [0, 0]).drop i)) = vcost l n - costs l n i (vst l n i)
  | 0, i, h => by
    rw [show i = n + 2 by omega, vst_end, List.drop_of_length_le (by omega)]
    have e : ∀ w, diffs [] w = 0 := fun w => by cases w <;> rfl
    rw [e]
    unfold vcost
    omega
  | d + 1, i, h => by
    have hlen : (vbits l n ++ [0, 0]).length = n + 2 := by simp [vbits_length]
    obtain ⟨h1, h2, h3⟩ := vst_back l n i (by omega)
    rw [drop_getD (vbits l n ++ [0, 0]) i (by omega), vbits_pad l n i (by omega), diffs_step l i (by omega), h1, vdiffs l n hl d (i + 1) (by omega)]
    omega
theorem vbits_diffs (l : List Int) (n : Nat) (hl : l.length = 2 * n + 4) : diffs l (conv (vbits l n)) = vcost l n := by
  have h := vdiffs l n hl (n + 2) 0 (by omega)
  rw [vst_start] at h
  have e : costs l n 0 0 = 0 := by
    unfold costs
    rw [if_pos rfl]
  rw [e] at h
  unfold conv
  simpa using h
theorem vbest_go (l : List Int) (n : Nat) (hl : l.length = 2 * n + 4) (w : List Int) (hw : Bits w) (hwl : w.length = n) : ∀ (d i : Nat) (s : Int), i + d = n + 2 → In4 s → 0 ≤ costs l n i s →
    (d = 0 → s = 0) → (d = 1 → s = 0 ∨ s = 2) → vcost l n ≤ costs l n i s + diffs (l.drop (2 * i)) (convGo s ((w ++ [0, 0]).drop i))
  | 0, i, s, h, hs, h0, hz, _ => by
    rw [show i = n + 2 by omega, hz rfl]
    have := (diffs_range (l.drop (2 * (n + 2))) (convGo 0 ((w ++ [0, 0]).drop (n + 2)))).1
    unfold vcost
    omega
  | d + 1, i, s, h, hs, h0, _, h1 => by
    have hlen : (w ++ [0, 0]).length = n + 2 := by simp [hwl]
    have hb : (w ++ [0, 0]).getD i 0 = 0 ∨ (w ++ [0, 0]).getD i 0 = 1 := by
      rw [pad_getD]
      split
      · exact bits_getD hw i
      · exact .inl rfl
    have hb2 : ¬ i < n → (w ++ [0, 0]).getD i 0 = 0 := fun q => by rw [pad_getD, if_neg (by omega)]
    rw [drop_getD (w ++ [0, 0]) i (by omega), diffs_step l i (by omega)]
    generalize (w ++ [0, 0]).getD i 0 = b at hb hb2 ⊢
    have hc := costT_best (costs l n i) (l.getD (2 * i) 0) (l.getD (2 * i + 1) 0) (decide (i < n)) s b hs hb (fun q => by
      by_cases hi : i < n
      · simp [hi]
      · have := hb2 hi
        omega) h0
    have hn := nxt_range s b
    have hr : vcost l n ≤ costs l n (i + 1) (nxt s b) + diffs (l.drop (2 * (i + 1))) (convGo (nxt s b) ((w ++ [0, 0]).drop (i + 1))) := by
      refine vbest_go l n hl w hw hwl d (i + 1) (nxt s b) (by omega) hn hc.1 (fun q => ?_) (fun q => ?_)
      · have e := hb2 (by omega)
        have := h1 (by omega)
        unfold nxt
        omega
      · have e := hb2 (by omega)
        unfold In4 at hs
        unfold nxt
        omega
    have e : costs l n (i + 1) (nxt s b) = costT (costs l n i) (l.getD (2 * i) 0) (l.getD (2 * i + 1) 0) (decide (i < n)) (nxt s b) := rfl
    omega
theorem vbits_best (l : List Int) (n : Nat) (hl : l.length = 2 * n + 4) (w : List Int) (hw : Bits w) (hwl : w.length = n) : vcost l n ≤ diffs l (conv w) := by
  have e : costs l n 0 0 = 0 := by
    unfold costs
    rw [if_pos rfl]
  have h := vbest_go l n hl w hw hwl (n + 2) 0 0 (by omega) ⟨by omega, by omega⟩ (by omega) (fun _ => rfl) (fun _ => .inl rfl)
  rw [e] at h
  unfold conv
  simpa using h
theorem vcost_range (l : List Int) (n : Nat) : 0 ≤ vcost l n ∧ vcost l n ≤ 2 * n + 4 := by
  have h1 := costs_zero l n (n + 2)
  have h2 := costs_le l n (n + 2) 0
  unfold vcost
  omega
def Syms (l : List Int) : Prop := ∀ x ∈ l, 0 ≤ x ∧ x ≤ 2
theorem syms_all {l : List Int} (h : Syms l) : (l.all fun x => decide (0 ≤ x ∧ x ≤ 2)) = true := by
  rw [List.all_eq_true]
  intro x hx
  exact decide_eq_true (h x hx)
theorem all_syms {l : List Int} (h : (l.all fun x => decide (0 ≤ x ∧ x ≤ 2)) = true) : Syms l := by
  intro x hx
  rw [List.all_eq_true] at h
  exact of_decide_eq_true (h x hx)
def lenV (c : Nat) : Int := if c % 2 = 0 ∧ 4 ≤ c ∧ c ≤ 2004 then (c : Int) / 2 - 2 else -1
def vdec (l : List Int) : List Int × Int := if (l.all fun x => decide (0 ≤ x ∧ x ≤ 2)) = true ∧ l.length % 2 = 0 ∧ 4 ≤ l.length ∧ l.length ≤ 2004 then (vbits l (l.length / 2 - 2), vcost l (l.length / 2 - 2)) else ([], -1)
theorem vdec_good (l : List Int) (n : Nat) (hs : Syms l) (hn : n ≤ 1000) (hl : l.length = 2 * n + 4) : vdec l = (vbits l n, vcost l n) := by
  unfold vdec
  rw [if_pos ⟨syms_all hs, by omega, by omega, by omega⟩, show l.length / 2 - 2 = n by omega]
theorem vdec_length (l : List Int) : (vdec l).1.length ≤ 1000 := by
  unfold vdec
  split
  · show (vbits _ _).length ≤ 1000
    rw [vbits_length]
    omega
  · simp
theorem min_some (a b : Int) : impl_Min.f a b = some (if b < a then b else a) := by
  unfold impl_Min.f
  split <;> rfl
theorem isInter_some (a b : Int) : impl_isInterleaver.f a b = some (decide ((1 ≤ b ∧ b ≤ 64) ∧ (0 ≤ a ∧ a ≤ 10000))) := by
  unfold impl_isInterleaver.f
  by_cases h : 1 ≤ b ∧ b ≤ 64 <;> simp [in_some, h]
def idxS (a b x : Int) : Int := x * (a / b) + (if a % b < x then a % b else x)
def idxF (a b c : Int) : Int := idxS a b (c % b) + c / b
theorem idx_upper (a b c : Int) (hb : 1 ≤ b) (hc : 0 ≤ c ∧ c < a) : idxF a b c < idxS a b (c % b + 1) ∧ idxS a b (c % b) ≤ idxF a b c := by
  have h1 : b * (c / b) + c % b = c := Int.mul_ediv_add_emod c b
  have h2 : b * (a / b) + a % b = a := Int.mul_ediv_add_emod a b
  have m1 : 0 ≤ c % b := Int.emod_nonneg _ (by omega)
  have m2 : c % b < b := Int.emod_lt_of_pos _ (by omega)
  have m3 : 0 ≤ a % b := Int.emod_nonneg _ (by omega)
  have m4 : a % b < b := Int.emod_lt_of_pos _ (by omega)
  have d1 : 0 ≤ a / b := Int.ediv_nonneg (by omega) (by omega)
  have d3 : 0 ≤ c / b := Int.ediv_nonneg hc.1 (by omega)
  unfold idxF idxS
  generalize c % b = x at *
  generalize a % b = y at *
  generalize a / b = z at *
  generalize c / b = u at *
  rw [Int.add_mul]
  by_cases hxy : x < y
  · have hu : u ≤ z := by
      rcases Int.lt_or_le z u with h | h
      · exfalso
        have : b * (z + 1) ≤ b * u := Int.mul_le_mul_of_nonneg_left (by omega) (by omega)
        rw [Int.mul_add] at this
        omega
      · exact h
    rw [if_neg (by omega), if_neg (by omega)]
    omega
  · have hu : u < z := by
      rcases Int.lt_or_le u z with h | h
      · exact h
      · exfalso
        have : b * z ≤ b * u := Int.mul_le_mul_of_nonneg_left (by omega) (by omega)
        omega
    rw [if_pos (show y < x + 1 by omega)]
    have e : (if y < x then y else x) = y := by split <;> omega
    rw [e]
    omega
theorem idxS_mono (a b x x' : Int) (hb : 1 ≤ b) (ha : 0 ≤ a) (h : x ≤ x') : idxS a b x ≤ idxS a b x' := by
  unfold idxS
  have d1 : 0 ≤ a / b := Int.ediv_nonneg ha (by omega)
  have : x * (a / b) ≤ x' * (a / b) := Int.mul_le_mul_of_nonneg_right h d1
  split <;> split <;> omega
theorem idxF_range (a b c : Int) (hb : 1 ≤ b) (hc : 0 ≤ c ∧ c < a) : 0 ≤ idxF a b c ∧ idxF a b c < a := by
  obtain ⟨h1, h2⟩ := idx_upper a b c hb hc
  have m1 : 0 ≤ c % b := Int.emod_nonneg _ (by omega)
  have m2 : c % b < b := Int.emod_lt_of_pos _ (by omega)
  have m3 : 0 ≤ a % b := Int.emod_nonneg _ (by omega)
  have m4 : a % b < b := Int.emod_lt_of_pos _ (by omega)
  have k1 := idxS_mono a b 0 (c % b) hb (by omega) m1
  have k2 := idxS_mono a b (c % b + 1) b hb (by omega) (by omega)
  have e0 : idxS a b 0 = 0 := by
    unfold idxS
    rw [Int.zero_mul, if_neg (by omega)]
    omega
  have e1 : idxS a b b = a := by
    unfold idxS
    rw [if_pos m4]
    exact Int.mul_ediv_add_emod a b
  omega
theorem idxF_inj (a b c c' : Int) (hb : 1 ≤ b) (hc : 0 ≤ c ∧ c < a) (hc' : 0 ≤ c' ∧ c' < a) (h : idxF a b c = idxF a b c') : c = c' := by
  obtain ⟨h1, h2⟩ := idx_upper a b c hb hc
  obtain ⟨h3, h4⟩ := idx_upper a b c' hb hc'
  have e : c % b = c' % b := by
    rcases Int.lt_trichotomy (c % b) (c' % b) with k | k | k
    · have := idxS_mono a b (c % b + 1) (c' % b) hb (by omega) (by omega)
      omega
    · exact k
    · have := idxS_mono a b (c' % b + 1) (c % b) hb (by omega) (by omega)
      omega
  have e2 : c / b = c' / b := by
    unfold idxF at h
    rw [e] at h
    omega
  have h5 : b * (c / b) + c % b = c := Int.mul_ediv_add_emod c b
  have h6 : b * (c' / b) + c' % b = c' := Int.mul_ediv_add_emod c' b
  rw [← h5, ← h6, e, e2]
theorem idx_is (a b c : Int) (hb : 1 ≤ b ∧ b ≤ 64) (ha : 0 ≤ a ∧ a ≤ 10000) (hc : 0 ≤ c ∧ c < a) : impl_InterleavedIndex.f a b c = some (idxF a b c) := by
  have hr := idxF_range a b c hb.1 hc
  unfold impl_InterleavedIndex.f
  simp only [isInter_some, in_some, min_some, Option.bind_some]
  rw [if_pos (by simpa using ⟨hb, ha⟩), if_pos (by rw [w64s (by omega) (by omega)]; simp; omega), if_neg (by omega)]
  have e1 : Int.tmod c b = c % b := Int.tmod_eq_emod_of_nonneg hc.1
  have e2 : Int.tmod a b = a % b := Int.tmod_eq_emod_of_nonneg ha.1
  have e3 : Int.tdiv a b = a / b := Int.tdiv_eq_ediv_of_nonneg ha.1
  have e4 : Int.tdiv c b = c / b := Int.tdiv_eq_ediv_of_nonneg hc.1
  rw [e1, e2, e3, e4]
  unfold idxF idxS at *
  have m1 : 0 ≤ c % b := Int.emod_nonneg _ (by omega)
  have m2 : c % b < b := Int.emod_lt_of_pos _ (by omega)
  have m3 : 0 ≤ a % b := Int.emod_nonneg _ (by omega)
  have m4 : a % b < b := Int.emod_lt_of_pos _ (by omega)
  have d1 : 0 ≤ a / b := Int.ediv_nonneg ha.1 (by omega)
  have d2 : a / b ≤ a := Int.ediv_le_self _ ha.1
  have d3 : 0 ≤ c / b := Int.ediv_nonneg hc.1 (by omega)
  have d4 : c / b ≤ c := Int.ediv_le_self _ hc.1
  generalize c % b = x at *
  generalize a % b = y at *
  generalize a / b = z at *
  generalize c / b = u at *
  have hx : 0 ≤ x * z := Int.mul_nonneg m1 d1
  have hx2 : x * z ≤ 64 * 10000 := Int.mul_le_mul (by omega) (by omega) d1 (by omega)
  rw [w64s (n := z) (by omega) (by omega), w64s (n := u) (by omega) (by omega)]
  have hmn : 0 ≤ (if y < x then y else x) ∧ (if y < x then y else x) ≤ 64 := by split <;> omega
  generalize (if y < x then y else x) = q at *
  generalize x * z = v at *
  rw [w64s (n := v) (by omega) (by omega), w64s (n := v + q) (by omega) (by omega), w64s (n := v + q + u) (by omega) (by omega)]
def ipl (l : List Int) (b : Int) (c : Nat) : Nat := (idxF (l.length : Int) b (c : Int)).toNat
def intGo (l : List Int) (b : Int) : Nat → Nat → List Int → List Int
  | 0, _, x => x
  | d + 1, i, x => intGo l b d (i + 1) (x.set (ipl l b i) (l.getD i 0))
def deGo (l : List Int) (b : Int) : Nat → Nat → List Int → List Int
  | 0, _, x => x
  | d + 1, i, x => deGo l b d (i + 1) (x.set i (l.getD (ipl l b i) 0))
theorem intGo_length (l : List Int) (b : Int) : ∀ (d i : Nat) (x : List Int), (intGo l b d i x).length = x.length
  | 0, _, _ => rfl
  | d + 1, i, x => by
    unfold intGo
    rw [intGo_length l b d]
    simp
theorem deGo_length (l : List Int) (b : Int) : ∀ (d i : Nat) (x : List Int), (deGo l b d i x).length = x.length
  | 0, _, _ => rfl
  | d + 1, i, x => by
    unfold deGo
    rw [deGo_length l b d]
    simp
theorem ipl_lt (l : List Int) (b : Int) (hb : 1 ≤ b) (c : Nat) (h : c < l.length) : ipl l b c < l.length ∧ ((ipl l b c : Nat) : Int) = idxF (l.length : Int) b (c : Int) := by
  have := idxF_range (l.length : Int) b (c : Int) hb (by omega)
  unfold ipl
  omega
theorem ipl_inj (l : List Int) (b : Int) (hb : 1 ≤ b) (c e : Nat) (h : c < l.length) (h' : e < l.length) (q : ipl l b c = ipl l b e) : c = e := by
  have h1 := (ipl_lt l b hb c h).2
  have h2 := (ipl_lt l b hb e h').2
  have := idxF_inj (l.length : Int) b (c : Int) (e : Int) hb (by omega) (by omega) (by omega)
  omega
theorem step_up (f : Int → Int) (p : Int) : ∀ n : Nat, f 0 ≤ p → p < f n → ∃ x : Nat, x < n ∧ f (x : Int) ≤ p ∧ p < f ((x : Int) + 1)
  | 0, h0, h1 => absurd h1 (by simp; omega)
  | n + 1, h0, h1 => by
    by_cases h : f (n : Int) ≤ p
    · exact ⟨n, by omega, h, by simpa using h1⟩
    · obtain ⟨x, hx, h2, h3⟩ := step_up f p n h0 (by omega)
      exact ⟨x, by omega, h2, h3⟩
theorem idxF_surj (a b p : Int) (hb : 1 ≤ b) (hp : 0 ≤ p ∧ p < a) : ∃ c : Int, (0 ≤ c ∧ c < a) ∧ idxF a b c = p := by
  have m3 : 0 ≤ a % b := Int.emod_nonneg _ (by omega)
  have m4 : a % b < b := Int.emod_lt_of_pos _ (by omega)
  have d1 : 0 ≤ a / b := Int.ediv_nonneg (by omega) (by omega)
  have e0 : idxS a b 0 = 0 := by
    unfold idxS
    rw [Int.zero_mul, if_neg (by omega)]
    omega
  have e1 : idxS a b b = a := by
    unfold idxS
    rw [if_pos m4]
    exact Int.mul_ediv_add_emod a b
  obtain ⟨x, hx, h2, h3⟩ := step_up (idxS a b) p b.toNat (by omega) (by rw [show ((b.toNat : Nat) : Int) = b by omega, e1]; omega)
  have hu : 0 ≤ p - idxS a b x := by omega
  have hm : ((p - idxS a b x) * b + x) % b = x := by
    rw [Int.add_comm, Int.add_mul_emod_self_right]
    exact Int.emod_eq_of_lt (by omega) (by omega)
  have hd : ((p - idxS a b x) * b + x) / b = p - idxS a b x := by
    rw [Int.add_comm, Int.add_mul_ediv_right _ _ (by omega), Int.ediv_eq_zero_of_lt (by omega) (by omega)]
    omega
  have hlt : (p - idxS a b x) * b + x < a := by
    have e2 : b * (a / b) + a % b = a := Int.mul_ediv_add_emod a b
    have e3 : idxS a b ((x : Int) + 1) = idxS a b x + a / b + (if (x : Int) < a % b then 1 else 0) := by
      unfold idxS
      rw [Int.add_mul, Int.one_mul]
      split <;> split <;> split <;> omega
    rw [e3] at h3
    have hu2 : p - idxS a b x < a / b + (if (x : Int) < a % b then 1 else 0) := by omega
    clear hm hd hu e3 h3 h2
    generalize p - idxS a b x = u at *
    by_cases hxy : (x : Int) < a % b
    · rw [if_pos hxy] at hu2
      have : u * b ≤ (a / b) * b := Int.mul_le_mul_of_nonneg_right (by omega) (by omega)
      rw [Int.mul_comm (a / b) b] at this
      omega
    · rw [if_neg hxy] at hu2
      have : (u + 1) * b ≤ (a / b) * b := Int.mul_le_mul_of_nonneg_right (by omega) (by omega)
      rw [Int.mul_comm (a / b) b, Int.add_mul] at this
      omega
  refine ⟨(p - idxS a b x) * b + x, ⟨?_, hlt⟩, ?_⟩
  · have := Int.mul_nonneg hu (show 0 ≤ b by omega)
    omega
  · unfold idxF
    rw [hm, hd]
    omega
theorem ipl_surj (l : List Int) (b : Int) (hb : 1 ≤ b) (p : Nat) (hp : p < l.length) : ∃ c : Nat, c < l.length ∧ ipl l b c = p := by
  obtain ⟨c, hc, e⟩ := idxF_surj (l.length : Int) b (p : Int) hb (by omega)
  obtain ⟨c, rfl⟩ := Int.eq_ofNat_of_zero_le hc.1
  refine ⟨c, by omega, ?_⟩
  unfold ipl
  rw [e]
  omega
theorem intGo_at (l : List Int) (b : Int) (hb : 1 ≤ b) : ∀ (d i : Nat) (x : List Int), i + d = l.length → x.length = l.length → (∀ j, j < i → x.getD (ipl l b j) 0 = l.getD j 0) → ∀ j, j < l.length → (intGo l b d i x).getD (ipl l b j) 0 = l.getD j 0 := by
  intro d
  induction d with
  | zero =>
    intro i x hi hx hj j h
    exact hj j (by omega)
  | succ d ih =>
    intro i x hi hx hj j h
    unfold intGo
    refine ih (i + 1) _ (by omega) (by simpa using hx) (fun j hj' => ?_) j h
    have := (ipl_lt l b hb j (by omega)).1
    rw [getD_set]
    by_cases e : i = j
    · subst e
      rw [if_pos ⟨rfl, by omega⟩]
    · rw [if_neg (fun q => e (ipl_inj l b hb i j (by omega) (by omega) q.1))]
      exact hj j (by omega)
theorem deGo_at (l : List Int) (b : Int) : ∀ (d i : Nat) (x : List Int), i + d = l.length → x.length = l.length → (∀ j, j < i → x.getD j 0 = l.getD (ipl l b j) 0) → ∀ j, j < l.length → (deGo l b d i x).getD j 0 = l.getD (ipl l b j) 0 := by
  intro d
  induction d with
  | zero =>
    intro i x hi hx hj j h
    exact hj j (by omega)
  | succ d ih =>
    intro i x hi hx hj j h
    unfold deGo
    refine ih (i + 1) _ (by omega) (by simpa using hx) (fun j hj' => ?_) j h
    rw [getD_set]
    by_cases e : i = j
    · subst e
      rw [if_pos ⟨rfl, by omega⟩]
    · rw [if_neg (fun q => e q.1)]
      exact hj j (by omega)
def intL (l : List Int) (b : Int) : List Int := if (1 ≤ b ∧ b ≤ 64) ∧ (0 ≤ (l.length : Int) ∧ (l.length : Int) ≤ 10000) then intGo l b l.length 0 l else l
def deL (l : List Int) (b : Int) : List Int := if (1 ≤ b ∧ b ≤ 64) ∧ (0 ≤ (l.length : Int) ∧ (l.length : Int) ≤ 10000) then deGo l b l.length 0 l else l
theorem intL_length (l : List Int) (b : Int) : (intL l b).length = l.length := by
  unfold intL
  split
  · exact intGo_length _ _ _ _ _
  · rfl
theorem deL_length (l : List Int) (b : Int) : (deL l b).length = l.length := by
  unfold deL
  split
  · exact deGo_length _ _ _ _ _
  · rfl
def rxC (a0 a1 : Int) (p : List Int) : List Int := if a0 = 2 then depunct (deL p 8) 0 0 (16 * a1 + 36).toNat else deL p 8
def rxB (a0 a1 a2 : Int) (p : List Int) : List Int := bytesL (scrL a2 (vdec (rxC a0 a1 p)).1)
def rxE (a0 a1 a2 : Int) (p : List Int) : Int × Int × Int × List Int × Int :=
  if (vdec (rxC a0 a1 p)).2 < 0 then (a0, a1, a2, [], 2) else if (chkV (rxB a0 a1 a2 p)).2 = true then (a0, a1, a2, (chkV (rxB a0 a1 a2 p)).1, 0) else (a0, a1, a2, [], 2)
def psym (a0 a1 : Int) : Nat := if a0 = 2 then (16 * a1 + 36).toNat - (16 * a1 + 36).toNat / 4 else (16 * a1 + 36).toNat
theorem rxC_length (a0 a1 : Int) (p : List Int) (hp : p.length = psym a0 a1) : (rxC a0 a1 p).length = (16 * a1 + 36).toNat := by
  unfold rxC
  unfold psym at hp
  split at hp
  · rw [if_pos (by assumption), depunct_length]
  · rw [if_neg (by assumption), deL_length, hp]
theorem vdec_bits (l : List Int) : Bits (vdec l).1 := by
  unfold vdec
  split
  · exact vbits_bits _ _
  · intro x hx
    simp at hx
theorem vdec_len8 (l : List Int) (n : Nat) (h : l.length = 16 * n + 36) : ∃ m : Nat, (vdec l).1.length = 8 * m ∧ m ≤ 125 := by
  have hr := vdec_length l
  unfold vdec at hr ⊢
  split at hr
  · rw [if_pos (by assumption)]
    dsimp only at hr ⊢
    rw [vbits_length] at hr ⊢
    exact ⟨n + 2, by omega, by omega⟩
  · rw [if_neg (by assumption)]
    exact ⟨0, rfl, by omega⟩
def rxV (h : Int × Int × Int × Bool) (l : List Int) : Int × Int × Int × List Int × Int :=
  if h.2.2.2 = true ∧ l.length = 54 + psym h.1 h.2.1 then rxE h.1 h.2.1 h.2.2.1 (l.drop 54) else (0, 0, 0, [], 1)
theorem hdrV_ok (b : List Int) (h : (hdrV b).2.2.2 = true) : validH (hdrV b).1 (hdrV b).2.1 (hdrV b).2.2.1 := by
  unfold hdrV at h ⊢
  split at h
  · rename_i q
    rw [if_pos q]
    exact q.2
  · exact absurd h (by decide)
theorem icoded_some (a0 a1 a2 : Int) (h : validH a0 a1 a2) : impl_codedSymbols.f a0 a1 a2 = some (((16 * a1 + 36).toNat : Nat) : Int) := by
  unfold validH at h
  unfold impl_codedSymbols.f impl_EncodedLength.f
  rw [w64s (n := a1 + 2) (by omega) (by omega), w64s (n := 8 * (a1 + 2)) (by omega) (by omega), in_some]
  simp only [Option.bind_some]
  rw [if_pos (dt (by omega)), w64s (n := 8 * (a1 + 2) + 2) (by omega) (by omega), w64s (by omega) (by omega)]
  simp only [Option.bind_some]
  congr 1
  omega
theorem ipay_some (a0 a1 a2 : Int) (h : validH a0 a1 a2) : impl_PayloadSymbols.f a0 a1 a2 = some ((psym a0 a1 : Nat) : Int) := by
  have hv := h
  unfold validH at hv
  unfold impl_PayloadSymbols.f psym
  rw [valid_some, icoded_some a0 a1 a2 h]
  simp only [Option.bind_some]
  rw [if_pos (dt hv)]
  by_cases h2 : a0 = 2
  · rw [if_pos h2, if_pos h2, plen_some _ (by omega)]
    rfl
  · rw [if_neg h2, if_neg h2]
theorem ide_loop (l : List Int) (b : Int) (hb : 1 ≤ b ∧ b ≤ 64) (hn : l.length ≤ 10000) : ∀ (d i : Nat) (x : List Int), i + d = l.length → x.length = l.length → Ev (fun k => impl_Deinterleave.l0 k l b x l.length i) (deGo l b d i x) := by
  intro d
  induction d with
  | zero =>
    intro i x hi hx
    exact ev1 (evn (by omega) (evc rfl))
  | succ d ih =>
    intro i x hi hx
    obtain ⟨h1, h2⟩ := ipl_lt l b hb.1 i (by omega)
    refine ev1 (evp (by omega) (evs (idx_is _ _ _ hb (by omega) (by omega)) ?_))
    rw [← h2, rd_nat, w64s (n := (i : Int) + 1) (by omega) (by omega), Int.toNat_natCast]
    exact evp (by omega) (evp (by omega) (evp (by omega) (evp (by omega) (ih (i + 1) _ (by omega) (by simpa using hx)))))
theorem ide_ev (l : List Int) (b : Int) (hn : l.length ≤ 4000000) : Ev (fun k => impl_Deinterleave.f k l b) (deL l b) := by
  unfold impl_Deinterleave.f deL
  refine evs (show impl_copyInts.f l = some l from if_pos (by omega)) (evs (isInter_some _ _) ?_)
  by_cases h : (1 ≤ b ∧ b ≤ 64) ∧ (0 ≤ (l.length : Int) ∧ (l.length : Int) ≤ 10000)
  · rw [if_pos h]
    exact evp (dt h) (ide_loop l b h.1 (by omega) l.length 0 l (by omega) rfl)
  · rw [if_neg h]
    exact evn (dnt h) (evc rfl)
theorem ipair_some (s b : Int) (hs : 0 ≤ s ∧ s ≤ 3) (hb : b = 0 ∨ b = 1) : impl_OutputPair.f s b = some (outX s b, outY s b) ∧ impl_NextState.f s b = some (nxt s b) := by
  have hc : s = 0 ∨ s = 1 ∨ s = 2 ∨ s = 3 := by omega
  rcases hc with rfl | rfl | rfl | rfl <;> rcases hb with rfl | rfl <;> exact ⟨by decide +kernel, by decide +kernel⟩
theorem isym_loop (l : List Int) (hn : l.length ≤ 4000000000000000) : ∀ (d i : Nat), i + d = l.length → Ev (fun k => impl_IsSymbolString.l0 k l l.length i) ((l.drop i).all fun x => decide (0 ≤ x ∧ x ≤ 2)) := by
  intro d
  induction d with
  | zero =>
    intro i hi
    rw [List.drop_of_length_le (by omega)]
    exact ev1 (evn (by omega) (evc rfl))
  | succ d ih =>
    intro i hi
    refine ev1 (evp (by omega) (evp (by omega) (evp (by omega) ?_)))
    rw [drop_getD l i (by omega), List.all_cons, rd_nat, w64s (n := (i : Int) + 1) (by omega) (by omega)]
    have hrec := ih (i + 1) (by omega)
    by_cases h0 : l.getD i 0 = 0
    · rw [decide_eq_true (by omega), Bool.true_and]
      exact evp h0 hrec
    · refine evn h0 ?_
      by_cases h1 : l.getD i 0 = 1
      · rw [decide_eq_true (by omega), Bool.true_and]
        exact evp h1 hrec
      · refine evn h1 ?_
        by_cases h2 : l.getD i 0 = 2
        · rw [decide_eq_true (by omega), Bool.true_and]
          exact evp h2 hrec
        · rw [decide_eq_false (by omega), Bool.false_and]
          exact evn h2 (evc rfl)
theorem isym_ev (l : List Int) (hn : l.length ≤ 4000000000000000) : Ev (fun k => impl_IsSymbolString.f k l) (l.all fun x => decide (0 ≤ x ∧ x ≤ 2)) := isym_loop l hn l.length 0 (by omega)
theorem isymD_some (a b : Int) : impl_symbolDistance.f a b = some (symD a b) := by
  unfold impl_symbolDistance.f symD
  split
  · rfl
  · split <;> rfl
theorem ibd_some (s b x y : Int) (hs : In4 s) (hb : b = 0 ∨ b = 1) : impl_BranchDistance.f s b x y = some (bdist s b x y) := by
  unfold impl_BranchDistance.f
  rw [(ipair_some s b hs hb).1]
  simp only [Option.bind_some]
  rw [isymD_some, isymD_some]
  simp only [Option.bind_some]
  have h1 := symD_range x (outX s b)
  have h2 := symD_range y (outY s b)
  rw [w64s (by omega) (by omega)]
  rfl
def pr (l : List Int) (t : Int) : Int × Int := (rd l t, rd l (4 + t))
def updP (p : Int × Int) (c d s : Int) : Int × Int := if p.1 < 0 then (c + d, s) else if c + d < p.1 then (c + d, s) else p
def updL (l : List Int) (t c d s : Int) : List Int := if rd l t < 0 then (l.set t.toNat (c + d)).set (4 + t.toNat) s else if c + d < rd l t then (l.set t.toNat (c + d)).set (4 + t.toNat) s else l
theorem updL_length (l : List Int) (t c d s : Int) : (updL l t c d s).length = l.length := by
  unfold updL
  split
  · simp
  · split <;> simp
theorem pr_set (l : List Int) (t u x y : Int) (hl : l.length = 8) (ht : In4 t) (hu : In4 u) : pr ((l.set t.toNat x).set (4 + t.toNat) y) u = if t = u then (x, y) else pr l u := by
  unfold In4 at ht hu
  unfold pr rd
  rw [getD_set, getD_set, getD_set, getD_set]
  simp only [List.length_set, hl]
  by_cases e : t = u
  · subst e
    rw [if_neg (by omega), if_pos (by omega), if_pos (by omega), if_pos rfl]
  · rw [if_neg (by omega), if_neg (by omega), if_neg (by omega), if_neg (by omega), if_neg e]
theorem pr_upd (l : List Int) (t u c d s : Int) (hl : l.length = 8) (ht : In4 t) (hu : In4 u) : pr (updL l t c d s) u = if t = u then updP (pr l u) c d s else pr l u := by
  unfold updL
  by_cases h1 : rd l t < 0
  · rw [if_pos h1, pr_set l t u _ _ hl ht hu]
    by_cases e : t = u
    · subst e
      rw [if_pos rfl, if_pos rfl]
      unfold updP pr
      rw [if_pos h1]
    · rw [if_neg e, if_neg e]
  · rw [if_neg h1]
    by_cases h2 : c + d < rd l t
    · rw [if_pos h2, pr_set l t u _ _ hl ht hu]
      by_cases e : t = u
      · subst e
        rw [if_pos rfl, if_pos rfl]
        unfold updP pr
        rw [if_neg h1, if_pos h2]
      · rw [if_neg e, if_neg e]
    · rw [if_neg h2]
      by_cases e : t = u
      · subst e
        rw [if_pos rfl]
        unfold updP pr
        rw [if_neg h1, if_neg h2]
      · rw [if_neg e]
theorem ext1_some (s : List Int) (x y st b : Int) (nx : List Int) (hs : In4 st) (hb : b = 0 ∨ b = 1) (h0 : 0 ≤ rd s st) (h1 : rd s st ≤ 1000000) :
    ext1 s x y st b nx = some (updL nx (nxt st b) (rd s st) (bdist st b x y) st) := by
  have hn := nxt_range st b
  have hd := bdist_range st b x y
  unfold ext1 updL
  rw [(ipair_some st b hs hb).2, ibd_some st b x y hs hb]
  simp only [Option.bind_some]
  rw [if_pos hn.1, if_pos (by omega), w64s (n := rd s st + bdist st b x y) (by omega) (by omega)]
  split
  · rfl
  · split <;> rfl
def rowL (s : List Int) (x y : Int) (oz : Bool) (st : Int) (nx : List Int) : List Int :=
  if rd s st < 0 then nx else if oz = true then updL nx (nxt st 0) (rd s st) (bdist st 0 x y) st else updL (updL nx (nxt st 0) (rd s st) (bdist st 0 x y) st) (nxt st 1) (rd s st) (bdist st 1 x y) st
theorem rowL_length (s : List Int) (x y : Int) (oz : Bool) (st : Int) (nx : List Int) : (rowL s x y oz st nx).length = nx.length := by
  unfold rowL
  split
  · rfl
  · split
    · exact updL_length _ _ _ _ _
    · rw [updL_length, updL_length]
theorem extI_some (s : List Int) (x y : Int) (oz : Bool) (st : Int) (nx : List Int) (hs : In4 st) (h0 : ¬ rd s st < 0) (h1 : rd s st ≤ 1000000) : extI s x y oz st 3 0 nx = some (rowL s x y oz st nx) := by
  have e0 := fun nx => ext1_some s x y st 0 nx hs (.inl rfl) (by omega) h1
  have e1 := fun nx => ext1_some s x y st 1 nx hs (.inr rfl) (by omega) h1
  have w1 : wrap64 1 = 1 := w64s (by omega) (by omega)
  have w2 : wrap64 2 = 2 := w64s (by omega) (by omega)
  unfold rowL
  rw [if_neg h0]
  cases oz with
  | true =>
    simp [extI, w1, w2, e0]
  | false =>
    simp [extI, w1, w2, e0, e1]
theorem extO_some (s : List Int) (x y : Int) (oz : Bool) (hc : ∀ st, In4 st → rd s st ≤ 1000000) (nx : List Int) : extO s x y oz 5 0 nx = some (rowL s x y oz 3 (rowL s x y oz 2 (rowL s x y oz 1 (rowL s x y oz 0 nx)))) := by
  have step : ∀ (k : Nat) (st : Int) (nx : List Int), In4 st → extO s x y oz (k + 1) st nx = extO s x y oz k (st + 1) (rowL s x y oz st nx) := by
    intro k st nx hs
    have hs2 := hs
    unfold In4 at hs2
    rw [extO, if_pos (by omega), if_pos hs2.1, w64s (n := st + 1) (by omega) (by omega)]
    by_cases h : rd s st < 0
    · rw [if_pos h]
      congr 1
      unfold rowL
      rw [if_pos h]
    · rw [if_neg h, extI_some s x y oz st nx hs h (hc st hs)]
      rfl
  rw [step 4 0 nx ⟨by omega, by omega⟩, step 3 (0 + 1) _ ⟨by omega, by omega⟩, step 2 (0 + 1 + 1) _ ⟨by omega, by omega⟩, step 1 (0 + 1 + 1 + 1) _ ⟨by omega, by omega⟩]
  rfl
theorem pr_row (s : List Int) (x y : Int) (oz : Bool) (st u : Int) (nx : List Int) (hl : nx.length = 8) (hu : In4 u) :
    pr (rowL s x y oz st nx) u = if rd s st < 0 then pr nx u else if nxt st 0 = u then updP (pr nx u) (rd s st) (bdist st 0 x y) st else if nxt st 1 = u ∧ oz = false then updP (pr nx u) (rd s st) (bdist st 1 x y) st else pr nx u := by
  unfold rowL
  by_cases h : rd s st < 0
  · rw [if_pos h, if_pos h]
  · rw [if_neg h, if_neg h]
    have hne : nxt st 0 ≠ nxt st 1 := by unfold nxt; omega
    cases oz with
    | true =>
      rw [if_pos rfl, pr_upd nx _ u _ _ _ hl (nxt_range _ _) hu]
      by_cases e : nxt st 0 = u
      · rw [if_pos e, if_pos e]
      · rw [if_neg e, if_neg e, if_neg (fun q => by simp at q)]
    | false =>
      rw [if_neg (by decide), pr_upd _ _ u _ _ _ (by rw [updL_length]; exact hl) (nxt_range _ _) hu, pr_upd nx _ u _ _ _ hl (nxt_range _ _) hu]
      by_cases e : nxt st 0 = u
      · rw [if_neg (fun q => hne (e.trans q.symm)), if_pos e, if_pos e]
      · by_cases e1 : nxt st 1 = u
        · rw [if_pos e1, if_neg e, if_neg e, if_pos ⟨e1, rfl⟩]
        · rw [if_neg e1, if_neg e, if_neg e, if_neg (fun q => e1 q.1)]
def svL (l : List Int) (n : Nat) : Nat → List Int
  | 0 => [0, -1, -1, -1, 0, 0, 0, 0]
  | i + 1 => [costs l n (i + 1) 0, costs l n (i + 1) 1, costs l n (i + 1) 2, costs l n (i + 1) 3] ++ [0, 1, 2, 3].map (prevT (costs l n i) (l.getD (2 * i) 0) (l.getD (2 * i + 1) 0) (decide (i < n)))
theorem svL_length (l : List Int) (n i : Nat) : (svL l n i).length = 8 := by
  cases i <;> rfl
theorem svL_cost (l : List Int) (n i : Nat) (s : Int) (h : In4 s) : rd (svL l n i) s = costs l n i s := by
  rcases four h with rfl | rfl | rfl | rfl <;> cases i <;> rfl
theorem svL_prev (l : List Int) (n i : Nat) (s : Int) (h : In4 s) : rd (svL l n (i + 1)) (4 + s) = prevT (costs l n i) (l.getD (2 * i) 0) (l.getD (2 * i + 1) 0) (decide (i < n)) s := by
  rcases four h with rfl | rfl | rfl | rfl <;> rfl
theorem pr_ext {a b : List Int} (ha : a.length = 8) (hb : b.length = 8) (h : ∀ u, In4 u → pr a u = pr b u) : a = b := by
  refine list_ext (by omega) (fun i hi => ?_)
  by_cases q : i < 4
  · have h1 := congrArg Prod.fst (h (i : Int) ⟨by omega, by omega⟩)
    simpa [pr, rd] using h1
  · obtain ⟨j, rfl⟩ : ∃ j, i = 4 + j := ⟨i - 4, by omega⟩
    have h1 := congrArg Prod.snd (h (j : Int) ⟨by omega, by omega⟩)
    unfold pr rd at h1
    rw [show ((4 : Int) + (j : Int)).toNat = 4 + j by omega] at h1
    exact h1
theorem two_offers (c0 c1 d0 d1 s0 s1 : Int) (h0 : 0 ≤ d0) (h1 : 0 ≤ d1) :
    (if c1 < 0 then (if c0 < 0 then ((-1 : Int), (0 : Int)) else updP (-1, 0) c0 d0 s0) else updP (if c0 < 0 then ((-1 : Int), (0 : Int)) else updP (-1, 0) c0 d0 s0) c1 d1 s1) =
      (offer (offer (-1) c0 d0) c1 d1, if c0 < 0 then (if c1 < 0 then 0 else s1) else if c1 < 0 then s0 else if c1 + d1 < c0 + d0 then s1 else s0) := by
  unfold offer updP
  by_cases a : c0 < 0 <;> by_cases b : c1 < 0
  · simp [a, b]
  · simp [a, b]
  · simp [a, b]
  · have f : ¬ c0 + d0 < 0 := by omega
    by_cases e : c1 + d1 < c0 + d0
    · simp [a, b, e, f]
    · simp [a, b, e, f]
theorem ext_some (l : List Int) (n i : Nat) (hn : n ≤ 1000) (hi : i < n + 2) : impl_extendSurvivors.f (svL l n i) (l.getD (2 * i) 0) (l.getD (2 * i + 1) 0) (decide ((i : Int) ≥ (n : Int))) = some (svL l n (i + 1)) := by
  have hle : ∀ st, In4 st → rd (svL l n i) st ≤ 1000000 := fun st hs => by
    rw [svL_cost l n i st hs]
    have := costs_le l n i st
    omega
  unfold impl_extendSurvivors.f
  rw [if_pos (svL_length l n i), extO_some _ _ _ _ hle]
  congr 1
  have hoz : decide ((i : Int) ≥ (n : Int)) = !decide (i < n) := by
    by_cases q : i < n
    · rw [decide_eq_true q, decide_eq_false (by omega)]
      rfl
    · rw [decide_eq_false q, decide_eq_true (by omega)]
      rfl
  rw [hoz]
  have c0 := svL_cost l n i 0 ⟨by omega, by omega⟩
  have c1 := svL_cost l n i 1 ⟨by omega, by omega⟩
  have c2 := svL_cost l n i 2 ⟨by omega, by omega⟩
  have c3 := svL_cost l n i 3 ⟨by omega, by omega⟩
  generalize hx : l.getD (2 * i) 0 = x
  generalize hy : l.getD (2 * i + 1) 0 = y
  have r0 := fun s b => (bdist_range s b x y).1
  have hi0 : (([-1, -1, -1, -1, 0, 0, 0, 0] : List Int)).length = 8 := rfl
  refine pr_ext (by simp only [rowL_length]; rfl) (svL_length _ _ _) (fun u hu => ?_)
  have hR : pr (svL l n (i + 1)) u = (costT (costs l n i) x y (decide (i < n)) u, prevT (costs l n i) x y (decide (i < n)) u) := by
    unfold pr
    rw [svL_cost l n (i + 1) u hu, svL_prev l n i u hu, hx, hy]
    show (costT (costs l n i) (l.getD (2 * i) 0) (l.getD (2 * i + 1) 0) (decide (i < n)) u, _) = _
    rw [hx, hy]
  rw [hR, pr_row _ _ _ _ _ _ _ (by simp only [rowL_length]; rfl) hu, pr_row _ _ _ _ _ _ _ (by simp only [rowL_length]; rfl) hu, pr_row _ _ _ _ _ _ _ (by simp only [rowL_length]; rfl) hu, pr_row _ _ _ _ _ _ _ rfl hu, c0, c1, c2, c3]
  have hp : pr ([-1, -1, -1, -1, 0, 0, 0, 0] : List Int) u = (-1, 0) := by rcases four hu with rfl | rfl | rfl | rfl <;> rfl
  rw [hp]
  have n00 : nxt 0 0 = 0 := rfl
  have n01 : nxt 0 1 = 1 := rfl
  have n10 : nxt 1 0 = 2 := rfl
  have n11 : nxt 1 1 = 3 := rfl
  have n20 : nxt 2 0 = 0 := rfl
  have n21 : nxt 2 1 = 1 := rfl
  have n30 : nxt 3 0 = 2 := rfl
  have n31 : nxt 3 1 = 3 := rfl
  rw [n00, n01, n10, n11, n20, n21, n30, n31]
  unfold costT prevT
  rcases four hu with rfl | rfl | rfl | rfl
  · have h := two_offers (costs l n i 0) (costs l n i 2) (bdist 0 0 x y) (bdist 2 0 x y) 0 2 (r0 _ _) (r0 _ _)
    simpa using h
  · cases decide (i < n) with
    | true =>
      have h := two_offers (costs l n i 0) (costs l n i 2) (bdist 0 1 x y) (bdist 2 1 x y) 0 2 (r0 _ _) (r0 _ _)
      simpa using h
    | false => simp
  · have h := two_offers (costs l n i 1) (costs l n i 3) (bdist 1 0 x y) (bdist 3 0 x y) 1 3 (r0 _ _) (r0 _ _)
    simpa using h
  · cases decide (i < n) with
    | true =>
      have h := two_offers (costs l n i 1) (costs l n i 3) (bdist 1 1 x y) (bdist 3 1 x y) 1 3 (r0 _ _) (r0 _ _)
      simpa using h
    | false => simp
def svs (l : List Int) (n c : Nat) : List (List Int) := (List.range c).map (svL l n)
theorem svs_length (l : List Int) (n c : Nat) : (svs l n c).length = c := by simp [svs]
theorem svs_at (l : List Int) (n c i : Nat) (h : i < c) : rdS (svs l n c) (i : Int) = svL l n i := by
  simp [rdS, svs, List.getD_eq_getElem?_getD, List.getElem?_map, List.getElem?_range h]
theorem svs_snoc (l : List Int) (n c : Nat) : svs l n c ++ [svL l n c] = svs l n (c + 1) := by simp [svs, List.range_succ]
theorem vitS_ev (l : List Int) (n : Nat) (hn : n ≤ 1000) (hl : l.length = 2 * n + 4) : ∀ (d i : Nat), i + d = n + 2 → Ev (fun k => vitS l (n : Int) ((n : Int) + 2) k (svs l n (i + 1)) (i : Int)) (svs l n (n + 3)) := by
  intro d
  induction d with
  | zero =>
    intro i hi
    refine ev1 (evn (by omega) (evc ?_))
    rw [show i + 1 = n + 3 by omega]
  | succ d ih =>
    intro i hi
    refine ev1 (evp (by omega) (evp (by omega) (evp (by rw [svs_length]; omega) (evp (by omega) (evp (by rw [svs_length]; omega) ?_)))))
    rw [svs_at l n (i + 1) i (by omega), show (2 : Int) * (i : Int) = ((2 * i : Nat) : Int) by omega, show ((2 * i : Nat) : Int) + 1 = ((2 * i + 1 : Nat) : Int) by omega, rd_nat, rd_nat, ext_some l n i hn (by omega), w64s (n := (i : Int) + 1) (by omega) (by omega)]
    have h := ih (i + 1) (by omega)
    rw [← svs_snoc] at h
    exact h
theorem and_one {s : Int} (h : In4 s) : Go.bits .and .i64 s 1 = s % 2 := by
  rcases four h with rfl | rfl | rfl | rfl <;> decide +kernel
theorem vitT_ev (l : List Int) (n : Nat) (hn : n ≤ 1000) : ∀ (i : Nat) (bs : List Int), i ≤ n + 2 → bs.length = n → (∀ j, i ≤ j → j < n → bs.getD j 0 = vst l n (j + 1) % 2) →
    Ev (fun k => vitT (svs l n (n + 3)) (n : Int) k bs (vst l n i) (i : Int)) (vbits l n) := by
  intro i
  induction i with
  | zero =>
    intro bs _ hb hj
    refine ev1 (evn (by omega) (evc ?_))
    rw [list_ext (a := bs) (b := vbits l n) (by rw [hb, vbits_length]) (fun j h => by rw [hj j (by omega) (by omega), vbits_at l n j (by omega)])]
  | succ i ih =>
    intro bs hi hb hj
    have hv := vst_in l n (n + 1 - i) (i + 1) (by omega)
    refine ev1 (evp (by omega) (evp (by rw [svs_length]; omega) (evp hv.1 (evp (by have := hv.2; omega) ?_))))
    rw [show ((i + 1 : Nat) : Int) - 1 = (i : Int) by omega, svs_at l n (n + 3) (i + 1) (by omega), svL_prev l n i _ hv, ← vst_step l n i (by omega)]
    by_cases h : i < n
    · refine evp (by omega) (evp (by omega) ?_)
      rw [Int.toNat_natCast, and_one hv]
      refine ih _ (by omega) (by simpa using hb) (fun j h1 h2 => ?_)
      rw [getD_set]
      by_cases e : i = j
      · subst e
        rw [if_pos ⟨rfl, by omega⟩]
      · rw [if_neg (fun q => e q.1)]
        exact hj j (by omega) h2
    · refine evn (by omega) (ih bs (by omega) hb (fun j h1 h2 => by omega))
theorem ilen_ev (c : Nat) (hc : c ≤ 4000000000000) : Ev (fun k => impl_InputLength.f k (c : Int)) (lenV c) := by
  unfold impl_InputLength.f lenV
  refine evn (by omega) ?_
  rw [Int.tmod_eq_emod_of_nonneg (by omega)]
  by_cases h2 : c % 2 = 0
  · have e : (((c : Int) % 2) != 0) = false := by
      have : (c : Int) % 2 = 0 := by omega
      simp [this]
    rw [e]
    have hw : wrap64 (wrap64 (Int.tdiv (c : Int) 2) - 2) = (c : Int) / 2 - 2 := by
      rw [Int.tdiv_eq_ediv_of_nonneg (by omega), w64s (n := (c : Int) / 2) (by omega) (by omega), w64s (by omega) (by omega)]
    refine ev1 (Ev.congr (f := fun _ => (impl_InRange.f (wrap64 (wrap64 (Int.tdiv (c : Int) 2) - 2)) 0 1000).bind fun q => if q = true then some (wrap64 (wrap64 (Int.tdiv (c : Int) 2) - 2)) else some (-1)) (fun _ => by rw [impl_InputLength.j0, if_neg (by decide)]) ?_)
    rw [hw]
    refine evs (in_some _ _ _) ?_
    by_cases h : 0 ≤ (c : Int) / 2 - 2 ∧ (c : Int) / 2 - 2 ≤ 1000
    · rw [if_pos (show c % 2 = 0 ∧ 4 ≤ c ∧ c ≤ 2004 by omega)]
      exact evp (dt h) (evc rfl)
    · rw [if_neg (show ¬ (c % 2 = 0 ∧ 4 ≤ c ∧ c ≤ 2004) by omega)]
      exact evn (dnt h) (evc rfl)
  · have e : (((c : Int) % 2) != 0) = true := by
      have : (c : Int) % 2 = 1 := by omega
      simp [this]
    rw [e, if_neg (by omega)]
    exact ev1 (evk fun _ => by rw [impl_InputLength.j0, if_pos rfl])
theorem ivit_ev (l : List Int) (hl : l.length ≤ 1000000000) : Ev (fun k => impl_ViterbiDecode.f k l) (vdec l) := by
  unfold impl_ViterbiDecode.f vdec
  have h1 := ilen_ev l.length (by omega)
  have h2 := isym_ev l (by omega)
  refine Ev.bind h1 (Ev.bind h2 ?_)
  by_cases hs : Syms l
  · rw [syms_all hs]
    refine evp rfl ?_
    unfold lenV
    by_cases hc : l.length % 2 = 0 ∧ 4 ≤ l.length ∧ l.length ≤ 2004
    · rw [if_pos hc, if_pos ⟨rfl, hc⟩]
      obtain ⟨n, hn⟩ : ∃ n : Nat, l.length = 2 * n + 4 := ⟨l.length / 2 - 2, by omega⟩
      have e : (l.length : Int) / 2 - 2 = (n : Int) := by omega
      have e2 : l.length / 2 - 2 = n := by omega
      rw [e, e2]
      refine evn (by omega) ?_
      unfold vitB
      refine evp (by omega) (evp (by omega) ?_)
      have h3 := vitS_ev l n (by omega) hn (n + 2) 0 (by omega)
      refine Ev.bind h3 ?_
      rw [Int.toNat_natCast]
      have h4 := vitT_ev l n (by omega) (n + 2) (List.replicate n 0) (by omega) (by simp) (fun j h5 h6 => by omega)
      rw [vst_end] at h4
      refine Ev.bind h4 (evp (by rw [svs_length]; omega) (evc ?_))
      rw [show (n : Int) + 2 = ((n + 2 : Nat) : Int) by omega, svs_at l n (n + 3) (n + 2) (by omega), svL_cost l n (n + 2) 0 ⟨by omega, by omega⟩]
      rfl
    · rw [if_neg hc, if_neg (fun q => hc q.2)]
      exact evp (by decide) (evc rfl)
  · have e : (l.all fun x => decide (0 ≤ x ∧ x ≤ 2)) = false := by
      cases q : (l.all fun x => decide (0 ≤ x ∧ x ≤ 2)) with
      | false => rfl
      | true => exact absurd (all_syms q) hs
    rw [e, if_neg (fun q => absurd q.1 (by decide))]
    exact evn (by decide) (evc rfl)
theorem inextscr_some (s : Int) : impl_NextScramblerState.f s = some (scrNext s) := by
  unfold impl_NextScramblerState.f scrNext
  rw [in_some]
  simp only [Option.bind_some]
  by_cases h : 1 ≤ s ∧ s ≤ 127
  · rw [if_pos (dt h), if_pos h]
    rfl
  · rw [if_neg (dnt h), if_neg h]
theorem iscr_loop (n : Nat) (hn : n ≤ 1000000) : ∀ (d i : Nat) (s : Int) (x : List Int), i + d = n → x.length = n → Ev (fun k => impl_Scramble.l0 k s x n i) (x.take i ++ scrGo s (x.drop i)) := by
  intro d
  induction d with
  | zero =>
    intro i s x hi hx
    rw [List.drop_of_length_le (by omega), List.take_of_length_le (by omega)]
    exact ev1 (evn (by omega) (evc (by simp [scrGo])))
  | succ d ih =>
    intro i s x hi hx
    refine ev1 (evp (by omega) (evp (by omega) (evp (by omega) (evs (show impl_scramblerOutput.f s = some (scrOut s) from rfl) (evs (inextscr_some s) ?_)))))
    rw [w64s (n := (i : Int) + 1) (by omega) (by omega), Int.toNat_natCast, rd_nat, drop_getD x i (by omega), scrGo]
    have h := ih (i + 1) (scrNext s) (x.set i (Go.bits .xor .i64 (x.getD i 0) (scrOut s))) (by omega) (by simpa using hx)
    rw [take_set_succ x i _ (by omega), List.append_assoc, List.drop_set_of_lt (by omega)] at h
    exact h
theorem iscr_ev (s : Int) (l : List Int) (hb : Bits l) (hn : l.length ≤ 1000000) : Ev (fun k => impl_Scramble.f k s l) (scrL s l) := by
  unfold impl_Scramble.f scrL
  refine evs (show impl_copyInts.f l = some l from if_pos (by omega)) (evs (in_some _ _ _) ?_)
  by_cases h : 1 ≤ s ∧ s ≤ 127
  · rw [if_pos h]
    have hbb := ibits_ev l (by omega)
    rw [ibits_all hb] at hbb
    have hl : Ev (fun k => impl_Scramble.j0 k s l false) (scrGo s l) := by
      have := iscr_loop l.length hn l.length 0 s l (by omega) rfl
      exact ev1 this
    exact evp (dt h) (Ev.bind hbb hl)
  · rw [if_neg h]
    exact evn (dnt h) (ev1 (evk fun _ => rfl))
theorem ibtb_loop (l : List Int) (hb : Bits l) (m : Nat) (hn : l.length = 8 * m) (hm : m ≤ 1000) : ∀ (d i : Nat) (x : List Int), i + d = l.length → x.length = m → (∀ q, q < m → x.getD q 0 = bp (bitsAt l q) (min 8 (i - 8 * q))) → Ev (fun k => impl_BitsToBytes.l0 k x l l.length i) (bytesL l, true) := by
  intro d
  induction d with
  | zero =>
    intro i x hi hx hq
    refine ev1 (evn (by omega) (evc ?_))
    rw [list_ext (a := x) (b := bytesL l) (by rw [hx, bytesL_length]; omega) (fun q h => by
      rw [hq q (by omega), bytesL_at l q (by omega), byte_bp l q (by omega), show min 8 (i - 8 * q) = 8 by omega])]
  | succ d ih =>
    intro i x hi hx hq
    have w1 : wrap64 (Int.tdiv (i : Int) 8) = ((i / 8 : Nat) : Int) := by rw [Int.tdiv_eq_ediv_of_nonneg (by omega), w64s (by omega) (by omega)]; omega
    have w2 : Int.tmod (i : Int) 8 = ((i % 8 : Nat) : Int) := by rw [Int.tmod_eq_emod_of_nonneg (by omega)]; omega
    refine ev1 (evp (by omega) (evp (by omega) (evp (by omega) (evp (by rw [w1]; omega) (evp (by rw [w1]; omega) (evp (by rw [w2]; omega) ?_))))))
    rw [w1, w2, rd_nat, rd_nat, Int.toNat_natCast, w64s (n := (i : Int) + 1) (by omega) (by omega)]
    have hbit := bit_getD hb i
    have hr := bp_range (bitsAt l (i / 8)) (bitsAt_bits hb _) (i % 8) (by omega)
    have h0 := hq (i / 8) (by omega)
    rw [show min 8 (i - 8 * (i / 8)) = i % 8 by omega] at h0
    rw [h0, (or8_of _ _ (i % 8) (by omega) hr hbit).1]
    refine ih (i + 1) _ (by omega) (by simpa using hx) (fun q h => ?_)
    rw [getD_set]
    by_cases e : i / 8 = q
    · subst e
      rw [if_pos ⟨rfl, by omega⟩, show min 8 (i + 1 - 8 * (i / 8)) = i % 8 + 1 by omega, bp, bitsAt_at _ _ _ (by omega), show 8 * (i / 8) + i % 8 = i by omega]
    · rw [if_neg (fun h' => e h'.1), hq q h]
      congr 1
      omega
theorem ibtb_ev (l : List Int) (hb : Bits l) (m : Nat) (hn : l.length = 8 * m) (hm : m ≤ 1000) : Ev (fun k => impl_BitsToBytes.f k l) (bytesL l, true) := by
  unfold impl_BitsToBytes.f
  have h := ibits_ev l (by omega)
  rw [ibits_all hb] at h
  refine Ev.bind h (evp rfl ?_)
  have e : (((l.length : Int) % 8) != 0) = false := by
    have : (l.length : Int) % 8 = 0 := by omega
    simp [this]
  rw [e]
  have w : wrap64 ((l.length : Int) / 8) = (m : Int) := by rw [w64s (by omega) (by omega)]; omega
  refine ev1 (Ev.congr (f := fun k => if 0 ≤ (wrap64 ((l.length : Int) / 8)) then (if (wrap64 ((l.length : Int) / 8) : Int).toNat ≤ 281474976710656 then (impl_BitsToBytes.l0 k (List.replicate (wrap64 ((l.length : Int) / 8) : Int).toNat 0) l (l.length : Int) 0) else (none)) else (none)) (fun k => by rw [impl_BitsToBytes.j0, if_neg (by decide)]) ?_)
  rw [w, Int.toNat_natCast]
  refine evp (by omega) (evp (by omega) ?_)
  exact ibtb_loop l hb m hn hm l.length 0 (List.replicate m 0) (by omega) (by simp) (fun q h => by
    rw [show min 8 (0 - 8 * q) = 0 by omega, List.getD_eq_getElem?_getD, List.getElem?_replicate]
    split <;> rfl)
theorem copyB_some (l : List Int) (h : l.length ≤ 4000000) : impl_copyBytes.f l = some l := if_pos (by omega)
theorem icrc_in (l : List Int) (i : Nat) (hi : i ≤ 1000000) (r : Int) : ∀ (d j : Nat) (x : Int), j + d = 8 → Ev (fun k => impl_Crc16.l0 k (crcIn d x) l l.length ((i + 1 : Nat) : Int)) r → Ev (fun k => impl_Crc16.l1 k x j l l.length i) r := by
  intro d
  induction d with
  | zero =>
    intro j x hj h
    refine ev1 (evn (by omega) ?_)
    rw [w64s (n := (i : Int) + 1) (by omega) (by omega)]
    exact h
  | succ d ih =>
    intro j x hj h
    have hw : wrap64 ((j : Int) + 1) = ((j + 1 : Nat) : Int) := by rw [w64s (by omega) (by omega)]; omega
    refine ev1 (evp (by omega) ?_)
    rw [hw]
    unfold crcIn at h
    by_cases hb : Go.bits .and .i64 x 1 = 1
    · rw [if_pos hb] at h
      exact evp hb (ih (j + 1) _ (by omega) h)
    · rw [if_neg hb] at h
      exact evn hb (ih (j + 1) _ (by omega) h)
theorem icrc_loop (l : List Int) (hb : Bytes l) (hn : l.length ≤ 100000) : ∀ (d i : Nat) (x : Int), i + d = l.length → Ev (fun k => impl_Crc16.l0 k x l l.length i) (crcGo x (l.drop i)) := by
  intro d
  induction d with
  | zero =>
    intro i x hi
    rw [List.drop_of_length_le (by omega)]
    exact ev1 (evn (by omega) (evc rfl))
  | succ d ih =>
    intro i x hi
    have hx := hb _ (rd_mem (l := l) (i := i) (by omega))
    refine ev1 (evp (by omega) (evp (by omega) (evp (by omega) ?_)))
    rw [rd_nat, w64s (n := l.getD i 0) (by omega) (by omega), dropGetD l i (by omega)]
    exact icrc_in l i (by omega) _ 8 0 _ (by omega) (ih (i + 1) _ (by omega))
theorem iacrc_ev (l : List Int) (hb : Bytes l) (hn : l.length ≤ 100000) : Ev (fun k => impl_AppendCrc.f k l) (crcL l) := by
  have hr := crcGo_range l 65535 hb (by omega)
  unfold impl_AppendCrc.f
  refine Ev.bind (icrc_loop l hb hn l.length 0 65535 (by omega)) (evs (copyB_some l (by omega)) (evs rfl (evp (by simp; omega) (evc ?_))))
  rw [List.drop_zero]
  unfold crcL
  rw [Int.tmod_eq_emod_of_nonneg hr.1, Int.tdiv_eq_ediv_of_nonneg hr.1, w64s (n := crcGo 65535 l / 256) (by omega) (by omega), show crcGo 65535 l / 256 % 256 = crcGo 65535 l / 256 by omega, show crcGo 65535 l % 256 % 256 = crcGo 65535 l % 256 by omega]
theorem ieqb_loop (a b : List Int) (hl : a.length = b.length) (hn : a.length ≤ 4000000000000000) : ∀ (d i : Nat), i + d = a.length → (∀ j, j < i → a.getD j 0 = b.getD j 0) → Ev (fun k => impl_EqualBytes.l0 k a b a.length i) (decide (a = b)) := by
  intro d
  induction d with
  | zero =>
    intro i hi hj
    rw [decide_eq_true (list_ext hl (fun j h => hj j (by omega)))]
    exact ev1 (evn (by omega) (evc rfl))
  | succ d ih =>
    intro i hi hj
    refine ev1 (evp (by omega) (evp (by omega) (evp (by omega) (evp (by omega) ?_))))
    rw [rd_nat, rd_nat, w64s (n := (i : Int) + 1) (by omega) (by omega)]
    by_cases h : a.getD i 0 = b.getD i 0
    · refine evp h (ih (i + 1) (by omega) (fun j hj2 => ?_))
      by_cases e : j = i
      · rw [e]
        exact h
      · exact hj j (by omega)
    · refine evn h ?_
      rw [decide_eq_false (fun e => h (by rw [e]))]
      exact evc rfl
theorem ieqb_ev (a b : List Int) (hn : a.length ≤ 4000000000000000) : Ev (fun k => impl_EqualBytes.f k a b) (decide (a = b)) := by
  unfold impl_EqualBytes.f
  by_cases h : a.length = b.length
  · exact evp (by omega) (ieqb_loop a b h hn a.length 0 (by omega) (fun j hj => by omega))
  · refine evn (by omega) ?_
    rw [decide_eq_false (fun e => h (by rw [e]))]
    exact evc rfl
theorem ichk_ev (l : List Int) (hb : Bytes l) (hn : l.length ≤ 1000) : Ev (fun k => impl_CheckCrc.f k l) (chkV l) := by
  unfold impl_CheckCrc.f chkV
  by_cases h : l.length < 2
  · rw [if_neg (fun q => by omega)]
    exact evp (by omega) (evc rfl)
  have w : wrap64 ((l.length : Int) - 2) = ((l.length - 2 : Nat) : Int) := by rw [w64s (by omega) (by omega)]; omega
  refine evn (by omega) (evp (by rw [w]; omega) (evp (by rw [w]; omega) ?_))
  rw [w, Int.toNat_natCast]
  have e1 := iacrc_ev (l.take (l.length - 2)) (fun x hx => hb x (List.mem_of_mem_take hx)) (by simp; omega)
  have e2 := ieqb_ev (crcL (l.take (l.length - 2))) l (by rw [crc_len]; simp; omega)
  refine evs (copyB_some _ (by simp; omega)) (Ev.bind e1 (Ev.bind e2 ?_))
  by_cases q : crcL (l.take (l.length - 2)) = l
  · exact ev_eq (evp (dt q) (evc rfl)) (if_pos ⟨by omega, q⟩).symm
  · exact ev_eq (evn (dnt q) (evc rfl)) (if_neg (fun z => q z.2)).symm
theorem irx_j1 (a0 a1 a2 : Int) (h : validH a0 a1 a2) (c p : List Int) (hc : c = rxC a0 a1 p) (hl : c.length = (16 * a1 + 36).toNat) : Ev (fun k => impl_ReceiveFrame.j1 k c a0 a1 a2) (rxE a0 a1 a2 p) := by
  unfold validH at h
  obtain ⟨m, hm, hm2⟩ := vdec_len8 c a1.toNat (by omega)
  have hb := vdec_bits c
  have hv := ivit_ev c (by omega)
  unfold rxE rxB
  rw [← hc]
  generalize vdec c = v at *
  obtain ⟨v, d⟩ := v
  dsimp only at hm hb
  have hs := iscr_ev a2 v hb (by omega)
  have hsb := scrL_bits a2 v hb
  have hbt := ibtb_ev (scrL a2 v) hsb m (by rw [scrL_length]; exact hm) (by omega)
  have hck := ichk_ev (bytesL (scrL a2 v)) (bytesL_bytes _ hsb) (by rw [bytesL_length, scrL_length]; omega)
  generalize chkV (bytesL (scrL a2 v)) = q at *
  refine ev1 (Ev.bind hv ?_)
  dsimp only
  by_cases hd : d < 0
  · rw [if_pos hd]
    exact evp hd (evc rfl)
  · rw [if_neg hd]
    refine evn hd (Ev.bind hs (Ev.bind hbt (evp rfl (Ev.bind hck ?_))))
    by_cases hq : q.2 = true
    · exact ev_eq (evp hq (evc rfl)) (if_pos hq).symm
    · exact ev_eq (evn hq (evc rfl)) (if_neg hq).symm
theorem irx_j0 (a0 a1 a2 : Int) (h : validH a0 a1 a2) (l : List Int) (hl : l.length = 54 + psym a0 a1) : Ev (fun k => impl_ReceiveFrame.j0 k l false a0 a1 a2) (rxE a0 a1 a2 (l.drop 54)) := by
  have hv := h
  unfold validH at hv
  have hp : (l.drop 54).length = psym a0 a1 := by rw [List.length_drop]; omega
  have hpl : psym a0 a1 ≤ 4000 := by unfold psym; split <;> omega
  have hd := ide_ev (l.drop 54) 8 (by omega)
  have hrl := rxC_length a0 a1 (l.drop 54) hp
  refine ev1 (Ev.congr (f := fun k => if 54 ≤ (l.length : Int) then ((impl_Deinterleave.f k (l.drop 54) 8).bind fun t477 => (if a0 = 2 then ((impl_codedSymbols.f a0 a1 a2).bind fun t480 => ((impl_Depuncture.f k t477 t480).bind fun t481 => (impl_ReceiveFrame.j1 k t481 a0 a1 a2))) else (impl_ReceiveFrame.j1 k t477 a0 a1 a2))) else none) (fun k => by rw [impl_ReceiveFrame.j0, if_neg (by decide)]) (evp (by omega) (Ev.bind hd ?_)))
  by_cases h2 : a0 = 2
  · have hdp := depunct_ev (deL (l.drop 54) 8) (16 * a1 + 36).toNat (by omega) (by rw [deL_length, hp]; unfold psym; rw [if_pos h2])
    refine evp h2 (evs (icoded_some a0 a1 a2 h) (Ev.bind hdp ?_))
    have e : depunct (deL (l.drop 54) 8) 0 0 (16 * a1 + 36).toNat = rxC a0 a1 (l.drop 54) := by unfold rxC; rw [if_pos h2]
    exact irx_j1 a0 a1 a2 h _ (l.drop 54) e (by rw [e]; exact hrl)
  · have e : deL (l.drop 54) 8 = rxC a0 a1 (l.drop 54) := by unfold rxC; rw [if_neg h2]
    exact evn h2 (irx_j1 a0 a1 a2 h _ (l.drop 54) e (by rw [e]; exact hrl))
theorem irx_bad (l : List Int) (a0 a1 a2 : Int) : Ev (fun k => impl_ReceiveFrame.j0 k l true a0 a1 a2) (0, 0, 0, [], 1) := ev1 (evk fun _ => rfl)
theorem irx_ev (l : List Int) (hn : l.length ≤ 4000000) (h54 : 54 ≤ l.length) : Ev (fun k => impl_ReceiveFrame.f k l) (rxV (hdrV (majL (l.take 54))) l) := by
  have hh := ihdr_ev (l.take 54) (by simp; omega)
  have hok := hdrV_ok (majL (l.take 54))
  unfold impl_ReceiveFrame.f
  refine evn (by omega) (evp (by omega) (Ev.bind hh ?_))
  generalize hdrV (majL (l.take 54)) = t at *
  obtain ⟨a, b, c, q⟩ := t
  dsimp only at hok ⊢
  by_cases hq : q = true
  · have hv := hok hq
    refine evp hq (evs (ipay_some a b c hv) ?_)
    rw [w64s (n := (l.length : Int) - 54) (by omega) (by omega)]
    unfold rxV
    by_cases hl : l.length = 54 + psym a b
    · have e : (((l.length : Int) - 54) != ((psym a b : Nat) : Int)) = false := by
        have : (l.length : Int) - 54 = ((psym a b : Nat) : Int) := by omega
        simp [this]
      rw [e, if_pos ⟨hq, hl⟩]
      exact irx_j0 a b c hv l hl
    · have e : (((l.length : Int) - 54) != ((psym a b : Nat) : Int)) = true := by
        rw [bne_iff_ne]
        omega
      rw [e, if_neg (fun z => hl z.2)]
      exact irx_bad l a b c
  · refine evn hq ?_
    unfold rxV
    rw [if_neg (fun z => hq z.1)]
    exact irx_bad l a b c
theorem take_set_nx (x : List Int) (i : Nat) (v : Int) (h : i < x.length) : (x.set i v).take (i + 1) = x.take i ++ [v] := by
  rw [List.take_add_one, List.take_set_of_le (by omega)]
  simp [h]
theorem itb_loop (n : Int) (c : Nat) (hc : c ≤ 40) : ∀ (d i : Nat) (x : List Int), i + d = c → x.length = c → Ev (fun k => impl_IntToBits.l0 k n x c i) (x.take i ++ (List.range' i d).map (itbAt n)) := by
  intro d
  induction d with
  | zero =>
    intro i x hi hx
    rw [List.take_of_length_le (by omega)]
    exact ev1 (evn (by omega) (evc (by simp)))
  | succ d ih =>
    intro i x hi hx
    refine ev1 (evp (by omega) (evp (by omega) (evp (by omega) ?_)))
    rw [w64s (n := (i : Int) + 1) (by omega) (by omega), Int.toNat_natCast, List.range'_succ, List.map_cons]
    have h := ih (i + 1) (x.set i (itbAt n i)) (by omega) (by simpa using hx)
    rw [take_set_nx x i _ (by omega), List.append_assoc] at h
    exact h
theorem itb_ev (n : Int) (c : Nat) (hc : c ≤ 40) (hn : 0 ≤ n) : Ev (fun k => impl_IntToBits.f k n c) (itb n c) := by
  unfold impl_IntToBits.f
  refine evn (by omega) (evs (in_some _ _ _) ?_)
  rw [decide_eq_true (by omega)]
  refine ev1 (evp (by omega) (evs rfl ?_))
  rw [show (((List.replicate (c : Int).toNat (0 : Int)).length : Nat) : Int) = (c : Int) by simp]
  have h := itb_loop n c hc c 0 (List.replicate (c : Int).toNat 0) (by omega) (by simp)
  rw [List.take_zero, List.nil_append] at h
  exact h
def hbits (r n s : Int) : List Int := (itb r 2 ++ itb n 8) ++ itb s 7
def hword (r n s : Int) : List Int := hbits r n s ++ [Int.tmod (ones (hbits r n s)) 2]
theorem hbits_length (r n s : Int) : (hbits r n s).length = 17 := by simp [hbits, itb_length]
theorem hword_length (r n s : Int) : (hword r n s).length = 18 := by simp [hword, hbits_length]
theorem hbits_bits (r n s : Int) : Bits (hbits r n s) := by
  intro x hx
  simp only [hbits, List.mem_append] at hx
  rcases hx with (hx | hx) | hx
  · exact itb_bits _ _ x hx
  · exact itb_bits _ _ x hx
  · exact itb_bits _ _ x hx
theorem hword_bits (r n s : Int) : Bits (hword r n s) := by
  intro x hx
  simp only [hword, List.mem_append, List.mem_singleton] at hx
  rcases hx with hx | rfl
  · exact hbits_bits r n s x hx
  · have := ones_range (hbits r n s)
    rw [Int.tmod_eq_emod_of_nonneg this.1]
    omega
theorem enc_ev (r n s : Int) (h : (1 ≤ r ∧ r ≤ 2) ∧ (0 ≤ n ∧ n ≤ 120) ∧ (1 ≤ s ∧ s ≤ 127)) : Ev (fun k => impl_EncodeHeader.f k r n s) (hword r n s ++ hword r n s ++ hword r n s) := by
  unfold impl_EncodeHeader.f
  have hl := hbits_length r n s
  have hw := hword_length r n s
  refine evs (valid_some r n s) (evp (dt h) (Ev.bind (itb_ev r 2 (by omega) (by omega)) (Ev.bind (itb_ev n 8 (by omega) (by omega)) (evp (by rw [itb_length, itb_length]; omega) (evs rfl (Ev.bind (itb_ev s 7 (by omega) (by omega)) (evp (by simp [itb_length]) (evs rfl ?_))))))))
  refine Ev.bind (iparity_ev (hbits r n s) (by omega)) (evp (by simp [itb_length]) (evp (by decide) ?_))
  show Ev (fun k => impl_EncodeHeader.l0 k (hword r n s) [] 0) _
  have w : ∀ i : Nat, i ≤ 10 → wrap64 ((i : Int) + 1) = ((i + 1 : Nat) : Int) := fun i hi => by rw [w64s (by omega) (by omega)]; omega
  have h3 : Ev (fun k => impl_EncodeHeader.l0 k (hword r n s) (hword r n s ++ hword r n s ++ hword r n s) ((3 : Nat) : Int)) (hword r n s ++ hword r n s ++ hword r n s) :=
    ev1 (evn (by decide) (evc rfl))
  have h2 : Ev (fun k => impl_EncodeHeader.l0 k (hword r n s) (hword r n s ++ hword r n s) ((2 : Nat) : Int)) (hword r n s ++ hword r n s ++ hword r n s) := by
    refine ev1 (evp (by decide) (evp (by simp; omega) ?_))
    rw [w 2 (by omega)]
    exact h3
  have h1 : Ev (fun k => impl_EncodeHeader.l0 k (hword r n s) (hword r n s) ((1 : Nat) : Int)) (hword r n s ++ hword r n s ++ hword r n s) := by
    refine ev1 (evp (by decide) (evp (by omega) ?_))
    rw [w 1 (by omega)]
    exact h2
  refine ev1 (evp (by decide) (evp (by simp; omega) ?_))
  have e0 := w 0 (by omega)
  rw [show ((0 : Nat) : Int) + 1 = (0 : Int) + 1 from rfl] at e0
  rw [e0, List.nil_append]
  exact h1
theorem u8bit : ∀ b : Fin 256, ∀ j : Fin 8, Go.bits .and .i64 (wrap64 (shr .u8 (b.val : Int) (j.val : Int))) 1 = Go.bits .and .i64 (shr .i64 (b.val : Int) (j.val : Int)) 1 := by decide +kernel
theorem u8bit_of (b : Int) (hb : 0 ≤ b ∧ b ≤ 255) (j : Nat) (hj : j < 8) : Go.bits .and .i64 (wrap64 (shr .u8 b (j : Int))) 1 = itbAt b j := by
  obtain ⟨b, rfl⟩ := Int.eq_ofNat_of_zero_le hb.1
  exact u8bit ⟨b, by omega⟩ ⟨j, hj⟩
theorem ib2b_in (l : List Int) (i : Nat) (hi : i < l.length) (hn : l.length ≤ 1000) (b : Int) (hb : 0 ≤ b ∧ b ≤ 255) (r : List Int) : ∀ (d j : Nat) (acc : List Int), j + d = 8 → acc.length + d ≤ 100000 → Ev (fun k => impl_BytesToBits.l0 k (acc ++ (List.range' j d).map (itbAt b)) l l.length ((i + 1 : Nat) : Int)) r → Ev (fun k => impl_BytesToBits.l1 k acc b j l l.length i) r := by
  intro d
  induction d with
  | zero =>
    intro j acc hj ha h
    refine ev1 (evn (by omega) ?_)
    rw [w64s (n := (i : Int) + 1) (by omega) (by omega)]
    simpa using h
  | succ d ih =>
    intro j acc hj ha h
    have hw : wrap64 ((j : Int) + 1) = ((j + 1 : Nat) : Int) := by rw [w64s (by omega) (by omega)]; omega
    refine ev1 (evp (by omega) (evp (by omega) (evp (by omega) ?_)))
    rw [hw, u8bit_of b hb j (by omega)]
    rw [List.range'_succ, List.map_cons] at h
    have h' : Ev (fun k => impl_BytesToBits.l0 k ((acc ++ [itbAt b j]) ++ (List.range' (j + 1) d).map (itbAt b)) l l.length ((i + 1 : Nat) : Int)) r := by
      rw [List.append_assoc]
      exact h
    exact ih (j + 1) _ (by omega) (by simp; omega) h'
theorem ib2b_loop (l : List Int) (hb : Bytes l) (hn : l.length ≤ 1000) : ∀ (d i : Nat) (acc : List Int), i + d = l.length → acc.length ≤ 8 * i → Ev (fun k => impl_BytesToBits.l0 k acc l l.length i) (acc ++ b2bL (l.drop i)) := by
  intro d
  induction d with
  | zero =>
    intro i acc hi ha
    rw [List.drop_of_length_le (by omega)]
    exact ev1 (evn (by omega) (evc (by simp [b2bL])))
  | succ d ih =>
    intro i acc hi ha
    refine ev1 (evp (by omega) (evp (by omega) (evp (by omega) ?_)))
    rw [rd_nat]
    have h := ih (i + 1) (acc ++ itb (l.getD i 0) 8) (by omega) (by simp [itb_length]; omega)
    rw [List.append_assoc, ← b2bL_cons, ← dropGetD l i (by omega)] at h
    exact ib2b_in l i (by omega) hn _ (hb _ (rd_mem (l := l) (i := i) (by omega))) _ 8 0 acc (by omega) (by omega) h
theorem ib2b_ev (l : List Int) (hb : Bytes l) (hn : l.length ≤ 1000) : Ev (fun k => impl_BytesToBits.f k l) (b2bL l) := by
  have := ib2b_loop l hb hn l.length 0 [] (by omega) (by simp)
  unfold impl_BytesToBits.f
  rw [w64s (n := 8 * (l.length : Int)) (by omega) (by omega)]
  exact evp (by omega) (evp (by omega) this)
theorem iconv_loop (l : List Int) (hb : Bits l) (hn : l.length ≤ 1000000000) : ∀ (d i : Nat) (acc : List Int) (s : Int), i + d = l.length + 2 → acc.length + 2 * d ≤ 4000000000 → 0 ≤ s ∧ s ≤ 3 →
    Ev (fun k => impl_ConvolutionalEncode.l0 k l acc s i) (acc ++ convGo s ((l ++ [0, 0]).drop i)) := by
  intro d
  induction d with
  | zero =>
    intro i acc s hi ha hs
    rw [List.drop_of_length_le (by simp; omega)]
    refine ev1 (evn (by rw [w64s (by omega) (by omega)]; omega) (evc (by simp [convGo])))
  | succ d ih =>
    intro i acc s hi ha hs
    have hbit : (l ++ [0, 0]).getD i 0 = 0 ∨ (l ++ [0, 0]).getD i 0 = 1 := by
      rw [pad_getD]
      split
      · exact bits_getD hb i
      · exact .inl rfl
    obtain ⟨h1, h2⟩ := ipair_some s _ hs hbit
    have h3 := ih (i + 1) (acc ++ [outX s ((l ++ [0, 0]).getD i 0), outY s ((l ++ [0, 0]).getD i 0)]) (nxt s ((l ++ [0, 0]).getD i 0)) (by omega) (by simp; omega) (nxt_range _ _)
    rw [drop_getD (l ++ [0, 0]) i (by simp; omega), convGo]
    rw [List.append_assoc] at h3
    refine ev1 (evp (by rw [w64s (by omega) (by omega)]; omega) ?_)
    have hw : wrap64 ((i : Int) + 1) = ((i + 1 : Nat) : Int) := by rw [w64s (by omega) (by omega)]; omega
    by_cases h : i < l.length
    · rw [pad_getD, if_pos h] at h1 h2 h3 ⊢
      refine evp (by omega) (evp (by omega) ?_)
      rw [rd_nat, hw]
      exact evs h1 (evs rfl (evp (by simp; omega) (evs h2 h3)))
    · rw [pad_getD, if_neg h] at h1 h2 h3 ⊢
      refine evn (by omega) ?_
      rw [hw]
      exact evs h1 (evs rfl (evp (by simp; omega) (evs h2 h3)))
theorem iconv_ev (l : List Int) (hb : Bits l) (hn : l.length ≤ 1000000000) : Ev (fun k => impl_ConvolutionalEncode.f k l) (conv l) := by
  unfold impl_ConvolutionalEncode.f
  have h := ibits_ev l (by omega)
  rw [ibits_all hb] at h
  refine Ev.bind h (evp rfl ?_)
  rw [w64s (n := (l.length : Int) + 2) (by omega) (by omega), w64s (n := 2 * ((l.length : Int) + 2)) (by omega) (by omega)]
  refine evp (by omega) (evp (by omega) ?_)
  exact iconv_loop l hb hn (l.length + 2) 0 [] 0 (by omega) (by simp; omega) (by omega)
theorem punct_loop (l : List Int) (hn : l.length ≤ 1000000000) : ∀ (d i : Nat) (acc : List Int), i + d = l.length → acc.length ≤ i → Ev (fun k => impl_Puncture.l0 k acc l l.length i) (acc ++ punctGo i (l.drop i)) := by
  intro d
  induction d with
  | zero =>
    intro i acc hi ha
    rw [List.drop_of_length_le (by omega)]
    exact ev1 (evn (by omega) (evc (by simp [punctGo])))
  | succ d ih =>
    intro i acc hi ha
    rw [drop_getD' l i (by omega), punctGo]
    refine ev1 (evp (by omega) (evp (by omega) (evp (by omega) ?_)))
    rw [tmod4, w64s (n := (i : Int) + 1) (by omega) (by omega), rd_nat]
    by_cases h : i % 4 = 3
    · rw [if_pos h]
      exact evp (by omega) (ih (i + 1) acc (by omega) (by omega))
    · rw [if_neg h]
      refine evn (by omega) (evp (by omega) ?_)
      have := ih (i + 1) (acc ++ [l.getD i 0]) (by omega) (by simp; omega)
      rw [List.append_assoc] at this
      exact this
theorem punct_ev (l : List Int) (hn : l.length ≤ 1000000000) : Ev (fun k => impl_Puncture.f k l) (punctGo 0 l) := by
  have := punct_loop l hn l.length 0 [] (by omega) (by simp)
  rw [List.drop_zero] at this
  exact this
theorem iint_loop (l : List Int) (b : Int) (hb : 1 ≤ b ∧ b ≤ 64) (hn : l.length ≤ 10000) : ∀ (d i : Nat) (x : List Int), i + d = l.length → x.length = l.length → Ev (fun k => impl_Interleave.l0 k l b x l l.length i) (intGo l b d i x) := by
  intro d
  induction d with
  | zero =>
    intro i x hi hx
    exact ev1 (evn (by omega) (evc rfl))
  | succ d ih =>
    intro i x hi hx
    obtain ⟨h1, h2⟩ := ipl_lt l b hb.1 i (by omega)
    refine ev1 (evp (by omega) (evp (by omega) (evp (by omega) (evs (idx_is _ _ _ hb (by omega) (by omega)) ?_))))
    rw [← h2, rd_nat, w64s (n := (i : Int) + 1) (by omega) (by omega), Int.toNat_natCast]
    exact evp (by omega) (evp (by omega) (ih (i + 1) _ (by omega) (by simpa using hx)))
theorem iint_ev (l : List Int) (b : Int) (hn : l.length ≤ 4000000) : Ev (fun k => impl_Interleave.f k l b) (intL l b) := by
  unfold impl_Interleave.f intL
  refine evs (show impl_copyInts.f l = some l from if_pos (by omega)) (evs (isInter_some _ _) ?_)
  by_cases h : (1 ≤ b ∧ b ≤ 64) ∧ (0 ≤ (l.length : Int) ∧ (l.length : Int) ≤ 10000)
  · rw [if_pos h]
    exact evp (dt h) (iint_loop l b h.1 (by omega) l.length 0 l (by omega) rfl)
  · rw [if_neg h]
    exact evn (dnt h) (evc rfl)
def txL (a0 a1 a2 : Int) (l : List Int) : List Int := hword a0 a1 a2 ++ hword a0 a1 a2 ++ hword a0 a1 a2 ++ intL (if a0 = 2 then punctGo 0 (conv (scrL a2 (b2bL (crcL l)))) else conv (scrL a2 (b2bL (crcL l)))) 8
theorem itx_ev (a0 a1 a2 : Int) (l : List Int) (hl : Bytes l) (h : validH a0 a1 a2) (hn : (l.length : Int) = a1) : Ev (fun k => impl_TransmitFrame.f k a0 a1 a2 l) (txL a0 a1 a2 l) := by
  have hn2 : l.length ≤ 120 := by unfold validH at h; omega
  have h1 := hword_length a0 a1 a2
  have h2 : (scrL a2 (b2bL (crcL l))).length = 8 * (l.length + 2) := by rw [scrL_length, b2bL_length, crc_len]
  have h3 := conv_length (scrL a2 (b2bL (crcL l)))
  have h4 := punctGo_length (conv (scrL a2 (b2bL (crcL l)))) 0
  have hb := scrL_bits a2 _ (b2bL_bits (crcL l))
  unfold impl_TransmitFrame.f
  refine evs (valid_some a0 a1 a2) (evp (dt h) ?_)
  have hne : ((l.length : Int) != a1) = false := by simp [hn]
  rw [hne]
  refine ev1 (Ev.bind (iacrc_ev l hl (by omega)) (Ev.bind (ib2b_ev _ (crcL_bytes l hl) (by rw [crc_len]; omega)) (Ev.bind (iscr_ev a2 _ (b2bL_bits _) (by rw [b2bL_length, crc_len]; omega)) (Ev.bind (iconv_ev _ hb (by omega)) ?_))))
  unfold txL
  by_cases h0 : a0 = 2
  · rw [if_pos h0]
    refine evp h0 (Ev.bind (punct_ev _ (by omega)) (Ev.bind (enc_ev a0 a1 a2 h) (Ev.bind (iint_ev _ 8 (by omega)) (evp (by simp only [List.length_append, intL_length]; omega) (evc rfl)))))
  · rw [if_neg h0]
    refine evn h0 (Ev.bind (enc_ev a0 a1 a2 h) (Ev.bind (iint_ev _ 8 (by omega)) (evp (by simp only [List.length_append, intL_length]; omega) (evc rfl))))
theorem svalid_some (a b c : Int) : spec_IsValidHeader.f a b c = some (decide ((1 ≤ a ∧ a ≤ 2) ∧ (0 ≤ b ∧ b ≤ 120) ∧ (1 ≤ c ∧ c ≤ 127))) := by
  unfold spec_IsValidHeader.f
  simp only [l1_some, Option.bind_some]
  by_cases h1 : 1 ≤ a ∧ a ≤ 2 <;> by_cases h2 : 0 ≤ b ∧ b ≤ 120 <;> simp [h1, h2]
theorem sweight_loop (l : List Int) (hn : l.length ≤ 1000000000) : ∀ (d i : Nat) (m : Int), i + d = l.length → 0 ≤ m ∧ m ≤ i → Ev (fun k => spec_Weight.l0 k l m i) (m + ones (l.drop i)) := by
  intro d
  induction d with
  | zero =>
    intro i m hi hm
    rw [List.drop_of_length_le (by omega)]
    exact ev1 (evn (by omega) (evc (by simp [ones])))
  | succ d ih =>
    intro i m hi hm
    refine ev1 (evp (by omega) (evp (by omega) ?_))
    rw [drop_getD l i (by omega), ones, rd_nat, w64s (n := (i : Int) + 1) (by omega) (by omega), w64s (n := m + 1) (by omega) (by omega)]
    by_cases h : l.getD i 0 = 1
    · rw [if_pos h]
      exact evp h (ev_eq (ih (i + 1) (m + 1) (by omega) (by omega)) (by omega))
    · rw [if_neg h]
      exact evn h (ev_eq (ih (i + 1) m (by omega) (by omega)) (by omega))
theorem sweight_ev (l : List Int) (hn : l.length ≤ 1000000000) : Ev (fun k => spec_Weight.f k l) (ones l) := by
  refine ev_eq (sweight_loop l hn l.length 0 0 (by omega) (by omega)) ?_
  simp
theorem sparity_ev (l : List Int) (hn : l.length ≤ 1000) : Ev (fun k => spec_Parity.f k l) (Int.tmod (ones l) 2) := by
  unfold spec_Parity.f
  exact Ev.bind (sweight_ev l (by omega)) (evc rfl)
theorem sitb_loop (n : Int) (c : Nat) (hc : c ≤ 40) : ∀ (d i : Nat) (x : List Int), i + d = c → x.length = i → Ev (fun k => spec_IntToBits.l0 k n c x i) (x ++ (List.range' i d).map (itbAt n)) := by
  intro d
  induction d with
  | zero =>
    intro i x hi hx
    exact ev1 (evn (by omega) (evc (by simp)))
  | succ d ih =>
    intro i x hi hx
    refine ev1 (evp (by omega) (evp (by omega) (evp (by omega) ?_)))
    rw [w64s (n := (i : Int) + 1) (by omega) (by omega), List.range'_succ, List.map_cons]
    have h := ih (i + 1) (x ++ [itbAt n i]) (by omega) (by simp; omega)
    rw [List.append_assoc] at h
    exact h
theorem sitb_ev (n : Int) (c : Nat) (hc : c ≤ 40) (hn : 0 ≤ n) : Ev (fun k => spec_IntToBits.f k n c) (itb n c) := by
  unfold spec_IntToBits.f
  refine evs rfl (evn (by omega) (evs (l1_some _ _ _) ?_))
  rw [decide_eq_true (by omega)]
  refine ev1 ?_
  have h := sitb_loop n c hc c 0 [] (by omega) rfl
  rw [List.nil_append] at h
  exact h
theorem senc_ev (r n s : Int) (h : (1 ≤ r ∧ r ≤ 2) ∧ (0 ≤ n ∧ n ≤ 120) ∧ (1 ≤ s ∧ s ≤ 127)) : Ev (fun k => spec_EncodeHeader.f k r n s) (hword r n s ++ hword r n s ++ hword r n s) := by
  unfold spec_EncodeHeader.f
  have hl := hbits_length r n s
  have hw := hword_length r n s
  refine evs (svalid_some r n s) (evp (dt h) (Ev.bind (sitb_ev r 2 (by omega) (by omega)) (Ev.bind (sitb_ev n 8 (by omega) (by omega)) (evp (by rw [itb_length, itb_length]; omega) (evs rfl (Ev.bind (sitb_ev s 7 (by omega) (by omega)) (evp (by simp [itb_length]) (evs rfl ?_))))))))
  refine Ev.bind (sparity_ev (hbits r n s) (by omega)) (evp (by simp [itb_length]) (evs rfl (evs rfl ?_)))
  show Ev (fun k => if ([] : List Int).length + (hword r n s).length < 17592186044416 then ((some (([] : List Int) ++ hword r n s)).bind fun y239 => (if y239.length + (hword r n s).length < 17592186044416 then ((some (y239 ++ hword r n s)).bind fun y242 => (if y242.length + (hword r n s).length < 17592186044416 then (some (y242 ++ hword r n s)) else none)) else none)) else none) _
  exact evp (by simp; omega) (evs (show some (([] : List Int) ++ hword r n s) = some (hword r n s) from rfl) (evp (by omega) (evs rfl (evp (by simp; omega) (evc rfl)))))
theorem scrc_in (l : List Int) (i : Nat) (hi : i ≤ 1000000) (r : Int) : ∀ (d j : Nat) (x : Int), j + d = 8 → Ev (fun k => spec_Crc16.l0 k l (crcIn d x) ((i + 1 : Nat) : Int)) r → Ev (fun k => spec_Crc16.l1 k l x i j) r := by
  intro d
  induction d with
  | zero =>
    intro j x hj h
    refine ev1 (evn (by omega) ?_)
    rw [w64s (n := (i : Int) + 1) (by omega) (by omega)]
    exact h
  | succ d ih =>
    intro j x hj h
    have hw : wrap64 ((j : Int) + 1) = ((j + 1 : Nat) : Int) := by rw [w64s (by omega) (by omega)]; omega
    refine ev1 (evp (by omega) ?_)
    rw [hw]
    unfold crcIn at h
    by_cases hb : Go.bits .and .i64 x 1 = 1
    · rw [if_pos hb] at h
      exact evp hb (ih (j + 1) _ (by omega) h)
    · rw [if_neg hb] at h
      exact evn hb (ih (j + 1) _ (by omega) h)
theorem scrc_loop (l : List Int) (hb : Bytes l) (hn : l.length ≤ 100000) : ∀ (d i : Nat) (x : Int), i + d = l.length → Ev (fun k => spec_Crc16.l0 k l x i) (crcGo x (l.drop i)) := by
  intro d
  induction d with
  | zero =>
    intro i x hi
    rw [List.drop_of_length_le (by omega)]
    exact ev1 (evn (by omega) (evc rfl))
  | succ d ih =>
    intro i x hi
    have hx := hb _ (rd_mem (l := l) (i := i) (by omega))
    refine ev1 (evp (by omega) (evp (by omega) ?_))
    rw [rd_nat, w64s (n := l.getD i 0) (by omega) (by omega), dropGetD l i (by omega)]
    exact scrc_in l i (by omega) _ 8 0 _ (by omega) (ih (i + 1) _ (by omega))
theorem sacrc_ev (l : List Int) (hb : Bytes l) (hn : l.length ≤ 100000) : Ev (fun k => spec_AppendCrc.f k l) (crcL l) := by
  have hr := crcGo_range l 65535 hb (by omega)
  unfold spec_AppendCrc.f
  refine Ev.bind (scrc_loop l hb hn l.length 0 65535 (by omega)) (evs rfl (evp (by simp; omega) (evs (show some (([] : List Int) ++ l) = some l from rfl) (evs rfl (evp (by simp; omega) (evc ?_))))))
  rw [List.drop_zero]
  unfold crcL
  rw [show crcGo 65535 l / 256 % 256 = crcGo 65535 l / 256 by omega]
theorem sb2b_in (l : List Int) (hb : Bytes l) (i : Nat) (hi : i < l.length) (hn : l.length ≤ 1000) (r : List Int) : ∀ (d j : Nat) (acc : List Int), j + d = 8 → acc.length + d ≤ 100000 → Ev (fun k => spec_BytesToBits.l0 k l (acc ++ (List.range' j d).map (itbAt (l.getD i 0))) ((i + 1 : Nat) : Int)) r → Ev (fun k => spec_BytesToBits.l1 k l acc i j) r := by
  intro d
  induction d with
  | zero =>
    intro j acc hj ha h
    refine ev1 (evn (by omega) ?_)
    rw [w64s (n := (i : Int) + 1) (by omega) (by omega)]
    simpa using h
  | succ d ih =>
    intro j acc hj ha h
    have hx := hb _ (rd_mem (l := l) (i := i) hi)
    have hw : wrap64 ((j : Int) + 1) = ((j + 1 : Nat) : Int) := by rw [w64s (by omega) (by omega)]; omega
    refine ev1 (evp (by omega) (evp (by omega) (evp (by omega) (evp (by omega) (evp (by omega) ?_)))))
    rw [hw, rd_nat, w64s (n := l.getD i 0) (by omega) (by omega)]
    rw [List.range'_succ, List.map_cons] at h
    have h' : Ev (fun k => spec_BytesToBits.l0 k l ((acc ++ [itbAt (l.getD i 0) j]) ++ (List.range' (j + 1) d).map (itbAt (l.getD i 0))) ((i + 1 : Nat) : Int)) r := by
      rw [List.append_assoc]
      exact h
    exact ih (j + 1) _ (by omega) (by simp; omega) h'
theorem sb2b_loop (l : List Int) (hb : Bytes l) (hn : l.length ≤ 1000) : ∀ (d i : Nat) (acc : List Int), i + d = l.length → acc.length ≤ 8 * i → Ev (fun k => spec_BytesToBits.l0 k l acc i) (acc ++ b2bL (l.drop i)) := by
  intro d
  induction d with
  | zero =>
    intro i acc hi ha
    rw [List.drop_of_length_le (by omega)]
    exact ev1 (evn (by omega) (evc (by simp [b2bL])))
  | succ d ih =>
    intro i acc hi ha
    refine ev1 (evp (by omega) ?_)
    have h := ih (i + 1) (acc ++ itb (l.getD i 0) 8) (by omega) (by simp [itb_length]; omega)
    rw [List.append_assoc, ← b2bL_cons, ← dropGetD l i (by omega)] at h
    exact sb2b_in l hb i (by omega) hn _ 8 0 acc (by omega) (by omega) h
theorem sb2b_ev (l : List Int) (hb : Bytes l) (hn : l.length ≤ 1000) : Ev (fun k => spec_BytesToBits.f k l) (b2bL l) := by
  have := sb2b_loop l hb hn l.length 0 [] (by omega) (by simp)
  exact this
theorem sbits_loop (l : List Int) (hn : l.length ≤ 4000000000000000) : ∀ (d i : Nat), i + d = l.length → Ev (fun k => spec_IsBitString.l0 k l i) ((l.drop i).all fun x => decide (0 ≤ x ∧ x ≤ 1)) := by
  intro d
  induction d with
  | zero =>
    intro i hi
    rw [List.drop_of_length_le (by omega)]
    exact ev1 (evn (by omega) (evc rfl))
  | succ d ih =>
    intro i hi
    refine ev1 (evp (by omega) (evp (by omega) (evs (l1_some _ _ _) ?_)))
    rw [drop_getD l i (by omega), List.all_cons, rd_nat]
    by_cases h : 0 ≤ l.getD i 0 ∧ l.getD i 0 ≤ 1
    · rw [decide_eq_true h, w64s (n := (i : Int) + 1) (by omega) (by omega)]
      exact evp rfl (ih (i + 1) (by omega))
    · rw [decide_eq_false h]
      exact evn (by decide) (evc rfl)
theorem sbits_ev (l : List Int) (hn : l.length ≤ 4000000000000000) : Ev (fun k => spec_IsBitString.f k l) (l.all fun x => decide (0 ≤ x ∧ x ≤ 1)) := sbits_loop l hn l.length 0 (by omega)
theorem bits_all {l : List Int} (h : Bits l) : (l.all fun x => decide (0 ≤ x ∧ x ≤ 1)) = true := by
  rw [List.all_eq_true]
  intro x hx
  have := h x hx
  exact decide_eq_true (by omega)
theorem snextscr_some (s : Int) : spec_NextScramblerState.f s = some (scrNext s) := by
  unfold spec_NextScramblerState.f scrNext
  rw [l1_some]
  simp only [Option.bind_some]
  by_cases h : 1 ≤ s ∧ s ≤ 127
  · rw [if_pos (dt h), if_pos h]
    rfl
  · rw [if_neg (dnt h), if_neg h]
theorem sscr_loop (l : List Int) (hn : l.length ≤ 1000000) : ∀ (d i : Nat) (s : Int) (x : List Int), i + d = l.length → x.length = l.length → Ev (fun k => spec_Scramble.l0 k s l x i) (x.take i ++ scrGo s (l.drop i)) := by
  intro d
  induction d with
  | zero =>
    intro i s x hi hx
    rw [List.drop_of_length_le (by omega), List.take_of_length_le (by omega)]
    exact ev1 (evn (by omega) (evc (by simp [scrGo])))
  | succ d ih =>
    intro i s x hi hx
    refine ev1 (evp (by omega) (evp (by omega) (evs (show spec_l5Out.f s = some (scrOut s) from rfl) (evp (by omega) (evs (snextscr_some s) ?_)))))
    rw [w64s (n := (i : Int) + 1) (by omega) (by omega), Int.toNat_natCast, rd_nat, drop_getD l i (by omega), scrGo]
    have h := ih (i + 1) (scrNext s) (x.set i (Go.bits .xor .i64 (l.getD i 0) (scrOut s))) (by omega) (by simpa using hx)
    rw [take_set_succ x i _ (by omega), List.append_assoc] at h
    exact h
theorem sscr_ev (s : Int) (l : List Int) (hb : Bits l) (hn : l.length ≤ 1000000) : Ev (fun k => spec_Scramble.f k s l) (scrL s l) := by
  unfold spec_Scramble.f scrL
  refine evs rfl (evp (by simp; omega) (evs (show some (([] : List Int) ++ l) = some l from rfl) (evs (l1_some _ _ _) ?_)))
  by_cases h : 1 ≤ s ∧ s ≤ 127
  · rw [if_pos h]
    have hbb := sbits_ev l (by omega)
    rw [bits_all hb] at hbb
    have hl : Ev (fun k => spec_Scramble.j0 k s l l false) (scrGo s l) := by
      have := sscr_loop l hn l.length 0 s l (by omega) rfl
      exact ev1 this
    exact evp (dt h) (Ev.bind hbb hl)
  · rw [if_neg h]
    exact evn (dnt h) (ev1 (evk fun _ => rfl))
theorem spair_some (s b : Int) (hs : 0 ≤ s ∧ s ≤ 3) (hb : b = 0 ∨ b = 1) : spec_OutputPair.f s b = some (outX s b, outY s b) ∧ spec_NextState.f s b = some (nxt s b) := by
  have hc : s = 0 ∨ s = 1 ∨ s = 2 ∨ s = 3 := by omega
  rcases hc with rfl | rfl | rfl | rfl <;> rcases hb with rfl | rfl <;> exact ⟨by decide +kernel, by decide +kernel⟩
theorem sconv_loop (l : List Int) (hb : Bits l) (hn : l.length ≤ 1000000000) : ∀ (d i : Nat) (acc : List Int) (s : Int), i + d = l.length + 2 → acc.length + 2 * d ≤ 4000000000 → 0 ≤ s ∧ s ≤ 3 →
    Ev (fun k => spec_ConvolutionalEncode.l0 k l acc s i) (acc ++ convGo s ((l ++ [0, 0]).drop i)) := by
  intro d
  induction d with
  | zero =>
    intro i acc s hi ha hs
    rw [List.drop_of_length_le (by simp; omega)]
    refine ev1 (evn (by rw [w64s (by omega) (by omega)]; omega) (evc (by simp [convGo])))
  | succ d ih =>
    intro i acc s hi ha hs
    have hbit : (l ++ [0, 0]).getD i 0 = 0 ∨ (l ++ [0, 0]).getD i 0 = 1 := by
      rw [pad_getD]
      split
      · exact bits_getD hb i
      · exact .inl rfl
    obtain ⟨h1, h2⟩ := spair_some s _ hs hbit
    have h3 := ih (i + 1) (acc ++ [outX s ((l ++ [0, 0]).getD i 0), outY s ((l ++ [0, 0]).getD i 0)]) (nxt s ((l ++ [0, 0]).getD i 0)) (by omega) (by simp; omega) (nxt_range _ _)
    rw [drop_getD (l ++ [0, 0]) i (by simp; omega), convGo]
    rw [List.append_assoc] at h3
    refine ev1 (evp (by rw [w64s (by omega) (by omega)]; omega) ?_)
    have hw : wrap64 ((i : Int) + 1) = ((i + 1 : Nat) : Int) := by rw [w64s (by omega) (by omega)]; omega
    by_cases h : i < l.length
    · rw [pad_getD, if_pos h] at h1 h2 h3 ⊢
      refine evp (by omega) (evp (by omega) ?_)
      rw [rd_nat, hw]
      exact evs h1 (evs rfl (evp (by simp; omega) (evs h2 h3)))
    · rw [pad_getD, if_neg h] at h1 h2 h3 ⊢
      refine evn (by omega) ?_
      rw [hw]
      exact evs h1 (evs rfl (evp (by simp; omega) (evs h2 h3)))
theorem sconv_ev (l : List Int) (hb : Bits l) (hn : l.length ≤ 1000000000) : Ev (fun k => spec_ConvolutionalEncode.f k l) (conv l) := by
  unfold spec_ConvolutionalEncode.f
  have h := sbits_ev l (by omega)
  rw [bits_all hb] at h
  refine evs rfl (Ev.bind h (evp rfl ?_))
  exact sconv_loop l hb hn (l.length + 2) 0 [] 0 (by omega) (by simp; omega) (by omega)
theorem spunct_loop (l : List Int) (hn : l.length ≤ 1000000000) : ∀ (d i : Nat) (acc : List Int), i + d = l.length → acc.length ≤ i → Ev (fun k => spec_Puncture.l0 k l acc i) (acc ++ punctGo i (l.drop i)) := by
  intro d
  induction d with
  | zero =>
    intro i acc hi ha
    rw [List.drop_of_length_le (by omega)]
    exact ev1 (evn (by omega) (evc (by simp [punctGo])))
  | succ d ih =>
    intro i acc hi ha
    rw [drop_getD' l i (by omega), punctGo]
    refine ev1 (evp (by omega) ?_)
    rw [tmod4, w64s (n := (i : Int) + 1) (by omega) (by omega), rd_nat]
    by_cases h : i % 4 = 3
    · rw [if_pos h]
      exact evp (by omega) (ih (i + 1) acc (by omega) (by omega))
    · rw [if_neg h]
      refine evn (by omega) (evp (by omega) (evp (by omega) ?_))
      have := ih (i + 1) (acc ++ [l.getD i 0]) (by omega) (by simp; omega)
      rw [List.append_assoc] at this
      exact this
theorem spunct_ev (l : List Int) (hn : l.length ≤ 1000000000) : Ev (fun k => spec_Puncture.f k l) (punctGo 0 l) := by
  have := spunct_loop l hn l.length 0 [] (by omega) (by simp)
  rw [List.drop_zero] at this
  exact this
theorem smin_some (a b : Int) : spec_Min.f a b = some (if b < a then b else a) := by
  unfold spec_Min.f
  split <;> rfl
theorem l8_some (a b : Int) : spec_l8Ok.f a b = some (decide ((1 ≤ b ∧ b ≤ 64) ∧ (0 ≤ a ∧ a ≤ 10000))) := by
  unfold spec_l8Ok.f
  by_cases h : 1 ≤ b ∧ b ≤ 64 <;> simp [l1_some, h]
theorem idx_same (a b c : Int) : spec_InterleavedIndex.f a b c = impl_InterleavedIndex.f a b c := by
  unfold spec_InterleavedIndex.f impl_InterleavedIndex.f
  simp only [isInter_some, l8_some, in_some, l1_some, min_some, smin_some]
theorem sint_loop (l : List Int) (b : Int) (hb : 1 ≤ b ∧ b ≤ 64) (hn : l.length ≤ 10000) : ∀ (d i : Nat) (x : List Int), i + d = l.length → x.length = l.length → Ev (fun k => spec_Interleave.l0 k l b x i) (intGo l b d i x) := by
  intro d
  induction d with
  | zero =>
    intro i x hi hx
    exact ev1 (evn (by omega) (evc rfl))
  | succ d ih =>
    intro i x hi hx
    obtain ⟨h1, h2⟩ := ipl_lt l b hb.1 i (by omega)
    refine ev1 (evp (by omega) (evs ((idx_same _ _ _).trans (idx_is _ _ _ hb (by omega) (by omega))) ?_))
    rw [← h2, rd_nat, w64s (n := (i : Int) + 1) (by omega) (by omega), Int.toNat_natCast]
    exact evp (by omega) (evp (by omega) (evp (by omega) (ih (i + 1) _ (by omega) (by simpa using hx))))
theorem sint_ev (l : List Int) (b : Int) (hn : l.length ≤ 4000000) : Ev (fun k => spec_Interleave.f k l b) (intL l b) := by
  unfold spec_Interleave.f intL
  refine evs rfl (evp (by simp; omega) (evs (show some (([] : List Int) ++ l) = some l from rfl) (evs (l8_some _ _) ?_)))
  by_cases h : (1 ≤ b ∧ b ≤ 64) ∧ (0 ≤ (l.length : Int) ∧ (l.length : Int) ≤ 10000)
  · rw [if_pos h]
    exact evp (dt h) (sint_loop l b h.1 (by omega) l.length 0 l (by omega) rfl)
  · rw [if_neg h]
    exact evn (dnt h) (evc rfl)
theorem stx_ev (a0 a1 a2 : Int) (l : List Int) (hl : Bytes l) (h : validH a0 a1 a2) (hn : (l.length : Int) = a1) : Ev (fun k => spec_TransmitFrame.f k a0 a1 a2 l) (txL a0 a1 a2 l) := by
  have hn2 : l.length ≤ 120 := by unfold validH at h; omega
  have h1 := hword_length a0 a1 a2
  have h2 : (scrL a2 (b2bL (crcL l))).length = 8 * (l.length + 2) := by rw [scrL_length, b2bL_length, crc_len]
  have h3 := conv_length (scrL a2 (b2bL (crcL l)))
  have h4 := punctGo_length (conv (scrL a2 (b2bL (crcL l)))) 0
  have hb := scrL_bits a2 _ (b2bL_bits (crcL l))
  unfold spec_TransmitFrame.f
  refine evs (svalid_some a0 a1 a2) (evp (dt h) ?_)
  have hne : ((l.length : Int) != a1) = false := by simp [hn]
  rw [hne]
  refine ev1 (Ev.bind (sacrc_ev l hl (by omega)) (Ev.bind (sb2b_ev _ (crcL_bytes l hl) (by rw [crc_len]; omega)) (Ev.bind (sscr_ev a2 _ (b2bL_bits _) (by rw [b2bL_length, crc_len]; omega)) (Ev.bind (sconv_ev _ hb (by omega)) ?_))))
  unfold txL
  by_cases h0 : a0 = 2
  · rw [if_pos h0]
    refine evp h0 (Ev.bind (spunct_ev _ (by omega)) (Ev.bind (senc_ev a0 a1 a2 h) (Ev.bind (sint_ev _ 8 (by omega)) (evp (by simp only [List.length_append, intL_length]; omega) (evc rfl)))))
  · rw [if_neg h0]
    refine evn h0 (Ev.bind (senc_ev a0 a1 a2 h) (Ev.bind (sint_ev _ 8 (by omega)) (evp (by simp only [List.length_append, intL_length]; omega) (evc rfl))))
theorem triple_at (b : List Int) (hl : b.length = 18) (i : Nat) (h : i < 18) : (b ++ b ++ b).getD i 0 = b.getD i 0 ∧ (b ++ b ++ b).getD (i + 18) 0 = b.getD i 0 ∧ (b ++ b ++ b).getD (i + 36) 0 = b.getD i 0 := by
  simp only [List.getD_eq_getElem?_getD]
  refine ⟨?_, ?_, ?_⟩
  · rw [List.append_assoc, List.getElem?_append_left (by omega)]
  · rw [List.append_assoc, List.getElem?_append_right (by omega), List.getElem?_append_left (by omega), hl]
    simp
  · rw [List.append_assoc, List.getElem?_append_right (by omega), List.getElem?_append_right (by omega), hl]
    simp
theorem maj_flip (b : List Int) (hl : b.length = 18) (hb : Bits b) (q : Nat) (hq : q < 54) (v : Int) : majL ((b ++ b ++ b).set q v) = b := by
  refine list_ext (by rw [majL_length, hl]) (fun i hi => ?_)
  rw [majL_length] at hi
  rw [majL_at _ i hi]
  obtain ⟨t1, t2, t3⟩ := triple_at b hl i hi
  have hb' := bits_getD hb i
  unfold majAt
  rw [getD_set, getD_set, getD_set, t1, t2, t3]
  have hlen : (b ++ b ++ b).length = 54 := by simp [hl]
  rw [hlen]
  simp only [ones]
  by_cases q1 : q = i
  · have q2 : ¬ (q = i + 18) := by omega
    have q3 : ¬ (q = i + 36) := by omega
    simp only [q2, q3, false_and, if_false]
    rcases hb' with e | e <;> rw [e] <;> split <;> (try simp) <;> (try (split <;> omega))
  · by_cases q2 : q = i + 18
    · have q3 : ¬ (q = i + 36) := by omega
      simp only [q1, q3, false_and, if_false]
      rcases hb' with e | e <;> rw [e] <;> split <;> (try simp) <;> (try (split <;> omega))
    · simp only [q1, q2, false_and, if_false]
      rcases hb' with e | e <;> rw [e] <;> split <;> (try simp) <;> (try (split <;> omega))
theorem hdr_back (r n s : Int) (h : (1 ≤ r ∧ r ≤ 2) ∧ (0 ≤ n ∧ n ≤ 120) ∧ (1 ≤ s ∧ s ≤ 127)) : hdrV (hword r n s) = (r, n, s, true) := by
  have e1 : (hword r n s).take 2 = itb r 2 := by
    simp only [hword, hbits, List.append_assoc]
    rw [List.take_append_of_le_length (by rw [itb_length]; omega), List.take_of_length_le (by rw [itb_length]; omega)]
  have e2 : ((hword r n s).take 10).drop 2 = itb n 8 := by
    simp only [hword, hbits, List.append_assoc]
    rw [← List.append_assoc, List.take_append_of_le_length (by simp [itb_length]), List.take_of_length_le (by simp [itb_length]), List.drop_append_of_le_length (by rw [itb_length]; omega), List.drop_of_length_le (by rw [itb_length]; omega)]
    rfl
  have e3 : ((hword r n s).take 17).drop 10 = itb s 7 := by
    simp only [hword]
    rw [List.take_append_of_le_length (by rw [hbits_length]; omega), List.take_of_length_le (by rw [hbits_length]; omega)]
    simp only [hbits]
    rw [List.drop_append_of_le_length (by simp [itb_length]), List.drop_of_length_le (by simp [itb_length])]
    rfl
  have p : Int.tmod (ones (hword r n s)) 2 = 0 := by
    have ho := ones_range (hbits r n s)
    simp only [hword]
    rw [ones_append, Int.tmod_eq_emod_of_nonneg ho.1]
    simp only [ones]
    generalize ones (hbits r n s) = m at *
    rw [Int.tmod_eq_emod_of_nonneg (by split <;> omega)]
    split <;> omega
  unfold hdrV
  rw [e1, e2, e3, round_of round2 r (by omega), round_of round8 n (by omega), round_of round7 s (by omega), if_pos ⟨p, h⟩]
theorem de_int (l : List Int) (b : Int) : deL (intL l b) b = l := by
  have hl := intL_length l b
  by_cases h : (1 ≤ b ∧ b ≤ 64) ∧ (0 ≤ (l.length : Int) ∧ (l.length : Int) ≤ 10000)
  · have e : deL (intL l b) b = deGo (intL l b) b (intL l b).length 0 (intL l b) := by
      unfold deL
      rw [if_pos (by rw [hl]; exact h)]
    rw [e]
    refine list_ext (by rw [deGo_length, hl]) (fun j hj => ?_)
    rw [deGo_length, hl] at hj
    rw [deGo_at (intL l b) b _ 0 _ (by omega) rfl (fun j h => by omega) j (by omega)]
    have e2 : ipl (intL l b) b j = ipl l b j := by
      unfold ipl
      rw [hl]
    rw [e2]
    unfold intL
    rw [if_pos h]
    exact intGo_at l b h.1.1 l.length 0 l (by omega) rfl (fun j h => by omega) j hj
  · unfold deL
    rw [if_neg (by rw [hl]; exact h)]
    unfold intL
    rw [if_neg h]
def pot (s t : Int) : Int := if s % 2 = t % 2 then (if s = t then 0 else 2) else 3
theorem symD_bits (a b : Int) (ha : a = 0 ∨ a = 1) : symD a b = if a = b then 0 else 1 := by
  unfold symD
  rw [if_neg (by omega)]
theorem pot_step (s t a b : Int) (hs : In4 s) (ht : In4 t) (ha : a = 0 ∨ a = 1) (hb : b = 0 ∨ b = 1) :
    pot s t ≤ bdist t b (outX s a) (outY s a) + pot (nxt s a) (nxt t b) := by
  rcases four hs with rfl | rfl | rfl | rfl <;> rcases four ht with rfl | rfl | rfl | rfl <;> rcases ha with rfl | rfl <;> rcases hb with rfl | rfl <;> decide
theorem pot_new (s a b : Int) (hs : In4 s) (ha : a = 0 ∨ a = 1) (hb : b = 0 ∨ b = 1) (hne : a ≠ b) :
    5 ≤ bdist s b (outX s a) (outY s a) + pot (nxt s a) (nxt s b) := by
  rcases four hs with rfl | rfl | rfl | rfl <;> rcases ha with rfl | rfl <;> rcases hb with rfl | rfl <;> first | decide | exact absurd rfl hne
def endS : Int → List Int → Int
  | s, [] => s
  | s, b :: r => endS (nxt s b) r
theorem endS_tail : ∀ (u : List Int) (s : Int), In4 s → endS s (u ++ [0, 0]) = 0
  | [], s, h => by
    unfold In4 at h
    show nxt (nxt s 0) 0 = 0
    unfold nxt
    omega
  | b :: r, s, _ => endS_tail r (nxt s b) (nxt_range s b)
theorem conv_diff (s t a b : Int) (u v : List Int) : diffs (convGo s (a :: u)) (convGo t (b :: v)) = bdist t b (outX s a) (outY s a) + diffs (convGo (nxt s a) u) (convGo (nxt t b) v) := by
  simp only [convGo, diffs]
  unfold bdist
  omega
theorem pot_go : ∀ (u v : List Int) (s t : Int), u.length = v.length → Bits u → Bits v → In4 s → In4 t →
    pot s t ≤ diffs (convGo s u) (convGo t v) + pot (endS s u) (endS t v)
  | [], [], s, t, _, _, _, _, _ => by
    simp only [convGo, diffs, endS]
    omega
  | [], b :: v, s, t, h, _, _, _, _ => by simp at h
  | a :: u, [], s, t, h, _, _, _, _ => by simp at h
  | a :: u, b :: v, s, t, h, hu, hv, hs, ht => by
    have h1 := pot_step s t a b hs ht (hu a List.mem_cons_self) (hv b List.mem_cons_self)
    have h2 := pot_go u v (nxt s a) (nxt t b) (by simpa using h) (fun x hx => hu x (List.mem_cons_of_mem _ hx)) (fun x hx => hv x (List.mem_cons_of_mem _ hx)) (nxt_range s a) (nxt_range t b)
    rw [conv_diff]
    simp only [endS]
    omega
theorem dist_go : ∀ (u v : List Int) (s : Int), u.length = v.length → Bits u → Bits v → In4 s → u ≠ v → 5 ≤ diffs (convGo s u) (convGo s v) + pot (endS s u) (endS s v)
  | [], [], s, _, _, _, _, hne => absurd rfl hne
  | [], b :: v, s, h, _, _, _, _ => by simp at h
  | a :: u, [], s, h, _, _, _, _ => by simp at h
  | a :: u, b :: v, s, h, hu, hv, hs, hne => by
    have hu' : Bits u := fun x hx => hu x (List.mem_cons_of_mem _ hx)
    have hv' : Bits v := fun x hx => hv x (List.mem_cons_of_mem _ hx)
    rw [conv_diff]
    simp only [endS]
    by_cases e : a = b
    · subst e
      have h2 := dist_go u v (nxt s a) (by simpa using h) hu' hv' (nxt_range s a) (fun q => hne (by rw [q]))
      have := (bdist_range s a (outX s a) (outY s a)).1
      omega
    · have h1 := pot_new s a b hs (hu a List.mem_cons_self) (hv b List.mem_cons_self) e
      have h2 := pot_go u v (nxt s a) (nxt s b) (by simpa using h) hu' hv' (nxt_range s a) (nxt_range s b)
      omega
theorem bits_tail {w : List Int} (h : Bits w) : Bits (w ++ [0, 0]) := by
  intro x hx
  rw [List.mem_append] at hx
  rcases hx with hx | hx
  · exact h x hx
  · simp at hx
    exact .inl hx
theorem conv_far (u v : List Int) (h : u.length = v.length) (hu : Bits u) (hv : Bits v) (hne : u ≠ v) : 5 ≤ diffs (conv u) (conv v) := by
  have h1 := dist_go (u ++ [0, 0]) (v ++ [0, 0]) 0 (by simp [h]) (bits_tail hu) (bits_tail hv) ⟨by omega, by omega⟩ (fun q => hne (List.append_cancel_right q))
  rw [endS_tail u 0 ⟨by omega, by omega⟩, endS_tail v 0 ⟨by omega, by omega⟩] at h1
  unfold conv
  have e : pot 0 0 = 0 := by decide
  omega
theorem symD_tri (a b c : Int) (ha : a = 0 ∨ a = 1) (hb : b = 0 ∨ b = 1) : symD b c ≤ symD a b + symD a c := by
  rw [symD_bits b c hb, symD_bits a b ha, symD_bits a c ha]
  repeat' split
  all_goals omega
theorem diffs_tri : ∀ (l u v : List Int), l.length = u.length → l.length = v.length → Bits l → Bits u → diffs u v ≤ diffs l u + diffs l v
  | [], [], [], _, _, _, _ => by simp [diffs]
  | a :: l, b :: u, c :: v, h1, h2, hl, hu => by
    have h3 := diffs_tri l u v (by simpa using h1) (by simpa using h2) (fun x hx => hl x (List.mem_cons_of_mem _ hx)) (fun x hx => hu x (List.mem_cons_of_mem _ hx))
    have h4 := symD_tri a b c (hl a List.mem_cons_self) (hu b List.mem_cons_self)
    simp only [diffs]
    omega
  | [], b :: u, v, h1, _, _, _ => by simp at h1
  | a :: l, [], v, h1, _, _, _ => by simp at h1
  | [], [], c :: v, _, h2, _, _ => by simp at h2
  | a :: l, b :: u, [], _, h2, _, _ => by simp at h2
theorem vit_near (l w : List Int) (hb : Bits l) (hl : l.length = 2 * w.length + 4) (hw : Bits w) (h : diffs l (conv w) ≤ 2) : vbits l w.length = w ∧ vcost l w.length = diffs l (conv w) := by
  have h1 := vbits_diffs l w.length hl
  have h2 := vbits_best l w.length hl w hw rfl
  have hc := conv_length w
  have hv := conv_length (vbits l w.length)
  rw [vbits_length] at hv
  have e : vbits l w.length = w := by
    by_cases q : vbits l w.length = w
    · exact q
    · have h3 := conv_far _ _ (vbits_length l w.length) (vbits_bits l w.length) hw q
      have h4 := diffs_tri l (conv (vbits l w.length)) (conv w) (by omega) (by omega) hb (convGo_bits _ _)
      omega
  rw [e] at h1
  exact ⟨e, h1.symm⟩
theorem diffs_self : ∀ l : List Int, diffs l l = 0
  | [] => rfl
  | a :: l => by
    have := diffs_self l
    simp only [diffs]
    unfold symD
    split
    · omega
    · rw [if_pos rfl]
      omega
theorem diffs_set : ∀ (l w : List Int) (i : Nat) (x : Int), l.length = w.length → i < l.length → diffs (l.set i x) w = diffs l w - symD (l.getD i 0) (w.getD i 0) + symD x (w.getD i 0)
  | a :: l, b :: w, 0, x, _, _ => by
    simp only [List.set_cons_zero, diffs, List.getD_cons_zero]
    omega
  | a :: l, b :: w, i + 1, x, h, hi => by
    have := diffs_set l w i x (by simpa using h) (by simpa using hi)
    simp only [List.set_cons_succ, diffs, List.getD_cons_succ]
    omega
  | [], _, i, x, _, hi => by simp at hi
  | a :: l, [], i, x, h, _ => by simp at h
theorem itb_at (n : Int) (c j : Nat) (h : j < c) : (itb n c).getD j 0 = itbAt n j := by
  simp [itb, List.getD_eq_getElem?_getD, List.getElem?_map, List.getElem?_range' h]
theorem b2b_at : ∀ (x : List Int) (q j : Nat), q < x.length → j < 8 → (b2bL x).getD (8 * q + j) 0 = itbAt (x.getD q 0) j
  | [], q, j, h, _ => by simp at h
  | b :: r, 0, j, _, hj => by
    rw [b2bL_cons, List.getD_eq_getElem?_getD, List.getElem?_append_left (by rw [itb_length]; omega), ← List.getD_eq_getElem?_getD, show 8 * 0 + j = j by omega, itb_at _ _ _ hj]
    rfl
  | b :: r, q + 1, j, h, hj => by
    rw [b2bL_cons, List.getD_eq_getElem?_getD, List.getElem?_append_right (by rw [itb_length]; omega), itb_length, ← List.getD_eq_getElem?_getD, show 8 * (q + 1) + j - 8 = 8 * q + j by omega, b2b_at r q j (by simpa using h) hj]
    simp
theorem bytes_b2b (x : List Int) (hb : Bytes x) : bytesL (b2bL x) = x := by
  have hl := b2bL_length x
  refine list_ext (by rw [bytesL_length, hl]; omega) (fun q hq => ?_)
  rw [bytesL_length] at hq
  rw [bytesL_at _ q hq]
  have e : bitsAt (b2bL x) q = itb (x.getD q 0) 8 := by
    refine list_ext (by rw [bitsAt_length _ _ (by omega), itb_length]) (fun j hj => ?_)
    rw [bitsAt_length _ _ (by omega)] at hj
    rw [bitsAt_at _ _ _ hj, b2b_at x q j (by omega) hj, itb_at _ _ _ hj]
  have h1 := hb _ (rd_mem (l := x) (i := q) (by omega))
  rw [e, round_of round8 _ (by omega)]
theorem xor_twice (a b : Int) (ha : a = 0 ∨ a = 1) (hb : b = 0 ∨ b = 1) : Go.bits .xor .i64 (Go.bits .xor .i64 a b) b = a := by
  rcases ha with rfl | rfl <;> rcases hb with rfl | rfl <;> decide +kernel
theorem scrGo_twice : ∀ (l : List Int) (s : Int), Bits l → scrGo s (scrGo s l) = l
  | [], _, _ => rfl
  | b :: r, s, h => by
    simp only [scrGo]
    rw [xor_twice _ (scrOut s) (h b (by simp)) (show scrOut s = 0 ∨ scrOut s = 1 from andOne _), scrGo_twice r _ (fun y hy => h y (by simp [hy]))]
theorem scr_twice (s : Int) (l : List Int) (h : Bits l) : scrL s (scrL s l) = l := by
  unfold scrL
  split
  · exact scrGo_twice l s h
  · rfl
def inB (a2 : Int) (b : List Int) : List Int := scrL a2 (b2bL (crcL b))
theorem inB_bits (a2 : Int) (b : List Int) : Bits (inB a2 b) := scrL_bits a2 _ (b2bL_bits _)
theorem inB_length (a2 : Int) (b : List Int) : (inB a2 b).length = 8 * (b.length + 2) := by
  unfold inB
  rw [scrL_length, b2bL_length, crc_len]
theorem rx_of (a0 a1 a2 : Int) (p b : List Int) (d : Int) (hb : Bytes b) (hd : 0 ≤ d) (hv : vdec (rxC a0 a1 p) = (inB a2 b, d)) : rxE a0 a1 a2 p = (a0, a1, a2, b, 0) := by
  unfold rxE rxB
  rw [hv]
  dsimp only
  unfold inB
  rw [if_neg (by omega), scr_twice _ _ (b2bL_bits _), bytes_b2b _ (crcL_bytes b hb), chkV_crc]
  rfl
theorem set_same (l : List Int) (i : Nat) : l.set i (l.getD i 0) = l := by
  refine list_ext (by simp) (fun j hj => ?_)
  rw [getD_set]
  split
  · rename_i h
    rw [h.1]
  · rfl
theorem maj_clean (b : List Int) (hl : b.length = 18) (hb : Bits b) : majL (b ++ b ++ b) = b := by
  have := maj_flip b hl hb 0 (by omega) ((b ++ b ++ b).getD 0 0)
  rw [set_same] at this
  exact this
def hdr3 (a0 a1 a2 : Int) : List Int := hword a0 a1 a2 ++ hword a0 a1 a2 ++ hword a0 a1 a2
theorem hdr3_length (a0 a1 a2 : Int) : (hdr3 a0 a1 a2).length = 54 := by
  have h1 := hword_length a0 a1 a2
  unfold hdr3
  simp only [List.length_append]
  omega
theorem rxV_tx (a0 a1 a2 : Int) (h : validH a0 a1 a2) (p : List Int) (hp : p.length = psym a0 a1) : rxV (hdrV (majL ((hdr3 a0 a1 a2 ++ p).take 54))) (hdr3 a0 a1 a2 ++ p) = rxE a0 a1 a2 p := by
  have h3 := hdr3_length a0 a1 a2
  have e1 : (hdr3 a0 a1 a2 ++ p).take 54 = hdr3 a0 a1 a2 := by
    rw [← h3, List.take_append_of_le_length (Nat.le_refl _), List.take_of_length_le (Nat.le_refl _)]
  have e2 : (hdr3 a0 a1 a2 ++ p).drop 54 = p := by
    rw [← h3, List.drop_append_of_le_length (Nat.le_refl _), List.drop_of_length_le (Nat.le_refl _)]
    rfl
  rw [e1]
  have e3 : majL (hdr3 a0 a1 a2) = hword a0 a1 a2 := maj_clean _ (hword_length _ _ _) (hword_bits _ _ _)
  rw [e3, hdr_back a0 a1 a2 h]
  unfold rxV
  rw [e2]
  exact if_pos ⟨rfl, by rw [List.length_append, h3, hp]⟩
def payL (a0 a2 : Int) (b : List Int) : List Int := intL (if a0 = 2 then punctGo 0 (conv (inB a2 b)) else conv (inB a2 b)) 8
theorem txL_split (a0 a1 a2 : Int) (b : List Int) : txL a0 a1 a2 b = hdr3 a0 a1 a2 ++ payL a0 a2 b := rfl
theorem payL_length (a0 a1 a2 : Int) (b : List Int) (hn : (b.length : Int) = a1) : (payL a0 a2 b).length = psym a0 a1 := by
  have h1 := inB_length a2 b
  have h2 := conv_length (inB a2 b)
  have h3 := punctGo_length (conv (inB a2 b)) 0
  unfold payL psym
  rw [intL_length]
  split <;> omega
theorem rxE_head (a0 a1 a2 : Int) (p : List Int) : (rxE a0 a1 a2 p).1 = a0 ∧ (rxE a0 a1 a2 p).2.1 = a1 ∧ (rxE a0 a1 a2 p).2.2.1 = a2 := by
  unfold rxE
  split
  · exact ⟨rfl, rfl, rfl⟩
  · split <;> exact ⟨rfl, rfl, rfl⟩
theorem vdec_ok (l : List Int) (h : 0 ≤ (vdec l).2) : (vdec l).1.length = l.length / 2 - 2 := by
  unfold vdec at h ⊢
  split at h
  · rw [if_pos (by assumption)]
    exact vbits_length _ _
  · exact absurd h (by decide)
theorem chkV_ok (l : List Int) (h : (chkV l).2 = true) : (chkV l).1.length = l.length - 2 := by
  unfold chkV at h ⊢
  split at h
  · rw [if_pos (by assumption)]
    simp
  · exact absurd h (by decide)
theorem rxE_len (a0 a1 a2 : Int) (h : validH a0 a1 a2) (p : List Int) (hp : p.length = psym a0 a1) (h0 : (rxE a0 a1 a2 p).2.2.2.2 = 0) : ((rxE a0 a1 a2 p).2.2.2.1.length : Int) = a1 := by
  unfold validH at h
  have hc := rxC_length a0 a1 p hp
  unfold rxE at h0 ⊢
  split at h0
  · exact absurd (show (2 : Int) = 0 from h0) (by decide)
  · rename_i hd
    rw [if_neg hd]
    split at h0
    · rename_i hk
      rw [if_pos hk]
      dsimp only
      rw [chkV_ok _ hk]
      unfold rxB
      rw [bytesL_length, scrL_length, vdec_ok _ (by omega), hc]
      omega
    · exact absurd (show (2 : Int) = 0 from h0) (by decide)
theorem symD_self (a : Int) : symD a a = 0 := by
  unfold symD
  split
  · rfl
  · rw [if_pos rfl]
theorem symD_flip (a : Int) (h : a = 0 ∨ a = 1) : symD (1 - a) a = 1 := by
  unfold symD
  rw [if_neg (by omega), if_neg (by omega)]
def inv1 (l : List Int) (i : Nat) : List Int := l.set i (1 - l.getD i 0)
theorem inv1_length (l : List Int) (i : Nat) : (inv1 l i).length = l.length := by simp [inv1]
theorem inv1_bits (l : List Int) (i : Nat) (h : Bits l) : Bits (inv1 l i) := by
  intro x hx
  have h1 := bits_getD h i
  rcases List.mem_or_eq_of_mem_set hx with hx | rfl
  · exact h x hx
  · omega
theorem inv1_diffs (l : List Int) (i : Nat) (h : Bits l) (hi : i < l.length) : diffs (inv1 l i) l = 1 := by
  unfold inv1
  rw [diffs_set l l i _ rfl hi, diffs_self, symD_self, symD_flip _ (bits_getD h i)]
  rfl
theorem inv2_diffs (l : List Int) (i j : Nat) (h : Bits l) (hi : i < l.length) (hj : j < l.length) (hne : i ≠ j) : diffs (inv1 (inv1 l i) j) l = 2 := by
  have e : (inv1 l i).getD j 0 = l.getD j 0 := by
    unfold inv1
    rw [getD_set, if_neg (fun q => hne q.1)]
  have h1 := inv1_diffs l i h hi
  have h2 : inv1 (inv1 l i) j = (inv1 l i).set j (1 - l.getD j 0) := by
    rw [← e]
    rfl
  rw [h2, diffs_set _ l j _ (inv1_length l i) (by rw [inv1_length]; exact hj), h1, e, symD_self, symD_flip _ (bits_getD h j)]
  rfl
theorem ipl_len (l m : List Int) (b : Int) (c : Nat) (h : l.length = m.length) : ipl l b c = ipl m b c := by
  unfold ipl
  rw [h]
theorem de_at (l : List Int) (b : Int) (hb : 1 ≤ b ∧ b ≤ 64) (hn : l.length ≤ 10000) (j : Nat) (hj : j < l.length) : (deL l b).getD j 0 = l.getD (ipl l b j) 0 := by
  unfold deL
  rw [if_pos ⟨hb, by omega, by omega⟩]
  exact deGo_at l b l.length 0 l (by omega) rfl (fun j h => by omega) j hj
theorem de_set (l : List Int) (v : Int) (hn : l.length ≤ 10000) (j : Nat) (hj : j < l.length) : deL (l.set (ipl l 8 j) v) 8 = (deL l 8).set j v := by
  refine list_ext (by rw [deL_length, List.length_set, List.length_set, deL_length]) (fun q hq => ?_)
  rw [deL_length, List.length_set] at hq
  rw [de_at _ 8 ⟨by omega, by omega⟩ (by rw [List.length_set]; omega) q (by rw [List.length_set]; omega), getD_set, getD_set, deL_length, de_at l 8 ⟨by omega, by omega⟩ hn q hq, ipl_len (l.set (ipl l 8 j) v) l 8 q (by simp)]
  have hq2 := (ipl_lt l 8 (by omega) q hq).1
  by_cases e : j = q
  · subst e
    rw [if_pos ⟨rfl, hq2⟩, if_pos ⟨rfl, hq⟩]
  · rw [if_neg (fun z => e (ipl_inj l 8 (by omega) j q hj hq z.1)), if_neg (fun z => e z.1)]
theorem de_inv (l : List Int) (hn : l.length ≤ 10000) (i : Nat) (hi : i < l.length) : ∃ j : Nat, j < l.length ∧ ipl l 8 j = i ∧ deL (inv1 l i) 8 = inv1 (deL l 8) j := by
  obtain ⟨j, hj, e⟩ := ipl_surj l 8 (by omega) i hi
  refine ⟨j, hj, e, ?_⟩
  unfold inv1
  rw [← e, de_set l _ hn j hj, de_at l 8 ⟨by omega, by omega⟩ hn j hj]
theorem rx_near (a1 a2 : Int) (p b : List Int) (hb : Bytes b) (hn : b.length ≤ 120) (hc : Bits (deL p 8)) (hl : (deL p 8).length = 2 * (inB a2 b).length + 4) (hd : diffs (deL p 8) (conv (inB a2 b)) ≤ 2) : rxE 1 a1 a2 p = (1, a1, a2, b, 0) := by
  have h1 := inB_length a2 b
  obtain ⟨e1, e2⟩ := vit_near (deL p 8) (inB a2 b) hc hl (inB_bits a2 b) hd
  have e3 : vdec (deL p 8) = (inB a2 b, vcost (deL p 8) (inB a2 b).length) := by
    rw [vdec_good _ _ (fun x hx => by have := hc x hx; omega) (by omega) hl, e1]
  have e4 : rxC 1 a1 p = deL p 8 := by
    unfold rxC
    rw [if_neg (by decide)]
  exact rx_of 1 a1 a2 p b _ hb (vcost_range _ _).1 (by rw [e4]; exact e3)
theorem pay_one (a2 : Int) (b : List Int) : payL 1 a2 b = intL (conv (inB a2 b)) 8 := by
  unfold payL
  rw [if_neg (by decide)]
theorem rx_flip1 (a1 a2 : Int) (b : List Int) (hb : Bytes b) (hn : b.length ≤ 120) (i : Nat) (hi : i < (payL 1 a2 b).length) : rxE 1 a1 a2 (inv1 (payL 1 a2 b) i) = (1, a1, a2, b, 0) := by
  have h1 := inB_length a2 b
  have h2 := conv_length (inB a2 b)
  have hB : Bits (conv (inB a2 b)) := convGo_bits _ _
  have hl : (payL 1 a2 b).length = (conv (inB a2 b)).length := by rw [pay_one, intL_length]
  obtain ⟨j, hj, _, e⟩ := de_inv (payL 1 a2 b) (by omega) i hi
  have ed : deL (payL 1 a2 b) 8 = conv (inB a2 b) := by rw [pay_one, de_int]
  rw [ed] at e
  refine rx_near a1 a2 _ b hb hn ?_ ?_ ?_
  · rw [e]
    exact inv1_bits _ _ hB
  · rw [e, inv1_length, h2]
  · rw [e, inv1_diffs _ _ hB (by omega)]
    omega
theorem rx_flip2 (a1 a2 : Int) (b : List Int) (hb : Bytes b) (hn : b.length ≤ 120) (i i2 : Nat) (hi : i < (payL 1 a2 b).length) (hi2 : i2 < (payL 1 a2 b).length) (hne : i ≠ i2) : rxE 1 a1 a2 (inv1 (inv1 (payL 1 a2 b) i) i2) = (1, a1, a2, b, 0) := by
  have h1 := inB_length a2 b
  have h2 := conv_length (inB a2 b)
  have hB : Bits (conv (inB a2 b)) := convGo_bits _ _
  have hl : (payL 1 a2 b).length = (conv (inB a2 b)).length := by rw [pay_one, intL_length]
  obtain ⟨j, hj, ej, e⟩ := de_inv (payL 1 a2 b) (by omega) i hi
  obtain ⟨j2, hj2, ej2, e2⟩ := de_inv (inv1 (payL 1 a2 b) i) (by rw [inv1_length]; omega) i2 (by rw [inv1_length]; omega)
  rw [inv1_length] at hj2
  rw [ipl_len (inv1 (payL 1 a2 b) i) (payL 1 a2 b) 8 j2 (inv1_length _ _)] at ej2
  have hjj : j ≠ j2 := fun q => hne (by rw [← ej, ← ej2, q])
  have ed : deL (payL 1 a2 b) 8 = conv (inB a2 b) := by rw [pay_one, de_int]
  rw [ed] at e
  rw [e] at e2
  refine rx_near a1 a2 _ b hb hn ?_ ?_ ?_
  · rw [e2]
    exact inv1_bits _ _ (inv1_bits _ _ hB)
  · rw [e2, inv1_length, inv1_length, h2]
  · rw [e2, inv2_diffs _ _ _ hB (by omega) (by omega) hjj]
    omega
theorem and255 (x : Int) : 0 ≤ Go.bits .and .i64 x 255 ∧ Go.bits .and .i64 x 255 ≤ 255 := by
  have h : ∀ n : Nat, n ≤ 255 → IntKind.i64.wrap (n : Int) = n := by
    intro n hn
    rw [IntKind.wrap_i64]
    omega
  have e : Go.bits .and .i64 x 255 = IntKind.i64.wrap ((BitVec.ofInt 64 x &&& BitVec.ofInt 64 255).toNat : Int) := rfl
  have hle : (BitVec.ofInt 64 x &&& BitVec.ofInt 64 255).toNat ≤ 255 := by
    rw [BitVec.toNat_and]
    exact Nat.and_le_right
  rw [e, h _ hle]
  omega
def Cur (l : List Int) (i : Int) : Prop := 0 ≤ i ∧ i ≤ l.length
theorem new_loop (x : List Int) (hn : x.length ≤ 4000000000000000) : ∀ (d i : Nat) (h : Int), i + d = x.length → ∃ h', Ev (fun k => spec_l1New.l0 k x h i) (x, 0, h') := by
  intro d
  induction d with
  | zero =>
    intro i h hi
    exact ⟨h, ev1 (evn (by omega) (evc rfl))⟩
  | succ d ih =>
    intro i h hi
    by_cases h4 : (i : Int) < 4000
    · obtain ⟨h', hh⟩ := ih (i + 1) (Go.bits .and .i64 (wrap64 ((wrap64 ((wrap64 (h * 137)) + (wrap64 (rd x i)))) + 11)) 1073741823) (by omega)
      refine ⟨h', ev1 (evp (by omega) (evp h4 (evp (by omega) ?_)))⟩
      rw [w64s (n := (i : Int) + 1) (by omega) (by omega)]
      exact hh
    · exact ⟨h, ev1 (evp (by omega) (evn h4 (evc rfl)))⟩
theorem new_ev (l : List Int) (hn : l.length ≤ 4000000000000000) : ∃ h', Ev (fun k => spec_l1New.f k l) (l, 0, h') := by
  unfold spec_l1New.f
  exact new_loop l hn l.length 0 _ (by omega)
theorem byte_some (l : List Int) (hn : l.length ≤ 4000000000000000) (i h : Int) (hc : Cur l i) : ∃ x i' h', spec_l1Byte.f l i h = some (x, i', h') ∧ (0 ≤ x ∧ x ≤ 255) ∧ Cur l i' := by
  unfold spec_l1Byte.f
  unfold Cur at *
  by_cases hi : i < (l.length : Int)
  · rw [if_pos hi, if_pos hc.1]
    refine ⟨_, _, _, rfl, and255 _, ?_⟩
    rw [w64s (n := i + 1) (by omega) (by omega)]
    omega
  · rw [if_neg hi]
    exact ⟨_, _, _, rfl, and255 _, hc⟩
theorem below_some (l : List Int) (hn : l.length ≤ 4000000000000000) (i h : Int) (hc : Cur l i) (n : Int) (h1 : 1 ≤ n) (h2 : n ≤ 1000000000000) : ∃ x i' h', spec_l1Below.f l i h n = some (x, i', h') ∧ (0 ≤ x ∧ x < n) ∧ Cur l i' := by
  unfold spec_l1Below.f
  rw [if_neg (by omega)]
  by_cases h3 : n ≤ 256
  · rw [if_pos h3]
    obtain ⟨x, i', h', e, hx, hc'⟩ := byte_some l hn i h hc
    rw [e]
    simp only [Option.bind_some]
    rw [if_neg (by omega)]
    refine ⟨_, _, _, rfl, ?_, hc'⟩
    rw [Int.tmod_eq_emod_of_nonneg hx.1]
    exact ⟨Int.emod_nonneg _ (by omega), Int.emod_lt_of_pos _ (by omega)⟩
  · rw [if_neg h3]
    obtain ⟨x, i', h', e, hx, hc'⟩ := byte_some l hn i h hc
    rw [e]
    simp only [Option.bind_some]
    obtain ⟨y, i2, h2, e2, hy, hc2⟩ := byte_some l hn i' h' hc'
    rw [e2]
    simp only [Option.bind_some]
    obtain ⟨z, i3, h3, e3, hz, hc3⟩ := byte_some l hn i2 h2 hc2
    rw [e3]
    simp only [Option.bind_some]
    rw [if_neg (by omega)]
    refine ⟨_, _, _, rfl, ?_, hc3⟩
    rw [w64s (n := x * 65536) (by omega) (by omega), w64s (n := y * 256) (by omega) (by omega), w64s (n := x * 65536 + y * 256) (by omega) (by omega), w64s (n := x * 65536 + y * 256 + z) (by omega) (by omega)]
    rw [Int.tmod_eq_emod_of_nonneg (by omega)]
    exact ⟨Int.emod_nonneg _ (by omega), Int.emod_lt_of_pos _ (by omega)⟩
theorem bytes_loop (L : List Int) (hL : L.length ≤ 4000000000000000) : ∀ (d n : Nat) (x : List Int) (j : Nat) (i h : Int), j + d = n → n ≤ 1000 → x.length = j → (∀ b ∈ x, 0 ≤ b ∧ b ≤ 255) → Cur L i →
    ∃ (r : List Int) (i' h' : Int), Ev (fun k => spec_l1Bytes.l0 k n x j L i h) (r, i', h') ∧ (∀ b ∈ r, 0 ≤ b ∧ b ≤ 255) ∧ r.length = n ∧ Cur L i' := by
  intro d
  induction d with
  | zero =>
    intro n x j i h hj hn hx hb hc
    exact ⟨x, i, h, ev1 (evn (by omega) (evc rfl)), hb, by omega, hc⟩
  | succ d ih =>
    intro n x j i h hj hn hx hb hc
    obtain ⟨b, i1, h1, e1, hb1, hc1⟩ := byte_some L hL i h hc
    obtain ⟨r, i', h', e, hr, hr2, hc'⟩ := ih n (x ++ [b % 256]) (j + 1) i1 h1 (by omega) hn (by simp; omega) (by
      intro y hy
      rw [List.mem_append, List.mem_singleton] at hy
      rcases hy with hy | rfl
      · exact hb y hy
      · omega) hc1
    refine ⟨r, i', h', ev1 (evp (by omega) (evs e1 (evp (by omega) ?_))), hr, hr2, hc'⟩
    rw [w64s (n := (j : Int) + 1) (by omega) (by omega)]
    exact e
theorem l10hdr_some (L : List Int) (hL : L.length ≤ 4000000000000000) (i h : Int) (hc : Cur L i) : ∃ (a : Int) (n : Nat) (c i' h' : Int), spec_l10Header.f L i h = some (a, (n : Int), c, i', h') ∧ (1 ≤ a ∧ a ≤ 2) ∧ n ≤ 5 ∧ (1 ≤ c ∧ c ≤ 127) ∧ Cur L i' := by
  obtain ⟨x, i1, h1, e1, hx, c1⟩ := below_some L hL i h hc 2 (by omega) (by omega)
  obtain ⟨y, i2, h2, e2, hy, c2⟩ := below_some L hL i1 h1 c1 6 (by omega) (by omega)
  obtain ⟨z, i3, h3, e3, hz, c3⟩ := below_some L hL i2 h2 c2 127 (by omega) (by omega)
  obtain ⟨n, rfl⟩ := Int.eq_ofNat_of_zero_le hy.1
  refine ⟨wrap64 (1 + x), n, wrap64 (1 + z), i3, h3, ?_, ?_, by omega, ?_, c3⟩
  · unfold spec_l10Header.f
    rw [e1]
    simp only [Option.bind_some]
    rw [e2]
    simp only [Option.bind_some]
    rw [e3]
    rfl
  · rw [w64s (by omega) (by omega)]
    omega
  · rw [w64s (by omega) (by omega)]
    omega
theorem sameB_loop (x : List Int) (hn : x.length ≤ 4000000000000000) : ∀ (d i : Nat), i + d = x.length → Ev (fun k => laws_sameBytes.l0 k x x i) true := by
  intro d
  induction d with
  | zero =>
    intro i hi
    exact ev1 (evn (by omega) (evc rfl))
  | succ d ih =>
    intro i hi
    refine ev1 (evp (by omega) (evp (by omega) (evp (by omega) (evp rfl ?_))))
    rw [w64s (by omega) (by omega)]
    exact ih (i + 1) (by omega)
theorem sameB_ev (l : List Int) (hn : l.length ≤ 4000000000000000) : Ev (fun k => laws_sameBytes.f k l l) true := by
  unfold laws_sameBytes.f
  exact evp rfl (sameB_loop l hn l.length 0 (by omega))
theorem payload_same (a b c : Int) : spec_PayloadSymbols.f a b c = impl_PayloadSymbols.f a b c := by
  unfold spec_PayloadSymbols.f impl_PayloadSymbols.f
  simp only [valid_some, svalid_some, Option.bind_some, impl_codedSymbols.f, spec_EncodedLength.f, impl_EncodedLength.f, in_some, l1_some, spec_PuncturedLength.f, impl_PuncturedLength.f]
  repeat' split
  all_goals simp_all
theorem spay_some (a0 a1 a2 : Int) (h : validH a0 a1 a2) : spec_PayloadSymbols.f a0 a1 a2 = some ((psym a0 a1 : Nat) : Int) := by
  rw [payload_same]
  exact ipay_some a0 a1 a2 h
theorem sent_ev (L : List Int) (hL : L.length ≤ 4000000000000000) : ∃ (a0 a1 a2 : Int) (b : List Int) (i j : Nat), Ev (fun k => spec_DrawSent.f k L) (a0, a1, a2, b, (i : Int), (j : Int)) ∧ validH a0 a1 a2 ∧ Bytes b ∧ (b.length : Int) = a1 ∧ i < psym a0 a1 ∧ j < psym a0 a1 := by
  obtain ⟨h0, e0⟩ := new_ev L hL
  obtain ⟨a, n, c, i1, h1, e1, ha, hn, hc, c1⟩ := l10hdr_some L hL 0 h0 ⟨by omega, by omega⟩
  obtain ⟨b, i2, h2, e2, hb, hbl, c2⟩ := bytes_loop L hL n n [] 0 i1 h1 (by omega) (by omega) rfl (by simp) c1
  have hv : validH a (n : Int) c := ⟨ha, by omega, hc⟩
  have e3 := stx_ev a (n : Int) c b hb hv (by omega)
  have hp : 1 ≤ psym a (n : Int) ∧ psym a (n : Int) ≤ 4000 := by
    unfold psym
    split <;> omega
  obtain ⟨i, i3, h3, e4, hi, c3⟩ := below_some L hL i2 h2 c2 ((psym a (n : Int) : Nat) : Int) (by omega) (by omega)
  obtain ⟨j, i4, h4, e5, hj, c4⟩ := below_some L hL i3 h3 c3 ((psym a (n : Int) : Nat) : Int) (by omega) (by omega)
  obtain ⟨i, rfl⟩ := Int.eq_ofNat_of_zero_le hi.1
  obtain ⟨j, rfl⟩ := Int.eq_ofNat_of_zero_le hj.1
  refine ⟨a, n, c, b, i, j, ?_, hv, hb, by omega, by omega, by omega⟩
  unfold spec_DrawSent.f
  refine Ev.bind e0 (Ev.bind (g := fun k => spec_l10Frame.f k L 0 h0) (a := (a, (n : Int), c, b, txL a (n : Int) c b, i2, h2)) ?_ (evs (spay_some a n c hv) (evs e4 (evs e5 (evc rfl)))))
  unfold spec_l10Frame.f
  exact evs e1 (Ev.bind e2 (Ev.bind e3 (evc rfl)))
theorem law_j1 (a0 a1 a2 : Int) (h : validH a0 a1 a2) (b p : List Int) (hb : (b.length : Int) = a1) (hp : p.length = psym a0 a1) (hr : a0 = 1 → rxE 1 a1 a2 p = (1, a1, a2, b, 0)) : Ev (fun k => laws_FnFrameErrors.j1 k b (hdr3 a0 a1 a2 ++ p) a0 a1 a2) true := by
  have hv := h
  unfold validH at hv
  have h3 := hdr3_length a0 a1 a2
  have hpl : psym a0 a1 ≤ 4000 := by unfold psym; split <;> omega
  have e := irx_ev (hdr3 a0 a1 a2 ++ p) (by simp; omega) (by simp; omega)
  rw [rxV_tx a0 a1 a2 h p hp] at e
  have hh := rxE_head a0 a1 a2 p
  have hlen := rxE_len a0 a1 a2 h p hp
  have hs := sameB_ev b (by omega)
  refine ev1 (Ev.bind e ?_)
  by_cases h2 : a0 = 2
  · generalize rxE a0 a1 a2 p = r at *
    obtain ⟨r0, r1, r2, x, q⟩ := r
    dsimp only at hh hlen ⊢
    obtain ⟨rfl, rfl, rfl⟩ := hh
    refine evp h2 (evp (by simp) ?_)
    by_cases hq : q = 0
    · exact evp hq (evc (by rw [hlen hq]; simp))
    · exact evn hq (evc rfl)
  · have h1 : a0 = 1 := by omega
    subst h1
    rw [hr rfl]
    exact evn h2 (evp rfl (evp (by simp) (Ev.bind hs (evc rfl))))
theorem set_tx (a0 a1 a2 : Int) (p : List Int) (i : Nat) (v : Int) : (hdr3 a0 a1 a2 ++ p).set (i + 54) v = hdr3 a0 a1 a2 ++ p.set i v := by
  have h3 := hdr3_length a0 a1 a2
  rw [List.set_append_right (i + 54) v (by omega), h3, show i + 54 - 54 = i by omega]
theorem get_tx (a0 a1 a2 : Int) (p : List Int) (i : Nat) : (hdr3 a0 a1 a2 ++ p).getD (i + 54) 0 = p.getD i 0 := by
  have h3 := hdr3_length a0 a1 a2
  rw [List.getD_eq_getElem?_getD, List.getElem?_append_right (by omega), h3, show i + 54 - 54 = i by omega, ← List.getD_eq_getElem?_getD]
theorem int_bits (l : List Int) (b : Int) (h : Bits l) : Bits (intL l b) := by
  have hl := intL_length l b
  have hd := de_int l b
  intro x hx
  unfold intL at hx
  split at hx
  · rename_i q
    obtain ⟨p, hp, rfl⟩ := List.getElem_of_mem hx
    rw [intGo_length] at hp
    obtain ⟨c, hc, ec⟩ := ipl_surj l b q.1.1 p hp
    have e := intGo_at l b q.1.1 l.length 0 l (by omega) rfl (fun j h => by omega) c hc
    rw [ec, List.getD_eq_getElem?_getD, List.getElem?_eq_getElem (by rw [intGo_length]; exact hp)] at e
    have := bits_getD h c
    rw [← e] at this
    exact this
  · exact h x hx
theorem punct_bits : ∀ (l : List Int) (i : Nat), Bits l → Bits (punctGo i l)
  | [], _, _ => by intro x hx; simp [punctGo] at hx
  | s :: r, i, h => by
    intro x hx
    have ih := punct_bits r (i + 1) (fun y hy => h y (by simp [hy]))
    unfold punctGo at hx
    split at hx
    · exact ih x hx
    · rw [List.mem_cons] at hx
      rcases hx with rfl | hx
      · exact h _ (by simp)
      · exact ih x hx
theorem pay_bits (a0 a2 : Int) (b : List Int) : Bits (payL a0 a2 b) := by
  have hB : Bits (conv (inB a2 b)) := convGo_bits _ _
  unfold payL
  refine int_bits _ _ ?_
  split
  · exact punct_bits _ _ hB
  · exact hB
theorem inv_tx (a0 a1 a2 : Int) (p : List Int) (hp : Bits p) (i : Nat) : (hdr3 a0 a1 a2 ++ p).set (i + 54) (wrap64 (1 - (hdr3 a0 a1 a2 ++ p).getD (i + 54) 0)) = hdr3 a0 a1 a2 ++ inv1 p i := by
  have := bits_getD hp i
  rw [get_tx, w64s (by omega) (by omega), set_tx]
  rfl
theorem FnFrameErrors : laws_FnFrameErrors.Pure := by
  intro L hm hs hw
  refine Ev.rounds (r := true) ?_
  unfold laws_FnFrameErrors.f
  refine evs (show laws_big.f L = some _ from rfl) ?_
  by_cases hbig : (L.length : Int) > 1048576
  · exact evp (by simpa using hbig) (evc rfl)
  refine evn (by simpa using hbig) ?_
  obtain ⟨a0, a1, a2, b, i, j, e, h, hb, hn, hi, hj⟩ := sent_ev L (by omega)
  have hv := h
  unfold validH at hv
  have h3 := hdr3_length a0 a1 a2
  have hpl := payL_length a0 a1 a2 b hn
  have hps : psym a0 a1 ≤ 4000 := by unfold psym; split <;> omega
  have ht := itx_ev a0 a1 a2 b hb h hn
  rw [txL_split] at ht
  have hlen : (hdr3 a0 a1 a2 ++ payL a0 a2 b).length = 54 + psym a0 a1 := by rw [List.length_append]; omega
  have hfs : spec_FrameSymbols.f a0 a1 a2 = some (54 + ((psym a0 a1 : Nat) : Int)) := by
    unfold spec_FrameSymbols.f
    rw [svalid_some]
    simp only [Option.bind_some]
    rw [if_pos (dt hv), spay_some a0 a1 a2 h]
    simp only [Option.bind_some]
    rw [w64s (by omega) (by omega)]
  have wi : wrap64 ((i : Int) + 54) = ((i + 54 : Nat) : Int) := by rw [w64s (by omega) (by omega)]; omega
  have wj : wrap64 ((j : Int) + 54) = ((j + 54 : Nat) : Int) := by rw [w64s (by omega) (by omega)]; omega
  refine Ev.bind e ?_
  dsimp only
  rw [wi, wj]
  clear wi wj
  refine Ev.bind ht (evs hfs (evp (by omega) (evp (by omega) (evp (by omega) (evs rfl ?_)))))
  rw [Int.toNat_natCast, rd_nat, inv_tx a0 a1 a2 _ (pay_bits a0 a2 b) i]
  have hp1 : (inv1 (payL a0 a2 b) i).length = psym a0 a1 := by rw [inv1_length]; exact hpl
  have hp2 : (inv1 (inv1 (payL a0 a2 b) i) j).length = psym a0 a1 := by rw [inv1_length]; exact hp1
  have r1 : a0 = 1 → rxE 1 a1 a2 (inv1 (payL a0 a2 b) i) = (1, a1, a2, b, 0) := fun q => by
    subst q
    exact rx_flip1 a1 a2 b hb (by omega) i (by omega)
  by_cases hij : i = j
  · refine evp (by omega) (ev1 (Ev.congr (f := fun k => laws_FnFrameErrors.j1 k b (hdr3 a0 a1 a2 ++ inv1 (payL a0 a2 b) i) a0 a1 a2) (fun k => by rw [laws_FnFrameErrors.j0, if_neg (by decide)]) ?_))
    exact law_j1 a0 a1 a2 h b _ hn hp1 r1
  · refine evn (by omega) ?_
    by_cases q : a0 = 1
    · subst q
      have hb1 := inv1_bits _ i (pay_bits 1 a2 b)
      have r2 : (1 : Int) = 1 → rxE 1 a1 a2 (inv1 (inv1 (payL 1 a2 b) i) j) = (1, a1, a2, b, 0) := fun _ => rx_flip2 a1 a2 b hb (by omega) i j (by omega) (by omega) hij
      have hj1 := law_j1 1 a1 a2 h b _ hn hp2 r2
      rw [← inv_tx 1 a1 a2 _ hb1 j] at hj1
      have hlj : (hdr3 1 a1 a2 ++ inv1 (payL 1 a2 b) i).length = 54 + psym 1 a1 := by rw [List.length_append, inv1_length]; omega
      have e1 : ((1 : Int) == 1) = true := rfl
      generalize hdr3 1 a1 a2 ++ inv1 (payL 1 a2 b) i = T at *
      rw [e1]
      refine ev1 (Ev.congr (f := fun k => if 0 ≤ (((j + 54 : Nat)) : Int) then (if (((j + 54 : Nat)) : Int) < (T.length : Int) then (laws_FnFrameErrors.j1 k b (T.set ((((j + 54 : Nat)) : Int)).toNat (wrap64 (1 - (rd T (((j + 54 : Nat)) : Int))))) 1 a1 a2) else none) else none) (fun k => by rw [laws_FnFrameErrors.j0, if_pos rfl]) (evp (by omega) (evp (by omega) ?_)))
      rw [Int.toNat_natCast, rd_nat]
      exact hj1
    · have e0 : (a0 == 1) = false := by simp [q]
      rw [e0]
      refine ev1 (Ev.congr (f := fun k => laws_FnFrameErrors.j1 k b (hdr3 a0 a1 a2 ++ inv1 (payL a0 a2 b) i) a0 a1 a2) (fun k => by rw [laws_FnFrameErrors.j0, if_neg (by decide)]) ?_)
      exact law_j1 a0 a1 a2 h b _ hn hp1 r1

end Go.Proofs.Ytldbmljooafkcaa.Pure
