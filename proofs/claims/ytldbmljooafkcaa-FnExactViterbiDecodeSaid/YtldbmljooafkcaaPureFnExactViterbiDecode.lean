/-
  The program's ViterbiDecode and the reference's agree at every list of at most 2^20 symbols, the argument is left as it was, and the answers share no memory.
  Conditions: none beyond the given statement's own.
-/
import Derived.Test.YtldbmljooafkcaaPFnExactViterbiDecodex7
set_option linter.unusedVariables false
set_option linter.unusedSimpArgs false
namespace Go.Proofs.Ytldbmljooafkcaa.Pure
open Go.RowKit Go.Proofs.Ytldbmljooafkcaa.PFnExactViterbiDecode Go.Proofs.YtldbmljooafkcaaW.PrintWords Go.Proofs.YtldbmljooafkcaaW.PrintLast Go.Proofs.YtldbmljooafkcaaW.PrintMore

theorem evp {α : Type} {c : Prop} [Decidable c] {A B : Nat → Option α} {r : α} (hc : c) (h : Ev A r) : Ev (fun k => if c then A k else B k) r :=
  Ev.congr (fun k => if_pos hc) h
theorem evn {α : Type} {c : Prop} [Decidable c] {A B : Nat → Option α} {r : α} (hc : ¬ c) (h : Ev B r) : Ev (fun k => if c then A k else B k) r :=
  Ev.congr (fun k => if_neg hc) h
theorem evs {α β : Type} {g : Option α} {a : α} {f : Nat → α → Option β} {r : β} (hg : g = some a) (h : Ev (fun k => f k a) r) : Ev (fun k => g.bind (f k)) r :=
  Ev.congr (fun k => by rw [hg]; rfl) h
theorem evc {α : Type} {g : Option α} {r : α} (h : g = some r) : Ev (fun _ => g) r := ⟨0, fun _ _ => h⟩
theorem ev_eq {α : Type} {g : Nat → Option α} {r r' : α} (h : Ev g r) (e : r = r') : Ev g r' := e ▸ h
theorem w64 {n : Int} (h0 : -9223372036854775808 ≤ n) (h1 : n ≤ 9223372036854775807) : wrap64 n = n := by
  unfold wrap64
  omega
theorem w64s {n : Int} (h0 : -1000000000000000000 ≤ n) (h1 : n ≤ 1000000000000000000) : wrap64 n = n := w64 (by omega) (by omega)
theorem ev1 {α : Type} {g : Nat → Option α} {r : α} (h : Ev (fun k => g (k + 1)) r) : Ev g r := Ev.step (fun _ => rfl) h
theorem dt {p : Prop} [Decidable p] (h : p) : decide p = true := decide_eq_true h
theorem dnt {p : Prop} [Decidable p] (h : ¬ p) : ¬ (decide p = true) := by simp [h]
theorem ntd {p : Prop} [Decidable p] (h : ¬ p) : (!decide p) = true := by simp [h]
theorem ntt {p : Prop} [Decidable p] (h : p) : ¬ ((!decide p) = true) := by simp [h]
theorem evk {α : Type} {g : Nat → Option α} {r : α} (h : ∀ k, g k = some r) : Ev g r := ⟨0, fun k _ => h k⟩
theorem dec_iff {p q : Prop} [Decidable p] [Decidable q] (h : p ↔ q) : decide p = decide q := by
  by_cases hq : q
  · rw [decide_eq_true hq, decide_eq_true (h.2 hq)]
  · rw [decide_eq_false hq, decide_eq_false (fun hp => hq (h.1 hp))]

theorem rd_nat (l : List Int) (i : Nat) : rd l (i : Int) = l.getD i 0 := by
  unfold rd
  rw [Int.toNat_natCast]
theorem rd_mem {l : List Int} {i : Nat} (h : i < l.length) : l.getD i 0 ∈ l := by
  rw [List.getD_eq_getElem?_getD, List.getElem?_eq_getElem h]
  exact List.getElem_mem h
theorem list_ext {a b : List Int} (hl : a.length = b.length) (h : ∀ i, i < a.length → a.getD i 0 = b.getD i 0) : a = b := by
  apply List.ext_getElem hl
  intro i h1 h2
  have := h i h1
  rw [List.getD_eq_getElem?_getD, List.getD_eq_getElem?_getD, List.getElem?_eq_getElem h1, List.getElem?_eq_getElem h2] at this
  simpa using this
theorem getD_set (l : List Int) (i j : Nat) (v : Int) : (l.set i v).getD j 0 = if i = j ∧ j < l.length then v else l.getD j 0 := by
  rw [List.getD_eq_getElem?_getD, List.getElem?_set, List.getD_eq_getElem?_getD]
  by_cases h : i = j
  · subst h
    by_cases h2 : i < l.length
    · simp [h2]
    · simp [h2]
  · simp [h]

def outX (s b : Int) : Int := (b + s % 2 + s / 2) % 2
def outY (s b : Int) : Int := (b + s / 2) % 2
def nxt (s b : Int) : Int := (2 * s + b) % 4
def convGo : Int → List Int → List Int
  | _, [] => []
  | s, b :: r => outX s b :: outY s b :: convGo (nxt s b) r
def conv (l : List Int) : List Int := convGo 0 (l ++ [0, 0])
def Bits (l : List Int) : Prop := ∀ x ∈ l, x = 0 ∨ x = 1
theorem convGo_length : ∀ (l : List Int) (s : Int), (convGo s l).length = 2 * l.length
  | [], _ => rfl
  | b :: r, s => by
    simp only [convGo, List.length_cons, convGo_length r]
    omega
theorem conv_length (l : List Int) : (conv l).length = 2 * l.length + 4 := by
  unfold conv
  rw [convGo_length]
  simp
  omega
theorem nxt_range (s b : Int) : 0 ≤ nxt s b ∧ nxt s b ≤ 3 := by unfold nxt; omega
theorem out_bits (s b : Int) : (outX s b = 0 ∨ outX s b = 1) ∧ (outY s b = 0 ∨ outY s b = 1) := by unfold outX outY; omega
theorem convGo_bits : ∀ (l : List Int) (s : Int), Bits (convGo s l)
  | [], _ => by intro x hx; simp [convGo] at hx
  | b :: r, s => by
    intro x hx
    simp only [convGo, List.mem_cons] at hx
    rcases hx with rfl | rfl | hx
    · exact (out_bits s b).1
    · exact (out_bits s b).2
    · exact convGo_bits r _ x hx
theorem drop_getD (L : List Int) (i : Nat) (h : i < L.length) : L.drop i = L.getD i 0 :: L.drop (i + 1) := by
  rw [List.drop_eq_getElem_cons h, List.getD_eq_getElem?_getD, List.getElem?_eq_getElem h]
  rfl
theorem pad_getD (l : List Int) (i : Nat) : (l ++ [0, 0]).getD i 0 = if i < l.length then l.getD i 0 else 0 := by
  simp only [List.getD_eq_getElem?_getD, List.getElem?_append]
  by_cases h : i < l.length
  · simp [h]
  · rw [if_neg h, if_neg h]
    rcases Nat.lt_or_ge (i - l.length) 2 with h2 | h2
    · have : i - l.length = 0 ∨ i - l.length = 1 := by omega
      rcases this with e | e <;> rw [e] <;> rfl
    · rw [List.getElem?_eq_none (by simpa using h2)]
      rfl
theorem bits_getD {l : List Int} (h : Bits l) (i : Nat) : l.getD i 0 = 0 ∨ l.getD i 0 = 1 := by
  rw [List.getD_eq_getElem?_getD]
  cases e : l[i]? with
  | none => exact .inl rfl
  | some v => exact h v (List.mem_of_getElem? e)

/-- How many known symbols differ from the word's. -/
def symD (a b : Int) : Int := if a = 2 then 0 else if a = b then 0 else 1
def diffs : List Int → List Int → Int
  | a :: s, b :: w => symD a b + diffs s w
  | _, _ => 0
theorem symD_range (a b : Int) : 0 ≤ symD a b ∧ symD a b ≤ 1 := by
  unfold symD
  split
  · omega
  · split <;> omega
theorem diffs_range : ∀ (s w : List Int), 0 ≤ diffs s w ∧ diffs s w ≤ s.length
  | [], w => by simp [diffs]
  | a :: s, [] => by simp [diffs]; omega
  | a :: s, b :: w => by
    have h1 := symD_range a b
    have h2 := diffs_range s w
    simp only [diffs, List.length_cons]
    omega

/-- The distance of one branch. -/
def bdist (s b x y : Int) : Int := symD x (outX s b) + symD y (outY s b)
theorem bdist_range (s b x y : Int) : 0 ≤ bdist s b x y ∧ bdist s b x y ≤ 2 := by
  have h1 := symD_range x (outX s b)
  have h2 := symD_range y (outY s b)
  unfold bdist
  omega
/-- One branch of cost d out of a state of cost c, offered to a state of cost cur. -/
def offer (cur c d : Int) : Int := if c < 0 then cur else if cur < 0 then c + d else if c + d < cur then c + d else cur
/-- The cost of state t one step later. -/
def costT (c : Int → Int) (x y : Int) (free : Bool) (t : Int) : Int :=
  if t % 2 = 1 ∧ free = false then -1 else offer (offer (-1) (c (t / 2)) (bdist (t / 2) (t % 2) x y)) (c (t / 2 + 2)) (bdist (t / 2 + 2) (t % 2) x y)
/-- The state ahead of t. -/
def prevT (c : Int → Int) (x y : Int) (free : Bool) (t : Int) : Int :=
  if t % 2 = 1 ∧ free = false then 0
  else if c (t / 2) < 0 then (if c (t / 2 + 2) < 0 then 0 else t / 2 + 2)
  else if c (t / 2 + 2) < 0 then t / 2
  else if c (t / 2 + 2) + bdist (t / 2 + 2) (t % 2) x y < c (t / 2) + bdist (t / 2) (t % 2) x y then t / 2 + 2 else t / 2
def In4 (s : Int) : Prop := 0 ≤ s ∧ s ≤ 3
theorem four {s : Int} (h : In4 s) : s = 0 ∨ s = 1 ∨ s = 2 ∨ s = 3 := by
  unfold In4 at h
  omega
theorem prevT_in (c : Int → Int) (x y : Int) (free : Bool) (t : Int) (h : In4 t) : In4 (prevT c x y free t) := by
  unfold In4 at h ⊢
  unfold prevT
  repeat' split
  all_goals omega
theorem costT_back (c : Int → Int) (x y : Int) (free : Bool) (t : Int) (h : In4 t) (h0 : 0 ≤ costT c x y free t) :
    0 ≤ c (prevT c x y free t) ∧ nxt (prevT c x y free t) (t % 2) = t ∧ (t % 2 = 1 → free = true) ∧
      costT c x y free t = c (prevT c x y free t) + bdist (prevT c x y free t) (t % 2) x y := by
  unfold In4 at h
  have r1 := bdist_range (t / 2) (t % 2) x y
  have r2 := bdist_range (t / 2 + 2) (t % 2) x y
  unfold costT at h0 ⊢
  unfold prevT nxt
  by_cases hf : t % 2 = 1 ∧ free = false
  · rw [if_pos hf] at h0
    omega
  rw [if_neg hf] at h0 ⊢
  have hfr : t % 2 = 1 → free = true := fun q => by
    cases free
    · exact absurd ⟨q, rfl⟩ hf
    · rfl
  rw [if_neg hf]
  by_cases h1 : c (t / 2) < 0
  · by_cases h2 : c (t / 2 + 2) < 0
    · exfalso
      unfold offer at h0
      rw [if_pos h2, if_pos h1] at h0
      omega
    · rw [if_pos h1, if_neg h2]
      refine ⟨by omega, by omega, hfr, ?_⟩
      unfold offer
      rw [if_neg h2, if_pos h1, if_pos (by omega)]
  · by_cases h2 : c (t / 2 + 2) < 0
    · rw [if_neg h1, if_pos h2]
      refine ⟨by omega, by omega, hfr, ?_⟩
      unfold offer
      rw [if_pos h2, if_neg h1, if_pos (by omega)]
    · rw [if_neg h1, if_neg h2]
      have e1 : offer (-1) (c (t / 2)) (bdist (t / 2) (t % 2) x y) = c (t / 2) + bdist (t / 2) (t % 2) x y := by
        unfold offer
        rw [if_neg h1, if_pos (by omega)]
      rw [e1]
      unfold offer
      rw [if_neg h2, if_neg (show ¬ c (t / 2) + bdist (t / 2) (t % 2) x y < 0 by omega)]
      by_cases h3 : c (t / 2 + 2) + bdist (t / 2 + 2) (t % 2) x y < c (t / 2) + bdist (t / 2) (t % 2) x y
      · rw [if_pos h3, if_pos h3]
        exact ⟨by omega, by omega, hfr, rfl⟩
      · rw [if_neg h3, if_neg h3]
        exact ⟨by omega, by omega, hfr, rfl⟩
theorem offer_cur (cur c d : Int) (h : 0 ≤ cur) (hd : 0 ≤ d) : 0 ≤ offer cur c d ∧ offer cur c d ≤ cur := by
  unfold offer
  repeat' split
  all_goals omega
theorem offer_new (cur c d : Int) (h : 0 ≤ c) (hd : 0 ≤ d) : 0 ≤ offer cur c d ∧ offer cur c d ≤ c + d := by
  unfold offer
  repeat' split
  all_goals omega
theorem costT_best (c : Int → Int) (x y : Int) (free : Bool) (s b : Int) (h : In4 s) (hb : b = 0 ∨ b = 1) (hf : b = 1 → free = true) (h0 : 0 ≤ c s) :
    0 ≤ costT c x y free (nxt s b) ∧ costT c x y free (nxt s b) ≤ c s + bdist s b x y := by
  unfold In4 at h
  have e : (2 * s + b) % 4 % 2 = b := by omega
  unfold costT nxt
  rw [e]
  have r1 := bdist_range ((2 * s + b) % 4 / 2) b x y
  have r2 := bdist_range ((2 * s + b) % 4 / 2 + 2) b x y
  rw [if_neg (fun q => by have := hf q.1; rw [this] at q; exact absurd q.2 (by decide))]
  by_cases hs : s < 2
  · have e2 : (2 * s + b) % 4 / 2 = s := by omega
    rw [e2] at r1 r2 ⊢
    have h1 := offer_new (-1) (c s) (bdist s b x y) h0 r1.1
    have h2 := offer_cur (offer (-1) (c s) (bdist s b x y)) (c (s + 2)) (bdist (s + 2) b x y) h1.1 r2.1
    omega
  · have e2 : (2 * s + b) % 4 / 2 + 2 = s := by omega
    rw [e2] at r2 ⊢
    exact offer_new _ (c s) (bdist s b x y) h0 r2.1
theorem offer_ge (cur c d : Int) (h : -1 ≤ cur) (hd : 0 ≤ d) : -1 ≤ offer cur c d := by
  unfold offer
  repeat' split
  all_goals omega
theorem offer_le (cur c d m : Int) (h : cur ≤ m) (hc : c + d ≤ m) : offer cur c d ≤ m := by
  unfold offer
  repeat' split
  all_goals omega
/-- The costs behind i steps over the symbols l, of which the first n carry a bit. -/
def costs (l : List Int) (n : Nat) : Nat → Int → Int
  | 0 => fun s => if s = 0 then 0 else -1
  | i + 1 => costT (costs l n i) (l.getD (2 * i) 0) (l.getD (2 * i + 1) 0) (decide (i < n))
theorem costs_ge (l : List Int) (n : Nat) : ∀ (i : Nat) (s : Int), -1 ≤ costs l n i s
  | 0, s => by
    unfold costs
    split <;> omega
  | i + 1, s => by
    unfold costs costT
    split
    · omega
    · exact offer_ge _ _ _ (offer_ge _ _ _ (by omega) (bdist_range _ _ _ _).1) (bdist_range _ _ _ _).1
theorem costs_le (l : List Int) (n : Nat) : ∀ (i : Nat) (s : Int), costs l n i s ≤ 2 * i
  | 0, s => by
    unfold costs
    split <;> omega
  | i + 1, s => by
    unfold costs costT
    have h1 := costs_le l n i (s / 2)
    have h2 := costs_le l n i (s / 2 + 2)
    have r1 := bdist_range (s / 2) (s % 2) (l.getD (2 * i) 0) (l.getD (2 * i + 1) 0)
    have r2 := bdist_range (s / 2 + 2) (s % 2) (l.getD (2 * i) 0) (l.getD (2 * i + 1) 0)
    split
    · omega
    · exact offer_le _ _ _ _ (offer_le _ _ _ _ (by omega) (by omega)) (by omega)
theorem costs_zero (l : List Int) (n : Nat) : ∀ i : Nat, 0 ≤ costs l n i 0
  | 0 => by
    unfold costs
    rw [if_pos rfl]
    omega
  | i + 1 => by
    have h := (costT_best (costs l n i) (l.getD (2 * i) 0) (l.getD (2 * i + 1) 0) (decide (i < n)) 0 0 ⟨by omega, by omega⟩ (.inl rfl) (fun q => by omega) (costs_zero l n i)).1
    exact h
/-- The states of the best path, told from its end: d steps ahead of step m. -/
def stB (l : List Int) (n m : Nat) : Nat → Int
  | 0 => 0
  | d + 1 => prevT (costs l n (m - (d + 1))) (l.getD (2 * (m - (d + 1))) 0) (l.getD (2 * (m - (d + 1)) + 1) 0) (decide (m - (d + 1) < n)) (stB l n m d)
/-- The state of the best path behind i steps. -/
def vst (l : List Int) (n i : Nat) : Int := stB l n (n + 2) (n + 2 - i)
theorem vst_end (l : List Int) (n : Nat) : vst l n (n + 2) = 0 := by
  unfold vst
  rw [Nat.sub_self]
  rfl
theorem vst_step (l : List Int) (n i : Nat) (h : i < n + 2) :
    vst l n i = prevT (costs l n i) (l.getD (2 * i) 0) (l.getD (2 * i + 1) 0) (decide (i < n)) (vst l n (i + 1)) := by
  unfold vst
  obtain ⟨d, hd⟩ : ∃ d, n + 2 - i = d + 1 := ⟨n + 1 - i, by omega⟩
  have e : n + 2 - (i + 1) = d := by omega
  have e2 : n + 2 - (d + 1) = i := by omega
  rw [hd, e, stB, e2]
theorem vst_in (l : List Int) (n : Nat) : ∀ (d i : Nat), i + d = n + 2 → In4 (vst l n i)
  | 0, i, h => by
    rw [show i = n + 2 by omega, vst_end]
    exact ⟨by omega, by omega⟩
  | d + 1, i, h => by
    rw [vst_step l n i (by omega)]
    exact prevT_in _ _ _ _ _ (vst_in l n d (i + 1) (by omega))
theorem vst_good (l : List Int) (n : Nat) : ∀ (d i : Nat), i + d = n + 2 → 0 ≤ costs l n i (vst l n i)
  | 0, i, h => by
    rw [show i = n + 2 by omega, vst_end]
    exact costs_zero l n _
  | d + 1, i, h => by
    rw [vst_step l n i (by omega)]
    have h1 := vst_good l n d (i + 1) (by omega)
    exact (costT_back _ _ _ _ _ (vst_in l n d (i + 1) (by omega)) h1).1
theorem vst_back (l : List Int) (n i : Nat) (h : i < n + 2) :
    nxt (vst l n i) (vst l n (i + 1) % 2) = vst l n (i + 1) ∧ (vst l n (i + 1) % 2 = 1 → i < n) ∧
      costs l n (i + 1) (vst l n (i + 1)) = costs l n i (vst l n i) + bdist (vst l n i) (vst l n (i + 1) % 2) (l.getD (2 * i) 0) (l.getD (2 * i + 1) 0) := by
  have h1 := vst_good l n (n + 1 - i) (i + 1) (by omega)
  have h2 := costT_back (costs l n i) (l.getD (2 * i) 0) (l.getD (2 * i + 1) 0) (decide (i < n)) _ (vst_in l n (n + 1 - i) (i + 1) (by omega)) h1
  rw [← vst_step l n i h] at h2
  exact ⟨h2.2.1, fun q => by simpa using h2.2.2.1 q, h2.2.2.2⟩
theorem vst_start (l : List Int) (n : Nat) : vst l n 0 = 0 := by
  have h := vst_good l n (n + 2) 0 (by omega)
  unfold costs at h
  by_cases q : vst l n 0 = 0
  · exact q
  · rw [if_neg q] at h
    omega
/-- The decoded bits. -/
def vbits (l : List Int) (n : Nat) : List Int := (List.range n).map fun i => vst l n (i + 1) % 2
def vcost (l : List Int) (n : Nat) : Int := costs l n (n + 2) 0
theorem vbits_length (l : List Int) (n : Nat) : (vbits l n).length = n := by simp [vbits]
theorem vbits_at (l : List Int) (n i : Nat) (h : i < n) : (vbits l n).getD i 0 = vst l n (i + 1) % 2 := by
  simp [vbits, List.getD_eq_getElem?_getD, List.getElem?_map, List.getElem?_range h]
theorem vbits_bits (l : List Int) (n : Nat) : Bits (vbits l n) := by
  intro x hx
  simp only [vbits, List.mem_map] at hx
  obtain ⟨i, _, rfl⟩ := hx
  omega
theorem vbits_pad (l : List Int) (n i : Nat) (h : i < n + 2) : (vbits l n ++ [0, 0]).getD i 0 = vst l n (i + 1) % 2 := by
  rw [pad_getD, vbits_length]
  by_cases q : i < n
  · rw [if_pos q, vbits_at l n i q]
  · rw [if_neg q]
    have h1 := (vst_back l n i h).2.1
    omega
theorem diffs_step (l : List Int) (i : Nat) (hl : 2 * i + 1 < l.length) (s b : Int) (r : List Int) :
    diffs (l.drop (2 * i)) (convGo s (b :: r)) = bdist s b (l.getD (2 * i) 0) (l.getD (2 * i + 1) 0) + diffs (l.drop (2 * (i + 1))) (convGo (nxt s b) r) := by
  rw [drop_getD l (2 * i) (by omega), drop_getD l (2 * i + 1) (by omega), convGo, diffs, diffs, show 2 * i + 1 + 1 = 2 * (i + 1) by omega]
  unfold bdist
  omega
theorem vdiffs (l : List Int) (n : Nat) (hl : l.length = 2 * n + 4) : ∀ (d i : Nat), i + d = n + 2 →
    diffs (l.drop (2 * i)) (convGo (vst l n i) ((vbits l n ++ [0, 0]).drop i)) = vcost l n - costs l n i (vst l n i)
  | 0, i, h => by
    rw [show i = n + 2 by omega, vst_end, List.drop_of_length_le (by omega)]
    have e : ∀ w, diffs [] w = 0 := fun w => by cases w <;> rfl
    rw [e]
    unfold vcost
    omega
  | d + 1, i, h => by
    have hlen : (vbits l n ++ [0, 0]).length = n + 2 := by simp [vbits_length]
    obtain ⟨h1, h2, h3⟩ := vst_back l n i (by omega)
    rw [drop_getD (vbits l n ++ [0, 0]) i (by omega), vbits_pad l n i (by omega), diffs_step l i (by omega), h1, vdiffs l n hl d (i + 1) (by omega)]
    omega
/-- What is decoded lies at the told distance. -/
theorem vbits_diffs (l : List Int) (n : Nat) (hl : l.length = 2 * n + 4) : diffs l (conv (vbits l n)) = vcost l n := by
  have h := vdiffs l n hl (n + 2) 0 (by omega)
  rw [vst_start] at h
  have e : costs l n 0 0 = 0 := by
    unfold costs
    rw [if_pos rfl]
  rw [e] at h
  unfold conv
  simpa using h
theorem vbest_go (l : List Int) (n : Nat) (hl : l.length = 2 * n + 4) (w : List Int) (hw : Bits w) (hwl : w.length = n) : ∀ (d i : Nat) (s : Int), i + d = n + 2 → In4 s → 0 ≤ costs l n i s →
    (d = 0 → s = 0) → (d = 1 → s = 0 ∨ s = 2) → vcost l n ≤ costs l n i s + diffs (l.drop (2 * i)) (convGo s ((w ++ [0, 0]).drop i))
  | 0, i, s, h, hs, h0, hz, _ => by
    rw [show i = n + 2 by omega, hz rfl]
    have := (diffs_range (l.drop (2 * (n + 2))) (convGo 0 ((w ++ [0, 0]).drop (n + 2)))).1
    unfold vcost
    omega
  | d + 1, i, s, h, hs, h0, _, h1 => by
    have hlen : (w ++ [0, 0]).length = n + 2 := by simp [hwl]
    have hb : (w ++ [0, 0]).getD i 0 = 0 ∨ (w ++ [0, 0]).getD i 0 = 1 := by
      rw [pad_getD]
      split
      · exact bits_getD hw i
      · exact .inl rfl
    have hb2 : ¬ i < n → (w ++ [0, 0]).getD i 0 = 0 := fun q => by rw [pad_getD, if_neg (by omega)]
    rw [drop_getD (w ++ [0, 0]) i (by omega), diffs_step l i (by omega)]
    generalize (w ++ [0, 0]).getD i 0 = b at hb hb2 ⊢
    have hc := costT_best (costs l n i) (l.getD (2 * i) 0) (l.getD (2 * i + 1) 0) (decide (i < n)) s b hs hb (fun q => by
      by_cases hi : i < n
      · simp [hi]
      · have := hb2 hi
        omega) h0
    have hn := nxt_range s b
    have hr : vcost l n ≤ costs l n (i + 1) (nxt s b) + diffs (l.drop (2 * (i + 1))) (convGo (nxt s b) ((w ++ [0, 0]).drop (i + 1))) := by
      refine vbest_go l n hl w hw hwl d (i + 1) (nxt s b) (by omega) hn hc.1 (fun q => ?_) (fun q => ?_)
      · have e := hb2 (by omega)
        have := h1 (by omega)
        unfold nxt
        omega
      · have e := hb2 (by omega)
        unfold In4 at hs
        unfold nxt
        omega
    have e : costs l n (i + 1) (nxt s b) = costT (costs l n i) (l.getD (2 * i) 0) (l.getD (2 * i + 1) 0) (decide (i < n)) (nxt s b) := rfl
    omega
/-- No bits lie nearer. -/
theorem vbits_best (l : List Int) (n : Nat) (hl : l.length = 2 * n + 4) (w : List Int) (hw : Bits w) (hwl : w.length = n) : vcost l n ≤ diffs l (conv w) := by
  have e : costs l n 0 0 = 0 := by
    unfold costs
    rw [if_pos rfl]
  have h := vbest_go l n hl w hw hwl (n + 2) 0 0 (by omega) ⟨by omega, by omega⟩ (by omega) (fun _ => rfl) (fun _ => .inl rfl)
  rw [e] at h
  unfold conv
  simpa using h
theorem vcost_range (l : List Int) (n : Nat) : 0 ≤ vcost l n ∧ vcost l n ≤ 2 * n + 4 := by
  have h1 := costs_zero l n (n + 2)
  have h2 := costs_le l n (n + 2) 0
  unfold vcost
  omega

theorem in_some (x a b : Int) : impl_InRange.f x a b = some (decide (a ≤ x ∧ x ≤ b)) := by
  unfold impl_InRange.f
  by_cases h : a ≤ x <;> simp [h]

theorem ipair_some (s b : Int) (hs : 0 ≤ s ∧ s ≤ 3) (hb : b = 0 ∨ b = 1) : impl_OutputPair.f s b = some (outX s b, outY s b) ∧ impl_NextState.f s b = some (nxt s b) := by
  have hc : s = 0 ∨ s = 1 ∨ s = 2 ∨ s = 3 := by omega
  rcases hc with rfl | rfl | rfl | rfl <;> rcases hb with rfl | rfl <;> exact ⟨by decide +kernel, by decide +kernel⟩

def Syms (l : List Int) : Prop := ∀ x ∈ l, 0 ≤ x ∧ x ≤ 2
theorem syms_all {l : List Int} (h : Syms l) : (l.all fun x => decide (0 ≤ x ∧ x ≤ 2)) = true := by
  rw [List.all_eq_true]
  intro x hx
  exact decide_eq_true (h x hx)
theorem all_syms {l : List Int} (h : (l.all fun x => decide (0 ≤ x ∧ x ≤ 2)) = true) : Syms l := by
  intro x hx
  rw [List.all_eq_true] at h
  exact of_decide_eq_true (h x hx)

theorem isym_loop (l : List Int) (hn : l.length ≤ 4000000000000000) : ∀ (d i : Nat), i + d = l.length → Ev (fun k => impl_IsSymbolString.l0 k l l.length i) ((l.drop i).all fun x => decide (0 ≤ x ∧ x ≤ 2)) := by
  intro d
  induction d with
  | zero =>
    intro i hi
    rw [List.drop_of_length_le (by omega)]
    exact ev1 (evn (by omega) (evc rfl))
  | succ d ih =>
    intro i hi
    refine ev1 (evp (by omega) (evp (by omega) (evp (by omega) ?_)))
    rw [drop_getD l i (by omega), List.all_cons, rd_nat, w64s (n := (i : Int) + 1) (by omega) (by omega)]
    have hrec := ih (i + 1) (by omega)
    by_cases h0 : l.getD i 0 = 0
    · rw [decide_eq_true (by omega), Bool.true_and]
      exact evp h0 hrec
    · refine evn h0 ?_
      by_cases h1 : l.getD i 0 = 1
      · rw [decide_eq_true (by omega), Bool.true_and]
        exact evp h1 hrec
      · refine evn h1 ?_
        by_cases h2 : l.getD i 0 = 2
        · rw [decide_eq_true (by omega), Bool.true_and]
          exact evp h2 hrec
        · rw [decide_eq_false (by omega), Bool.false_and]
          exact evn h2 (evc rfl)
theorem isym_ev (l : List Int) (hn : l.length ≤ 4000000000000000) : Ev (fun k => impl_IsSymbolString.f k l) (l.all fun x => decide (0 ≤ x ∧ x ≤ 2)) := isym_loop l hn l.length 0 (by omega)

/-- How many bits c symbols carry; -1: no word has that length. -/
def lenV (c : Nat) : Int := if c % 2 = 0 ∧ 4 ≤ c ∧ c ≤ 2004 then (c : Int) / 2 - 2 else -1
/-- What is decoded out of a list of symbols. -/
def vdec (l : List Int) : List Int × Int := if (l.all fun x => decide (0 ≤ x ∧ x ≤ 2)) = true ∧ l.length % 2 = 0 ∧ 4 ≤ l.length ∧ l.length ≤ 2004 then (vbits l (l.length / 2 - 2), vcost l (l.length / 2 - 2)) else ([], -1)
theorem vdec_good (l : List Int) (n : Nat) (hs : Syms l) (hn : n ≤ 1000) (hl : l.length = 2 * n + 4) : vdec l = (vbits l n, vcost l n) := by
  unfold vdec
  rw [if_pos ⟨syms_all hs, by omega, by omega, by omega⟩, show l.length / 2 - 2 = n by omega]
theorem vdec_bad (l : List Int) (h : ¬ (Syms l ∧ l.length % 2 = 0 ∧ 4 ≤ l.length ∧ l.length ≤ 2004)) : vdec l = ([], -1) := by
  unfold vdec
  rw [if_neg (fun q => h ⟨all_syms q.1, q.2⟩)]
theorem vdec_length (l : List Int) : (vdec l).1.length ≤ 1000 := by
  unfold vdec
  split
  · show (vbits _ _).length ≤ 1000
    rw [vbits_length]
    omega
  · simp

theorem isymD_some (a b : Int) : impl_symbolDistance.f a b = some (symD a b) := by
  unfold impl_symbolDistance.f symD
  split
  · rfl
  · split <;> rfl
theorem ibd_some (s b x y : Int) (hs : In4 s) (hb : b = 0 ∨ b = 1) : impl_BranchDistance.f s b x y = some (bdist s b x y) := by
  unfold impl_BranchDistance.f
  rw [(ipair_some s b hs hb).1]
  simp only [Option.bind_some]
  rw [isymD_some, isymD_some]
  simp only [Option.bind_some]
  have h1 := symD_range x (outX s b)
  have h2 := symD_range y (outY s b)
  rw [w64s (by omega) (by omega)]
  rfl
/-- The cost of a state and the state ahead of it, as kept in the list of eight. -/
def pr (l : List Int) (t : Int) : Int × Int := (rd l t, rd l (4 + t))
def updP (p : Int × Int) (c d s : Int) : Int × Int := if p.1 < 0 then (c + d, s) else if c + d < p.1 then (c + d, s) else p
def updL (l : List Int) (t c d s : Int) : List Int := if rd l t < 0 then (l.set t.toNat (c + d)).set (4 + t.toNat) s else if c + d < rd l t then (l.set t.toNat (c + d)).set (4 + t.toNat) s else l
theorem updL_length (l : List Int) (t c d s : Int) : (updL l t c d s).length = l.length := by
  unfold updL
  split
  · simp
  · split <;> simp
theorem pr_set (l : List Int) (t u x y : Int) (hl : l.length = 8) (ht : In4 t) (hu : In4 u) : pr ((l.set t.toNat x).set (4 + t.toNat) y) u = if t = u then (x, y) else pr l u := by
  unfold In4 at ht hu
  unfold pr rd
  rw [getD_set, getD_set, getD_set, getD_set]
  simp only [List.length_set, hl]
  by_cases e : t = u
  · subst e
    rw [if_neg (by omega), if_pos (by omega), if_pos (by omega), if_pos rfl]
  · rw [if_neg (by omega), if_neg (by omega), if_neg (by omega), if_neg (by omega), if_neg e]
theorem pr_upd (l : List Int) (t u c d s : Int) (hl : l.length = 8) (ht : In4 t) (hu : In4 u) : pr (updL l t c d s) u = if t = u then updP (pr l u) c d s else pr l u := by
  unfold updL
  by_cases h1 : rd l t < 0
  · rw [if_pos h1, pr_set l t u _ _ hl ht hu]
    by_cases e : t = u
    · subst e
      rw [if_pos rfl, if_pos rfl]
      unfold updP pr
      rw [if_pos h1]
    · rw [if_neg e, if_neg e]
  · rw [if_neg h1]
    by_cases h2 : c + d < rd l t
    · rw [if_pos h2, pr_set l t u _ _ hl ht hu]
      by_cases e : t = u
      · subst e
        rw [if_pos rfl, if_pos rfl]
        unfold updP pr
        rw [if_neg h1, if_pos h2]
      · rw [if_neg e, if_neg e]
    · rw [if_neg h2]
      by_cases e : t = u
      · subst e
        rw [if_pos rfl]
        unfold updP pr
        rw [if_neg h1, if_neg h2]
      · rw [if_neg e]
theorem ext1_some (s : List Int) (x y st b : Int) (nx : List Int) (hs : In4 st) (hb : b = 0 ∨ b = 1) (h0 : 0 ≤ rd s st) (h1 : rd s st ≤ 1000000) :
    ext1 s x y st b nx = some (updL nx (nxt st b) (rd s st) (bdist st b x y) st) := by
  have hn := nxt_range st b
  have hd := bdist_range st b x y
  unfold ext1 updL
  rw [(ipair_some st b hs hb).2, ibd_some st b x y hs hb]
  simp only [Option.bind_some]
  rw [if_pos hn.1, if_pos (by omega), w64s (n := rd s st + bdist st b x y) (by omega) (by omega)]
  split
  · rfl
  · split <;> rfl
/-- What one state of the step ahead offers. -/
def rowL (s : List Int) (x y : Int) (oz : Bool) (st : Int) (nx : List Int) : List Int :=
  if rd s st < 0 then nx else if oz = true then updL nx (nxt st 0) (rd s st) (bdist st 0 x y) st else updL (updL nx (nxt st 0) (rd s st) (bdist st 0 x y) st) (nxt st 1) (rd s st) (bdist st 1 x y) st
theorem rowL_length (s : List Int) (x y : Int) (oz : Bool) (st : Int) (nx : List Int) : (rowL s x y oz st nx).length = nx.length := by
  unfold rowL
  split
  · rfl
  · split
    · exact updL_length _ _ _ _ _
    · rw [updL_length, updL_length]
theorem extI_some (s : List Int) (x y : Int) (oz : Bool) (st : Int) (nx : List Int) (hs : In4 st) (h0 : ¬ rd s st < 0) (h1 : rd s st ≤ 1000000) : extI s x y oz st 3 0 nx = some (rowL s x y oz st nx) := by
  have e0 := fun nx => ext1_some s x y st 0 nx hs (.inl rfl) (by omega) h1
  have e1 := fun nx => ext1_some s x y st 1 nx hs (.inr rfl) (by omega) h1
  have w1 : wrap64 1 = 1 := w64s (by omega) (by omega)
  have w2 : wrap64 2 = 2 := w64s (by omega) (by omega)
  unfold rowL
  rw [if_neg h0]
  cases oz with
  | true =>
    simp [extI, w1, w2, e0]
  | false =>
    simp [extI, w1, w2, e0, e1]
theorem extO_some (s : List Int) (x y : Int) (oz : Bool) (hc : ∀ st, In4 st → rd s st ≤ 1000000) (nx : List Int) : extO s x y oz 5 0 nx = some (rowL s x y oz 3 (rowL s x y oz 2 (rowL s x y oz 1 (rowL s x y oz 0 nx)))) := by
  have step : ∀ (k : Nat) (st : Int) (nx : List Int), In4 st → extO s x y oz (k + 1) st nx = extO s x y oz k (st + 1) (rowL s x y oz st nx) := by
    intro k st nx hs
    have hs2 := hs
    unfold In4 at hs2
    rw [extO, if_pos (by omega), if_pos hs2.1, w64s (n := st + 1) (by omega) (by omega)]
    by_cases h : rd s st < 0
    · rw [if_pos h]
      congr 1
      unfold rowL
      rw [if_pos h]
    · rw [if_neg h, extI_some s x y oz st nx hs h (hc st hs)]
      rfl
  rw [step 4 0 nx ⟨by omega, by omega⟩, step 3 (0 + 1) _ ⟨by omega, by omega⟩, step 2 (0 + 1 + 1) _ ⟨by omega, by omega⟩, step 1 (0 + 1 + 1 + 1) _ ⟨by omega, by omega⟩]
  rfl
theorem pr_row (s : List Int) (x y : Int) (oz : Bool) (st u : Int) (nx : List Int) (hl : nx.length = 8) (hu : In4 u) :
    pr (rowL s x y oz st nx) u = if rd s st < 0 then pr nx u else if nxt st 0 = u then updP (pr nx u) (rd s st) (bdist st 0 x y) st else if nxt st 1 = u ∧ oz = false then updP (pr nx u) (rd s st) (bdist st 1 x y) st else pr nx u := by
  unfold rowL
  by_cases h : rd s st < 0
  · rw [if_pos h, if_pos h]
  · rw [if_neg h, if_neg h]
    have hne : nxt st 0 ≠ nxt st 1 := by unfold nxt; omega
    cases oz with
    | true =>
      rw [if_pos rfl, pr_upd nx _ u _ _ _ hl (nxt_range _ _) hu]
      by_cases e : nxt st 0 = u
      · rw [if_pos e, if_pos e]
      · rw [if_neg e, if_neg e, if_neg (fun q => by simp at q)]
    | false =>
      rw [if_neg (by decide), pr_upd _ _ u _ _ _ (by rw [updL_length]; exact hl) (nxt_range _ _) hu, pr_upd nx _ u _ _ _ hl (nxt_range _ _) hu]
      by_cases e : nxt st 0 = u
      · rw [if_neg (fun q => hne (e.trans q.symm)), if_pos e, if_pos e]
      · by_cases e1 : nxt st 1 = u
        · rw [if_pos e1, if_neg e, if_neg e, if_pos ⟨e1, rfl⟩]
        · rw [if_neg e1, if_neg e, if_neg e, if_neg (fun q => e1 q.1)]
/-- The state of the decoder behind i steps. -/
def svL (l : List Int) (n : Nat) : Nat → List Int
  | 0 => [0, -1, -1, -1, 0, 0, 0, 0]
  | i + 1 => [costs l n (i + 1) 0, costs l n (i + 1) 1, costs l n (i + 1) 2, costs l n (i + 1) 3] ++ [0, 1, 2, 3].map (prevT (costs l n i) (l.getD (2 * i) 0) (l.getD (2 * i + 1) 0) (decide (i < n)))
theorem svL_length (l : List Int) (n i : Nat) : (svL l n i).length = 8 := by
  cases i <;> rfl
theorem svL_cost (l : List Int) (n i : Nat) (s : Int) (h : In4 s) : rd (svL l n i) s = costs l n i s := by
  rcases four h with rfl | rfl | rfl | rfl <;> cases i <;> rfl
theorem svL_prev (l : List Int) (n i : Nat) (s : Int) (h : In4 s) : rd (svL l n (i + 1)) (4 + s) = prevT (costs l n i) (l.getD (2 * i) 0) (l.getD (2 * i + 1) 0) (decide (i < n)) s := by
  rcases four h with rfl | rfl | rfl | rfl <;> rfl
theorem pr_ext {a b : List Int} (ha : a.length = 8) (hb : b.length = 8) (h : ∀ u, In4 u → pr a u = pr b u) : a = b := by
  refine list_ext (by omega) (fun i hi => ?_)
  by_cases q : i < 4
  · have h1 := congrArg Prod.fst (h (i : Int) ⟨by omega, by omega⟩)
    simpa [pr, rd] using h1
  · obtain ⟨j, rfl⟩ : ∃ j, i = 4 + j := ⟨i - 4, by omega⟩
    have h1 := congrArg Prod.snd (h (j : Int) ⟨by omega, by omega⟩)
    unfold pr rd at h1
    rw [show ((4 : Int) + (j : Int)).toNat = 4 + j by omega] at h1
    exact h1
theorem two_offers (c0 c1 d0 d1 s0 s1 : Int) (h0 : 0 ≤ d0) (h1 : 0 ≤ d1) :
    (if c1 < 0 then (if c0 < 0 then ((-1 : Int), (0 : Int)) else updP (-1, 0) c0 d0 s0) else updP (if c0 < 0 then ((-1 : Int), (0 : Int)) else updP (-1, 0) c0 d0 s0) c1 d1 s1) =
      (offer (offer (-1) c0 d0) c1 d1, if c0 < 0 then (if c1 < 0 then 0 else s1) else if c1 < 0 then s0 else if c1 + d1 < c0 + d0 then s1 else s0) := by
  unfold offer updP
  by_cases a : c0 < 0 <;> by_cases b : c1 < 0
  · simp [a, b]
  · simp [a, b]
  · simp [a, b]
  · have f : ¬ c0 + d0 < 0 := by omega
    by_cases e : c1 + d1 < c0 + d0
    · simp [a, b, e, f]
    · simp [a, b, e, f]
theorem ext_some (l : List Int) (n i : Nat) (hn : n ≤ 1000) (hi : i < n + 2) : impl_extendSurvivors.f (svL l n i) (l.getD (2 * i) 0) (l.getD (2 * i + 1) 0) (decide ((i : Int) ≥ (n : Int))) = some (svL l n (i + 1)) := by
  have hle : ∀ st, In4 st → rd (svL l n i) st ≤ 1000000 := fun st hs => by
    rw [svL_cost l n i st hs]
    have := costs_le l n i st
    omega
  unfold impl_extendSurvivors.f
  rw [if_pos (svL_length l n i), extO_some _ _ _ _ hle]
  congr 1
  have hoz : decide ((i : Int) ≥ (n : Int)) = !decide (i < n) := by
    by_cases q : i < n
    · rw [decide_eq_true q, decide_eq_false (by omega)]
      rfl
    · rw [decide_eq_false q, decide_eq_true (by omega)]
      rfl
  rw [hoz]
  have c0 := svL_cost l n i 0 ⟨by omega, by omega⟩
  have c1 := svL_cost l n i 1 ⟨by omega, by omega⟩
  have c2 := svL_cost l n i 2 ⟨by omega, by omega⟩
  have c3 := svL_cost l n i 3 ⟨by omega, by omega⟩
  generalize hx : l.getD (2 * i) 0 = x
  generalize hy : l.getD (2 * i + 1) 0 = y
  have r0 := fun s b => (bdist_range s b x y).1
  have hi0 : (([-1, -1, -1, -1, 0, 0, 0, 0] : List Int)).length = 8 := rfl
  refine pr_ext (by simp only [rowL_length]; rfl) (svL_length _ _ _) (fun u hu => ?_)
  have hR : pr (svL l n (i + 1)) u = (costT (costs l n i) x y (decide (i < n)) u, prevT (costs l n i) x y (decide (i < n)) u) := by
    unfold pr
    rw [svL_cost l n (i + 1) u hu, svL_prev l n i u hu, hx, hy]
    show (costT (costs l n i) (l.getD (2 * i) 0) (l.getD (2 * i + 1) 0) (decide (i < n)) u, _) = _
    rw [hx, hy]
  rw [hR, pr_row _ _ _ _ _ _ _ (by simp only [rowL_length]; rfl) hu, pr_row _ _ _ _ _ _ _ (by simp only [rowL_length]; rfl) hu, pr_row _ _ _ _ _ _ _ (by simp only [rowL_length]; rfl) hu, pr_row _ _ _ _ _ _ _ rfl hu, c0, c1, c2, c3]
  have hp : pr ([-1, -1, -1, -1, 0, 0, 0, 0] : List Int) u = (-1, 0) := by rcases four hu with rfl | rfl | rfl | rfl <;> rfl
  rw [hp]
  have n00 : nxt 0 0 = 0 := rfl
  have n01 : nxt 0 1 = 1 := rfl
  have n10 : nxt 1 0 = 2 := rfl
  have n11 : nxt 1 1 = 3 := rfl
  have n20 : nxt 2 0 = 0 := rfl
  have n21 : nxt 2 1 = 1 := rfl
  have n30 : nxt 3 0 = 2 := rfl
  have n31 : nxt 3 1 = 3 := rfl
  rw [n00, n01, n10, n11, n20, n21, n30, n31]
  unfold costT prevT
  rcases four hu with rfl | rfl | rfl | rfl
  · have h := two_offers (costs l n i 0) (costs l n i 2) (bdist 0 0 x y) (bdist 2 0 x y) 0 2 (r0 _ _) (r0 _ _)
    simpa using h
  · cases decide (i < n) with
    | true =>
      have h := two_offers (costs l n i 0) (costs l n i 2) (bdist 0 1 x y) (bdist 2 1 x y) 0 2 (r0 _ _) (r0 _ _)
      simpa using h
    | false => simp
  · have h := two_offers (costs l n i 1) (costs l n i 3) (bdist 1 0 x y) (bdist 3 0 x y) 1 3 (r0 _ _) (r0 _ _)
    simpa using h
  · cases decide (i < n) with
    | true =>
      have h := two_offers (costs l n i 1) (costs l n i 3) (bdist 1 1 x y) (bdist 3 1 x y) 1 3 (r0 _ _) (r0 _ _)
      simpa using h
    | false => simp
def svs (l : List Int) (n c : Nat) : List (List Int) := (List.range c).map (svL l n)
theorem svs_length (l : List Int) (n c : Nat) : (svs l n c).length = c := by simp [svs]
theorem svs_at (l : List Int) (n c i : Nat) (h : i < c) : rdS (svs l n c) (i : Int) = svL l n i := by
  simp [rdS, svs, List.getD_eq_getElem?_getD, List.getElem?_map, List.getElem?_range h]
theorem svs_snoc (l : List Int) (n c : Nat) : svs l n c ++ [svL l n c] = svs l n (c + 1) := by simp [svs, List.range_succ]
theorem vitS_ev (l : List Int) (n : Nat) (hn : n ≤ 1000) (hl : l.length = 2 * n + 4) : ∀ (d i : Nat), i + d = n + 2 → Ev (fun k => vitS l (n : Int) ((n : Int) + 2) k (svs l n (i + 1)) (i : Int)) (svs l n (n + 3)) := by
  intro d
  induction d with
  | zero =>
    intro i hi
    refine ev1 (evn (by omega) (evc ?_))
    rw [show i + 1 = n + 3 by omega]
  | succ d ih =>
    intro i hi
    refine ev1 (evp (by omega) (evp (by omega) (evp (by rw [svs_length]; omega) (evp (by omega) (evp (by rw [svs_length]; omega) ?_)))))
    rw [svs_at l n (i + 1) i (by omega), show (2 : Int) * (i : Int) = ((2 * i : Nat) : Int) by omega, show ((2 * i : Nat) : Int) + 1 = ((2 * i + 1 : Nat) : Int) by omega, rd_nat, rd_nat, ext_some l n i hn (by omega), w64s (n := (i : Int) + 1) (by omega) (by omega)]
    have h := ih (i + 1) (by omega)
    rw [← svs_snoc] at h
    exact h
theorem and_one {s : Int} (h : In4 s) : Go.bits .and .i64 s 1 = s % 2 := by
  rcases four h with rfl | rfl | rfl | rfl <;> decide +kernel
theorem vitT_ev (l : List Int) (n : Nat) (hn : n ≤ 1000) : ∀ (i : Nat) (bs : List Int), i ≤ n + 2 → bs.length = n → (∀ j, i ≤ j → j < n → bs.getD j 0 = vst l n (j + 1) % 2) →
    Ev (fun k => vitT (svs l n (n + 3)) (n : Int) k bs (vst l n i) (i : Int)) (vbits l n) := by
  intro i
  induction i with
  | zero =>
    intro bs _ hb hj
    refine ev1 (evn (by omega) (evc ?_))
    rw [list_ext (a := bs) (b := vbits l n) (by rw [hb, vbits_length]) (fun j h => by rw [hj j (by omega) (by omega), vbits_at l n j (by omega)])]
  | succ i ih =>
    intro bs hi hb hj
    have hv := vst_in l n (n + 1 - i) (i + 1) (by omega)
    refine ev1 (evp (by omega) (evp (by rw [svs_length]; omega) (evp hv.1 (evp (by have := hv.2; omega) ?_))))
    rw [show ((i + 1 : Nat) : Int) - 1 = (i : Int) by omega, svs_at l n (n + 3) (i + 1) (by omega), svL_prev l n i _ hv, ← vst_step l n i (by omega)]
    by_cases h : i < n
    · refine evp (by omega) (evp (by omega) ?_)
      rw [Int.toNat_natCast, and_one hv]
      refine ih _ (by omega) (by simpa using hb) (fun j h1 h2 => ?_)
      rw [getD_set]
      by_cases e : i = j
      · subst e
        rw [if_pos ⟨rfl, by omega⟩]
      · rw [if_neg (fun q => e q.1)]
        exact hj j (by omega) h2
    · refine evn (by omega) (ih bs (by omega) hb (fun j h1 h2 => by omega))
theorem ilen_ev (c : Nat) (hc : c ≤ 4000000000000) : Ev (fun k => impl_InputLength.f k (c : Int)) (lenV c) := by
  unfold impl_InputLength.f lenV
  refine evn (by omega) ?_
  rw [Int.tmod_eq_emod_of_nonneg (by omega)]
  by_cases h2 : c % 2 = 0
  · have e : (((c : Int) % 2) != 0) = false := by
      have : (c : Int) % 2 = 0 := by omega
      simp [this]
    rw [e]
    have hw : wrap64 (wrap64 (Int.tdiv (c : Int) 2) - 2) = (c : Int) / 2 - 2 := by
      rw [Int.tdiv_eq_ediv_of_nonneg (by omega), w64s (n := (c : Int) / 2) (by omega) (by omega), w64s (by omega) (by omega)]
    refine ev1 (Ev.congr (f := fun _ => (impl_InRange.f (wrap64 (wrap64 (Int.tdiv (c : Int) 2) - 2)) 0 1000).bind fun q => if q = true then some (wrap64 (wrap64 (Int.tdiv (c : Int) 2) - 2)) else some (-1)) (fun _ => by rw [impl_InputLength.j0, if_neg (by decide)]) ?_)
    rw [hw]
    refine evs (in_some _ _ _) ?_
    by_cases h : 0 ≤ (c : Int) / 2 - 2 ∧ (c : Int) / 2 - 2 ≤ 1000
    · rw [if_pos (show c % 2 = 0 ∧ 4 ≤ c ∧ c ≤ 2004 by omega)]
      exact evp (dt h) (evc rfl)
    · rw [if_neg (show ¬ (c % 2 = 0 ∧ 4 ≤ c ∧ c ≤ 2004) by omega)]
      exact evn (dnt h) (evc rfl)
  · have e : (((c : Int) % 2) != 0) = true := by
      have : (c : Int) % 2 = 1 := by omega
      simp [this]
    rw [e, if_neg (by omega)]
    exact ev1 (evk fun _ => by rw [impl_InputLength.j0, if_pos rfl])
theorem ivit_ev (l : List Int) (hl : l.length ≤ 1000000000) : Ev (fun k => impl_ViterbiDecode.f k l) (vdec l) := by
  unfold impl_ViterbiDecode.f vdec
  have h1 := ilen_ev l.length (by omega)
  have h2 := isym_ev l (by omega)
  refine Ev.bind h1 (Ev.bind h2 ?_)
  by_cases hs : Syms l
  · rw [syms_all hs]
    refine evp rfl ?_
    unfold lenV
    by_cases hc : l.length % 2 = 0 ∧ 4 ≤ l.length ∧ l.length ≤ 2004
    · rw [if_pos hc, if_pos ⟨rfl, hc⟩]
      obtain ⟨n, hn⟩ : ∃ n : Nat, l.length = 2 * n + 4 := ⟨l.length / 2 - 2, by omega⟩
      have e : (l.length : Int) / 2 - 2 = (n : Int) := by omega
      have e2 : l.length / 2 - 2 = n := by omega
      rw [e, e2]
      refine evn (by omega) ?_
      unfold vitB
      refine evp (by omega) (evp (by omega) ?_)
      have h3 := vitS_ev l n (by omega) hn (n + 2) 0 (by omega)
      refine Ev.bind h3 ?_
      rw [Int.toNat_natCast]
      have h4 := vitT_ev l n (by omega) (n + 2) (List.replicate n 0) (by omega) (by simp) (fun j h5 h6 => by omega)
      rw [vst_end] at h4
      refine Ev.bind h4 (evp (by rw [svs_length]; omega) (evc ?_))
      rw [show (n : Int) + 2 = ((n + 2 : Nat) : Int) by omega, svs_at l n (n + 3) (n + 2) (by omega), svL_cost l n (n + 2) 0 ⟨by omega, by omega⟩]
      rfl
    · rw [if_neg hc, if_neg (fun q => hc q.2)]
      exact evp (by decide) (evc rfl)
  · have e : (l.all fun x => decide (0 ≤ x ∧ x ≤ 2)) = false := by
      cases q : (l.all fun x => decide (0 ≤ x ∧ x ≤ 2)) with
      | false => rfl
      | true => exact absurd (all_syms q) hs
    rw [e, if_neg (fun q => absurd q.1 (by decide))]
    exact evn (by decide) (evc rfl)

theorem l1_some (x a b : Int) : spec_l1In.f x a b = some (decide (a ≤ x ∧ x ≤ b)) := by
  unfold spec_l1In.f
  by_cases h : a ≤ x <;> simp [h]

theorem spair_some (s b : Int) (hs : 0 ≤ s ∧ s ≤ 3) (hb : b = 0 ∨ b = 1) : spec_OutputPair.f s b = some (outX s b, outY s b) ∧ spec_NextState.f s b = some (nxt s b) := by
  have hc : s = 0 ∨ s = 1 ∨ s = 2 ∨ s = 3 := by omega
  rcases hc with rfl | rfl | rfl | rfl <;> rcases hb with rfl | rfl <;> exact ⟨by decide +kernel, by decide +kernel⟩

theorem ssym_loop (l : List Int) (hn : l.length ≤ 4000000000000000) : ∀ (d i : Nat), i + d = l.length → Ev (fun k => spec_IsSymbolString.l0 k l i) ((l.drop i).all fun x => decide (0 ≤ x ∧ x ≤ 2)) := by
  intro d
  induction d with
  | zero =>
    intro i hi
    rw [List.drop_of_length_le (by omega)]
    exact ev1 (evn (by omega) (evc rfl))
  | succ d ih =>
    intro i hi
    refine ev1 (evp (by omega) (evp (by omega) (evs (l1_some _ _ _) ?_)))
    rw [drop_getD l i (by omega), List.all_cons, rd_nat]
    by_cases h : 0 ≤ l.getD i 0 ∧ l.getD i 0 ≤ 2
    · rw [decide_eq_true h, w64s (n := (i : Int) + 1) (by omega) (by omega)]
      exact evp rfl (ih (i + 1) (by omega))
    · rw [decide_eq_false h]
      exact evn (by decide) (evc rfl)
theorem ssym_ev (l : List Int) (hn : l.length ≤ 4000000000000000) : Ev (fun k => spec_IsSymbolString.f k l) (l.all fun x => decide (0 ≤ x ∧ x ≤ 2)) := ssym_loop l hn l.length 0 (by omega)

theorem sbd_j (b2 : Bool) (y q m : Int) (hm : 0 ≤ m ∧ m ≤ 10) : Ev (fun k => spec_BranchDistance.j0 k y q m b2) (m + (if b2 = true then 1 else 0) + symD y q) := by
  have w1 := w64s (n := m + 1) (by omega) (by omega)
  have w2 := w64s (n := m + 1 + 1) (by omega) (by omega)
  refine ev1 (Ev.congr (f := fun _ => some (m + (if b2 = true then 1 else 0) + symD y q)) (fun k => ?_) (evc rfl))
  rw [spec_BranchDistance.j0, w1, w2]
  unfold symD
  cases b2 with
  | true =>
    rw [if_pos rfl, if_pos rfl]
    by_cases h2 : y = 2
    · rw [if_pos h2, if_pos h2]
      congr 1
      omega
    · rw [if_neg h2, if_neg h2]
      by_cases h3 : y = q
      · rw [if_pos h3, if_pos h3]
        congr 1
        omega
      · rw [if_neg h3, if_neg h3]
  | false =>
    rw [if_neg (show ¬ (false = true) by decide), if_neg (show ¬ (false = true) by decide)]
    by_cases h2 : y = 2
    · rw [if_pos h2, if_pos h2]
      congr 1
      omega
    · rw [if_neg h2, if_neg h2]
      by_cases h3 : y = q
      · rw [if_pos h3, if_pos h3]
        congr 1
        omega
      · rw [if_neg h3, if_neg h3]
        congr 1
        omega
theorem sbd_ev (s b x y : Int) (hs : In4 s) (hb : b = 0 ∨ b = 1) : Ev (fun k => spec_BranchDistance.f k s b x y) (bdist s b x y) := by
  unfold spec_BranchDistance.f
  refine evs (spair_some s b hs hb).1 ?_
  have e : bdist s b x y = 0 + (if (x != outX s b && x != 2) = true then 1 else 0) + symD y (outY s b) := by
    unfold bdist
    congr 1
    unfold symD
    by_cases h2 : x = 2
    · rw [if_pos h2]
      simp [h2]
    · rw [if_neg h2]
      by_cases h3 : x = outX s b
      · rw [if_pos h3]
        simp [h3]
      · rw [if_neg h3]
        simp [h2, h3]
  rw [e]
  by_cases h2 : x = 2
  · refine evp h2 ?_
    have := sbd_j false y (outY s b) 0 ⟨by omega, by omega⟩
    simpa [h2] using this
  · refine evn h2 ?_
    have h3 : (x != outX s b && x != 2) = (x != outX s b) := by simp [h2]
    rw [h3]
    exact sbd_j _ y (outY s b) 0 ⟨by omega, by omega⟩
def cL (l : List Int) (n i : Nat) : List Int := [costs l n i 0, costs l n i 1, costs l n i 2, costs l n i 3]
theorem cL_at (l : List Int) (n i : Nat) (s : Int) (h : In4 s) : rd (cL l n i) s = costs l n i s := by
  rcases four h with rfl | rfl | rfl | rfl <;> rfl
theorem cL_length (l : List Int) (n i : Nat) : (cL l n i).length = 4 := rfl
def csL (l : List Int) (n c : Nat) : List (List Int) := (List.range c).map (cL l n)
theorem csL_length (l : List Int) (n c : Nat) : (csL l n c).length = c := by simp [csL]
theorem csL_at (l : List Int) (n c i : Nat) (h : i < c) : rd_L1 (csL l n c) (i : Int) = cL l n i := by
  simp [rd_L1, csL, List.getD_eq_getElem?_getD, List.getElem?_map, List.getElem?_range h]
theorem csL_snoc (l : List Int) (n c : Nat) : csL l n c ++ [cL l n c] = csL l n (c + 1) := by simp [csL, List.range_succ]
/-- An offer to state t, kept in the list of four. -/
def updC (nx : List Int) (t v : Int) : List Int := if rd nx t < 0 then nx.set t.toNat v else if v < rd nx t then nx.set t.toNat v else nx
theorem updC_length (nx : List Int) (t v : Int) : (updC nx t v).length = nx.length := by
  unfold updC
  split
  · simp
  · split <;> simp
theorem updC_at (nx : List Int) (t u c d : Int) (hl : nx.length = 4) (ht : In4 t) (hu : In4 u) (hc : ¬ c < 0) : rd (updC nx t (c + d)) u = if t = u then offer (rd nx u) c d else rd nx u := by
  have hs : rd (nx.set t.toNat (c + d)) u = if t = u then c + d else rd nx u := by
    unfold In4 at ht hu
    unfold rd
    rw [getD_set]
    by_cases e : t = u
    · subst e
      rw [if_pos (by omega), if_pos rfl]
    · rw [if_neg (by omega), if_neg e]
  unfold updC offer
  by_cases e : t = u
  · subst e
    rw [if_pos rfl, if_neg hc]
    rw [if_pos rfl] at hs
    by_cases h1 : rd nx t < 0
    · rw [if_pos h1, if_pos h1, hs]
    · rw [if_neg h1, if_neg h1]
      by_cases h2 : c + d < rd nx t
      · rw [if_pos h2, if_pos h2, hs]
      · rw [if_neg h2, if_neg h2]
  · rw [if_neg e] at hs
    rw [if_neg e]
    by_cases h1 : rd nx t < 0
    · rw [if_pos h1, hs]
    · rw [if_neg h1]
      by_cases h2 : c + d < rd nx t
      · rw [if_pos h2, hs]
      · rw [if_neg h2]
def stepC (l : List Int) (n i : Nat) (s b : Int) (nx : List Int) : List Int :=
  if costs l n i s < 0 ∨ (b = 1 ∧ ¬ i < n) then nx else updC nx (nxt s b) (costs l n i s + bdist s b (l.getD (2 * i) 0) (l.getD (2 * i + 1) 0))
theorem stepC_length (l : List Int) (n i : Nat) (s b : Int) (nx : List Int) : (stepC l n i s b nx).length = nx.length := by
  unfold stepC
  split
  · rfl
  · exact updC_length _ _ _
theorem j3_skip {l nx : List Int} {cs : List (List Int)} {n i s b : Int} {r : List (List Int)} (h : Ev (fun k => spec_l7Costs.l2 k l n cs i nx s (wrap64 (b + 1))) r) : Ev (fun k => spec_l7Costs.j3 k l n cs i nx s b true) r :=
  ev1 (Ev.congr (fun k => by rw [spec_l7Costs.j3, if_pos rfl]) h)
theorem l2_step (l : List Int) (n : Nat) (hn : n ≤ 1000) (hl : l.length = 2 * n + 4) (i : Nat) (hi : i < n + 2) (s b : Int) (hs : In4 s) (hb : b = 0 ∨ b = 1) (nx : List Int) (hx : nx.length = 4) (r : List (List Int))
    (h : Ev (fun k => spec_l7Costs.l2 k l (n : Int) (csL l n (i + 1)) (i : Int) (stepC l n i s b nx) s (b + 1)) r) : Ev (fun k => spec_l7Costs.l2 k l (n : Int) (csL l n (i + 1)) (i : Int) nx s b) r := by
  have hs2 := hs
  unfold In4 at hs2
  have hle := costs_le l n i s
  have hr := bdist_range s b (l.getD (2 * i) 0) (l.getD (2 * i + 1) 0)
  have hnr := nxt_range s b
  have hwb : wrap64 (b + 1) = b + 1 := w64s (by omega) (by omega)
  refine ev1 (evp (by omega) (evp (by omega) (evp (by rw [csL_length]; omega) (evp hs2.1 ?_))))
  rw [csL_at l n (i + 1) i (by omega), cL_at l n i s hs, cL_length]
  refine evp (by omega) ?_
  have body : ¬ (costs l n i s < 0 ∨ (b = 1 ∧ ¬ i < n)) → ∀ k, spec_l7Costs.j3 (k + 1) l (n : Int) (csL l n (i + 1)) (i : Int) nx s b false = (spec_BranchDistance.f k s b (l.getD (2 * i) 0) (l.getD (2 * i + 1) 0)).bind fun d => ((spec_NextState.f s b).bind fun t => (if 0 ≤ t then (if t < (nx.length : Int) then (if (rd nx t) < 0 then (spec_l7Costs.l2 k l (n : Int) (csL l n (i + 1)) (i : Int) (nx.set (t : Int).toNat (wrap64 (costs l n i s + d))) s (wrap64 (b + 1))) else (if (wrap64 (costs l n i s + d)) < (rd nx t) then (spec_l7Costs.l2 k l (n : Int) (csL l n (i + 1)) (i : Int) (nx.set (t : Int).toNat (wrap64 (costs l n i s + d))) s (wrap64 (b + 1))) else (spec_l7Costs.l2 k l (n : Int) (csL l n (i + 1)) (i : Int) nx s (wrap64 (b + 1))))) else (none)) else (none))) := by
    intro _ k
    rw [spec_l7Costs.j3, if_neg (by decide), if_pos (by omega), csL_length, if_pos (by omega), if_pos hs2.1, csL_at l n (i + 1) i (by omega), cL_length, if_pos (by omega), cL_at l n i s hs,
      show (2 : Int) * (i : Int) = ((2 * i : Nat) : Int) by omega, w64s (n := ((2 * i : Nat) : Int)) (by omega) (by omega), if_pos (by omega), if_pos (by omega), show ((2 * i : Nat) : Int) + 1 = ((2 * i + 1 : Nat) : Int) by omega, w64s (n := ((2 * i + 1 : Nat) : Int)) (by omega) (by omega), if_pos (by omega), if_pos (by omega), rd_nat, rd_nat]
  have go : ¬ (costs l n i s < 0 ∨ (b = 1 ∧ ¬ i < n)) → Ev (fun k => spec_l7Costs.j3 k l (n : Int) (csL l n (i + 1)) (i : Int) nx s b false) r := by
    intro hne
    have h0 : ¬ costs l n i s < 0 := fun q => hne (.inl q)
    unfold stepC at h
    rw [if_neg hne] at h
    refine ev1 (Ev.congr (body hne) ?_)
    refine Ev.bind (sbd_ev s b _ _ hs hb) (evs (spair_some s b hs hb).2 (evp hnr.1 (evp (by rw [hx]; omega) ?_)))
    rw [w64s (n := costs l n i s + _) (by omega) (by omega), hwb]
    unfold updC at h
    by_cases h1 : rd nx (nxt s b) < 0
    · rw [if_pos h1] at h
      exact evp h1 h
    · rw [if_neg h1] at h
      refine evn h1 ?_
      by_cases h2 : costs l n i s + bdist s b (l.getD (2 * i) 0) (l.getD (2 * i + 1) 0) < rd nx (nxt s b)
      · rw [if_pos h2] at h
        exact evp h2 h
      · rw [if_neg h2] at h
        exact evn h2 h
  have skip : (costs l n i s < 0 ∨ (b = 1 ∧ ¬ i < n)) → Ev (fun k => spec_l7Costs.j3 k l (n : Int) (csL l n (i + 1)) (i : Int) nx s b true) r := by
    intro hp
    unfold stepC at h
    rw [if_pos hp] at h
    refine j3_skip ?_
    rw [hwb]
    exact h
  by_cases h0 : costs l n i s < 0
  · exact evp h0 (skip (.inl h0))
  · refine evn h0 ?_
    by_cases h1 : b = 1
    · refine evp h1 ?_
      by_cases h2 : i < n
      · rw [decide_eq_false (show ¬ (i : Int) ≥ (n : Int) by omega)]
        exact go (fun q => by omega)
      · rw [decide_eq_true (show (i : Int) ≥ (n : Int) by omega)]
        exact skip (.inr ⟨h1, h2⟩)
    · exact evn h1 (go (fun q => by omega))
def rowC (l : List Int) (n i : Nat) (s : Int) (nx : List Int) : List Int := stepC l n i s 1 (stepC l n i s 0 nx)
theorem rowC_length (l : List Int) (n i : Nat) (s : Int) (nx : List Int) : (rowC l n i s nx).length = nx.length := by
  unfold rowC
  rw [stepC_length, stepC_length]
theorem l2_end {l nx : List Int} {cs : List (List Int)} {n i s b : Int} {r : List (List Int)} (hb : ¬ b < 2) (h : Ev (fun k => spec_l7Costs.l1 k l n cs i nx (wrap64 (s + 1))) r) : Ev (fun k => spec_l7Costs.l2 k l n cs i nx s b) r :=
  ev1 (Ev.congr (fun k => by rw [spec_l7Costs.l2, if_neg hb]) h)
theorem l1_end {l nx : List Int} {cs : List (List Int)} {n i s : Int} {r : List (List Int)} (hs : ¬ s < 4) (hc : cs.length < 5864062014805) (h : Ev (fun k => spec_l7Costs.l0 k l n (cs ++ [nx]) (wrap64 (i + 1))) r) : Ev (fun k => spec_l7Costs.l1 k l n cs i nx s) r :=
  ev1 (Ev.congr (fun k => by rw [spec_l7Costs.l1, if_neg hs, if_pos hc]) h)
theorem l1_step (l : List Int) (n : Nat) (hn : n ≤ 1000) (hl : l.length = 2 * n + 4) (i : Nat) (hi : i < n + 2) (s : Int) (hs : In4 s) (nx : List Int) (hx : nx.length = 4) (r : List (List Int))
    (h : Ev (fun k => spec_l7Costs.l1 k l (n : Int) (csL l n (i + 1)) (i : Int) (rowC l n i s nx) (s + 1)) r) : Ev (fun k => spec_l7Costs.l1 k l (n : Int) (csL l n (i + 1)) (i : Int) nx s) r := by
  have hs2 := hs
  unfold In4 at hs2
  refine ev1 (evp (by omega) ?_)
  refine l2_step l n hn hl i hi s 0 hs (.inl rfl) nx hx r (l2_step l n hn hl i hi s (0 + 1) hs (.inr rfl) _ (by rw [stepC_length]; exact hx) r ?_)
  refine l2_end (by omega) ?_
  rw [w64s (n := s + 1) (by omega) (by omega)]
  exact h
theorem rowC_at (l : List Int) (n i : Nat) (s u : Int) (nx : List Int) (hx : nx.length = 4) (hs : In4 s) (hu : In4 u) :
    rd (rowC l n i s nx) u = if nxt s 0 = u then offer (rd nx u) (costs l n i s) (bdist s 0 (l.getD (2 * i) 0) (l.getD (2 * i + 1) 0)) else if nxt s 1 = u ∧ i < n then offer (rd nx u) (costs l n i s) (bdist s 1 (l.getD (2 * i) 0) (l.getD (2 * i + 1) 0)) else rd nx u := by
  have hne : nxt s 0 ≠ nxt s 1 := by unfold nxt; omega
  unfold rowC stepC
  by_cases h : costs l n i s < 0
  · rw [if_pos (.inl h), if_pos (.inl h)]
    unfold offer
    rw [if_pos h, if_pos h]
    split
    · rfl
    · split <;> rfl
  · have hx1 : (updC nx (nxt s 0) (costs l n i s + bdist s 0 (l.getD (2 * i) 0) (l.getD (2 * i + 1) 0))).length = 4 := by rw [updC_length]; exact hx
    rw [if_neg (show ¬ (costs l n i s < 0 ∨ ((0 : Int) = 1 ∧ ¬ i < n)) by omega)]
    by_cases hi : i < n
    · rw [if_neg (by omega), updC_at _ _ u _ _ hx1 (nxt_range _ _) hu h, updC_at _ _ u _ _ hx (nxt_range _ _) hu h]
      by_cases e : nxt s 0 = u
      · rw [if_neg (fun q => hne (e.trans q.symm)), if_pos e, if_pos e]
      · by_cases e1 : nxt s 1 = u
        · rw [if_pos e1, if_neg e, if_neg e, if_pos ⟨e1, hi⟩]
        · rw [if_neg e1, if_neg e, if_neg e, if_neg (fun q => e1 q.1)]
    · rw [if_pos (.inr ⟨rfl, hi⟩), updC_at _ _ u _ _ hx (nxt_range _ _) hu h]
      by_cases e : nxt s 0 = u
      · rw [if_pos e, if_pos e]
      · rw [if_neg e, if_neg e, if_neg (fun q => hi q.2)]
theorem rows_all (l : List Int) (n i : Nat) : rowC l n i 3 (rowC l n i 2 (rowC l n i 1 (rowC l n i 0 [-1, -1, -1, -1]))) = cL l n (i + 1) := by
  have key : ∀ u, In4 u → rd (rowC l n i 3 (rowC l n i 2 (rowC l n i 1 (rowC l n i 0 [-1, -1, -1, -1])))) u = rd (cL l n (i + 1)) u := by
    intro u hu
    rw [cL_at l n (i + 1) u hu, rowC_at _ _ _ _ _ _ (by simp only [rowC_length]; rfl) ⟨by omega, by omega⟩ hu, rowC_at _ _ _ _ _ _ (by simp only [rowC_length]; rfl) ⟨by omega, by omega⟩ hu, rowC_at _ _ _ _ _ _ (by simp only [rowC_length]; rfl) ⟨by omega, by omega⟩ hu, rowC_at _ _ _ _ _ _ rfl ⟨by omega, by omega⟩ hu]
    have hp : rd ([-1, -1, -1, -1] : List Int) u = -1 := by rcases four hu with rfl | rfl | rfl | rfl <;> rfl
    rw [hp]
    have n00 : nxt 0 0 = 0 := rfl
    have n01 : nxt 0 1 = 1 := rfl
    have n10 : nxt 1 0 = 2 := rfl
    have n11 : nxt 1 1 = 3 := rfl
    have n20 : nxt 2 0 = 0 := rfl
    have n21 : nxt 2 1 = 1 := rfl
    have n30 : nxt 3 0 = 2 := rfl
    have n31 : nxt 3 1 = 3 := rfl
    rw [n00, n01, n10, n11, n20, n21, n30, n31]
    show _ = costT (costs l n i) (l.getD (2 * i) 0) (l.getD (2 * i + 1) 0) (decide (i < n)) u
    unfold costT
    rcases four hu with rfl | rfl | rfl | rfl
    · simp
    · by_cases h : i < n <;> simp [h]
    · simp
    · by_cases h : i < n <;> simp [h]
  refine list_ext (by simp only [rowC_length]; rfl) (fun j hj => ?_)
  have hj4 : j < 4 := by
    simp only [rowC_length] at hj
    exact hj
  have := key (j : Int) ⟨by omega, by omega⟩
  rwa [rd_nat, rd_nat] at this
theorem l7_ev (l : List Int) (n : Nat) (hn : n ≤ 1000) (hl : l.length = 2 * n + 4) : ∀ (d i : Nat), i + d = n + 2 → Ev (fun k => spec_l7Costs.l0 k l (n : Int) (csL l n (i + 1)) (i : Int)) (csL l n (n + 3)) := by
  intro d
  induction d with
  | zero =>
    intro i hi
    refine ev1 (evn (by rw [w64s (by omega) (by omega)]; omega) (evc ?_))
    rw [show i + 1 = n + 3 by omega]
  | succ d ih =>
    intro i hi
    refine ev1 (evp (by rw [w64s (by omega) (by omega)]; omega) ?_)
    refine l1_step l n hn hl i (by omega) 0 ⟨by omega, by omega⟩ _ rfl _ (l1_step l n hn hl i (by omega) (0 + 1) ⟨by omega, by omega⟩ _ (by simp only [rowC_length]; rfl) _ (l1_step l n hn hl i (by omega) (0 + 1 + 1) ⟨by omega, by omega⟩ _ (by simp only [rowC_length]; rfl) _ (l1_step l n hn hl i (by omega) (0 + 1 + 1 + 1) ⟨by omega, by omega⟩ _ (by simp only [rowC_length]; rfl) _ ?_)))
    refine l1_end (by omega) (by rw [csL_length]; omega) ?_
    have e := rows_all l n i
    rw [show (0 : Int) + 1 + 1 + 1 = 3 by omega, show (0 : Int) + 1 + 1 = 2 by omega, show (0 : Int) + 1 = 1 by omega, e, csL_snoc, w64s (n := (i : Int) + 1) (by omega) (by omega)]
    exact ih (i + 1) (by omega)
theorem sand_one {s : Int} (h : In4 s) : Go.bits .and .i64 s 1 = s % 2 := by
  rcases four h with rfl | rfl | rfl | rfl <;> decide +kernel
theorem j1_skip {c : List Int} {a1 a2 a4 a5 b s : Int} {a3 : Bool} {r : Int × Int} (h : Ev (fun k => spec_l7Back.l0 k c a1 a2 a3 a4 a5 b (wrap64 (s + 1))) r) : Ev (fun k => spec_l7Back.j1 k c a1 a2 a3 a4 a5 b s true) r :=
  ev1 (Ev.congr (fun k => by rw [spec_l7Back.j1, if_pos rfl]) h)
theorem j1_go {c : List Int} {a1 a2 a4 a5 b s : Int} {a3 : Bool} {r : Int × Int} (h0 : 0 ≤ s) (h1 : s < (c.length : Int)) (h : Ev (fun k => (spec_BranchDistance.f k s b a4 a5).bind fun d => (if (wrap64 ((rd c s) + d)) = a1 then (some (s, b)) else (spec_l7Back.l0 k c a1 a2 a3 a4 a5 b (wrap64 (s + 1))))) r) : Ev (fun k => spec_l7Back.j1 k c a1 a2 a3 a4 a5 b s false) r :=
  ev1 (Ev.congr (fun k => by rw [spec_l7Back.j1, if_neg (by decide), if_pos h0, if_pos h1]) h)
/-- One state is asked: it is passed by, unless it leads here at this cost. -/
theorem back_skip (l : List Int) (n i : Nat) (hn : i ≤ 2000) (s b u cost x y : Int) (free : Bool) (hs : In4 s) (hb : b = 0 ∨ b = 1) (r : Int × Int)
    (hno : ¬ (0 ≤ costs l n i s ∧ (b = 1 → free = true) ∧ nxt s b = u ∧ costs l n i s + bdist s b x y = cost)) (h : Ev (fun k => spec_l7Back.l0 k (cL l n i) cost u free x y b (s + 1)) r) : Ev (fun k => spec_l7Back.l0 k (cL l n i) cost u free x y b s) r := by
  have hs2 := hs
  unfold In4 at hs2
  have hle := costs_le l n i s
  have hr := bdist_range s b x y
  have hw : wrap64 (s + 1) = s + 1 := w64s (by omega) (by omega)
  have h' : Ev (fun k => spec_l7Back.l0 k (cL l n i) cost u free x y b (wrap64 (s + 1))) r := by
    rw [hw]
    exact h
  have mid : 0 ≤ costs l n i s → (b = 1 → free = true) → Ev (fun k => spec_l7Back.j1 k (cL l n i) cost u free x y b s (nxt s b != u)) r := by
    intro h0 hf
    by_cases hu : nxt s b = u
    · rw [show (nxt s b != u) = false by simp [hu]]
      refine j1_go hs2.1 (by rw [cL_length]; omega) (Ev.bind (sbd_ev s b x y hs hb) ?_)
      rw [cL_at l n i s hs, w64s (by omega) (by omega)]
      exact evn (fun q => hno ⟨h0, hf, hu, q⟩) h'
    · rw [show (nxt s b != u) = true by simp [hu]]
      exact j1_skip h'
  refine ev1 (evp (by omega) (evp hs2.1 (evp (by rw [cL_length]; omega) ?_)))
  rw [cL_at l n i s hs]
  by_cases h0 : costs l n i s < 0
  · exact evp h0 (j1_skip h')
  · refine evn h0 ?_
    by_cases hb1 : b = 1
    · refine evp hb1 ?_
      by_cases hf : free = true
      · exact evp hf (evs (spair_some s b hs hb).2 (mid (by omega) (fun _ => hf)))
      · exact evn hf (j1_skip h')
    · exact evn hb1 (evs (spair_some s b hs hb).2 (mid (by omega) (fun q => absurd q hb1)))
theorem back_hit (l : List Int) (n i : Nat) (hn : i ≤ 2000) (s b u cost x y : Int) (free : Bool) (hs : In4 s) (hb : b = 0 ∨ b = 1)
    (h0 : 0 ≤ costs l n i s) (hf : b = 1 → free = true) (hu : nxt s b = u) (hc : costs l n i s + bdist s b x y = cost) : Ev (fun k => spec_l7Back.l0 k (cL l n i) cost u free x y b s) (s, b) := by
  have hs2 := hs
  unfold In4 at hs2
  have hle := costs_le l n i s
  have hr := bdist_range s b x y
  have mid : Ev (fun k => spec_l7Back.j1 k (cL l n i) cost u free x y b s (nxt s b != u)) (s, b) := by
    rw [show (nxt s b != u) = false by simp [hu]]
    refine j1_go hs2.1 (by rw [cL_length]; omega) (Ev.bind (sbd_ev s b x y hs hb) ?_)
    rw [cL_at l n i s hs, w64s (by omega) (by omega)]
    exact evp hc (evc rfl)
  refine ev1 (evp (by omega) (evp hs2.1 (evp (by rw [cL_length]; omega) ?_)))
  rw [cL_at l n i s hs]
  refine evn (by omega) ?_
  by_cases hb1 : b = 1
  · exact evp hb1 (evp (hf hb1) (evs (spair_some s b hs hb).2 mid))
  · exact evn hb1 (evs (spair_some s b hs hb).2 mid)
theorem back_ev (l : List Int) (n i : Nat) (hn : i ≤ 2000) (u : Int) (hu : In4 u) (x y : Int) (free : Bool) (h0 : 0 ≤ costT (costs l n i) x y free u) :
    Ev (fun k => spec_l7Back.f k (cL l n i) (costT (costs l n i) x y free u) u free x y) (prevT (costs l n i) x y free u, u % 2) := by
  obtain ⟨p0, p1, p2, p3⟩ := costT_back (costs l n i) x y free u hu h0
  have hu2 := hu
  unfold In4 at hu2
  have hb : u % 2 = 0 ∨ u % 2 = 1 := by omega
  unfold spec_l7Back.f
  rw [sand_one hu]
  have hno : ∀ s, In4 s → s ≠ u / 2 → s ≠ u / 2 + 2 → nxt s (u % 2) ≠ u := fun s hs q1 q2 q3 => by
    unfold In4 at hs
    unfold nxt at q3
    omega
  have hprev : prevT (costs l n i) x y free u = u / 2 ∨ (prevT (costs l n i) x y free u = u / 2 + 2 ∧ ¬ (0 ≤ costs l n i (u / 2) ∧ (u % 2 = 1 → free = true) ∧ nxt (u / 2) (u % 2) = u ∧ costs l n i (u / 2) + bdist (u / 2) (u % 2) x y = costT (costs l n i) x y free u)) := by
    by_cases e : prevT (costs l n i) x y free u = u / 2
    · exact .inl e
    · refine .inr ?_
      have hf : ¬ (u % 2 = 1 ∧ free = false) := fun q => by
        have := p2 q.1
        rw [this] at q
        exact absurd q.2 (by decide)
      unfold prevT at e p3 ⊢
      rw [if_neg hf] at e p3 ⊢
      by_cases c1 : costs l n i (u / 2) < 0
      · rw [if_pos c1] at e p3 ⊢
        unfold prevT at p0
        rw [if_neg hf, if_pos c1] at p0
        by_cases c2 : costs l n i (u / 2 + 2) < 0
        · rw [if_pos c2] at p0
          unfold costT offer at h0
          rw [if_neg hf, if_pos c2, if_pos c1] at h0
          omega
        · rw [if_neg c2]
          exact ⟨rfl, fun q => by omega⟩
      · rw [if_neg c1] at e p3 ⊢
        by_cases c2 : costs l n i (u / 2 + 2) < 0
        · rw [if_pos c2] at e
          exact absurd rfl e
        · rw [if_neg c2] at e p3 ⊢
          by_cases c3 : costs l n i (u / 2 + 2) + bdist (u / 2 + 2) (u % 2) x y < costs l n i (u / 2) + bdist (u / 2) (u % 2) x y
          · rw [if_pos c3] at p3 ⊢
            exact ⟨rfl, fun q => by omega⟩
          · rw [if_neg c3] at e
            exact absurd rfl e
  have hp := prevT_in (costs l n i) x y free u hu
  generalize hP : prevT (costs l n i) x y free u = P at p0 p1 p3 hprev hp ⊢
  have fin : Ev (fun k => spec_l7Back.l0 k (cL l n i) (costT (costs l n i) x y free u) u free x y (u % 2) P) (P, u % 2) :=
    back_hit l n i hn P (u % 2) u _ x y free hp hb p0 p2 p1 p3.symm
  have skip : ∀ s, In4 s → s < P → Ev (fun k => spec_l7Back.l0 k (cL l n i) (costT (costs l n i) x y free u) u free x y (u % 2) (s + 1)) (P, u % 2) → Ev (fun k => spec_l7Back.l0 k (cL l n i) (costT (costs l n i) x y free u) u free x y (u % 2) s) (P, u % 2) := by
    intro s hs hlt h
    refine back_skip l n i hn s (u % 2) u _ x y free hs hb _ ?_ h
    rcases hprev with e | ⟨e, hne⟩
    · exact fun q => hno s hs (by omega) (by omega) q.2.2.1
    · by_cases e2 : s = u / 2
      · rw [e2]
        exact hne
      · exact fun q => hno s hs e2 (by omega) q.2.2.1
  have down : ∀ d : Nat, (d : Int) ≤ P → Ev (fun k => spec_l7Back.l0 k (cL l n i) (costT (costs l n i) x y free u) u free x y (u % 2) (P - d)) (P, u % 2) := by
    intro d
    induction d with
    | zero =>
      intro _
      rw [show P - ((0 : Nat) : Int) = P by omega]
      exact fin
    | succ d ih =>
      intro hd
      unfold In4 at hp
      refine skip _ ⟨by omega, by omega⟩ (by omega) ?_
      rw [show P - ((d + 1 : Nat) : Int) + 1 = P - (d : Int) by omega]
      exact ih (by omega)
  have := down P.toNat (by unfold In4 at hp; omega)
  rwa [show P - (P.toNat : Int) = 0 by unfold In4 at hp; omega] at this
theorem slen_ev (c : Nat) (hc : c ≤ 4000000000000) : spec_InputLength.f (c : Int) = some (lenV c) := by
  unfold spec_InputLength.f lenV
  rw [if_neg (by omega), Int.tmod_eq_emod_of_nonneg (by omega)]
  by_cases h2 : c % 2 = 0
  · rw [if_pos (by omega), Int.tdiv_eq_ediv_of_nonneg (by omega), w64s (n := (c : Int) / 2) (by omega) (by omega), w64s (by omega) (by omega), l1_some]
    simp only [Option.bind_some]
    by_cases h : 0 ≤ (c : Int) / 2 - 2 ∧ (c : Int) / 2 - 2 ≤ 1000
    · rw [if_pos (dt h), if_pos (by omega)]
    · rw [if_neg (dnt h), if_neg (by omega)]
  · rw [if_neg (by omega), if_neg (by omega)]
theorem svit_loop (l : List Int) (n : Nat) (hn : n ≤ 1000) (hl : l.length = 2 * n + 4) : ∀ (i : Nat) (bs : List Int), i ≤ n + 2 → bs.length = n → (∀ j, i ≤ j → j < n → bs.getD j 0 = vst l n (j + 1) % 2) →
    Ev (fun k => spec_ViterbiDecode.l0 k l (n : Int) (csL l n (n + 3)) bs (vst l n i) ((i : Int) - 1)) (vbits l n, vcost l n) := by
  intro i
  induction i with
  | zero =>
    intro bs _ hb hj
    refine ev1 (evn (by omega) ?_)
    rw [w64s (n := (n : Int) + 2) (by omega) (by omega), csL_length]
    refine evp (by omega) (evp (by omega) ?_)
    rw [show (n : Int) + 2 = ((n + 2 : Nat) : Int) by omega, csL_at l n (n + 3) (n + 2) (by omega), cL_length, cL_at l n (n + 2) 0 ⟨by omega, by omega⟩]
    refine evp (by omega) (evc ?_)
    rw [list_ext (a := bs) (b := vbits l n) (by rw [hb, vbits_length]) (fun j h => by rw [hj j (by omega) (by omega), vbits_at l n j (by omega)])]
    rfl
  | succ i ih =>
    intro bs hi hb hj
    have hv := vst_in l n (n + 1 - i) (i + 1) (by omega)
    have hv2 := hv
    unfold In4 at hv2
    have hg := vst_good l n (n + 1 - i) (i + 1) (by omega)
    rw [show ((i + 1 : Nat) : Int) - 1 = (i : Int) by omega]
    refine ev1 (evp (by omega) (evp (by omega) (evp (by rw [csL_length]; omega) ?_)))
    rw [w64s (n := (i : Int) + 1) (by omega) (by omega), csL_length, csL_at l n (n + 3) i (by omega), show (i : Int) + 1 = ((i + 1 : Nat) : Int) by omega, csL_at l n (n + 3) (i + 1) (by omega), cL_length, cL_at l n (i + 1) _ hv,
      show (2 : Int) * (i : Int) = ((2 * i : Nat) : Int) by omega, w64s (n := ((2 * i : Nat) : Int)) (by omega) (by omega), show ((2 * i : Nat) : Int) + 1 = ((2 * i + 1 : Nat) : Int) by omega, w64s (n := ((2 * i + 1 : Nat) : Int)) (by omega) (by omega), rd_nat, rd_nat, w64s (n := (i : Int) - 1) (by omega) (by omega)]
    have hdec : decide ((i : Int) < (n : Int)) = decide (i < n) := dec_iff (by omega)
    have hB := back_ev l n i (by omega) (vst l n (i + 1)) hv (l.getD (2 * i) 0) (l.getD (2 * i + 1) 0) (decide (i < n)) hg
    rw [← vst_step l n i (by omega)] at hB
    have hB' : Ev (fun k => spec_l7Back.f k (cL l n i) (costs l n (i + 1) (vst l n (i + 1))) (vst l n (i + 1)) (decide ((i : Int) < (n : Int))) (l.getD (2 * i) 0) (l.getD (2 * i + 1) 0)) (vst l n i, vst l n (i + 1) % 2) := by
      rw [hdec]
      exact hB
    refine evp (by omega) (evp (by omega) (evp hv2.1 (evp (by omega) (evp (by omega) (evp (by omega) (evp (by omega) (evp (by omega) (Ev.bind hB' ?_))))))))
    by_cases h : i < n
    · refine evp (by omega) (evp (by omega) ?_)
      rw [Int.toNat_natCast]
      refine ih _ (by omega) (by simpa using hb) (fun j h1 h2 => ?_)
      rw [getD_set]
      by_cases e : i = j
      · subst e
        rw [if_pos ⟨rfl, by omega⟩]
      · rw [if_neg (fun q => e q.1)]
        exact hj j (by omega) h2
    · exact evn (by omega) (ih bs (by omega) hb (fun j h1 h2 => by omega))
theorem svit_bad (l : List Int) (n : Int) : Ev (fun k => spec_ViterbiDecode.j0 k l n true) ([], -1) := ev1 (Ev.congr (fun k => by rw [spec_ViterbiDecode.j0, if_pos rfl]) (evc rfl))
theorem svit_good (l : List Int) (n : Nat) (hn : n ≤ 1000) (hl : l.length = 2 * n + 4) : Ev (fun k => spec_ViterbiDecode.j0 k l (n : Int) false) (vbits l n, vcost l n) := by
  refine ev1 (Ev.congr (f := fun k => (spec_l7Costs.f k l (n : Int)).bind fun t => (if 0 ≤ (n : Int) then (if ((n : Int)).toNat ≤ 35184372088832 then (spec_ViterbiDecode.l0 k l (n : Int) t (List.replicate ((n : Int)).toNat 0) 0 (wrap64 ((wrap64 ((n : Int) + 2)) - 1))) else (none)) else (none))) (fun k => by rw [spec_ViterbiDecode.j0, if_neg (by decide)]) ?_)
  have h1 := l7_ev l n hn hl (n + 2) 0 (by omega)
  have h1' : Ev (fun k => spec_l7Costs.f k l (n : Int)) (csL l n (n + 3)) := h1
  refine Ev.bind h1' (evp (by omega) (evp (by omega) ?_))
  rw [Int.toNat_natCast, w64s (n := (n : Int) + 2) (by omega) (by omega), w64s (n := (n : Int) + 2 - 1) (by omega) (by omega)]
  have h4 := svit_loop l n hn hl (n + 2) (List.replicate n 0) (by omega) (by simp) (fun j h5 h6 => by omega)
  rw [vst_end, show ((n + 2 : Nat) : Int) - 1 = (n : Int) + 2 - 1 by omega] at h4
  exact h4
theorem svit_ev (l : List Int) (hl : l.length ≤ 1000000000) : Ev (fun k => spec_ViterbiDecode.f k l) (vdec l) := by
  unfold spec_ViterbiDecode.f vdec
  refine evs (slen_ev l.length (by omega)) ?_
  have h2 := ssym_ev l (by omega)
  unfold lenV
  by_cases hc : l.length % 2 = 0 ∧ 4 ≤ l.length ∧ l.length ≤ 2004
  · rw [if_pos hc]
    obtain ⟨n, hn⟩ : ∃ n : Nat, l.length = 2 * n + 4 := ⟨l.length / 2 - 2, by omega⟩
    rw [show (l.length : Int) / 2 - 2 = (n : Int) by omega, show l.length / 2 - 2 = n by omega]
    refine evn (by omega) (Ev.bind h2 ?_)
    cases hs : (l.all fun x => decide (0 ≤ x ∧ x ≤ 2)) with
    | true =>
      rw [if_pos ⟨rfl, hc⟩]
      exact svit_good l n (by omega) hn
    | false =>
      rw [if_neg (fun q => absurd q.1 (by decide))]
      exact svit_bad _ _
  · rw [if_neg hc, if_neg (fun q => hc q.2)]
    exact evp (by decide) (svit_bad _ _)

theorem toInts_loop (x0 : List Int) (hn : x0.length ≤ 4000000000000000) : ∀ (d i : Nat) (x3 : List Int), i + d = x0.length → x3.length = x0.length → (∀ j, j < i → x3.getD j 0 = x0.getD j 0) → Ev (fun k => laws_toIntS.l0 k x0 x3 i) x0 := by
  intro d
  induction d with
  | zero =>
    intro i x3 hi hl hj
    refine ev1 ?_
    refine evn (by omega) (evc ?_)
    rw [list_ext hl (fun j h => hj j (by omega))]
  | succ d ih =>
    intro i x3 hi hl hj
    refine ev1 ?_
    refine evp (by omega) (evp (by omega) (evp (by omega) ?_))
    rw [w64s (by omega) (by omega), Int.toNat_natCast, rd_nat]
    have := ih (i + 1) (x3.set i (x0.getD i 0)) (by omega) (by simpa using hl) (by
      intro j h
      rw [getD_set]
      by_cases e : i = j
      · subst e
        rw [if_pos ⟨rfl, by omega⟩]
      · rw [if_neg (fun h' => e h'.1)]
        exact hj j (by omega))
    exact this
theorem toInts_ev (l : List Int) (hn : l.length ≤ 1048576) : Ev (fun k => laws_toIntS.f k l) l := by
  unfold laws_toIntS.f
  refine evp (by omega) (evp (by omega) ?_)
  exact toInts_loop l (by omega) l.length 0 _ (by omega) (by simp) (by intro j h; omega)

theorem eqInts_loop (x : List Int) (hn : x.length ≤ 4000000000000000) : ∀ (d i : Nat), i + d = x.length → Ev (fun k => laws_eqIntS.l0 k x x i) true := by
  intro d
  induction d with
  | zero =>
    intro i hi
    refine ev1 ?_
    exact evn (by omega) (evc rfl)
  | succ d ih =>
    intro i hi
    refine ev1 ?_
    refine evp (by omega) (evp (by omega) (evp (by omega) (evp rfl ?_)))
    rw [w64s (by omega) (by omega)]
    exact ih (i + 1) (by omega)
theorem eqInts_ev (l : List Int) (hn : l.length ≤ 4000000000000000) : Ev (fun k => laws_eqIntS.f k l l) true := by
  unfold laws_eqIntS.f
  exact evp rfl (eqInts_loop l hn l.length 0 (by omega))

def marksI (s : Int) (n : Nat) : List Int := (List.range n).map fun j : Nat => (s + (j : Int))
theorem marksI_length (s : Int) (n : Nat) : (marksI s n).length = n := by simp [marksI]
theorem marksI_at (s : Int) (n j : Nat) (h : j < n) : (marksI s n).getD j 0 = (s + (j : Int)) := by
  simp [marksI, List.getD_eq_getElem?_getD, List.getElem?_map, List.getElem?_range h]
theorem markInts_loop (n : Nat) (hn : n ≤ 4000000000000000) (s : Int) (h0 : 0 ≤ s) (hs : s ≤ 4000000000000000) : ∀ (d i : Nat) (x : List Int), i + d = n → x.length = n → (∀ j, j < i → x.getD j 0 = (s + (j : Int))) →
    Ev (fun k => laws_markIntS.l0 k x (s + i) i) (s + n, marksI s n) := by
  intro d
  induction d with
  | zero =>
    intro i x hi hl hj
    refine ev1 ?_
    refine evn (by omega) (evc ?_)
    rw [show i = n by omega, list_ext (a := x) (b := marksI s n) (by rw [hl, marksI_length]) (fun j h => by rw [hj j (by omega), marksI_at s n j (by omega)])]
  | succ d ih =>
    intro i x hi hl hj
    refine ev1 ?_
    refine evp (by omega) (evp (by omega) ?_)
    rw [w64s (by omega) (by omega), w64s (by omega) (by omega), Int.toNat_natCast]
    have := ih (i + 1) (x.set i (s + (i : Int))) (by omega) (by simpa using hl) (by
      intro j h
      rw [getD_set]
      by_cases e : i = j
      · subst e
        rw [if_pos ⟨rfl, by omega⟩]
      · rw [if_neg (fun h' => e h'.1)]
        exact hj j (by omega))
    rw [show s + ((i + 1 : Nat) : Int) = s + (i : Int) + 1 by omega] at this
    exact this
theorem markInts_ev (l : List Int) (hn : l.length ≤ 4000000000000000) (s : Int) (h0 : 0 ≤ s) (hs : s ≤ 4000000000000000) : Ev (fun k => laws_markIntS.f k l s) (s + l.length, marksI s l.length) := by
  have := markInts_loop l.length hn s h0 hs l.length 0 l (by omega) rfl (by intro j h; omega)
  rw [show s + ((0 : Nat) : Int) = s by omega] at this
  exact this
theorem heldInts_loop (n : Nat) (hn : n ≤ 4000000000000000) (s : Int) (h0 : 0 ≤ s) (hs : s ≤ 4000000000000000) : ∀ (d i : Nat), i + d = n →
    Ev (fun k => laws_heldIntS.l0 k (marksI s n) (s + i) i) (s + n) := by
  intro d
  induction d with
  | zero =>
    intro i hi
    refine ev1 ?_
    refine evn (by rw [marksI_length]; omega) (evc ?_)
    rw [show i = n by omega]
  | succ d ih =>
    intro i hi
    refine ev1 ?_
    refine evp (by rw [marksI_length]; omega) (evp (by omega) (evp (by rw [rd_nat, marksI_at s n i (by omega)]) ?_))
    rw [w64s (by omega) (by omega), w64s (by omega) (by omega)]
    have := ih (i + 1) (by omega)
    rw [show s + ((i + 1 : Nat) : Int) = s + (i : Int) + 1 by omega] at this
    exact this
theorem heldInts_ev (n : Nat) (hn : n ≤ 4000000000000000) (s : Int) (h0 : 0 ≤ s) (hs : s ≤ 4000000000000000) : Ev (fun k => laws_heldIntS.f k (marksI s n) s) (s + n) := by
  have := heldInts_loop n hn s h0 hs n 0 (by omega)
  rw [show s + ((0 : Nat) : Int) = s by omega] at this
  exact this

theorem FnExactViterbiDecode : laws_FnExactViterbiDecode.Pure := by
  intro l _ _ _
  refine Ev.rounds (r := true) ?_
  unfold laws_FnExactViterbiDecode.f
  by_cases hn : (l.length : Int) > 1048576
  · exact evp hn (evc rfl)
  refine evn hn ?_
  have hl : l.length ≤ 1048576 := by omega
  have hs := svit_ev l (by omega)
  have hi := ivit_ev l (by omega)
  have hr := vdec_length l
  generalize vdec l = r at *
  obtain ⟨r, d⟩ := r
  have ht := toInts_ev l hl
  have he := eqInts_ev r (by dsimp only at hr; omega)
  have hel := eqInts_ev l (by omega)
  have hml := markInts_ev l (by omega) 1 (by omega) (by omega)
  have hm := markInts_ev r (by dsimp only at hr; omega) 1 (by omega) (by omega)
  have hh := heldInts_ev r.length (by dsimp only at hr; omega) 1 (by omega) (by omega)
  have h2 : Ev (fun k => laws_FnExactViterbiDecode.j2 k (marksI 1 r.length) (1 + (r.length : Int)) (d != d)) true :=
    ev1 (evn (by simp) (Ev.bind hh (evn (by omega) (evp rfl (evc rfl)))))
  have h1 : Ev (fun k => laws_FnExactViterbiDecode.j1 k l r d r (d != d)) true :=
    ev1 (evn (by simp) (Ev.bind hm (Ev.bind hh (evn (by omega) (evp rfl (Ev.bind ht (Ev.bind hi (Ev.bind he (evp rfl h2)))))))))
  have h0 : Ev (fun k => laws_FnExactViterbiDecode.j0 k l r d l r d (d != d)) true :=
    ev1 (evn (by simp) (Ev.bind ht (Ev.bind hel (evp rfl (Ev.bind hml (evn (by dsimp only; omega) (Ev.bind he (evp rfl h1))))))))
  exact Ev.bind ht (Ev.bind hs (Ev.bind ht (Ev.bind hi (Ev.bind he (evp rfl h0)))))

end Go.Proofs.Ytldbmljooafkcaa.Pure
