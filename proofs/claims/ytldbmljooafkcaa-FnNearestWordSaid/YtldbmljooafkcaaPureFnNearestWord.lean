/-
  No bit string explains drawn symbols better than the decoded one: none of eight bit strings that are tried lies nearer, and the decoded one lies at the told distance.
  Conditions: none beyond the given statement's own.
-/
import Derived.Test.YtldbmljooafkcaaPFnNearestWordx5
set_option linter.unusedVariables false
set_option linter.unusedSimpArgs false
namespace Go.Proofs.Ytldbmljooafkcaa.Pure
open Go.RowKit Go.Proofs.Ytldbmljooafkcaa.PFnNearestWord Go.Proofs.YtldbmljooafkcaaW.PrintWords Go.Proofs.YtldbmljooafkcaaW.PrintLast Go.Proofs.YtldbmljooafkcaaW.PrintMore

theorem evp {α : Type} {c : Prop} [Decidable c] {A B : Nat → Option α} {r : α} (hc : c) (h : Ev A r) : Ev (fun k => if c then A k else B k) r :=
  Ev.congr (fun k => if_pos hc) h
theorem evn {α : Type} {c : Prop} [Decidable c] {A B : Nat → Option α} {r : α} (hc : ¬ c) (h : Ev B r) : Ev (fun k => if c then A k else B k) r :=
  Ev.congr (fun k => if_neg hc) h
theorem evs {α β : Type} {g : Option α} {a : α} {f : Nat → α → Option β} {r : β} (hg : g = some a) (h : Ev (fun k => f k a) r) : Ev (fun k => g.bind (f k)) r :=
  Ev.congr (fun k => by rw [hg]; rfl) h
theorem evc {α : Type} {g : Option α} {r : α} (h : g = some r) : Ev (fun _ => g) r := ⟨0, fun _ _ => h⟩
theorem ev_eq {α : Type} {g : Nat → Option α} {r r' : α} (h : Ev g r) (e : r = r') : Ev g r' := e ▸ h
theorem w64 {n : Int} (h0 : -9223372036854775808 ≤ n) (h1 : n ≤ 9223372036854775807) : wrap64 n = n := by
  unfold wrap64
  omega
theorem w64s {n : Int} (h0 : -1000000000000000000 ≤ n) (h1 : n ≤ 1000000000000000000) : wrap64 n = n := w64 (by omega) (by omega)
theorem ev1 {α : Type} {g : Nat → Option α} {r : α} (h : Ev (fun k => g (k + 1)) r) : Ev g r := Ev.step (fun _ => rfl) h
theorem dt {p : Prop} [Decidable p] (h : p) : decide p = true := decide_eq_true h
theorem dnt {p : Prop} [Decidable p] (h : ¬ p) : ¬ (decide p = true) := by simp [h]
theorem ntd {p : Prop} [Decidable p] (h : ¬ p) : (!decide p) = true := by simp [h]
theorem ntt {p : Prop} [Decidable p] (h : p) : ¬ ((!decide p) = true) := by simp [h]
theorem evk {α : Type} {g : Nat → Option α} {r : α} (h : ∀ k, g k = some r) : Ev g r := ⟨0, fun k _ => h k⟩
theorem dec_iff {p q : Prop} [Decidable p] [Decidable q] (h : p ↔ q) : decide p = decide q := by
  by_cases hq : q
  · rw [decide_eq_true hq, decide_eq_true (h.2 hq)]
  · rw [decide_eq_false hq, decide_eq_false (fun hp => hq (h.1 hp))]

theorem rd_nat (l : List Int) (i : Nat) : rd l (i : Int) = l.getD i 0 := by
  unfold rd
  rw [Int.toNat_natCast]
theorem rd_mem {l : List Int} {i : Nat} (h : i < l.length) : l.getD i 0 ∈ l := by
  rw [List.getD_eq_getElem?_getD, List.getElem?_eq_getElem h]
  exact List.getElem_mem h
theorem list_ext {a b : List Int} (hl : a.length = b.length) (h : ∀ i, i < a.length → a.getD i 0 = b.getD i 0) : a = b := by
  apply List.ext_getElem hl
  intro i h1 h2
  have := h i h1
  rw [List.getD_eq_getElem?_getD, List.getD_eq_getElem?_getD, List.getElem?_eq_getElem h1, List.getElem?_eq_getElem h2] at this
  simpa using this
theorem getD_set (l : List Int) (i j : Nat) (v : Int) : (l.set i v).getD j 0 = if i = j ∧ j < l.length then v else l.getD j 0 := by
  rw [List.getD_eq_getElem?_getD, List.getElem?_set, List.getD_eq_getElem?_getD]
  by_cases h : i = j
  · subst h
    by_cases h2 : i < l.length
    · simp [h2]
    · simp [h2]
  · simp [h]

def outX (s b : Int) : Int := (b + s % 2 + s / 2) % 2
def outY (s b : Int) : Int := (b + s / 2) % 2
def nxt (s b : Int) : Int := (2 * s + b) % 4
def convGo : Int → List Int → List Int
  | _, [] => []
  | s, b :: r => outX s b :: outY s b :: convGo (nxt s b) r
def conv (l : List Int) : List Int := convGo 0 (l ++ [0, 0])
def Bits (l : List Int) : Prop := ∀ x ∈ l, x = 0 ∨ x = 1
theorem convGo_length : ∀ (l : List Int) (s : Int), (convGo s l).length = 2 * l.length
  | [], _ => rfl
  | b :: r, s => by
    simp only [convGo, List.length_cons, convGo_length r]
    omega
theorem conv_length (l : List Int) : (conv l).length = 2 * l.length + 4 := by
  unfold conv
  rw [convGo_length]
  simp
  omega
theorem nxt_range (s b : Int) : 0 ≤ nxt s b ∧ nxt s b ≤ 3 := by unfold nxt; omega
theorem out_bits (s b : Int) : (outX s b = 0 ∨ outX s b = 1) ∧ (outY s b = 0 ∨ outY s b = 1) := by unfold outX outY; omega
theorem convGo_bits : ∀ (l : List Int) (s : Int), Bits (convGo s l)
  | [], _ => by intro x hx; simp [convGo] at hx
  | b :: r, s => by
    intro x hx
    simp only [convGo, List.mem_cons] at hx
    rcases hx with rfl | rfl | hx
    · exact (out_bits s b).1
    · exact (out_bits s b).2
    · exact convGo_bits r _ x hx
theorem drop_getD (L : List Int) (i : Nat) (h : i < L.length) : L.drop i = L.getD i 0 :: L.drop (i + 1) := by
  rw [List.drop_eq_getElem_cons h, List.getD_eq_getElem?_getD, List.getElem?_eq_getElem h]
  rfl
theorem pad_getD (l : List Int) (i : Nat) : (l ++ [0, 0]).getD i 0 = if i < l.length then l.getD i 0 else 0 := by
  simp only [List.getD_eq_getElem?_getD, List.getElem?_append]
  by_cases h : i < l.length
  · simp [h]
  · rw [if_neg h, if_neg h]
    rcases Nat.lt_or_ge (i - l.length) 2 with h2 | h2
    · have : i - l.length = 0 ∨ i - l.length = 1 := by omega
      rcases this with e | e <;> rw [e] <;> rfl
    · rw [List.getElem?_eq_none (by simpa using h2)]
      rfl
theorem bits_getD {l : List Int} (h : Bits l) (i : Nat) : l.getD i 0 = 0 ∨ l.getD i 0 = 1 := by
  rw [List.getD_eq_getElem?_getD]
  cases e : l[i]? with
  | none => exact .inl rfl
  | some v => exact h v (List.mem_of_getElem? e)

/-- How many known symbols differ from the word's. -/
def symD (a b : Int) : Int := if a = 2 then 0 else if a = b then 0 else 1
def diffs : List Int → List Int → Int
  | a :: s, b :: w => symD a b + diffs s w
  | _, _ => 0
theorem symD_range (a b : Int) : 0 ≤ symD a b ∧ symD a b ≤ 1 := by
  unfold symD
  split
  · omega
  · split <;> omega
theorem diffs_range : ∀ (s w : List Int), 0 ≤ diffs s w ∧ diffs s w ≤ s.length
  | [], w => by simp [diffs]
  | a :: s, [] => by simp [diffs]; omega
  | a :: s, b :: w => by
    have h1 := symD_range a b
    have h2 := diffs_range s w
    simp only [diffs, List.length_cons]
    omega

/-- The distance of one branch. -/
def bdist (s b x y : Int) : Int := symD x (outX s b) + symD y (outY s b)
theorem bdist_range (s b x y : Int) : 0 ≤ bdist s b x y ∧ bdist s b x y ≤ 2 := by
  have h1 := symD_range x (outX s b)
  have h2 := symD_range y (outY s b)
  unfold bdist
  omega
/-- One branch of cost d out of a state of cost c, offered to a state of cost cur. -/
def offer (cur c d : Int) : Int := if c < 0 then cur else if cur < 0 then c + d else if c + d < cur then c + d else cur
/-- The cost of state t one step later. -/
def costT (c : Int → Int) (x y : Int) (free : Bool) (t : Int) : Int :=
  if t % 2 = 1 ∧ free = false then -1 else offer (offer (-1) (c (t / 2)) (bdist (t / 2) (t % 2) x y)) (c (t / 2 + 2)) (bdist (t / 2 + 2) (t % 2) x y)
/-- The state ahead of t. -/
def prevT (c : Int → Int) (x y : Int) (free : Bool) (t : Int) : Int :=
  if t % 2 = 1 ∧ free = false then 0
  else if c (t / 2) < 0 then (if c (t / 2 + 2) < 0 then 0 else t / 2 + 2)
  else if c (t / 2 + 2) < 0 then t / 2
  else if c (t / 2 + 2) + bdist (t / 2 + 2) (t % 2) x y < c (t / 2) + bdist (t / 2) (t % 2) x y then t / 2 + 2 else t / 2
def In4 (s : Int) : Prop := 0 ≤ s ∧ s ≤ 3
theorem four {s : Int} (h : In4 s) : s = 0 ∨ s = 1 ∨ s = 2 ∨ s = 3 := by
  unfold In4 at h
  omega
theorem prevT_in (c : Int → Int) (x y : Int) (free : Bool) (t : Int) (h : In4 t) : In4 (prevT c x y free t) := by
  unfold In4 at h ⊢
  unfold prevT
  repeat' split
  all_goals omega
theorem costT_back (c : Int → Int) (x y : Int) (free : Bool) (t : Int) (h : In4 t) (h0 : 0 ≤ costT c x y free t) :
    0 ≤ c (prevT c x y free t) ∧ nxt (prevT c x y free t) (t % 2) = t ∧ (t % 2 = 1 → free = true) ∧
      costT c x y free t = c (prevT c x y free t) + bdist (prevT c x y free t) (t % 2) x y := by
  unfold In4 at h
  have r1 := bdist_range (t / 2) (t % 2) x y
  have r2 := bdist_range (t / 2 + 2) (t % 2) x y
  unfold costT at h0 ⊢
  unfold prevT nxt
  by_cases hf : t % 2 = 1 ∧ free = false
  · rw [if_pos hf] at h0
    omega
  rw [if_neg hf] at h0 ⊢
  have hfr : t % 2 = 1 → free = true := fun q => by
    cases free
    · exact absurd ⟨q, rfl⟩ hf
    · rfl
  rw [if_neg hf]
  by_cases h1 : c (t / 2) < 0
  · by_cases h2 : c (t / 2 + 2) < 0
    · exfalso
      unfold offer at h0
      rw [if_pos h2, if_pos h1] at h0
      omega
    · rw [if_pos h1, if_neg h2]
      refine ⟨by omega, by omega, hfr, ?_⟩
      unfold offer
      rw [if_neg h2, if_pos h1, if_pos (by omega)]
  · by_cases h2 : c (t / 2 + 2) < 0
    · rw [if_neg h1, if_pos h2]
      refine ⟨by omega, by omega, hfr, ?_⟩
      unfold offer
      rw [if_pos h2, if_neg h1, if_pos (by omega)]
    · rw [if_neg h1, if_neg h2]
      have e1 : offer (-1) (c (t / 2)) (bdist (t / 2) (t % 2) x y) = c (t / 2) + bdist (t / 2) (t % 2) x y := by
        unfold offer
        rw [if_neg h1, if_pos (by omega)]
      rw [e1]
      unfold offer
      rw [if_neg h2, if_neg (show ¬ c (t / 2) + bdist (t / 2) (t % 2) x y < 0 by omega)]
      by_cases h3 : c (t / 2 + 2) + bdist (t / 2 + 2) (t % 2) x y < c (t / 2) + bdist (t / 2) (t % 2) x y
      · rw [if_pos h3, if_pos h3]
        exact ⟨by omega, by omega, hfr, rfl⟩
      · rw [if_neg h3, if_neg h3]
        exact ⟨by omega, by omega, hfr, rfl⟩
theorem offer_cur (cur c d : Int) (h : 0 ≤ cur) (hd : 0 ≤ d) : 0 ≤ offer cur c d ∧ offer cur c d ≤ cur := by
  unfold offer
  repeat' split
  all_goals omega
theorem offer_new (cur c d : Int) (h : 0 ≤ c) (hd : 0 ≤ d) : 0 ≤ offer cur c d ∧ offer cur c d ≤ c + d := by
  unfold offer
  repeat' split
  all_goals omega
theorem costT_best (c : Int → Int) (x y : Int) (free : Bool) (s b : Int) (h : In4 s) (hb : b = 0 ∨ b = 1) (hf : b = 1 → free = true) (h0 : 0 ≤ c s) :
    0 ≤ costT c x y free (nxt s b) ∧ costT c x y free (nxt s b) ≤ c s + bdist s b x y := by
  unfold In4 at h
  have e : (2 * s + b) % 4 % 2 = b := by omega
  unfold costT nxt
  rw [e]
  have r1 := bdist_range ((2 * s + b) % 4 / 2) b x y
  have r2 := bdist_range ((2 * s + b) % 4 / 2 + 2) b x y
  rw [if_neg (fun q => by have := hf q.1; rw [this] at q; exact absurd q.2 (by decide))]
  by_cases hs : s < 2
  · have e2 : (2 * s + b) % 4 / 2 = s := by omega
    rw [e2] at r1 r2 ⊢
    have h1 := offer_new (-1) (c s) (bdist s b x y) h0 r1.1
    have h2 := offer_cur (offer (-1) (c s) (bdist s b x y)) (c (s + 2)) (bdist (s + 2) b x y) h1.1 r2.1
    omega
  · have e2 : (2 * s + b) % 4 / 2 + 2 = s := by omega
    rw [e2] at r2 ⊢
    exact offer_new _ (c s) (bdist s b x y) h0 r2.1
theorem offer_ge (cur c d : Int) (h : -1 ≤ cur) (hd : 0 ≤ d) : -1 ≤ offer cur c d := by
  unfold offer
  repeat' split
  all_goals omega
theorem offer_le (cur c d m : Int) (h : cur ≤ m) (hc : c + d ≤ m) : offer cur c d ≤ m := by
  unfold offer
  repeat' split
  all_goals omega
/-- The costs behind i steps over the symbols l, of which the first n carry a bit. -/
def costs (l : List Int) (n : Nat) : Nat → Int → Int
  | 0 => fun s => if s = 0 then 0 else -1
  | i + 1 => costT (costs l n i) (l.getD (2 * i) 0) (l.getD (2 * i + 1) 0) (decide (i < n))
theorem costs_ge (l : List Int) (n : Nat) : ∀ (i : Nat) (s : Int), -1 ≤ costs l n i s
  | 0, s => by
    unfold costs
    split <;> omega
  | i + 1, s => by
    unfold costs costT
    split
    · omega
    · exact offer_ge _ _ _ (offer_ge _ _ _ (by omega) (bdist_range _ _ _ _).1) (bdist_range _ _ _ _).1
theorem costs_le (l : List Int) (n : Nat) : ∀ (i : Nat) (s : Int), costs l n i s ≤ 2 * i
  | 0, s => by
    unfold costs
    split <;> omega
  | i + 1, s => by
    unfold costs costT
    have h1 := costs_le l n i (s / 2)
    have h2 := costs_le l n i (s / 2 + 2)
    have r1 := bdist_range (s / 2) (s % 2) (l.getD (2 * i) 0) (l.getD (2 * i + 1) 0)
    have r2 := bdist_range (s / 2 + 2) (s % 2) (l.getD (2 * i) 0) (l.getD (2 * i + 1) 0)
    split
    · omega
    · exact offer_le _ _ _ _ (offer_le _ _ _ _ (by omega) (by omega)) (by omega)
theorem costs_zero (l : List Int) (n : Nat) : ∀ i : Nat, 0 ≤ costs l n i 0
  | 0 => by
    unfold costs
    rw [if_pos rfl]
    omega
  | i + 1 => by
    have h := (costT_best (costs l n i) (l.getD (2 * i) 0) (l.getD (2 * i + 1) 0) (decide (i < n)) 0 0 ⟨by omega, by omega⟩ (.inl rfl) (fun q => by omega) (costs_zero l n i)).1
    exact h
/-- The states of the best path, told from its end: d steps ahead of step m. -/
def stB (l : List Int) (n m : Nat) : Nat → Int
  | 0 => 0
  | d + 1 => prevT (costs l n (m - (d + 1))) (l.getD (2 * (m - (d + 1))) 0) (l.getD (2 * (m - (d + 1)) + 1) 0) (decide (m - (d + 1) < n)) (stB l n m d)
/-- The state of the best path behind i steps. -/
def vst (l : List Int) (n i : Nat) : Int := stB l n (n + 2) (n + 2 - i)
theorem vst_end (l : List Int) (n : Nat) : vst l n (n + 2) = 0 := by
  unfold vst
  rw [Nat.sub_self]
  rfl
theorem vst_step (l : List Int) (n i : Nat) (h : i < n + 2) :
    vst l n i = prevT (costs l n i) (l.getD (2 * i) 0) (l.getD (2 * i + 1) 0) (decide (i < n)) (vst l n (i + 1)) := by
  unfold vst
  obtain ⟨d, hd⟩ : ∃ d, n + 2 - i = d + 1 := ⟨n + 1 - i, by omega⟩
  have e : n + 2 - (i + 1) = d := by omega
  have e2 : n + 2 - (d + 1) = i := by omega
  rw [hd, e, stB, e2]
theorem vst_in (l : List Int) (n : Nat) : ∀ (d i : Nat), i + d = n + 2 → In4 (vst l n i)
  | 0, i, h => by
    rw [show i = n + 2 by omega, vst_end]
    exact ⟨by omega, by omega⟩
  | d + 1, i, h => by
    rw [vst_step l n i (by omega)]
    exact prevT_in _ _ _ _ _ (vst_in l n d (i + 1) (by omega))
theorem vst_good (l : List Int) (n : Nat) : ∀ (d i : Nat), i + d = n + 2 → 0 ≤ costs l n i (vst l n i)
  | 0, i, h => by
    rw [show i = n + 2 by omega, vst_end]
    exact costs_zero l n _
  | d + 1, i, h => by
    rw [vst_step l n i (by omega)]
    have h1 := vst_good l n d (i + 1) (by omega)
    exact (costT_back _ _ _ _ _ (vst_in l n d (i + 1) (by omega)) h1).1
theorem vst_back (l : List Int) (n i : Nat) (h : i < n + 2) :
    nxt (vst l n i) (vst l n (i + 1) % 2) = vst l n (i + 1) ∧ (vst l n (i + 1) % 2 = 1 → i < n) ∧
      costs l n (i + 1) (vst l n (i + 1)) = costs l n i (vst l n i) + bdist (vst l n i) (vst l n (i + 1) % 2) (l.getD (2 * i) 0) (l.getD (2 * i + 1) 0) := by
  have h1 := vst_good l n (n + 1 - i) (i + 1) (by omega)
  have h2 := costT_back (costs l n i) (l.getD (2 * i) 0) (l.getD (2 * i + 1) 0) (decide (i < n)) _ (vst_in l n (n + 1 - i) (i + 1) (by omega)) h1
  rw [← vst_step l n i h] at h2
  exact ⟨h2.2.1, fun q => by simpa using h2.2.2.1 q, h2.2.2.2⟩
theorem vst_start (l : List Int) (n : Nat) : vst l n 0 = 0 := by
  have h := vst_good l n (n + 2) 0 (by omega)
  unfold costs at h
  by_cases q : vst l n 0 = 0
  · exact q
  · rw [if_neg q] at h
    omega
/-- The decoded bits. -/
def vbits (l : List Int) (n : Nat) : List Int := (List.range n).map fun i => vst l n (i + 1) % 2
def vcost (l : List Int) (n : Nat) : Int := costs l n (n + 2) 0
theorem vbits_length (l : List Int) (n : Nat) : (vbits l n).length = n := by simp [vbits]
theorem vbits_at (l : List Int) (n i : Nat) (h : i < n) : (vbits l n).getD i 0 = vst l n (i + 1) % 2 := by
  simp [vbits, List.getD_eq_getElem?_getD, List.getElem?_map, List.getElem?_range h]
theorem vbits_bits (l : List Int) (n : Nat) : Bits (vbits l n) := by
  intro x hx
  simp only [vbits, List.mem_map] at hx
  obtain ⟨i, _, rfl⟩ := hx
  omega
theorem vbits_pad (l : List Int) (n i : Nat) (h : i < n + 2) : (vbits l n ++ [0, 0]).getD i 0 = vst l n (i + 1) % 2 := by
  rw [pad_getD, vbits_length]
  by_cases q : i < n
  · rw [if_pos q, vbits_at l n i q]
  · rw [if_neg q]
    have h1 := (vst_back l n i h).2.1
    omega
theorem diffs_step (l : List Int) (i : Nat) (hl : 2 * i + 1 < l.length) (s b : Int) (r : List Int) :
    diffs (l.drop (2 * i)) (convGo s (b :: r)) = bdist s b (l.getD (2 * i) 0) (l.getD (2 * i + 1) 0) + diffs (l.drop (2 * (i + 1))) (convGo (nxt s b) r) := by
  rw [drop_getD l (2 * i) (by omega), drop_getD l (2 * i + 1) (by omega), convGo, diffs, diffs, show 2 * i + 1 + 1 = 2 * (i + 1) by omega]
  unfold bdist
  omega
theorem vdiffs (l : List Int) (n : Nat) (hl : l.length = 2 * n + 4) : ∀ (d i : Nat), i + d = n + 2 →
    diffs (l.drop (2 * i)) (convGo (vst l n i) ((vbits l n ++ [0, 0]).drop i)) = vcost l n - costs l n i (vst l n i)
  | 0, i, h => by
    rw [show i = n + 2 by omega, vst_end, List.drop_of_length_le (by omega)]
    have e : ∀ w, diffs [] w = 0 := fun w => by cases w <;> rfl
    rw [e]
    unfold vcost
    omega
  | d + 1, i, h => by
    have hlen : (vbits l n ++ [0, 0]).length = n + 2 := by simp [vbits_length]
    obtain ⟨h1, h2, h3⟩ := vst_back l n i (by omega)
    rw [drop_getD (vbits l n ++ [0, 0]) i (by omega), vbits_pad l n i (by omega), diffs_step l i (by omega), h1, vdiffs l n hl d (i + 1) (by omega)]
    omega
/-- What is decoded lies at the told distance. -/
theorem vbits_diffs (l : List Int) (n : Nat) (hl : l.length = 2 * n + 4) : diffs l (conv (vbits l n)) = vcost l n := by
  have h := vdiffs l n hl (n + 2) 0 (by omega)
  rw [vst_start] at h
  have e : costs l n 0 0 = 0 := by
    unfold costs
    rw [if_pos rfl]
  rw [e] at h
  unfold conv
  simpa using h
theorem vbest_go (l : List Int) (n : Nat) (hl : l.length = 2 * n + 4) (w : List Int) (hw : Bits w) (hwl : w.length = n) : ∀ (d i : Nat) (s : Int), i + d = n + 2 → In4 s → 0 ≤ costs l n i s →
    (d = 0 → s = 0) → (d = 1 → s = 0 ∨ s = 2) → vcost l n ≤ costs l n i s + diffs (l.drop (2 * i)) (convGo s ((w ++ [0, 0]).drop i))
  | 0, i, s, h, hs, h0, hz, _ => by
    rw [show i = n + 2 by omega, hz rfl]
    have := (diffs_range (l.drop (2 * (n + 2))) (convGo 0 ((w ++ [0, 0]).drop (n + 2)))).1
    unfold vcost
    omega
  | d + 1, i, s, h, hs, h0, _, h1 => by
    have hlen : (w ++ [0, 0]).length = n + 2 := by simp [hwl]
    have hb : (w ++ [0, 0]).getD i 0 = 0 ∨ (w ++ [0, 0]).getD i 0 = 1 := by
      rw [pad_getD]
      split
      · exact bits_getD hw i
      · exact .inl rfl
    have hb2 : ¬ i < n → (w ++ [0, 0]).getD i 0 = 0 := fun q => by rw [pad_getD, if_neg (by omega)]
    rw [drop_getD (w ++ [0, 0]) i (by omega), diffs_step l i (by omega)]
    generalize (w ++ [0, 0]).getD i 0 = b at hb hb2 ⊢
    have hc := costT_best (costs l n i) (l.getD (2 * i) 0) (l.getD (2 * i + 1) 0) (decide (i < n)) s b hs hb (fun q => by
      by_cases hi : i < n
      · simp [hi]
      · have := hb2 hi
        omega) h0
    have hn := nxt_range s b
    have hr : vcost l n ≤ costs l n (i + 1) (nxt s b) + diffs (l.drop (2 * (i + 1))) (convGo (nxt s b) ((w ++ [0, 0]).drop (i + 1))) := by
      refine vbest_go l n hl w hw hwl d (i + 1) (nxt s b) (by omega) hn hc.1 (fun q => ?_) (fun q => ?_)
      · have e := hb2 (by omega)
        have := h1 (by omega)
        unfold nxt
        omega
      · have e := hb2 (by omega)
        unfold In4 at hs
        unfold nxt
        omega
    have e : costs l n (i + 1) (nxt s b) = costT (costs l n i) (l.getD (2 * i) 0) (l.getD (2 * i + 1) 0) (decide (i < n)) (nxt s b) := rfl
    omega
/-- No bits lie nearer. -/
theorem vbits_best (l : List Int) (n : Nat) (hl : l.length = 2 * n + 4) (w : List Int) (hw : Bits w) (hwl : w.length = n) : vcost l n ≤ diffs l (conv w) := by
  have e : costs l n 0 0 = 0 := by
    unfold costs
    rw [if_pos rfl]
  have h := vbest_go l n hl w hw hwl (n + 2) 0 0 (by omega) ⟨by omega, by omega⟩ (by omega) (fun _ => rfl) (fun _ => .inl rfl)
  rw [e] at h
  unfold conv
  simpa using h
theorem vcost_range (l : List Int) (n : Nat) : 0 ≤ vcost l n ∧ vcost l n ≤ 2 * n + 4 := by
  have h1 := costs_zero l n (n + 2)
  have h2 := costs_le l n (n + 2) 0
  unfold vcost
  omega

theorem in_some (x a b : Int) : impl_InRange.f x a b = some (decide (a ≤ x ∧ x ≤ b)) := by
  unfold impl_InRange.f
  by_cases h : a ≤ x <;> simp [h]

theorem ipair_some (s b : Int) (hs : 0 ≤ s ∧ s ≤ 3) (hb : b = 0 ∨ b = 1) : impl_OutputPair.f s b = some (outX s b, outY s b) ∧ impl_NextState.f s b = some (nxt s b) := by
  have hc : s = 0 ∨ s = 1 ∨ s = 2 ∨ s = 3 := by omega
  rcases hc with rfl | rfl | rfl | rfl <;> rcases hb with rfl | rfl <;> exact ⟨by decide +kernel, by decide +kernel⟩

def Syms (l : List Int) : Prop := ∀ x ∈ l, 0 ≤ x ∧ x ≤ 2
theorem syms_all {l : List Int} (h : Syms l) : (l.all fun x => decide (0 ≤ x ∧ x ≤ 2)) = true := by
  rw [List.all_eq_true]
  intro x hx
  exact decide_eq_true (h x hx)
theorem all_syms {l : List Int} (h : (l.all fun x => decide (0 ≤ x ∧ x ≤ 2)) = true) : Syms l := by
  intro x hx
  rw [List.all_eq_true] at h
  exact of_decide_eq_true (h x hx)

theorem isym_loop (l : List Int) (hn : l.length ≤ 4000000000000000) : ∀ (d i : Nat), i + d = l.length → Ev (fun k => impl_IsSymbolString.l0 k l l.length i) ((l.drop i).all fun x => decide (0 ≤ x ∧ x ≤ 2)) := by
  intro d
  induction d with
  | zero =>
    intro i hi
    rw [List.drop_of_length_le (by omega)]
    exact ev1 (evn (by omega) (evc rfl))
  | succ d ih =>
    intro i hi
    refine ev1 (evp (by omega) (evp (by omega) (evp (by omega) ?_)))
    rw [drop_getD l i (by omega), List.all_cons, rd_nat, w64s (n := (i : Int) + 1) (by omega) (by omega)]
    have hrec := ih (i + 1) (by omega)
    by_cases h0 : l.getD i 0 = 0
    · rw [decide_eq_true (by omega), Bool.true_and]
      exact evp h0 hrec
    · refine evn h0 ?_
      by_cases h1 : l.getD i 0 = 1
      · rw [decide_eq_true (by omega), Bool.true_and]
        exact evp h1 hrec
      · refine evn h1 ?_
        by_cases h2 : l.getD i 0 = 2
        · rw [decide_eq_true (by omega), Bool.true_and]
          exact evp h2 hrec
        · rw [decide_eq_false (by omega), Bool.false_and]
          exact evn h2 (evc rfl)
theorem isym_ev (l : List Int) (hn : l.length ≤ 4000000000000000) : Ev (fun k => impl_IsSymbolString.f k l) (l.all fun x => decide (0 ≤ x ∧ x ≤ 2)) := isym_loop l hn l.length 0 (by omega)

/-- How many bits c symbols carry; -1: no word has that length. -/
def lenV (c : Nat) : Int := if c % 2 = 0 ∧ 4 ≤ c ∧ c ≤ 2004 then (c : Int) / 2 - 2 else -1
/-- What is decoded out of a list of symbols. -/
def vdec (l : List Int) : List Int × Int := if (l.all fun x => decide (0 ≤ x ∧ x ≤ 2)) = true ∧ l.length % 2 = 0 ∧ 4 ≤ l.length ∧ l.length ≤ 2004 then (vbits l (l.length / 2 - 2), vcost l (l.length / 2 - 2)) else ([], -1)
theorem vdec_good (l : List Int) (n : Nat) (hs : Syms l) (hn : n ≤ 1000) (hl : l.length = 2 * n + 4) : vdec l = (vbits l n, vcost l n) := by
  unfold vdec
  rw [if_pos ⟨syms_all hs, by omega, by omega, by omega⟩, show l.length / 2 - 2 = n by omega]
theorem vdec_bad (l : List Int) (h : ¬ (Syms l ∧ l.length % 2 = 0 ∧ 4 ≤ l.length ∧ l.length ≤ 2004)) : vdec l = ([], -1) := by
  unfold vdec
  rw [if_neg (fun q => h ⟨all_syms q.1, q.2⟩)]
theorem vdec_length (l : List Int) : (vdec l).1.length ≤ 1000 := by
  unfold vdec
  split
  · show (vbits _ _).length ≤ 1000
    rw [vbits_length]
    omega
  · simp

theorem isymD_some (a b : Int) : impl_symbolDistance.f a b = some (symD a b) := by
  unfold impl_symbolDistance.f symD
  split
  · rfl
  · split <;> rfl

theorem ibd_some (s b x y : Int) (hs : In4 s) (hb : b = 0 ∨ b = 1) : impl_BranchDistance.f s b x y = some (bdist s b x y) := by
  unfold impl_BranchDistance.f
  rw [(ipair_some s b hs hb).1]
  simp only [Option.bind_some]
  rw [isymD_some, isymD_some]
  simp only [Option.bind_some]
  have h1 := symD_range x (outX s b)
  have h2 := symD_range y (outY s b)
  rw [w64s (by omega) (by omega)]
  rfl
/-- The cost of a state and the state ahead of it, as kept in the list of eight. -/
def pr (l : List Int) (t : Int) : Int × Int := (rd l t, rd l (4 + t))
def updP (p : Int × Int) (c d s : Int) : Int × Int := if p.1 < 0 then (c + d, s) else if c + d < p.1 then (c + d, s) else p
def updL (l : List Int) (t c d s : Int) : List Int := if rd l t < 0 then (l.set t.toNat (c + d)).set (4 + t.toNat) s else if c + d < rd l t then (l.set t.toNat (c + d)).set (4 + t.toNat) s else l
theorem updL_length (l : List Int) (t c d s : Int) : (updL l t c d s).length = l.length := by
  unfold updL
  split
  · simp
  · split <;> simp
theorem pr_set (l : List Int) (t u x y : Int) (hl : l.length = 8) (ht : In4 t) (hu : In4 u) : pr ((l.set t.toNat x).set (4 + t.toNat) y) u = if t = u then (x, y) else pr l u := by
  unfold In4 at ht hu
  unfold pr rd
  rw [getD_set, getD_set, getD_set, getD_set]
  simp only [List.length_set, hl]
  by_cases e : t = u
  · subst e
    rw [if_neg (by omega), if_pos (by omega), if_pos (by omega), if_pos rfl]
  · rw [if_neg (by omega), if_neg (by omega), if_neg (by omega), if_neg (by omega), if_neg e]
theorem pr_upd (l : List Int) (t u c d s : Int) (hl : l.length = 8) (ht : In4 t) (hu : In4 u) : pr (updL l t c d s) u = if t = u then updP (pr l u) c d s else pr l u := by
  unfold updL
  by_cases h1 : rd l t < 0
  · rw [if_pos h1, pr_set l t u _ _ hl ht hu]
    by_cases e : t = u
    · subst e
      rw [if_pos rfl, if_pos rfl]
      unfold updP pr
      rw [if_pos h1]
    · rw [if_neg e, if_neg e]
  · rw [if_neg h1]
    by_cases h2 : c + d < rd l t
    · rw [if_pos h2, pr_set l t u _ _ hl ht hu]
      by_cases e : t = u
      · subst e
        rw [if_pos rfl, if_pos rfl]
        unfold updP pr
        rw [if_neg h1, if_pos h2]
      · rw [if_neg e, if_neg e]
    · rw [if_neg h2]
      by_cases e : t = u
      · subst e
        rw [if_pos rfl]
        unfold updP pr
        rw [if_neg h1, if_neg h2]
      · rw [if_neg e]
theorem ext1_some (s : List Int) (x y st b : Int) (nx : List Int) (hs : In4 st) (hb : b = 0 ∨ b = 1) (h0 : 0 ≤ rd s st) (h1 : rd s st ≤ 1000000) :
    ext1 s x y st b nx = some (updL nx (nxt st b) (rd s st) (bdist st b x y) st) := by
  have hn := nxt_range st b
  have hd := bdist_range st b x y
  unfold ext1 updL
  rw [(ipair_some st b hs hb).2, ibd_some st b x y hs hb]
  simp only [Option.bind_some]
  rw [if_pos hn.1, if_pos (by omega), w64s (n := rd s st + bdist st b x y) (by omega) (by omega)]
  split
  · rfl
  · split <;> rfl
/-- What one state of the step ahead offers. -/
def rowL (s : List Int) (x y : Int) (oz : Bool) (st : Int) (nx : List Int) : List Int :=
  if rd s st < 0 then nx else if oz = true then updL nx (nxt st 0) (rd s st) (bdist st 0 x y) st else updL (updL nx (nxt st 0) (rd s st) (bdist st 0 x y) st) (nxt st 1) (rd s st) (bdist st 1 x y) st
theorem rowL_length (s : List Int) (x y : Int) (oz : Bool) (st : Int) (nx : List Int) : (rowL s x y oz st nx).length = nx.length := by
  unfold rowL
  split
  · rfl
  · split
    · exact updL_length _ _ _ _ _
    · rw [updL_length, updL_length]
theorem extI_some (s : List Int) (x y : Int) (oz : Bool) (st : Int) (nx : List Int) (hs : In4 st) (h0 : ¬ rd s st < 0) (h1 : rd s st ≤ 1000000) : extI s x y oz st 3 0 nx = some (rowL s x y oz st nx) := by
  have e0 := fun nx => ext1_some s x y st 0 nx hs (.inl rfl) (by omega) h1
  have e1 := fun nx => ext1_some s x y st 1 nx hs (.inr rfl) (by omega) h1
  have w1 : wrap64 1 = 1 := w64s (by omega) (by omega)
  have w2 : wrap64 2 = 2 := w64s (by omega) (by omega)
  unfold rowL
  rw [if_neg h0]
  cases oz with
  | true =>
    simp [extI, w1, w2, e0]
  | false =>
    simp [extI, w1, w2, e0, e1]
theorem extO_some (s : List Int) (x y : Int) (oz : Bool) (hc : ∀ st, In4 st → rd s st ≤ 1000000) (nx : List Int) : extO s x y oz 5 0 nx = some (rowL s x y oz 3 (rowL s x y oz 2 (rowL s x y oz 1 (rowL s x y oz 0 nx)))) := by
  have step : ∀ (k : Nat) (st : Int) (nx : List Int), In4 st → extO s x y oz (k + 1) st nx = extO s x y oz k (st + 1) (rowL s x y oz st nx) := by
    intro k st nx hs
    have hs2 := hs
    unfold In4 at hs2
    rw [extO, if_pos (by omega), if_pos hs2.1, w64s (n := st + 1) (by omega) (by omega)]
    by_cases h : rd s st < 0
    · rw [if_pos h]
      congr 1
      unfold rowL
      rw [if_pos h]
    · rw [if_neg h, extI_some s x y oz st nx hs h (hc st hs)]
      rfl
  rw [step 4 0 nx ⟨by omega, by omega⟩, step 3 (0 + 1) _ ⟨by omega, by omega⟩, step 2 (0 + 1 + 1) _ ⟨by omega, by omega⟩, step 1 (0 + 1 + 1 + 1) _ ⟨by omega, by omega⟩]
  rfl
theorem pr_row (s : List Int) (x y : Int) (oz : Bool) (st u : Int) (nx : List Int) (hl : nx.length = 8) (hu : In4 u) :
    pr (rowL s x y oz st nx) u = if rd s st < 0 then pr nx u else if nxt st 0 = u then updP (pr nx u) (rd s st) (bdist st 0 x y) st else if nxt st 1 = u ∧ oz = false then updP (pr nx u) (rd s st) (bdist st 1 x y) st else pr nx u := by
  unfold rowL
  by_cases h : rd s st < 0
  · rw [if_pos h, if_pos h]
  · rw [if_neg h, if_neg h]
    have hne : nxt st 0 ≠ nxt st 1 := by unfold nxt; omega
    cases oz with
    | true =>
      rw [if_pos rfl, pr_upd nx _ u _ _ _ hl (nxt_range _ _) hu]
      by_cases e : nxt st 0 = u
      · rw [if_pos e, if_pos e]
      · rw [if_neg e, if_neg e, if_neg (fun q => by simp at q)]
    | false =>
      rw [if_neg (by decide), pr_upd _ _ u _ _ _ (by rw [updL_length]; exact hl) (nxt_range _ _) hu, pr_upd nx _ u _ _ _ hl (nxt_range _ _) hu]
      by_cases e : nxt st 0 = u
      · rw [if_neg (fun q => hne (e.trans q.symm)), if_pos e, if_pos e]
      · by_cases e1 : nxt st 1 = u
        · rw [if_pos e1, if_neg e, if_neg e, if_pos ⟨e1, rfl⟩]
        · rw [if_neg e1, if_neg e, if_neg e, if_neg (fun q => e1 q.1)]
/-- The state of the decoder behind i steps. -/
def svL (l : List Int) (n : Nat) : Nat → List Int
  | 0 => [0, -1, -1, -1, 0, 0, 0, 0]
  | i + 1 => [costs l n (i + 1) 0, costs l n (i + 1) 1, costs l n (i + 1) 2, costs l n (i + 1) 3] ++ [0, 1, 2, 3].map (prevT (costs l n i) (l.getD (2 * i) 0) (l.getD (2 * i + 1) 0) (decide (i < n)))
theorem svL_length (l : List Int) (n i : Nat) : (svL l n i).length = 8 := by
  cases i <;> rfl
theorem svL_cost (l : List Int) (n i : Nat) (s : Int) (h : In4 s) : rd (svL l n i) s = costs l n i s := by
  rcases four h with rfl | rfl | rfl | rfl <;> cases i <;> rfl
theorem svL_prev (l : List Int) (n i : Nat) (s : Int) (h : In4 s) : rd (svL l n (i + 1)) (4 + s) = prevT (costs l n i) (l.getD (2 * i) 0) (l.getD (2 * i + 1) 0) (decide (i < n)) s := by
  rcases four h with rfl | rfl | rfl | rfl <;> rfl
theorem pr_ext {a b : List Int} (ha : a.length = 8) (hb : b.length = 8) (h : ∀ u, In4 u → pr a u = pr b u) : a = b := by
  refine list_ext (by omega) (fun i hi => ?_)
  by_cases q : i < 4
  · have h1 := congrArg Prod.fst (h (i : Int) ⟨by omega, by omega⟩)
    simpa [pr, rd] using h1
  · obtain ⟨j, rfl⟩ : ∃ j, i = 4 + j := ⟨i - 4, by omega⟩
    have h1 := congrArg Prod.snd (h (j : Int) ⟨by omega, by omega⟩)
    unfold pr rd at h1
    rw [show ((4 : Int) + (j : Int)).toNat = 4 + j by omega] at h1
    exact h1
theorem two_offers (c0 c1 d0 d1 s0 s1 : Int) (h0 : 0 ≤ d0) (h1 : 0 ≤ d1) :
    (if c1 < 0 then (if c0 < 0 then ((-1 : Int), (0 : Int)) else updP (-1, 0) c0 d0 s0) else updP (if c0 < 0 then ((-1 : Int), (0 : Int)) else updP (-1, 0) c0 d0 s0) c1 d1 s1) =
      (offer (offer (-1) c0 d0) c1 d1, if c0 < 0 then (if c1 < 0 then 0 else s1) else if c1 < 0 then s0 else if c1 + d1 < c0 + d0 then s1 else s0) := by
  unfold offer updP
  by_cases a : c0 < 0 <;> by_cases b : c1 < 0
  · simp [a, b]
  · simp [a, b]
  · simp [a, b]
  · have f : ¬ c0 + d0 < 0 := by omega
    by_cases e : c1 + d1 < c0 + d0
    · simp [a, b, e, f]
    · simp [a, b, e, f]
theorem ext_some (l : List Int) (n i : Nat) (hn : n ≤ 1000) (hi : i < n + 2) : impl_extendSurvivors.f (svL l n i) (l.getD (2 * i) 0) (l.getD (2 * i + 1) 0) (decide ((i : Int) ≥ (n : Int))) = some (svL l n (i + 1)) := by
  have hle : ∀ st, In4 st → rd (svL l n i) st ≤ 1000000 := fun st hs => by
    rw [svL_cost l n i st hs]
    have := costs_le l n i st
    omega
  unfold impl_extendSurvivors.f
  rw [if_pos (svL_length l n i), extO_some _ _ _ _ hle]
  congr 1
  have hoz : decide ((i : Int) ≥ (n : Int)) = !decide (i < n) := by
    by_cases q : i < n
    · rw [decide_eq_true q, decide_eq_false (by omega)]
      rfl
    · rw [decide_eq_false q, decide_eq_true (by omega)]
      rfl
  rw [hoz]
  have c0 := svL_cost l n i 0 ⟨by omega, by omega⟩
  have c1 := svL_cost l n i 1 ⟨by omega, by omega⟩
  have c2 := svL_cost l n i 2 ⟨by omega, by omega⟩
  have c3 := svL_cost l n i 3 ⟨by omega, by omega⟩
  generalize hx : l.getD (2 * i) 0 = x
  generalize hy : l.getD (2 * i + 1) 0 = y
  have r0 := fun s b => (bdist_range s b x y).1
  have hi0 : (([-1, -1, -1, -1, 0, 0, 0, 0] : List Int)).length = 8 := rfl
  refine pr_ext (by simp only [rowL_length]; rfl) (svL_length _ _ _) (fun u hu => ?_)
  have hR : pr (svL l n (i + 1)) u = (costT (costs l n i) x y (decide (i < n)) u, prevT (costs l n i) x y (decide (i < n)) u) := by
    unfold pr
    rw [svL_cost l n (i + 1) u hu, svL_prev l n i u hu, hx, hy]
    show (costT (costs l n i) (l.getD (2 * i) 0) (l.getD (2 * i + 1) 0) (decide (i < n)) u, _) = _
    rw [hx, hy]
  rw [hR, pr_row _ _ _ _ _ _ _ (by simp only [rowL_length]; rfl) hu, pr_row _ _ _ _ _ _ _ (by simp only [rowL_length]; rfl) hu, pr_row _ _ _ _ _ _ _ (by simp only [rowL_length]; rfl) hu, pr_row _ _ _ _ _ _ _ rfl hu, c0, c1, c2, c3]
  have hp : pr ([-1, -1, -1, -1, 0, 0, 0, 0] : List Int) u = (-1, 0) := by rcases four hu with rfl | rfl | rfl | rfl <;> rfl
  rw [hp]
  have n00 : nxt 0 0 = 0 := rfl
  have n01 : nxt 0 1 = 1 := rfl
  have n10 : nxt 1 0 = 2 := rfl
  have n11 : nxt 1 1 = 3 := rfl
  have n20 : nxt 2 0 = 0 := rfl
  have n21 : nxt 2 1 = 1 := rfl
  have n30 : nxt 3 0 = 2 := rfl
  have n31 : nxt 3 1 = 3 := rfl
  rw [n00, n01, n10, n11, n20, n21, n30, n31]
  unfold costT prevT
  rcases four hu with rfl | rfl | rfl | rfl
  · have h := two_offers (costs l n i 0) (costs l n i 2) (bdist 0 0 x y) (bdist 2 0 x y) 0 2 (r0 _ _) (r0 _ _)
    simpa using h
  · cases decide (i < n) with
    | true =>
      have h := two_offers (costs l n i 0) (costs l n i 2) (bdist 0 1 x y) (bdist 2 1 x y) 0 2 (r0 _ _) (r0 _ _)
      simpa using h
    | false => simp
  · have h := two_offers (costs l n i 1) (costs l n i 3) (bdist 1 0 x y) (bdist 3 0 x y) 1 3 (r0 _ _) (r0 _ _)
    simpa using h
  · cases decide (i < n) with
    | true =>
      have h := two_offers (costs l n i 1) (costs l n i 3) (bdist 1 1 x y) (bdist 3 1 x y) 1 3 (r0 _ _) (r0 _ _)
      simpa using h
    | false => simp
def svs (l : List Int) (n c : Nat) : List (List Int) := (List.range c).map (svL l n)
theorem svs_length (l : List Int) (n c : Nat) : (svs l n c).length = c := by simp [svs]
theorem svs_at (l : List Int) (n c i : Nat) (h : i < c) : rdS (svs l n c) (i : Int) = svL l n i := by
  simp [rdS, svs, List.getD_eq_getElem?_getD, List.getElem?_map, List.getElem?_range h]
theorem svs_snoc (l : List Int) (n c : Nat) : svs l n c ++ [svL l n c] = svs l n (c + 1) := by simp [svs, List.range_succ]
theorem vitS_ev (l : List Int) (n : Nat) (hn : n ≤ 1000) (hl : l.length = 2 * n + 4) : ∀ (d i : Nat), i + d = n + 2 → Ev (fun k => vitS l (n : Int) ((n : Int) + 2) k (svs l n (i + 1)) (i : Int)) (svs l n (n + 3)) := by
  intro d
  induction d with
  | zero =>
    intro i hi
    refine ev1 (evn (by omega) (evc ?_))
    rw [show i + 1 = n + 3 by omega]
  | succ d ih =>
    intro i hi
    refine ev1 (evp (by omega) (evp (by omega) (evp (by rw [svs_length]; omega) (evp (by omega) (evp (by rw [svs_length]; omega) ?_)))))
    rw [svs_at l n (i + 1) i (by omega), show (2 : Int) * (i : Int) = ((2 * i : Nat) : Int) by omega, show ((2 * i : Nat) : Int) + 1 = ((2 * i + 1 : Nat) : Int) by omega, rd_nat, rd_nat, ext_some l n i hn (by omega), w64s (n := (i : Int) + 1) (by omega) (by omega)]
    have h := ih (i + 1) (by omega)
    rw [← svs_snoc] at h
    exact h
theorem and_one {s : Int} (h : In4 s) : Go.bits .and .i64 s 1 = s % 2 := by
  rcases four h with rfl | rfl | rfl | rfl <;> decide +kernel
theorem vitT_ev (l : List Int) (n : Nat) (hn : n ≤ 1000) : ∀ (i : Nat) (bs : List Int), i ≤ n + 2 → bs.length = n → (∀ j, i ≤ j → j < n → bs.getD j 0 = vst l n (j + 1) % 2) →
    Ev (fun k => vitT (svs l n (n + 3)) (n : Int) k bs (vst l n i) (i : Int)) (vbits l n) := by
  intro i
  induction i with
  | zero =>
    intro bs _ hb hj
    refine ev1 (evn (by omega) (evc ?_))
    rw [list_ext (a := bs) (b := vbits l n) (by rw [hb, vbits_length]) (fun j h => by rw [hj j (by omega) (by omega), vbits_at l n j (by omega)])]
  | succ i ih =>
    intro bs hi hb hj
    have hv := vst_in l n (n + 1 - i) (i + 1) (by omega)
    refine ev1 (evp (by omega) (evp (by rw [svs_length]; omega) (evp hv.1 (evp (by have := hv.2; omega) ?_))))
    rw [show ((i + 1 : Nat) : Int) - 1 = (i : Int) by omega, svs_at l n (n + 3) (i + 1) (by omega), svL_prev l n i _ hv, ← vst_step l n i (by omega)]
    by_cases h : i < n
    · refine evp (by omega) (evp (by omega) ?_)
      rw [Int.toNat_natCast, and_one hv]
      refine ih _ (by omega) (by simpa using hb) (fun j h1 h2 => ?_)
      rw [getD_set]
      by_cases e : i = j
      · subst e
        rw [if_pos ⟨rfl, by omega⟩]
      · rw [if_neg (fun q => e q.1)]
        exact hj j (by omega) h2
    · refine evn (by omega) (ih bs (by omega) hb (fun j h1 h2 => by omega))
theorem ilen_ev (c : Nat) (hc : c ≤ 4000000000000) : Ev (fun k => impl_InputLength.f k (c : Int)) (lenV c) := by
  unfold impl_InputLength.f lenV
  refine evn (by omega) ?_
  rw [Int.tmod_eq_emod_of_nonneg (by omega)]
  by_cases h2 : c % 2 = 0
  · have e : (((c : Int) % 2) != 0) = false := by
      have : (c : Int) % 2 = 0 := by omega
      simp [this]
    rw [e]
    have hw : wrap64 (wrap64 (Int.tdiv (c : Int) 2) - 2) = (c : Int) / 2 - 2 := by
      rw [Int.tdiv_eq_ediv_of_nonneg (by omega), w64s (n := (c : Int) / 2) (by omega) (by omega), w64s (by omega) (by omega)]
    refine ev1 (Ev.congr (f := fun _ => (impl_InRange.f (wrap64 (wrap64 (Int.tdiv (c : Int) 2) - 2)) 0 1000).bind fun q => if q = true then some (wrap64 (wrap64 (Int.tdiv (c : Int) 2) - 2)) else some (-1)) (fun _ => by rw [impl_InputLength.j0, if_neg (by decide)]) ?_)
    rw [hw]
    refine evs (in_some _ _ _) ?_
    by_cases h : 0 ≤ (c : Int) / 2 - 2 ∧ (c : Int) / 2 - 2 ≤ 1000
    · rw [if_pos (show c % 2 = 0 ∧ 4 ≤ c ∧ c ≤ 2004 by omega)]
      exact evp (dt h) (evc rfl)
    · rw [if_neg (show ¬ (c % 2 = 0 ∧ 4 ≤ c ∧ c ≤ 2004) by omega)]
      exact evn (dnt h) (evc rfl)
  · have e : (((c : Int) % 2) != 0) = true := by
      have : (c : Int) % 2 = 1 := by omega
      simp [this]
    rw [e, if_neg (by omega)]
    exact ev1 (evk fun _ => by rw [impl_InputLength.j0, if_pos rfl])
theorem ivit_ev (l : List Int) (hl : l.length ≤ 1000000000) : Ev (fun k => impl_ViterbiDecode.f k l) (vdec l) := by
  unfold impl_ViterbiDecode.f vdec
  have h1 := ilen_ev l.length (by omega)
  have h2 := isym_ev l (by omega)
  refine Ev.bind h1 (Ev.bind h2 ?_)
  by_cases hs : Syms l
  · rw [syms_all hs]
    refine evp rfl ?_
    unfold lenV
    by_cases hc : l.length % 2 = 0 ∧ 4 ≤ l.length ∧ l.length ≤ 2004
    · rw [if_pos hc, if_pos ⟨rfl, hc⟩]
      obtain ⟨n, hn⟩ : ∃ n : Nat, l.length = 2 * n + 4 := ⟨l.length / 2 - 2, by omega⟩
      have e : (l.length : Int) / 2 - 2 = (n : Int) := by omega
      have e2 : l.length / 2 - 2 = n := by omega
      rw [e, e2]
      refine evn (by omega) ?_
      unfold vitB
      refine evp (by omega) (evp (by omega) ?_)
      have h3 := vitS_ev l n (by omega) hn (n + 2) 0 (by omega)
      refine Ev.bind h3 ?_
      rw [Int.toNat_natCast]
      have h4 := vitT_ev l n (by omega) (n + 2) (List.replicate n 0) (by omega) (by simp) (fun j h5 h6 => by omega)
      rw [vst_end] at h4
      refine Ev.bind h4 (evp (by rw [svs_length]; omega) (evc ?_))
      rw [show (n : Int) + 2 = ((n + 2 : Nat) : Int) by omega, svs_at l n (n + 3) (n + 2) (by omega), svL_cost l n (n + 2) 0 ⟨by omega, by omega⟩]
      rfl
    · rw [if_neg hc, if_neg (fun q => hc q.2)]
      exact evp (by decide) (evc rfl)
  · have e : (l.all fun x => decide (0 ≤ x ∧ x ≤ 2)) = false := by
      cases q : (l.all fun x => decide (0 ≤ x ∧ x ≤ 2)) with
      | false => rfl
      | true => exact absurd (all_syms q) hs
    rw [e, if_neg (fun q => absurd q.1 (by decide))]
    exact evn (by decide) (evc rfl)

theorem l1_some (x a b : Int) : spec_l1In.f x a b = some (decide (a ≤ x ∧ x ≤ b)) := by
  unfold spec_l1In.f
  by_cases h : a ≤ x <;> simp [h]

theorem slen_ev (c : Nat) (hc : c ≤ 4000000000000) : spec_InputLength.f (c : Int) = some (lenV c) := by
  unfold spec_InputLength.f lenV
  rw [if_neg (by omega), Int.tmod_eq_emod_of_nonneg (by omega)]
  by_cases h2 : c % 2 = 0
  · rw [if_pos (by omega), Int.tdiv_eq_ediv_of_nonneg (by omega), w64s (n := (c : Int) / 2) (by omega) (by omega), w64s (by omega) (by omega), l1_some]
    simp only [Option.bind_some]
    by_cases h : 0 ≤ (c : Int) / 2 - 2 ∧ (c : Int) / 2 - 2 ≤ 1000
    · rw [if_pos (dt h), if_pos (by omega)]
    · rw [if_neg (dnt h), if_neg (by omega)]
  · rw [if_neg (by omega), if_neg (by omega)]

theorem ssym_loop (l : List Int) (hn : l.length ≤ 4000000000000000) : ∀ (d i : Nat), i + d = l.length → Ev (fun k => spec_IsSymbolString.l0 k l i) ((l.drop i).all fun x => decide (0 ≤ x ∧ x ≤ 2)) := by
  intro d
  induction d with
  | zero =>
    intro i hi
    rw [List.drop_of_length_le (by omega)]
    exact ev1 (evn (by omega) (evc rfl))
  | succ d ih =>
    intro i hi
    refine ev1 (evp (by omega) (evp (by omega) (evs (l1_some _ _ _) ?_)))
    rw [drop_getD l i (by omega), List.all_cons, rd_nat]
    by_cases h : 0 ≤ l.getD i 0 ∧ l.getD i 0 ≤ 2
    · rw [decide_eq_true h, w64s (n := (i : Int) + 1) (by omega) (by omega)]
      exact evp rfl (ih (i + 1) (by omega))
    · rw [decide_eq_false h]
      exact evn (by decide) (evc rfl)
theorem ssym_ev (l : List Int) (hn : l.length ≤ 4000000000000000) : Ev (fun k => spec_IsSymbolString.f k l) (l.all fun x => decide (0 ≤ x ∧ x ≤ 2)) := ssym_loop l hn l.length 0 (by omega)

theorem ibits_loop (l : List Int) (hn : l.length ≤ 4000000000000000) : ∀ (d i : Nat), i + d = l.length → Ev (fun k => impl_IsBitString.l0 k l l.length i) ((l.drop i).all fun x => decide (x = 0 ∨ x = 1)) := by
  intro d
  induction d with
  | zero =>
    intro i hi
    rw [List.drop_of_length_le (by omega)]
    exact ev1 (evn (by omega) (evc rfl))
  | succ d ih =>
    intro i hi
    refine ev1 (evp (by omega) (evp (by omega) (evp (by omega) ?_)))
    rw [drop_getD l i (by omega), List.all_cons, rd_nat, w64s (n := (i : Int) + 1) (by omega) (by omega)]
    by_cases h0 : l.getD i 0 = 0
    · rw [decide_eq_true (Or.inl h0), Bool.true_and]
      exact evp h0 (ih (i + 1) (by omega))
    · refine evn h0 ?_
      by_cases h1 : l.getD i 0 = 1
      · rw [decide_eq_true (Or.inr h1), Bool.true_and]
        exact evp h1 (ih (i + 1) (by omega))
      · rw [decide_eq_false (by omega), Bool.false_and]
        exact evn h1 (evc rfl)
theorem ibits_ev (l : List Int) (hn : l.length ≤ 4000000000000000) : Ev (fun k => impl_IsBitString.f k l) (l.all fun x => decide (x = 0 ∨ x = 1)) := ibits_loop l hn l.length 0 (by omega)
theorem ibits_all {l : List Int} (h : Bits l) : (l.all fun x => decide (x = 0 ∨ x = 1)) = true := by
  rw [List.all_eq_true]
  intro x hx
  exact decide_eq_true (h x hx)
theorem iall_bits {l : List Int} (h : (l.all fun x => decide (x = 0 ∨ x = 1)) = true) : Bits l := by
  intro x hx
  rw [List.all_eq_true] at h
  exact of_decide_eq_true (h x hx)

theorem iconv_loop (l : List Int) (hb : Bits l) (hn : l.length ≤ 1000000000) : ∀ (d i : Nat) (acc : List Int) (s : Int), i + d = l.length + 2 → acc.length + 2 * d ≤ 4000000000 → 0 ≤ s ∧ s ≤ 3 →
    Ev (fun k => impl_ConvolutionalEncode.l0 k l acc s i) (acc ++ convGo s ((l ++ [0, 0]).drop i)) := by
  intro d
  induction d with
  | zero =>
    intro i acc s hi ha hs
    rw [List.drop_of_length_le (by simp; omega)]
    refine ev1 (evn (by rw [w64s (by omega) (by omega)]; omega) (evc (by simp [convGo])))
  | succ d ih =>
    intro i acc s hi ha hs
    have hbit : (l ++ [0, 0]).getD i 0 = 0 ∨ (l ++ [0, 0]).getD i 0 = 1 := by
      rw [pad_getD]
      split
      · exact bits_getD hb i
      · exact .inl rfl
    obtain ⟨h1, h2⟩ := ipair_some s _ hs hbit
    have h3 := ih (i + 1) (acc ++ [outX s ((l ++ [0, 0]).getD i 0), outY s ((l ++ [0, 0]).getD i 0)]) (nxt s ((l ++ [0, 0]).getD i 0)) (by omega) (by simp; omega) (nxt_range _ _)
    rw [drop_getD (l ++ [0, 0]) i (by simp; omega), convGo]
    rw [List.append_assoc] at h3
    refine ev1 (evp (by rw [w64s (by omega) (by omega)]; omega) ?_)
    have hw : wrap64 ((i : Int) + 1) = ((i + 1 : Nat) : Int) := by rw [w64s (by omega) (by omega)]; omega
    by_cases h : i < l.length
    · rw [pad_getD, if_pos h] at h1 h2 h3 ⊢
      refine evp (by omega) (evp (by omega) ?_)
      rw [rd_nat, hw]
      exact evs h1 (evs rfl (evp (by simp; omega) (evs h2 h3)))
    · rw [pad_getD, if_neg h] at h1 h2 h3 ⊢
      refine evn (by omega) ?_
      rw [hw]
      exact evs h1 (evs rfl (evp (by simp; omega) (evs h2 h3)))
theorem iconv_ev (l : List Int) (hb : Bits l) (hn : l.length ≤ 1000000000) : Ev (fun k => impl_ConvolutionalEncode.f k l) (conv l) := by
  unfold impl_ConvolutionalEncode.f
  have h := ibits_ev l (by omega)
  rw [ibits_all hb] at h
  refine Ev.bind h (evp rfl ?_)
  rw [w64s (n := (l.length : Int) + 2) (by omega) (by omega), w64s (n := 2 * ((l.length : Int) + 2)) (by omega) (by omega)]
  refine evp (by omega) (evp (by omega) ?_)
  exact iconv_loop l hb hn (l.length + 2) 0 [] 0 (by omega) (by simp; omega) (by omega)
theorem iconv_bad (l : List Int) (hb : ¬ Bits l) (hn : l.length ≤ 1000000000) : Ev (fun k => impl_ConvolutionalEncode.f k l) [] := by
  unfold impl_ConvolutionalEncode.f
  have h := ibits_ev l (by omega)
  have hf : (l.all fun x => decide (x = 0 ∨ x = 1)) = false := by
    cases e : (l.all fun x => decide (x = 0 ∨ x = 1)) with
    | false => rfl
    | true => exact absurd (iall_bits e) hb
  rw [hf] at h
  exact Ev.bind h (evn (by decide) (evc rfl))

theorem ielen_some (n : Nat) (hn : n ≤ 1000000000) : impl_EncodedLength.f n = some (2 * (n : Int) + 4) := by
  unfold impl_EncodedLength.f
  rw [in_some]
  simp only [Option.bind_some]
  rw [if_pos (dt (by omega)), w64s (n := (n : Int) + 2) (by omega) (by omega), w64s (by omega) (by omega)]
  exact congrArg some (by omega)
theorem ipath_loop (s w : List Int) (hl : s.length = w.length) (hn : s.length ≤ 1000000000) : ∀ (d i : Nat) (m : Int), i + d = w.length → 0 ≤ m ∧ m ≤ i →
    Ev (fun k => impl_PathDistance.l0 k s m w w.length i) (m + diffs (s.drop i) (w.drop i)) := by
  intro d
  induction d with
  | zero =>
    intro i m hi hm
    rw [List.drop_of_length_le (by omega), List.drop_of_length_le (by omega)]
    exact ev1 (evn (by omega) (evc (by simp [diffs])))
  | succ d ih =>
    intro i m hi hm
    refine ev1 (evp (by omega) (evp (by omega) (evp (by omega) (evp (by omega) (evs (isymD_some _ _) ?_)))))
    have h1 := symD_range (s.getD i 0) (w.getD i 0)
    rw [drop_getD s i (by omega), drop_getD w i (by omega), diffs, rd_nat, rd_nat, w64s (n := (i : Int) + 1) (by omega) (by omega), w64s (n := m + _) (by omega) (by omega)]
    refine ev_eq (ih (i + 1) (m + symD (s.getD i 0) (w.getD i 0)) (by omega) (by omega)) (by omega)
theorem ipath_good (bits s : List Int) (hb : Bits bits) (hs : Syms s) (hl : s.length = 2 * bits.length + 4) (hn : bits.length ≤ 100000000) : Ev (fun k => impl_PathDistance.f k bits s) (diffs s (conv bits)) := by
  unfold impl_PathDistance.f
  have h1 := ibits_ev bits (by omega)
  rw [ibits_all hb] at h1
  have h2 := isym_ev s (by omega)
  rw [syms_all hs] at h2
  have hc := conv_length bits
  refine Ev.bind h1 (evp rfl (Ev.bind h2 (evp rfl (evs (ielen_some bits.length (by omega)) ?_))))
  have e : ((s.length : Int) != 2 * (bits.length : Int) + 4) = false := by
    rw [hl]
    first | (simp; done) | (simp; omega)
  rw [e]
  refine ev1 (Ev.bind (iconv_ev bits hb (by omega)) ?_)
  refine ev_eq (ipath_loop s (conv bits) (by omega) (by omega) (conv bits).length 0 0 (by omega) (by omega)) ?_
  simp
theorem ipath_bad (bits s : List Int) (h : ¬ (Bits bits ∧ Syms s ∧ s.length = 2 * bits.length + 4)) (hn : bits.length ≤ 100000000) (hn2 : s.length ≤ 4000000000) : Ev (fun k => impl_PathDistance.f k bits s) (-1) := by
  unfold impl_PathDistance.f
  have h1 := ibits_ev bits (by omega)
  have h2 := isym_ev s (by omega)
  cases hb : (bits.all fun x => decide (x = 0 ∨ x = 1)) with
  | false =>
    rw [hb] at h1
    exact Ev.bind h1 (evn (by decide) (ev1 (evk fun _ => rfl)))
  | true =>
    rw [hb] at h1
    refine Ev.bind h1 (evp rfl ?_)
    cases hs : (s.all fun x => decide (0 ≤ x ∧ x ≤ 2)) with
    | false =>
      rw [hs] at h2
      exact Ev.bind h2 (evn (by decide) (ev1 (evk fun _ => rfl)))
    | true =>
      rw [hs] at h2
      refine Ev.bind h2 (evp rfl (evs (ielen_some bits.length (by omega)) ?_))
      have e : ((s.length : Int) != 2 * (bits.length : Int) + 4) = true := by
        rw [bne_iff_ne]
        intro he
        exact h ⟨iall_bits hb, all_syms hs, by omega⟩
      rw [e]
      exact ev1 (evk fun _ => rfl)

theorem and255 (x : Int) : 0 ≤ Go.bits .and .i64 x 255 ∧ Go.bits .and .i64 x 255 ≤ 255 := by
  have h : ∀ n : Nat, n ≤ 255 → IntKind.i64.wrap (n : Int) = n := by
    intro n hn
    rw [IntKind.wrap_i64]
    omega
  have e : Go.bits .and .i64 x 255 = IntKind.i64.wrap ((BitVec.ofInt 64 x &&& BitVec.ofInt 64 255).toNat : Int) := rfl
  have hle : (BitVec.ofInt 64 x &&& BitVec.ofInt 64 255).toNat ≤ 255 := by
    rw [BitVec.toNat_and]
    exact Nat.and_le_right
  rw [e, h _ hle]
  omega
/-- The draw's cursor lies within the code. -/
def Cur (l : List Int) (i : Int) : Prop := 0 ≤ i ∧ i ≤ l.length
theorem new_loop (x : List Int) (hn : x.length ≤ 4000000000000000) : ∀ (d i : Nat) (h : Int), i + d = x.length → ∃ h', Ev (fun k => spec_l1New.l0 k x h i) (x, 0, h') := by
  intro d
  induction d with
  | zero =>
    intro i h hi
    exact ⟨h, ev1 (evn (by omega) (evc rfl))⟩
  | succ d ih =>
    intro i h hi
    by_cases h4 : (i : Int) < 4000
    · obtain ⟨h', hh⟩ := ih (i + 1) (Go.bits .and .i64 (wrap64 ((wrap64 ((wrap64 (h * 137)) + (wrap64 (rd x i)))) + 11)) 1073741823) (by omega)
      refine ⟨h', ev1 (evp (by omega) (evp h4 (evp (by omega) ?_)))⟩
      rw [w64s (n := (i : Int) + 1) (by omega) (by omega)]
      exact hh
    · exact ⟨h, ev1 (evp (by omega) (evn h4 (evc rfl)))⟩
theorem new_ev (l : List Int) (hn : l.length ≤ 4000000000000000) : ∃ h', Ev (fun k => spec_l1New.f k l) (l, 0, h') := by
  unfold spec_l1New.f
  exact new_loop l hn l.length 0 _ (by omega)
theorem byte_some (l : List Int) (hn : l.length ≤ 4000000000000000) (i h : Int) (hc : Cur l i) : ∃ x i' h', spec_l1Byte.f l i h = some (x, i', h') ∧ (0 ≤ x ∧ x ≤ 255) ∧ Cur l i' := by
  unfold spec_l1Byte.f
  unfold Cur at *
  by_cases hi : i < (l.length : Int)
  · rw [if_pos hi, if_pos hc.1]
    refine ⟨_, _, _, rfl, and255 _, ?_⟩
    rw [w64s (n := i + 1) (by omega) (by omega)]
    omega
  · rw [if_neg hi]
    exact ⟨_, _, _, rfl, and255 _, hc⟩
theorem below_some (l : List Int) (hn : l.length ≤ 4000000000000000) (i h : Int) (hc : Cur l i) (n : Int) (h1 : 1 ≤ n) (h2 : n ≤ 1000000000000) : ∃ x i' h', spec_l1Below.f l i h n = some (x, i', h') ∧ (0 ≤ x ∧ x < n) ∧ Cur l i' := by
  unfold spec_l1Below.f
  rw [if_neg (by omega)]
  by_cases h3 : n ≤ 256
  · rw [if_pos h3]
    obtain ⟨x, i', h', e, hx, hc'⟩ := byte_some l hn i h hc
    rw [e]
    simp only [Option.bind_some]
    rw [if_neg (by omega)]
    refine ⟨_, _, _, rfl, ?_, hc'⟩
    rw [Int.tmod_eq_emod_of_nonneg hx.1]
    exact ⟨Int.emod_nonneg _ (by omega), Int.emod_lt_of_pos _ (by omega)⟩
  · rw [if_neg h3]
    obtain ⟨x, i', h', e, hx, hc'⟩ := byte_some l hn i h hc
    rw [e]
    simp only [Option.bind_some]
    obtain ⟨y, i2, h2, e2, hy, hc2⟩ := byte_some l hn i' h' hc'
    rw [e2]
    simp only [Option.bind_some]
    obtain ⟨z, i3, h3, e3, hz, hc3⟩ := byte_some l hn i2 h2 hc2
    rw [e3]
    simp only [Option.bind_some]
    rw [if_neg (by omega)]
    refine ⟨_, _, _, rfl, ?_, hc3⟩
    rw [w64s (n := x * 65536) (by omega) (by omega), w64s (n := y * 256) (by omega) (by omega), w64s (n := x * 65536 + y * 256) (by omega) (by omega), w64s (n := x * 65536 + y * 256 + z) (by omega) (by omega)]
    rw [Int.tmod_eq_emod_of_nonneg (by omega)]
    exact ⟨Int.emod_nonneg _ (by omega), Int.emod_lt_of_pos _ (by omega)⟩

theorem l4_loop (L : List Int) (hL : L.length ≤ 4000000000000000) (n : Nat) (hn : n ≤ 1000000) : ∀ (d j : Nat) (acc : List Int) (i h : Int), j + d = n → acc.length = j → Bits acc → Cur L i →
    ∃ (r : List Int) (i' h' : Int), Ev (fun k => spec_l4Bits.l0 k n acc j L i h) (r, i', h') ∧ r.length = n ∧ Bits r ∧ Cur L i' := by
  intro d
  induction d with
  | zero =>
    intro j acc i h hj hl hb hc
    exact ⟨acc, i, h, ev1 (evn (by omega) (evc rfl)), by omega, hb, hc⟩
  | succ d ih =>
    intro j acc i h hj hl hb hc
    obtain ⟨x, i1, h1, e1, hx, hc1⟩ := below_some L hL i h hc 2 (by omega) (by omega)
    obtain ⟨r, i', h', e, hr, hrb, hc'⟩ := ih (j + 1) (acc ++ [x]) i1 h1 (by omega) (by simp; omega) (by
      intro y hy
      rw [List.mem_append, List.mem_singleton] at hy
      rcases hy with hy | rfl
      · exact hb y hy
      · omega) hc1
    refine ⟨r, i', h', ev1 (evp (by omega) (evs e1 (evp (by omega) ?_))), hr, hrb, hc'⟩
    rw [w64s (n := (j : Int) + 1) (by omega) (by omega)]
    exact e
theorem l4_ev (L : List Int) (hL : L.length ≤ 4000000000000000) (i h : Int) (hc : Cur L i) (n : Nat) (hn : n ≤ 1000000) :
    ∃ (r : List Int) (i' h' : Int), Ev (fun k => spec_l4Bits.f k L i h n) (r, i', h') ∧ r.length = n ∧ Bits r ∧ Cur L i' :=
  l4_loop L hL n hn n 0 [] i h (by omega) rfl (by intro x hx; simp at hx) hc

theorem sbits_loop (l : List Int) (hn : l.length ≤ 4000000000000000) : ∀ (d i : Nat), i + d = l.length → Ev (fun k => spec_IsBitString.l0 k l i) ((l.drop i).all fun x => decide (0 ≤ x ∧ x ≤ 1)) := by
  intro d
  induction d with
  | zero =>
    intro i hi
    rw [List.drop_of_length_le (by omega)]
    exact ev1 (evn (by omega) (evc rfl))
  | succ d ih =>
    intro i hi
    refine ev1 (evp (by omega) (evp (by omega) (evs (l1_some _ _ _) ?_)))
    rw [drop_getD l i (by omega), List.all_cons, rd_nat]
    by_cases h : 0 ≤ l.getD i 0 ∧ l.getD i 0 ≤ 1
    · rw [decide_eq_true h, w64s (n := (i : Int) + 1) (by omega) (by omega)]
      exact evp rfl (ih (i + 1) (by omega))
    · rw [decide_eq_false h]
      exact evn (by decide) (evc rfl)
theorem sbits_ev (l : List Int) (hn : l.length ≤ 4000000000000000) : Ev (fun k => spec_IsBitString.f k l) (l.all fun x => decide (0 ≤ x ∧ x ≤ 1)) := sbits_loop l hn l.length 0 (by omega)
theorem bits_all {l : List Int} (h : Bits l) : (l.all fun x => decide (0 ≤ x ∧ x ≤ 1)) = true := by
  rw [List.all_eq_true]
  intro x hx
  have := h x hx
  exact decide_eq_true (by omega)
theorem all_bits {l : List Int} (h : (l.all fun x => decide (0 ≤ x ∧ x ≤ 1)) = true) : Bits l := by
  intro x hx
  rw [List.all_eq_true] at h
  have := of_decide_eq_true (h x hx)
  omega

theorem spair_some (s b : Int) (hs : 0 ≤ s ∧ s ≤ 3) (hb : b = 0 ∨ b = 1) : spec_OutputPair.f s b = some (outX s b, outY s b) ∧ spec_NextState.f s b = some (nxt s b) := by
  have hc : s = 0 ∨ s = 1 ∨ s = 2 ∨ s = 3 := by omega
  rcases hc with rfl | rfl | rfl | rfl <;> rcases hb with rfl | rfl <;> exact ⟨by decide +kernel, by decide +kernel⟩

theorem sconv_loop (l : List Int) (hb : Bits l) (hn : l.length ≤ 1000000000) : ∀ (d i : Nat) (acc : List Int) (s : Int), i + d = l.length + 2 → acc.length + 2 * d ≤ 4000000000 → 0 ≤ s ∧ s ≤ 3 →
    Ev (fun k => spec_ConvolutionalEncode.l0 k l acc s i) (acc ++ convGo s ((l ++ [0, 0]).drop i)) := by
  intro d
  induction d with
  | zero =>
    intro i acc s hi ha hs
    rw [List.drop_of_length_le (by simp; omega)]
    refine ev1 (evn (by rw [w64s (by omega) (by omega)]; omega) (evc (by simp [convGo])))
  | succ d ih =>
    intro i acc s hi ha hs
    have hbit : (l ++ [0, 0]).getD i 0 = 0 ∨ (l ++ [0, 0]).getD i 0 = 1 := by
      rw [pad_getD]
      split
      · exact bits_getD hb i
      · exact .inl rfl
    obtain ⟨h1, h2⟩ := spair_some s _ hs hbit
    have h3 := ih (i + 1) (acc ++ [outX s ((l ++ [0, 0]).getD i 0), outY s ((l ++ [0, 0]).getD i 0)]) (nxt s ((l ++ [0, 0]).getD i 0)) (by omega) (by simp; omega) (nxt_range _ _)
    rw [drop_getD (l ++ [0, 0]) i (by simp; omega), convGo]
    rw [List.append_assoc] at h3
    refine ev1 (evp (by rw [w64s (by omega) (by omega)]; omega) ?_)
    have hw : wrap64 ((i : Int) + 1) = ((i + 1 : Nat) : Int) := by rw [w64s (by omega) (by omega)]; omega
    by_cases h : i < l.length
    · rw [pad_getD, if_pos h] at h1 h2 h3 ⊢
      refine evp (by omega) (evp (by omega) ?_)
      rw [rd_nat, hw]
      exact evs h1 (evs rfl (evp (by simp; omega) (evs h2 h3)))
    · rw [pad_getD, if_neg h] at h1 h2 h3 ⊢
      refine evn (by omega) ?_
      rw [hw]
      exact evs h1 (evs rfl (evp (by simp; omega) (evs h2 h3)))
theorem sconv_ev (l : List Int) (hb : Bits l) (hn : l.length ≤ 1000000000) : Ev (fun k => spec_ConvolutionalEncode.f k l) (conv l) := by
  unfold spec_ConvolutionalEncode.f
  have h := sbits_ev l (by omega)
  rw [bits_all hb] at h
  refine evs rfl (Ev.bind h (evp rfl ?_))
  exact sconv_loop l hb hn (l.length + 2) 0 [] 0 (by omega) (by simp; omega) (by omega)
theorem sconv_bad (l : List Int) (hb : ¬ Bits l) (hn : l.length ≤ 1000000000) : Ev (fun k => spec_ConvolutionalEncode.f k l) [] := by
  unfold spec_ConvolutionalEncode.f
  have h := sbits_ev l (by omega)
  have hf : (l.all fun x => decide (0 ≤ x ∧ x ≤ 1)) = false := by
    cases e : (l.all fun x => decide (0 ≤ x ∧ x ≤ 1)) with
    | false => rfl
    | true => exact absurd (all_bits e) hb
  rw [hf] at h
  exact evs rfl (Ev.bind h (evn (by decide) (evc rfl)))

theorem once_some (l : List Int) (hn : l.length ≤ 4000000000000000) (i h : Int) (hc : Cur l i) (n : Int) (h1 : 1 ≤ n) (h2 : n ≤ 256) : ∃ (b : Bool) (i' h' : Int), spec_l1Once.f l i h n = some (b, i', h') ∧ Cur l i' := by
  unfold spec_l1Once.f
  obtain ⟨x, i', h', e, hx, hc'⟩ := below_some l hn i h hc n h1 (by omega)
  rw [e]
  exact ⟨_, _, _, rfl, hc'⟩

theorem int_some (l : List Int) (hn : l.length ≤ 4000000000000000) (i h : Int) (hc : Cur l i) (ls : List Int) (h1 : 1 ≤ ls.length) (h2 : ls.length ≤ 1000) : ∃ x i' h', spec_l1Int.f l i h ls = some (x, i', h') ∧ x ∈ ls ∧ Cur l i' := by
  unfold spec_l1Int.f
  obtain ⟨x, i', h', e, hx, hc'⟩ := below_some l hn i h hc (ls.length : Int) (by omega) (by omega)
  rw [e]
  simp only [Option.bind_some]
  rw [if_pos hx.1, if_pos hx.2]
  obtain ⟨j, rfl⟩ := Int.eq_ofNat_of_zero_le hx.1
  refine ⟨_, _, _, rfl, ?_, hc'⟩
  rw [rd_nat]
  exact rd_mem (by omega)

/-- Drawn symbols: a code word of at most eleven bits, some of its symbols turned; sometimes one element behind it. -/
theorem l6_loop (L : List Int) (hL : L.length ≤ 4000000000000000) : ∀ (d : Nat) (x3 : List Int) (i h : Int), d ≤ 1000 → 4 ≤ x3.length → x3.length ≤ 26 → Syms x3 → Cur L i →
    ∃ (r : List Int) (i' h' : Int), Ev (fun k => spec_l6Symbols.l0 k x3 d L i h) (r, i', h') ∧ r.length ≤ 27 ∧ (r.length = x3.length ∧ Syms r ∨ r.length = x3.length + 1) ∧ (∀ x ∈ r, -1 ≤ x ∧ x ≤ 3) := by
  intro d
  induction d with
  | zero =>
    intro x3 i h hd h4 h26 hs hc
    have hm : ∀ x ∈ x3, -1 ≤ x ∧ x ≤ 3 := fun x hx => by have := hs x hx; omega
    obtain ⟨b, i1, h1, e1, hc1⟩ := once_some L hL i h hc 8 (by omega) (by omega)
    cases b with
    | false => exact ⟨x3, i1, h1, ev1 (evn (by omega) (evs e1 (evn (by simp) (evc rfl)))), by omega, .inl ⟨rfl, hs⟩, hm⟩
    | true =>
      obtain ⟨v, i2, h2, e2, hv, hc2⟩ := int_some L hL i1 h1 hc1 [(-1), 0, 3] (by decide) (by decide)
      refine ⟨x3 ++ [v], i2, h2, ev1 (evn (by omega) (evs e1 (evp rfl (evs e2 (evp (by omega) (evc rfl)))))), by simp; omega, .inr (by simp), ?_⟩
      intro x hx
      rw [List.mem_append, List.mem_singleton] at hx
      rcases hx with hx | rfl
      · exact hm x hx
      · simp at hv
        omega
  | succ d ih =>
    intro x3 i h hd h4 h26 hs hc
    obtain ⟨j, i1, h1, e1, hj, hc1⟩ := below_some L hL i h hc (x3.length : Int) (by omega) (by omega)
    obtain ⟨v, i2, h2, e2, hv, hc2⟩ := below_some L hL i1 h1 hc1 3 (by omega) (by omega)
    obtain ⟨r, i', h', e, p1, p2, p3⟩ := ih (x3.set j.toNat v) i2 h2 (by omega) (by simpa using h4) (by simpa using h26) (by
      intro x hx
      rcases List.mem_or_eq_of_mem_set hx with hx | rfl
      · exact hs x hx
      · omega) hc2
    refine ⟨r, i', h', ev1 (evp (by omega) (evs e1 (evs e2 (evp hj.1 (evp hj.2 ?_))))), p1, by simpa using p2, p3⟩
    rw [show ((d + 1 : Nat) : Int) - 1 = (d : Int) by omega, w64s (n := (d : Int)) (by omega) (by omega)]
    exact e
theorem l6_ev (L : List Int) (hL : L.length ≤ 4000000000000000) (i h : Int) (hc : Cur L i) :
    ∃ (r : List Int) (i' h' : Int), Ev (fun k => spec_l6Symbols.f k L i h) (r, i', h') ∧ 4 ≤ r.length ∧ r.length ≤ 27 ∧ (∀ x ∈ r, -1 ≤ x ∧ x ≤ 3) := by
  unfold spec_l6Symbols.f
  obtain ⟨n, i1, h1, e1, hn, hc1⟩ := below_some L hL i h hc 12 (by omega) (by omega)
  obtain ⟨n, rfl⟩ := Int.eq_ofNat_of_zero_le hn.1
  obtain ⟨b, i2, h2, e2, hb, hbb, hc2⟩ := l4_ev L hL i1 h1 hc1 n (by omega)
  have e3 := sconv_ev b hbb (by omega)
  obtain ⟨m, i4, h4, e4, hm, hc4⟩ := below_some L hL i2 h2 hc2 4 (by omega) (by omega)
  obtain ⟨m, rfl⟩ := Int.eq_ofNat_of_zero_le hm.1
  have hl := conv_length b
  obtain ⟨r, i5, h5, e5, p1, p2, p3⟩ := l6_loop L hL m (conv b) i4 h4 (by omega) (by omega) (by omega) (fun x hx => by
    have := convGo_bits (b ++ [0, 0]) 0 x hx
    omega) hc4
  exact ⟨r, i5, h5, evs e1 (Ev.bind e2 (Ev.bind e3 (evs e4 e5))), by omega, p1, p3⟩

theorem wf64 {a : Int} (h : (Lit.int .i64 a).wf = true) : -9223372036854775808 ≤ a ∧ a ≤ 9223372036854775807 := by
  simpa [Lit.wf, IntKind.min, IntKind.max, IntKind.bits, IntKind.signed] using h
theorem wf8 {a : Int} (h : (Lit.int .u8 a).wf = true) : 0 ≤ a ∧ a ≤ 255 := by
  simpa [Lit.wf, IntKind.min, IntKind.max, IntKind.bits, IntKind.signed] using h

theorem at_some (l : List Int) (hn : l.length ≤ 1048576) (hw : ∀ x ∈ l, (Lit.int .u8 x).wf = true) (i : Nat) (hi : i ≤ 1000000000) : ∃ x, laws_at.f l i = some x ∧ 0 ≤ x ∧ x ≤ 255 := by
  unfold laws_at.f
  by_cases h : (i : Int) < (l.length : Int)
  · rw [if_pos h, if_pos (by omega), rd_nat]
    have hm := hw _ (rd_mem (l := l) (i := i) (by omega))
    have hb := wf8 hm
    rw [w64s (by omega) (by omega)]
    exact ⟨_, rfl, hb⟩
  · rw [if_neg h, w64s (n := (i : Int) * 31) (by omega) (by omega), w64s (n := (l.length : Int) * 7) (by omega) (by omega), w64s (by omega) (by omega)]
    refine ⟨_, rfl, ?_⟩
    rw [Int.tmod_eq_emod_of_nonneg (by omega)]
    omega

theorem pd_ev (y l : List Int) (n : Nat) (hy : Bits y) (hyl : y.length = n) (hs : Syms l) (hl : l.length = 2 * n + 4) (hn : n ≤ 1000) : ∃ d : Int, vcost l n ≤ d ∧ Ev (fun k => impl_PathDistance.f k y l) d :=
  ⟨_, vbits_best l n hl y hy hyl, ipath_good y l hy hs (by omega) (by omega)⟩
theorem nw_end (L l x : List Int) (n : Nat) (t : Int) (d : Int) (y : List Int) (hd : vcost l n ≤ d) (hp : Ev (fun k => impl_PathDistance.f k y l) d) (ht : 0 ≤ t ∧ t ≤ 8) (h : Ev (fun k => laws_FnNearestWord.l0 k L l x (vcost l n) (n : Int) (t + 1)) true) :
    Ev (fun k => (impl_PathDistance.f k y l).bind fun q => (if q < vcost l n then (none) else (laws_FnNearestWord.l0 k L l x (vcost l n) (n : Int) (wrap64 (t + 1))))) true := by
  rw [w64s (n := t + 1) (by omega) (by omega)]
  exact Ev.bind hp (evn (by omega) h)
theorem nw_j4 (L l x : List Int) (n : Nat) (t : Int) (y : List Int) (hL : L.length ≤ 1048576) (hw : ∀ z ∈ L, (Lit.int .u8 z).wf = true) (hy : Bits y) (hyl : y.length = n) (hs : Syms l) (hl : l.length = 2 * n + 4) (hn : n ≤ 1000) (ht : 0 ≤ t ∧ t ≤ 8) (fl : Bool) (hf : fl = true → 0 < n)
    (h : Ev (fun k => laws_FnNearestWord.l0 k L l x (vcost l n) (n : Int) (t + 1)) true) : Ev (fun k => laws_FnNearestWord.j4 k L l x (vcost l n) (n : Int) t y fl) true := by
  cases fl with
  | true =>
    have hn0 := hf rfl
    obtain ⟨a, ha, ha0, ha1⟩ := at_some L hL hw t.toNat (by omega)
    rw [Int.toNat_of_nonneg ht.1] at ha
    have hr0 : 0 ≤ Int.tmod a (n : Int) ∧ Int.tmod a (n : Int) < (n : Int) := by
      rw [Int.tmod_eq_emod_of_nonneg ha0]
      exact ⟨Int.emod_nonneg _ (by omega), Int.emod_lt_of_pos _ (by omega)⟩
    obtain ⟨p, hp⟩ := Int.eq_ofNat_of_zero_le hr0.1
    have hb := bits_getD hy p
    obtain ⟨d, hd, hpd⟩ := pd_ev (y.set p (wrap64 (1 - y.getD p 0))) l n (fun z hz => by
      rcases List.mem_or_eq_of_mem_set hz with hz | rfl
      · exact hy z hz
      · rw [w64s (by omega) (by omega)]
        omega) (by simpa using hyl) hs hl hn
    refine ev1 (Ev.congr (f := fun k => (laws_at.f L t).bind fun t273 => (if (n : Int) = 0 then (none) else (if 0 ≤ (Int.tmod t273 (n : Int)) then (if (Int.tmod t273 (n : Int)) < (y.length : Int) then ((impl_PathDistance.f k (y.set ((Int.tmod t273 (n : Int)) : Int).toNat (wrap64 (1 - (rd y (Int.tmod t273 (n : Int)))))) l).bind fun t276 => (if t276 < vcost l n then (none) else (laws_FnNearestWord.l0 k L l x (vcost l n) (n : Int) (wrap64 (t + 1))))) else (none)) else (none)))) (fun k => by rw [laws_FnNearestWord.j4, if_pos rfl]) ?_)
    refine evs ha (evn (by omega) ?_)
    rw [hp] at hr0 ⊢
    refine evp (by omega) (evp (by omega) ?_)
    rw [Int.toNat_natCast, rd_nat]
    exact nw_end L l x n t d _ hd hpd ht h
  | false =>
    obtain ⟨d, hd, hpd⟩ := pd_ev y l n hy hyl hs hl hn
    exact ev1 (Ev.congr (fun k => by rw [laws_FnNearestWord.j4, if_neg (by decide)]) (nw_end L l x n t d y hd hpd ht h))
theorem nw_l1 (L l x : List Int) (n : Nat) (t : Nat) (hL : L.length ≤ 1048576) (hw : ∀ z ∈ L, (Lit.int .u8 z).wf = true) (hx : Bits x) (hxl : x.length = n) (hs : Syms l) (hl : l.length = 2 * n + 4) (hn : n ≤ 1000) (ht : t < 8)
    (h : Ev (fun k => laws_FnNearestWord.l0 k L l x (vcost l n) (n : Int) ((t : Int) + 1)) true) : ∀ (d i : Nat) (y : List Int), i + d = n → Bits y → y.length = n → Ev (fun k => laws_FnNearestWord.l1 k L l x (vcost l n) (n : Int) (t : Int) y (i : Int)) true := by
  intro d
  induction d with
  | zero =>
    intro i y hi hy hyl
    refine ev1 (evn (by omega) ?_)
    by_cases h4 : (t : Int) < 4
    · exact evp h4 (nw_j4 L l x n t y hL hw hy hyl hs hl hn (by omega) _ (fun q => by have := of_decide_eq_true q; omega) h)
    · exact evn h4 (nw_j4 L l x n t y hL hw hy hyl hs hl hn (by omega) _ (fun q => by cases q) h)
  | succ d ih =>
    intro i y hi hy hyl
    have hm1 : (t : Int) * (n : Int) = ((t * n : Nat) : Int) := by rw [Int.natCast_mul]
    have hm2 : t * n ≤ 8 * 1000 := Nat.mul_le_mul (by omega) hn
    obtain ⟨a, ha, ha0, ha1⟩ := at_some L hL hw (t * n + i) (by omega)
    refine ev1 (evp (by omega) ?_)
    rw [hm1, w64s (n := ((t * n : Nat) : Int)) (by omega) (by omega), show ((t * n : Nat) : Int) + (i : Int) = ((t * n + i : Nat) : Int) by omega, w64s (n := ((t * n + i : Nat) : Int)) (by omega) (by omega)]
    refine evs ha (evp (by omega) (evp (by omega) ?_))
    rw [Int.toNat_natCast, rd_nat, w64s (n := (i : Int) + 1) (by omega) (by omega)]
    refine evs rfl ?_
    have hy1 : Bits (y.set i (Int.tmod a 2)) := fun z hz => by
      rcases List.mem_or_eq_of_mem_set hz with hz | rfl
      · exact hy z hz
      · rw [Int.tmod_eq_emod_of_nonneg ha0]
        omega
    by_cases h4 : (t : Int) < 4
    · refine evp h4 (evp (by omega) (ih (i + 1) _ (by omega) (fun z hz => ?_) (by simpa using hyl)))
      rcases List.mem_or_eq_of_mem_set hz with hz | rfl
      · exact hy1 z hz
      · exact bits_getD hx i
    · exact evn h4 (ih (i + 1) _ (by omega) hy1 (by simpa using hyl))
theorem nw_l0 (L l x : List Int) (n : Nat) (hL : L.length ≤ 1048576) (hw : ∀ z ∈ L, (Lit.int .u8 z).wf = true) (hx : Bits x) (hxl : x.length = n) (hs : Syms l) (hl : l.length = 2 * n + 4) (hn : n ≤ 1000) : ∀ (d t : Nat), t + d = 8 → Ev (fun k => laws_FnNearestWord.l0 k L l x (vcost l n) (n : Int) (t : Int)) true := by
  intro d
  induction d with
  | zero =>
    intro t ht
    exact ev1 (evn (by omega) (evc rfl))
  | succ d ih =>
    intro t ht
    refine ev1 (evp (by omega) (evp (by omega) (evp (by omega) ?_)))
    exact nw_l1 L l x n t hL hw hx hxl hs hl hn (by omega) (ih (t + 1) (by omega)) n 0 _ (by omega) (fun z hz => by
      rw [List.mem_replicate] at hz
      exact .inl hz.2) (by simp)
theorem symd_ev (L : List Int) (hL : L.length ≤ 4000000000000000) : ∃ r : List Int, Ev (fun k => spec_DrawViterbiDecode.f k L) r ∧ r.length ≤ 27 := by
  unfold spec_DrawViterbiDecode.f
  obtain ⟨h0, e0⟩ := new_ev L hL
  obtain ⟨r, i', h', e, _, hl, _⟩ := l6_ev L hL 0 h0 ⟨by omega, by omega⟩
  exact ⟨r, Ev.bind e0 (Ev.bind e (evc rfl)), hl⟩
theorem FnNearestWord : laws_FnNearestWord.Pure := by
  intro L hm hs hw
  refine Ev.rounds (r := true) ?_
  unfold laws_FnNearestWord.f
  refine evs (show laws_big.f L = some _ from rfl) ?_
  by_cases hbig : (L.length : Int) > 1048576
  · exact evp (by simpa using hbig) (evc rfl)
  refine evn (by simpa using hbig) ?_
  obtain ⟨l, e, hl⟩ := symd_ev L (by omega)
  have hv := ivit_ev l (by omega)
  refine Ev.bind e (Ev.bind hv (evs (slen_ev l.length (by omega)) ?_))
  have hbad : ∀ q : Int, vdec l = ([], -1) → Ev (fun k => laws_FnNearestWord.j0 k L l (vdec l).1 (vdec l).2 q true) true := fun q h => by
    rw [h]
    exact ev1 (evk fun k => by rw [laws_FnNearestWord.j0, if_pos rfl, if_pos rfl]; rfl)
  by_cases hc : l.length % 2 = 0 ∧ 4 ≤ l.length ∧ l.length ≤ 2004
  · have e1 : lenV l.length = ((l.length / 2 - 2 : Nat) : Int) := by
      unfold lenV
      rw [if_pos hc]
      omega
    rw [e1]
    refine evn (by omega) (Ev.bind (ssym_ev l (by omega)) ?_)
    cases hsy : (l.all fun x => decide (0 ≤ x ∧ x ≤ 2)) with
    | false => exact hbad _ (vdec_bad l (fun q => by rw [syms_all q.1] at hsy; cases hsy))
    | true =>
      obtain ⟨n, hn⟩ : ∃ n : Nat, l.length = 2 * n + 4 := ⟨l.length / 2 - 2, by omega⟩
      rw [show l.length / 2 - 2 = n by omega, vdec_good l n (all_syms hsy) (by omega) hn]
      have hp := ipath_good (vbits l n) l (vbits_bits l n) (all_syms hsy) (by rw [vbits_length]; omega) (by rw [vbits_length]; omega)
      rw [vbits_diffs l n hn] at hp
      have hr := vcost_range l n
      refine ev1 (Ev.congr (f := fun k => (if ((vbits l n).length : Int) = (n : Int) then ((impl_PathDistance.f k (vbits l n) l).bind fun t265 => (if t265 = vcost l n then (laws_FnNearestWord.j1 k L l (vbits l n) (vcost l n) (n : Int) (decide (vcost l n < 0))) else (none))) else (none))) (fun k => by rw [laws_FnNearestWord.j0, if_neg (by decide)]) ?_)
      refine evp (by rw [vbits_length]) (Ev.bind hp (evp rfl ?_))
      rw [decide_eq_false (by omega)]
      exact ev1 (Ev.congr (fun k => by rw [laws_FnNearestWord.j1, if_neg (by decide)]; rfl) (nw_l0 L l (vbits l n) n (by omega) hw (vbits_bits l n) (vbits_length l n) (all_syms hsy) hn (by omega) 8 0 (by omega)))
  · have e1 : lenV l.length = -1 := by
      unfold lenV
      rw [if_neg hc]
    rw [e1]
    exact evp (by decide) (hbad _ (vdec_bad l (fun q => hc q.2)))

end Go.Proofs.Ytldbmljooafkcaa.Pure
