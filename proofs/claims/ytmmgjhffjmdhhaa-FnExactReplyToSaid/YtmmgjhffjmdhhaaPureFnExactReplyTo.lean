/-
  The program's ReplyTo and the reference's agree at every frame whose body has at most 2^20 bytes, the argument is left as it was, and the answers share no memory with it.
  Conditions: none beyond the given statement's own.
-/
import Derived.Test.YtmmgjhffjmdhhaaPFnExactReplyTox6
set_option linter.unusedVariables false
set_option linter.unusedSimpArgs false
namespace Go.Proofs.Ytmmgjhffjmdhhaa.Pure
open Go.RowKit Go.Proofs.Ytmmgjhffjmdhhaa.PFnExactReplyTo Go.Proofs.YtmmgjhffjmdhhaaW.PrintWords Go.Proofs.YtmmgjhffjmdhhaaW.PrintLast Go.Proofs.YtmmgjhffjmdhhaaW.PrintMore

theorem evp {α : Type} {c : Prop} [Decidable c] {A B : Nat → Option α} {r : α} (hc : c) (h : Ev A r) : Ev (fun k => if c then A k else B k) r :=
  Ev.congr (fun k => if_pos hc) h
theorem evn {α : Type} {c : Prop} [Decidable c] {A B : Nat → Option α} {r : α} (hc : ¬ c) (h : Ev B r) : Ev (fun k => if c then A k else B k) r :=
  Ev.congr (fun k => if_neg hc) h
theorem evs {α β : Type} {g : Option α} {a : α} {f : Nat → α → Option β} {r : β} (hg : g = some a) (h : Ev (fun k => f k a) r) : Ev (fun k => g.bind (f k)) r :=
  Ev.congr (fun k => by rw [hg]; rfl) h
theorem evc {α : Type} {g : Option α} {r : α} (h : g = some r) : Ev (fun _ => g) r := ⟨0, fun _ _ => h⟩
theorem ev_eq {α : Type} {g : Nat → Option α} {r r' : α} (h : Ev g r) (e : r = r') : Ev g r' := e ▸ h
theorem w64 {n : Int} (h0 : -9223372036854775808 ≤ n) (h1 : n ≤ 9223372036854775807) : wrap64 n = n := by
  unfold wrap64
  omega
theorem w64s {n : Int} (h0 : -1000000000000000000 ≤ n) (h1 : n ≤ 1000000000000000000) : wrap64 n = n := w64 (by omega) (by omega)
theorem ev1 {α : Type} {g : Nat → Option α} {r : α} (h : Ev (fun k => g (k + 1)) r) : Ev g r := Ev.step (fun _ => rfl) h
theorem dt {p : Prop} [Decidable p] (h : p) : decide p = true := decide_eq_true h
theorem dnt {p : Prop} [Decidable p] (h : ¬ p) : ¬ (decide p = true) := by simp [h]
theorem ntd {p : Prop} [Decidable p] (h : ¬ p) : (!decide p) = true := by simp [h]
theorem ntt {p : Prop} [Decidable p] (h : p) : ¬ ((!decide p) = true) := by simp [h]
theorem evk {α : Type} {g : Nat → Option α} {r : α} (h : ∀ k, g k = some r) : Ev g r := ⟨0, fun k _ => h k⟩
theorem dec_iff {p q : Prop} [Decidable p] [Decidable q] (h : p ↔ q) : decide p = decide q := by
  by_cases hq : q
  · rw [decide_eq_true hq, decide_eq_true (h.2 hq)]
  · rw [decide_eq_false hq, decide_eq_false (fun hp => hq (h.1 hp))]

theorem rd_nat (l : List Int) (i : Nat) : rd l (i : Int) = l.getD i 0 := by
  unfold rd
  rw [Int.toNat_natCast]
theorem rd_mem {l : List Int} {i : Nat} (h : i < l.length) : l.getD i 0 ∈ l := by
  rw [List.getD_eq_getElem?_getD, List.getElem?_eq_getElem h]
  exact List.getElem_mem h
theorem list_ext {a b : List Int} (hl : a.length = b.length) (h : ∀ i, i < a.length → a.getD i 0 = b.getD i 0) : a = b := by
  apply List.ext_getElem hl
  intro i h1 h2
  have := h i h1
  rw [List.getD_eq_getElem?_getD, List.getD_eq_getElem?_getD, List.getElem?_eq_getElem h1, List.getElem?_eq_getElem h2] at this
  simpa using this
theorem getD_set (l : List Int) (i j : Nat) (v : Int) : (l.set i v).getD j 0 = if i = j ∧ j < l.length then v else l.getD j 0 := by
  rw [List.getD_eq_getElem?_getD, List.getElem?_set, List.getD_eq_getElem?_getD]
  by_cases h : i = j
  · subst h
    by_cases h2 : i < l.length
    · simp [h2]
    · simp [h2]
  · simp [h]

theorem toBytes_loop (x0 : List Int) (hn : x0.length ≤ 4000000000000000) : ∀ (d i : Nat) (x3 : List Int), i + d = x0.length → x3.length = x0.length → (∀ j, j < i → x3.getD j 0 = x0.getD j 0) → Ev (fun k => laws_toByteS.l0 k x0 x3 i) x0 := by
  intro d
  induction d with
  | zero =>
    intro i x3 hi hl hj
    refine ev1 ?_
    refine evn (by omega) (evc ?_)
    rw [list_ext hl (fun j h => hj j (by omega))]
  | succ d ih =>
    intro i x3 hi hl hj
    refine ev1 ?_
    refine evp (by omega) (evp (by omega) (evp (by omega) ?_))
    rw [w64s (by omega) (by omega), Int.toNat_natCast, rd_nat]
    have := ih (i + 1) (x3.set i (x0.getD i 0)) (by omega) (by simpa using hl) (by
      intro j h
      rw [getD_set]
      by_cases e : i = j
      · subst e
        rw [if_pos ⟨rfl, by omega⟩]
      · rw [if_neg (fun h' => e h'.1)]
        exact hj j (by omega))
    exact this
theorem toBytes_ev (l : List Int) (hn : l.length ≤ 1048576) : Ev (fun k => laws_toByteS.f k l) l := by
  unfold laws_toByteS.f
  refine evp (by omega) (evp (by omega) ?_)
  exact toBytes_loop l (by omega) l.length 0 _ (by omega) (by simp) (by intro j h; omega)

theorem eqBytes_loop (x : List Int) (hn : x.length ≤ 4000000000000000) : ∀ (d i : Nat), i + d = x.length → Ev (fun k => laws_eqByteS.l0 k x x i) true := by
  intro d
  induction d with
  | zero =>
    intro i hi
    refine ev1 ?_
    exact evn (by omega) (evc rfl)
  | succ d ih =>
    intro i hi
    refine ev1 ?_
    refine evp (by omega) (evp (by omega) (evp (by omega) (evp rfl ?_)))
    rw [w64s (by omega) (by omega)]
    exact ih (i + 1) (by omega)
theorem eqBytes_ev (l : List Int) (hn : l.length ≤ 4000000000000000) : Ev (fun k => laws_eqByteS.f k l l) true := by
  unfold laws_eqByteS.f
  exact evp rfl (eqBytes_loop l hn l.length 0 (by omega))

theorem szMac_some (a0 a1 a2 a3 a4 : Int) (b5 b6 : Bool) (a7 : Int) (l : List Int) (hm : l.length ≤ maxLen) : laws_szMacFrame.f a0 a1 a2 a3 a4 b5 b6 a7 l 1048576 = some (if l.length ≤ 1048576 then (1048576 : Int) - (l.length : Int) else -1) := by
  unfold maxLen at hm
  unfold laws_szMacFrame.f laws_szByteS.f
  by_cases h : l.length ≤ 1048576
  · rw [w64s (by omega) (by omega), if_neg (by omega), if_pos h]
    simp only [Option.bind_some]
    rw [if_neg (by omega)]
  · rw [w64 (by omega) (by omega), if_pos (by omega), if_neg h]
    rfl
theorem toMac_ev (a0 a1 a2 a3 a4 : Int) (b5 b6 : Bool) (a7 : Int) (l : List Int) (hn : l.length ≤ 1048576) : Ev (fun k => laws_toMacFrame.f k a0 a1 a2 a3 a4 b5 b6 a7 l) (a0, a1, a2, a3, a4, b5, b6, a7, l) := by
  unfold laws_toMacFrame.f
  exact Ev.bind (toBytes_ev l hn) (evc rfl)
theorem eqMac_ev (a0 a1 a2 a3 a4 : Int) (b5 b6 : Bool) (a7 : Int) (l : List Int) (hn : l.length ≤ 1048576) : Ev (fun k => laws_eqMacFrame.f k a0 a1 a2 a3 a4 b5 b6 a7 l a0 a1 a2 a3 a4 b5 b6 a7 l) true := by
  unfold laws_eqMacFrame.f
  exact evp rfl (evp rfl (evp rfl (evp rfl (evp rfl (evn (by simp) (evn (by simp) (evp rfl (Ev.bind (eqBytes_ev l (by omega)) (evp rfl (evc rfl))))))))))

theorem in_some (x a b : Int) : impl_InRange.f x a b = some (decide (a ≤ x ∧ x ≤ b)) := by
  unfold impl_InRange.f
  by_cases h : a ≤ x <;> simp [h]

def bodyP (k n : Int) : Prop := ((k = 2 ∨ k = 3 ∨ k = 4 ∨ k = 7) ∧ n = 0) ∨ (¬ (k = 2 ∨ k = 3 ∨ k = 4 ∨ k = 7) ∧ n ≤ 100)
instance (k n : Int) : Decidable (bodyP k n) := by unfold bodyP; infer_instance
def toP (k f t : Int) : Prop := (t = 63 ∧ (k = 1 ∨ k = 5 ∨ k = 6)) ∨ (t ≠ 63 ∧ (0 ≤ t ∧ t ≤ 15) ∧ t ≠ f)
instance (k f t : Int) : Decidable (toP k f t) := by unfold toP; infer_instance
def restP (k s g d n : Int) : Prop := (0 ≤ s ∧ s ≤ 4095) ∧ (0 ≤ g ∧ g ≤ 15) ∧ (0 ≤ d ∧ d ≤ 1000) ∧ bodyP k n
instance (k s g d n : Int) : Decidable (restP k s g d n) := by unfold restP; infer_instance
def validP (k f t s g d n : Int) : Prop := (1 ≤ k ∧ k ≤ 7) ∧ (0 ≤ f ∧ f ≤ 15) ∧ toP k f t ∧ restP k s g d n
instance (k f t s g d n : Int) : Decidable (validP k f t s g d n) := by unfold validP; infer_instance
section
variable (a0 a1 a2 a3 a4 : Int) (b5 b6 : Bool) (a7 : Int) (l : List Int)
theorem vj1_true : Ev (fun k => impl_IsValidFrame.j1 k true a0 a1 a2 a3 a4 b5 b6 a7 l) false := ev1 (evk fun _ => rfl)
theorem vj1_false : Ev (fun k => impl_IsValidFrame.j1 k false a0 a1 a2 a3 a4 b5 b6 a7 l) (decide (bodyP a0 l.length)) := by
  refine ev1 ?_
  have he : ∀ h : a0 = 2 ∨ a0 = 3 ∨ a0 = 4 ∨ a0 = 7, some ((l.length : Int) == 0) = some (decide (bodyP a0 l.length)) := by
    intro h
    have e : ((l.length : Int) == 0) = decide ((l.length : Int) = 0) := rfl
    rw [e]
    exact congrArg some (dec_iff (by unfold bodyP; omega))
  by_cases h2 : a0 = 2
  · exact evp h2 (evc (he (by omega)))
  refine evn h2 ?_
  by_cases h3 : a0 = 3
  · exact evp h3 (evc (he (by omega)))
  refine evn h3 ?_
  by_cases h4 : a0 = 4
  · exact evp h4 (evc (he (by omega)))
  refine evn h4 ?_
  by_cases h7 : a0 = 7
  · exact evp h7 (evc (he (by omega)))
  refine evn h7 (evc ?_)
  exact congrArg some (dec_iff (by unfold bodyP; omega))
theorem vj0_true : Ev (fun k => impl_IsValidFrame.j0 k true a0 a1 a2 a3 a4 b5 b6 a7 l) false := ev1 (evk fun _ => rfl)
theorem vj0_false : Ev (fun k => impl_IsValidFrame.j0 k false a0 a1 a2 a3 a4 b5 b6 a7 l) (decide (restP a0 a3 a4 a7 l.length)) := by
  refine ev1 (evs (in_some a3 0 4095) ?_)
  by_cases h1 : 0 ≤ a3 ∧ a3 ≤ 4095
  · refine evp (dt h1) (evs (in_some a4 0 15) ?_)
    by_cases h2 : 0 ≤ a4 ∧ a4 ≤ 15
    · refine evp (dt h2) (evs (in_some a7 0 1000) ?_)
      by_cases h3 : 0 ≤ a7 ∧ a7 ≤ 1000
      · rw [decide_eq_true h3]
        refine ev_eq (vj1_false a0 a1 a2 a3 a4 b5 b6 a7 l) (dec_iff ⟨fun h => ⟨h1, h2, h3, h⟩, fun h => h.2.2.2⟩)
      · rw [decide_eq_false h3, decide_eq_false (fun h : restP a0 a3 a4 a7 l.length => h3 h.2.2.1)]
        exact vj1_true a0 a1 a2 a3 a4 b5 b6 a7 l
    · refine evn (dnt h2) ?_
      rw [decide_eq_false (fun h : restP a0 a3 a4 a7 l.length => h2 h.2.1)]
      exact vj1_true a0 a1 a2 a3 a4 b5 b6 a7 l
  · refine evn (dnt h1) ?_
    rw [decide_eq_false (fun h : restP a0 a3 a4 a7 l.length => h1 h.1)]
    exact vj1_true a0 a1 a2 a3 a4 b5 b6 a7 l
theorem station_some (a : Int) : impl_isStation.f a = some (decide (0 ≤ a ∧ a ≤ 15)) := by
  unfold impl_isStation.f
  rw [in_some]
  rfl
theorem receiver_some : impl_isValidReceiver.f a0 a1 a2 a3 a4 b5 b6 a7 l = some (decide (toP a0 a1 a2)) := by
  unfold impl_isValidReceiver.f
  by_cases h : a2 = 63
  · rw [if_pos h]
    by_cases h1 : a0 = 1
    · rw [if_pos h1, decide_eq_true (by unfold toP; omega)]
    rw [if_neg h1]
    by_cases h5 : a0 = 5
    · rw [if_pos h5, decide_eq_true (by unfold toP; omega)]
    rw [if_neg h5]
    have e : (a0 == 6) = decide (a0 = 6) := rfl
    rw [e]
    exact congrArg some (dec_iff (by unfold toP; omega))
  · rw [if_neg h, station_some]
    simp only [Option.bind_some]
    by_cases h1 : 0 ≤ a2 ∧ a2 ≤ 15
    · rw [if_pos (dt h1)]
      have e : (a2 != a1) = decide (a2 ≠ a1) := by
        by_cases h2 : a2 = a1 <;> simp [h2]
      rw [e]
      exact congrArg some (dec_iff (by unfold toP; omega))
    · rw [if_neg (dnt h1), decide_eq_false (by unfold toP; omega)]
theorem validframe_ev : Ev (fun k => impl_IsValidFrame.f k a0 a1 a2 a3 a4 b5 b6 a7 l) (decide (validP a0 a1 a2 a3 a4 a7 l.length)) := by
  unfold impl_IsValidFrame.f
  refine evs (in_some a0 1 7) ?_
  by_cases h1 : 1 ≤ a0 ∧ a0 ≤ 7
  · refine evp (dt h1) (evs (station_some a1) ?_)
    by_cases h2 : 0 ≤ a1 ∧ a1 ≤ 15
    · refine evp (dt h2) (evs (receiver_some a0 a1 a2 a3 a4 b5 b6 a7 l) ?_)
      by_cases h3 : toP a0 a1 a2
      · rw [decide_eq_true h3]
        exact ev_eq (vj0_false a0 a1 a2 a3 a4 b5 b6 a7 l) (dec_iff ⟨fun h => ⟨h1, h2, h3, h⟩, fun h => h.2.2.2⟩)
      · rw [decide_eq_false h3, decide_eq_false (fun h : validP a0 a1 a2 a3 a4 a7 l.length => h3 h.2.2.1)]
        exact vj0_true a0 a1 a2 a3 a4 b5 b6 a7 l
    · refine evn (dnt h2) ?_
      rw [decide_eq_false (fun h : validP a0 a1 a2 a3 a4 a7 l.length => h2 h.2.1)]
      exact vj0_true a0 a1 a2 a3 a4 b5 b6 a7 l
  · refine evn (dnt h1) ?_
    rw [decide_eq_false (fun h : validP a0 a1 a2 a3 a4 a7 l.length => h1 h.1)]
    exact vj0_true a0 a1 a2 a3 a4 b5 b6 a7 l
end

theorem l1_some (x a b : Int) : spec_l1In.f x a b = some (decide (a ≤ x ∧ x ≤ b)) := by
  unfold spec_l1In.f
  by_cases h : a ≤ x <;> simp [h]

section
variable (a0 a1 a2 a3 a4 : Int) (b5 b6 : Bool) (a7 : Int) (l : List Int)
theorem l12_some (a : Int) : spec_l12Empty.f a = some (decide (a = 2 ∨ a = 3 ∨ a = 4 ∨ a = 7)) := by
  unfold spec_l12Empty.f
  by_cases h2 : a = 2
  · rw [if_pos h2, decide_eq_true (by omega)]
  rw [if_neg h2]
  by_cases h3 : a = 3
  · rw [if_pos h3, decide_eq_true (by omega)]
  rw [if_neg h3]
  by_cases h4 : a = 4
  · rw [if_pos h4, decide_eq_true (by omega)]
  rw [if_neg h4]
  have e : (a == 7) = decide (a = 7) := rfl
  rw [e]
  exact congrArg some (dec_iff (by omega))
theorem sj1_true : Ev (fun k => spec_IsValidFrame.j1 k true a0 a1 a2 a3 a4 b5 b6 a7 l) false := ev1 (evk fun _ => rfl)
theorem sj1_false : Ev (fun k => spec_IsValidFrame.j1 k false a0 a1 a2 a3 a4 b5 b6 a7 l) (decide (restP a0 a3 a4 a7 l.length)) := by
  refine ev1 (evs (l1_some a3 0 4095) ?_)
  by_cases h1 : 0 ≤ a3 ∧ a3 ≤ 4095
  · refine evp (dt h1) (evs (l1_some a4 0 15) ?_)
    by_cases h2 : 0 ≤ a4 ∧ a4 ≤ 15
    · refine evp (dt h2) (evs (l1_some a7 0 1000) ?_)
      by_cases h3 : 0 ≤ a7 ∧ a7 ≤ 1000
      · refine evp (dt h3) ?_
        by_cases h4 : (l.length : Int) ≤ 100
        · refine evp h4 ?_
          by_cases h5 : (l.length : Int) = 0
          · refine evp h5 (evc ?_)
            rw [decide_eq_true (show restP a0 a3 a4 a7 l.length from ⟨h1, h2, h3, by unfold bodyP; omega⟩)]
          · refine evn h5 (evs (l12_some a0) (evc ?_))
            rw [← decide_not]
            exact congrArg some (dec_iff ⟨fun h => ⟨h1, h2, h3, by unfold bodyP; omega⟩, fun h => by have := h.2.2.2; unfold bodyP at this; omega⟩)
        · refine evn h4 (evc ?_)
          rw [decide_eq_false (fun h : restP a0 a3 a4 a7 l.length => by have := h.2.2.2; unfold bodyP at this; omega)]
      · refine evn (dnt h3) (evc ?_)
        rw [decide_eq_false (fun h : restP a0 a3 a4 a7 l.length => h3 h.2.2.1)]
    · refine evn (dnt h2) (evc ?_)
      rw [decide_eq_false (fun h : restP a0 a3 a4 a7 l.length => h2 h.2.1)]
  · refine evn (dnt h1) (evc ?_)
    rw [decide_eq_false (fun h : restP a0 a3 a4 a7 l.length => h1 h.1)]
theorem sj0_ev (q : Bool) (hq : (1 ≤ a0 ∧ a0 ≤ 7) → (q = true ↔ toP a0 a1 a2)) : Ev (fun k => spec_IsValidFrame.j0 k q a0 a1 a2 a3 a4 b5 b6 a7 l) (decide (validP a0 a1 a2 a3 a4 a7 l.length)) := by
  refine ev1 (evs (l1_some a0 1 7) ?_)
  by_cases h1 : 1 ≤ a0 ∧ a0 ≤ 7
  · refine evp (dt h1) (evs (l1_some a1 0 15) ?_)
    by_cases h2 : 0 ≤ a1 ∧ a1 ≤ 15
    · refine evp (dt h2) ?_
      have h3 := hq h1
      cases q with
      | true => exact ev_eq (sj1_false a0 a1 a2 a3 a4 b5 b6 a7 l) (dec_iff ⟨fun h => ⟨h1, h2, h3.1 rfl, h⟩, fun h => h.2.2.2⟩)
      | false =>
        rw [decide_eq_false (fun h : validP a0 a1 a2 a3 a4 a7 l.length => by simpa using h3.2 h.2.2.1)]
        exact sj1_true a0 a1 a2 a3 a4 b5 b6 a7 l
    · refine evn (dnt h2) ?_
      rw [decide_eq_false (fun h : validP a0 a1 a2 a3 a4 a7 l.length => h2 h.2.1)]
      exact sj1_true a0 a1 a2 a3 a4 b5 b6 a7 l
  · refine evn (dnt h1) ?_
    rw [decide_eq_false (fun h : validP a0 a1 a2 a3 a4 a7 l.length => h1 h.1)]
    exact sj1_true a0 a1 a2 a3 a4 b5 b6 a7 l
theorem svalidframe_ev : Ev (fun k => spec_IsValidFrame.f k a0 a1 a2 a3 a4 b5 b6 a7 l) (decide (validP a0 a1 a2 a3 a4 a7 l.length)) := by
  unfold spec_IsValidFrame.f
  have hS := sj0_ev a0 a1 a2 a3 a4 b5 b6 a7 l
  have hd : (1 ≤ a0 ∧ a0 ≤ 7) → a2 = 63 → ((!decide (a0 = 2 ∨ a0 = 3 ∨ a0 = 4 ∨ a0 = 7)) = true ↔ toP a0 a1 a2) := by
    intro h1 h2
    rw [← decide_not, decide_eq_true_iff]
    unfold toP
    omega
  refine evs (l1_some a2 0 15) ?_
  by_cases h1 : 0 ≤ a2 ∧ a2 ≤ 15
  · refine evp (dt h1) ?_
    by_cases h2 : a2 = a1
    · refine evp h2 (evn (by omega) (hS false (fun _ => ?_)))
      unfold toP
      simp
      omega
    · refine evn h2 (hS true (fun _ => ?_))
      unfold toP
      simp
      omega
  · refine evn (dnt h1) ?_
    by_cases h2 : a2 = 63
    · exact evp h2 (evs (l12_some a0) (hS _ (fun h => hd h h2)))
    · refine evn h2 (hS false (fun _ => ?_))
      unfold toP
      simp
      omega
end

def needs (a0 a2 : Int) : Bool := (a0 == 1 || a0 == 6) && a2 != 63
theorem needs_some (a0 a1 a2 a3 a4 : Int) (b5 b6 : Bool) (a7 : Int) (l : List Int) : impl_NeedsAck.f a0 a1 a2 a3 a4 b5 b6 a7 l = some (needs a0 a2) := by
  unfold impl_NeedsAck.f needs
  by_cases h1 : a0 = 1
  · simp [h1]
  · by_cases h6 : a0 = 6 <;> simp [h1, h6]
def kindR (a0 a2 : Int) : Int := if needs a0 a2 = true then 2 else if a0 = 3 then 4 else if a0 = 7 then 2 else 0
theorem kind_some (a0 a1 a2 a3 a4 : Int) (b5 b6 : Bool) (a7 : Int) (l : List Int) : impl_ReplyKind.f a0 a1 a2 a3 a4 b5 b6 a7 l = some (kindR a0 a2) := by
  unfold impl_ReplyKind.f kindR
  rw [needs_some]
  simp only [Option.bind_some]
  repeat' split
  all_goals rfl

theorem sneeds_some (a0 a1 a2 a3 a4 : Int) (b5 b6 : Bool) (a7 : Int) (l : List Int) : spec_NeedsAck.f a0 a1 a2 a3 a4 b5 b6 a7 l = some (needs a0 a2) := by
  unfold spec_NeedsAck.f needs
  by_cases h1 : a0 = 1
  · simp [h1]
  · by_cases h6 : a0 = 6 <;> simp [h1, h6]
theorem skind_ev (a0 a1 a2 a3 a4 : Int) (b5 b6 : Bool) (a7 : Int) (l : List Int) : Ev (fun k => spec_ReplyKind.f k a0 a1 a2 a3 a4 b5 b6 a7 l) (kindR a0 a2) := by
  unfold spec_ReplyKind.f
  refine evs (sneeds_some _ _ _ _ _ _ _ _ _) ?_
  unfold kindR
  by_cases h : needs a0 a2 = true
  · rw [if_pos h]
    exact evp h (ev1 (evk fun _ => rfl))
  · rw [if_neg h]
    refine evn h ?_
    have hf : ∀ q : Bool, (a0 == 7) = q → Ev (fun k => spec_ReplyKind.j0 k q a0 a1 a2 a3 a4 b5 b6 a7 l) (if a0 = 3 then 4 else if a0 = 7 then 2 else 0) := by
      intro q hq
      cases q with
      | true =>
        have h7 : a0 = 7 := by simpa using hq
        subst h7
        exact ev1 (evk fun _ => rfl)
      | false =>
        have h7 : a0 ≠ 7 := by simpa using hq
        rw [if_neg h7]
        refine ev1 ?_
        by_cases h3 : a0 = 3
        · rw [if_pos h3]
          exact evp h3 (evc rfl)
        · rw [if_neg h3]
          exact evn h3 (evc rfl)
    exact hf _ rfl

def marksB (s : Int) (n : Nat) : List Int := (List.range n).map fun j : Nat => ((s + (j : Int)) % 256)
theorem marksB_length (s : Int) (n : Nat) : (marksB s n).length = n := by simp [marksB]
theorem marksB_at (s : Int) (n j : Nat) (h : j < n) : (marksB s n).getD j 0 = ((s + (j : Int)) % 256) := by
  simp [marksB, List.getD_eq_getElem?_getD, List.getElem?_map, List.getElem?_range h]
theorem markBytes_loop (n : Nat) (hn : n ≤ 4000000000000000) (s : Int) (h0 : 0 ≤ s) (hs : s ≤ 4000000000000000) : ∀ (d i : Nat) (x : List Int), i + d = n → x.length = n → (∀ j, j < i → x.getD j 0 = ((s + (j : Int)) % 256)) →
    Ev (fun k => laws_markByteS.l0 k x (s + i) i) (s + n, marksB s n) := by
  intro d
  induction d with
  | zero =>
    intro i x hi hl hj
    refine ev1 ?_
    refine evn (by omega) (evc ?_)
    rw [show i = n by omega, list_ext (a := x) (b := marksB s n) (by rw [hl, marksB_length]) (fun j h => by rw [hj j (by omega), marksB_at s n j (by omega)])]
  | succ d ih =>
    intro i x hi hl hj
    refine ev1 ?_
    refine evp (by omega) (evp (by omega) ?_)
    rw [w64s (by omega) (by omega), w64s (by omega) (by omega), Int.toNat_natCast]
    have := ih (i + 1) (x.set i ((s + (i : Int)) % 256)) (by omega) (by simpa using hl) (by
      intro j h
      rw [getD_set]
      by_cases e : i = j
      · subst e
        rw [if_pos ⟨rfl, by omega⟩]
      · rw [if_neg (fun h' => e h'.1)]
        exact hj j (by omega))
    rw [show s + ((i + 1 : Nat) : Int) = s + (i : Int) + 1 by omega] at this
    exact this
theorem markBytes_ev (l : List Int) (hn : l.length ≤ 4000000000000000) (s : Int) (h0 : 0 ≤ s) (hs : s ≤ 4000000000000000) : Ev (fun k => laws_markByteS.f k l s) (s + l.length, marksB s l.length) := by
  have := markBytes_loop l.length hn s h0 hs l.length 0 l (by omega) rfl (by intro j h; omega)
  rw [show s + ((0 : Nat) : Int) = s by omega] at this
  exact this
theorem heldBytes_loop (n : Nat) (hn : n ≤ 4000000000000000) (s : Int) (h0 : 0 ≤ s) (hs : s ≤ 4000000000000000) : ∀ (d i : Nat), i + d = n →
    Ev (fun k => laws_heldByteS.l0 k (marksB s n) (s + i) i) (s + n) := by
  intro d
  induction d with
  | zero =>
    intro i hi
    refine ev1 ?_
    refine evn (by rw [marksB_length]; omega) (evc ?_)
    rw [show i = n by omega]
  | succ d ih =>
    intro i hi
    refine ev1 ?_
    refine evp (by rw [marksB_length]; omega) (evp (by omega) (evp (by rw [rd_nat, marksB_at s n i (by omega)]) ?_))
    rw [w64s (by omega) (by omega), w64s (by omega) (by omega)]
    have := ih (i + 1) (by omega)
    rw [show s + ((i + 1 : Nat) : Int) = s + (i : Int) + 1 by omega] at this
    exact this
theorem heldBytes_ev (n : Nat) (hn : n ≤ 4000000000000000) (s : Int) (h0 : 0 ≤ s) (hs : s ≤ 4000000000000000) : Ev (fun k => laws_heldByteS.f k (marksB s n) s) (s + n) := by
  have := heldBytes_loop n hn s h0 hs n 0 (by omega)
  rw [show s + ((0 : Nat) : Int) = s by omega] at this
  exact this

theorem markMac_ev (a0 a1 a2 a3 a4 : Int) (b5 b6 : Bool) (a7 : Int) (l : List Int) (hn : l.length ≤ 4000000000000000) : Ev (fun k => laws_markMacFrame.f k a0 a1 a2 a3 a4 b5 b6 a7 l 1) (1 + l.length, marksB 1 l.length) := by
  unfold laws_markMacFrame.f
  exact Ev.bind (markBytes_ev l hn 1 (by omega) (by omega)) (evc rfl)
theorem heldMac_ev (a0 a1 a2 a3 a4 : Int) (b5 b6 : Bool) (a7 : Int) (n : Nat) (hn : n ≤ 4000000000000000) : Ev (fun k => laws_heldMacFrame.f k a0 a1 a2 a3 a4 b5 b6 a7 (marksB 1 n) 1) (1 + n) := by
  unfold laws_heldMacFrame.f
  exact Ev.bind (heldBytes_ev n hn 1 (by omega) (by omega)) (evn (by omega) (evc rfl))
theorem max_same (a b : Int) : spec_Max.f a b = some (if b > a then b else a) ∧ impl_Max.f a b = some (if b > a then b else a) := by
  unfold spec_Max.f impl_Max.f
  constructor <;> split <;> rfl
theorem reply_ev (a0 a1 a2 a3 a4 : Int) (b5 b6 : Bool) (a7 : Int) (l : List Int) : ∃ (r0 r1 r2 r3 r4 : Int) (r7 : Int) (rb : Bool),
    Ev (fun k => impl_ReplyTo.f k a0 a1 a2 a3 a4 b5 b6 a7 l) (r0, r1, r2, r3, r4, false, false, r7, [], rb) ∧ Ev (fun k => spec_ReplyTo.f k a0 a1 a2 a3 a4 b5 b6 a7 l) (r0, r1, r2, r3, r4, false, false, r7, [], rb) := by
  have hv := validframe_ev a0 a1 a2 a3 a4 b5 b6 a7 l
  have hs := svalidframe_ev a0 a1 a2 a3 a4 b5 b6 a7 l
  have hk := skind_ev a0 a1 a2 a3 a4 b5 b6 a7 l
  obtain ⟨m1, m2⟩ := max_same 0 (wrap64 (a7 - 1))
  unfold impl_ReplyTo.f spec_ReplyTo.f
  by_cases h : validP a0 a1 a2 a3 a4 a7 l.length
  · rw [decide_eq_true h] at hv hs
    by_cases h0 : kindR a0 a2 = 0
    · exact ⟨0, 0, 0, 0, 0, 0, false, evs (kind_some _ _ _ _ _ _ _ _ _) (Ev.bind hv (evp rfl (evp h0 (evc rfl)))), Ev.bind hk (Ev.bind hs (evp rfl (evp h0 (evc rfl))))⟩
    · exact ⟨_, _, _, _, _, _, true, evs (kind_some _ _ _ _ _ _ _ _ _) (Ev.bind hv (evp rfl (evn h0 (evs m2 (evc rfl))))), Ev.bind hk (Ev.bind hs (evp rfl (evn h0 (evs m1 (evc rfl)))))⟩
  · rw [decide_eq_false h] at hv hs
    exact ⟨0, 0, 0, 0, 0, 0, false, evs (kind_some _ _ _ _ _ _ _ _ _) (Ev.bind hv (evn (by decide) (evc rfl))), Ev.bind hk (Ev.bind hs (evn (by decide) (evc rfl)))⟩
theorem FnExactReplyTo (a0 a1 a2 a3 a4 : Int) (b5 b6 : Bool) (a7 : Int) (l : List Int) (_ : (Lit.int .i64 a0).wf = true) (_ : (Lit.int .i64 a1).wf = true) (_ : (Lit.int .i64 a2).wf = true) (_ : (Lit.int .i64 a3).wf = true) (_ : (Lit.int .i64 a4).wf = true) (_ : (Lit.int .i64 a7).wf = true) (hm : l.length ≤ maxLen) (_ : ∀ x ∈ l, (Lit.int .u8 x).wf = true) :
    ∃ k, laws_FnExactReplyTo.f k a0 a1 a2 a3 a4 b5 b6 a7 l = some true := by
  refine Ev.rounds (r := true) ?_
  unfold laws_FnExactReplyTo.f
  refine evs (szMac_some _ _ _ _ _ _ _ _ _ hm) ?_
  by_cases hn : l.length ≤ 1048576
  · rw [if_pos hn]
    obtain ⟨r0, r1, r2, r3, r4, r7, rb, hi, hs⟩ := reply_ev a0 a1 a2 a3 a4 b5 b6 a7 l
    have ht := toMac_ev a0 a1 a2 a3 a4 b5 b6 a7 l hn
    have he := eqMac_ev r0 r1 r2 r3 r4 false false r7 [] (by simp)
    have hb : (rb != rb) = false := by simp
    have hk := markMac_ev r0 r1 r2 r3 r4 false false r7 [] (by simp)
    have hh := heldMac_ev r0 r1 r2 r3 r4 false false r7 0 (by omega)
    have j2 : Ev (fun k => laws_FnExactReplyTo.j2 k (1 + (([] : List Int).length : Int)) false r0 r1 r2 r3 r4 false false r7 (marksB 1 ([] : List Int).length)) true :=
      ev1 (Ev.bind hh (evn (by decide) (evp rfl (evc rfl))))
    have j1 : Ev (fun k => laws_FnExactReplyTo.j1 k rb false a0 a1 a2 a3 a4 b5 b6 a7 l r0 r1 r2 r3 r4 false false r7 [] r0 r1 r2 r3 r4 false false r7 []) true := by
      refine ev1 (Ev.bind hk (Ev.bind hh (evn (by decide) (evp rfl (Ev.bind ht (Ev.bind hi (Ev.bind he (evp rfl ?_))))))))
      rw [hb]
      exact j2
    have j0 : Ev (fun k => laws_FnExactReplyTo.j0 k rb rb false a0 a1 a2 a3 a4 b5 b6 a7 l r0 r1 r2 r3 r4 false false r7 [] a0 a1 a2 a3 a4 b5 b6 a7 l r0 r1 r2 r3 r4 false false r7 []) true := by
      refine ev1 (Ev.bind ht (Ev.bind (eqMac_ev a0 a1 a2 a3 a4 b5 b6 a7 l hn) (evp rfl (Ev.bind (markMac_ev a0 a1 a2 a3 a4 b5 b6 a7 l (by omega)) (evn (by simp; omega) (Ev.bind he (evp rfl ?_)))))))
      rw [hb]
      exact j1
    refine evn (by omega) (Ev.bind ht (Ev.bind hs (Ev.bind ht (Ev.bind hi (Ev.bind he (evp rfl ?_))))))
    rw [hb]
    exact j0
  · rw [if_neg hn]
    exact evp (by decide) (evc rfl)

end Go.Proofs.Ytmmgjhffjmdhhaa.Pure
