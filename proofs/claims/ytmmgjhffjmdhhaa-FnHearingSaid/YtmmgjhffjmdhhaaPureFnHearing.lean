/-
  Distance is symmetric and keeps the triangle inequality, whoever is received is sensed, and hidden stations do not sense each other, at every drawn placement.
  Conditions: none beyond the given statement's own.
-/
import Derived.Test.YtmmgjhffjmdhhaaPFnHearingxb
import Derived.Test.YtmmgjhffjmdhhaaPFnHearingxc
import Derived.Test.YtmmgjhffjmdhhaaPFnHearingx6
set_option linter.unusedVariables false
set_option linter.unusedSimpArgs false
namespace Go.Proofs.Ytmmgjhffjmdhhaa.Pure
open Go.RowKit Go.Proofs.Ytmmgjhffjmdhhaa.PFnHearing Go.Proofs.YtmmgjhffjmdhhaaW.PrintWords Go.Proofs.YtmmgjhffjmdhhaaW.PrintLast Go.Proofs.YtmmgjhffjmdhhaaW.PrintMore

theorem evp {α : Type} {c : Prop} [Decidable c] {A B : Nat → Option α} {r : α} (hc : c) (h : Ev A r) : Ev (fun k => if c then A k else B k) r :=
  Ev.congr (fun k => if_pos hc) h
theorem evn {α : Type} {c : Prop} [Decidable c] {A B : Nat → Option α} {r : α} (hc : ¬ c) (h : Ev B r) : Ev (fun k => if c then A k else B k) r :=
  Ev.congr (fun k => if_neg hc) h
theorem evs {α β : Type} {g : Option α} {a : α} {f : Nat → α → Option β} {r : β} (hg : g = some a) (h : Ev (fun k => f k a) r) : Ev (fun k => g.bind (f k)) r :=
  Ev.congr (fun k => by rw [hg]; rfl) h
theorem evc {α : Type} {g : Option α} {r : α} (h : g = some r) : Ev (fun _ => g) r := ⟨0, fun _ _ => h⟩
theorem ev_eq {α : Type} {g : Nat → Option α} {r r' : α} (h : Ev g r) (e : r = r') : Ev g r' := e ▸ h
theorem w64 {n : Int} (h0 : -9223372036854775808 ≤ n) (h1 : n ≤ 9223372036854775807) : wrap64 n = n := by
  unfold wrap64
  omega
theorem w64s {n : Int} (h0 : -1000000000000000000 ≤ n) (h1 : n ≤ 1000000000000000000) : wrap64 n = n := w64 (by omega) (by omega)
theorem ev1 {α : Type} {g : Nat → Option α} {r : α} (h : Ev (fun k => g (k + 1)) r) : Ev g r := Ev.step (fun _ => rfl) h
theorem dt {p : Prop} [Decidable p] (h : p) : decide p = true := decide_eq_true h
theorem dnt {p : Prop} [Decidable p] (h : ¬ p) : ¬ (decide p = true) := by simp [h]
theorem ntd {p : Prop} [Decidable p] (h : ¬ p) : (!decide p) = true := by simp [h]
theorem ntt {p : Prop} [Decidable p] (h : p) : ¬ ((!decide p) = true) := by simp [h]
theorem evk {α : Type} {g : Nat → Option α} {r : α} (h : ∀ k, g k = some r) : Ev g r := ⟨0, fun k _ => h k⟩
theorem dec_iff {p q : Prop} [Decidable p] [Decidable q] (h : p ↔ q) : decide p = decide q := by
  by_cases hq : q
  · rw [decide_eq_true hq, decide_eq_true (h.2 hq)]
  · rw [decide_eq_false hq, decide_eq_false (fun hp => hq (h.1 hp))]

def plc (l : List Int) (a : Int) : Prop := 0 ≤ a ∧ a < (l.length : Int)
instance (l : List Int) (a : Int) : Decidable (plc l a) := by unfold plc; infer_instance
def distV (l : List Int) (a b : Int) : Int := wrap64 ((if rd l b > rd l a then rd l b else rd l a) - (if rd l b < rd l a then rd l b else rd l a))
theorem placed_some (l : List Int) (r s a : Int) : impl_isPlaced.f l r s a = some (decide (plc l a)) := by
  unfold impl_isPlaced.f
  by_cases h : a ≥ 0
  · rw [if_pos h]
    exact congrArg some (dec_iff ⟨fun h2 => ⟨h, h2⟩, fun h2 => h2.2⟩)
  · rw [if_neg h, decide_eq_false (fun h2 => h h2.1)]
theorem imax_some (a b : Int) : impl_Max.f a b = some (if b > a then b else a) := by
  unfold impl_Max.f
  split <;> rfl
theorem imin_some (a b : Int) : impl_Min.f a b = some (if b < a then b else a) := by
  unfold impl_Min.f
  split <;> rfl
theorem dist_ev (l : List Int) (r s a b : Int) (ha : plc l a) (hb : plc l b) : Ev (fun k => impl_Distance.f k l r s a b) (distV l a b) := by
  unfold impl_Distance.f
  refine evs (placed_some l r s a) (evp (by simpa using ha) (evs (placed_some l r s b) (ev1 (evn (by simpa using hb) ?_))))
  exact evp ha.1 (evp ha.2 (evp hb.1 (evp hb.2 (evs (imax_some _ _) (evs (imin_some _ _) (evc rfl))))))

def recvV (l : List Int) (m a b : Int) : Bool := decide (a ≠ b) && (decide (plc l a) && (decide (plc l b) && decide (distV l a b ≤ m)))
theorem recv_ev (l : List Int) (r s a b : Int) : Ev (fun k => impl_CanReceive.f k l r s a b) (recvV l r a b) := by
  unfold impl_CanReceive.f recvV
  by_cases h : a = b
  · exact evp h (evc (by simp [h]))
  · refine evn h (evs (placed_some l r s a) ?_)
    by_cases ha : plc l a
    · refine evp (by simpa using ha) (evs (placed_some l r s b) ?_)
      by_cases hb : plc l b
      · exact evp (by simpa using hb) (Ev.bind (dist_ev l r s a b ha hb) (evc (by simp [h, ha, hb])))
      · exact evn (by simpa using hb) (evc (by simp [hb]))
    · exact evn (by simpa using ha) (evc (by simp [ha]))
theorem distV_comm (l : List Int) (a b : Int) : distV l a b = distV l b a := by
  unfold distV
  congr 1
  split <;> split <;> (try split) <;> (try split) <;> omega
theorem recvV_comm (l : List Int) (m a b : Int) : recvV l m a b = recvV l m b a := by
  unfold recvV
  rw [distV_comm l b a]
  by_cases h : a = b
  · simp [h]
  · by_cases ha : plc l a <;> by_cases hb : plc l b <;> simp [h, ha, hb, Ne.symm h, eq_comm]

def senseV (l : List Int) (m a b : Int) : Bool := decide (a ≠ b) && (decide (plc l a) && (decide (plc l b) && decide (distV l a b ≤ m)))
theorem sense_ev (l : List Int) (r s a b : Int) : Ev (fun k => impl_CanSense.f k l r s a b) (senseV l s a b) := by
  unfold impl_CanSense.f senseV
  by_cases h : a = b
  · exact evp h (evc (by simp [h]))
  · refine evn h (evs (placed_some l r s a) ?_)
    by_cases ha : plc l a
    · refine evp (by simpa using ha) (evs (placed_some l r s b) ?_)
      by_cases hb : plc l b
      · exact evp (by simpa using hb) (Ev.bind (dist_ev l r s a b ha hb) (evc (by simp [h, ha, hb])))
      · exact evn (by simpa using hb) (evc (by simp [hb]))
    · exact evn (by simpa using ha) (evc (by simp [ha]))

def hiddenV (l : List Int) (r s a b c : Int) : Bool := decide (a ≠ b) && (recvV l r c a && (recvV l r c b && !(senseV l s a b)))
theorem hidden_ev (l : List Int) (r s a b c : Int) : Ev (fun k => impl_IsHidden.f k l r s a b c) (hiddenV l r s a b c) := by
  unfold impl_IsHidden.f hiddenV
  by_cases h : a = b
  · exact evp h (evc (by simp [h]))
  · refine evn h (Ev.bind (recv_ev l r s c a) ?_)
    cases h1 : recvV l r c a with
    | false => exact evn (by decide) (evc (by simp))
    | true =>
      refine evp rfl (Ev.bind (recv_ev l r s c b) ?_)
      cases h2 : recvV l r c b with
      | false => exact evn (by decide) (evc (by simp))
      | true => exact evp rfl (Ev.bind (sense_ev l r s a b) (evc (by simp [h])))

theorem rd_nat (l : List Int) (i : Nat) : rd l (i : Int) = l.getD i 0 := by
  unfold rd
  rw [Int.toNat_natCast]
theorem rd_mem {l : List Int} {i : Nat} (h : i < l.length) : l.getD i 0 ∈ l := by
  rw [List.getD_eq_getElem?_getD, List.getElem?_eq_getElem h]
  exact List.getElem_mem h
theorem list_ext {a b : List Int} (hl : a.length = b.length) (h : ∀ i, i < a.length → a.getD i 0 = b.getD i 0) : a = b := by
  apply List.ext_getElem hl
  intro i h1 h2
  have := h i h1
  rw [List.getD_eq_getElem?_getD, List.getD_eq_getElem?_getD, List.getElem?_eq_getElem h1, List.getElem?_eq_getElem h2] at this
  simpa using this
theorem getD_set (l : List Int) (i j : Nat) (v : Int) : (l.set i v).getD j 0 = if i = j ∧ j < l.length then v else l.getD j 0 := by
  rw [List.getD_eq_getElem?_getD, List.getElem?_set, List.getD_eq_getElem?_getD]
  by_cases h : i = j
  · subst h
    by_cases h2 : i < l.length
    · simp [h2]
    · simp [h2]
  · simp [h]

theorem and255 (x : Int) : 0 ≤ Go.bits .and .i64 x 255 ∧ Go.bits .and .i64 x 255 ≤ 255 := by
  have h : ∀ n : Nat, n ≤ 255 → IntKind.i64.wrap (n : Int) = n := by
    intro n hn
    rw [IntKind.wrap_i64]
    omega
  have e : Go.bits .and .i64 x 255 = IntKind.i64.wrap ((BitVec.ofInt 64 x &&& BitVec.ofInt 64 255).toNat : Int) := rfl
  have hle : (BitVec.ofInt 64 x &&& BitVec.ofInt 64 255).toNat ≤ 255 := by
    rw [BitVec.toNat_and]
    exact Nat.and_le_right
  rw [e, h _ hle]
  omega
/-- The draw's cursor lies within the code. -/
def Cur (l : List Int) (i : Int) : Prop := 0 ≤ i ∧ i ≤ l.length
theorem new_loop (x : List Int) (hn : x.length ≤ 4000000000000000) : ∀ (d i : Nat) (h : Int), i + d = x.length → ∃ h', Ev (fun k => spec_l1New.l0 k x h i) (x, 0, h') := by
  intro d
  induction d with
  | zero =>
    intro i h hi
    exact ⟨h, ev1 (evn (by omega) (evc rfl))⟩
  | succ d ih =>
    intro i h hi
    by_cases h4 : (i : Int) < 4000
    · obtain ⟨h', hh⟩ := ih (i + 1) (Go.bits .and .i64 (wrap64 ((wrap64 ((wrap64 (h * 137)) + (wrap64 (rd x i)))) + 11)) 1073741823) (by omega)
      refine ⟨h', ev1 (evp (by omega) (evp h4 (evp (by omega) ?_)))⟩
      rw [w64s (n := (i : Int) + 1) (by omega) (by omega)]
      exact hh
    · exact ⟨h, ev1 (evp (by omega) (evn h4 (evc rfl)))⟩
theorem new_ev (l : List Int) (hn : l.length ≤ 4000000000000000) : ∃ h', Ev (fun k => spec_l1New.f k l) (l, 0, h') := by
  unfold spec_l1New.f
  exact new_loop l hn l.length 0 _ (by omega)
theorem byte_some (l : List Int) (hn : l.length ≤ 4000000000000000) (i h : Int) (hc : Cur l i) : ∃ x i' h', spec_l1Byte.f l i h = some (x, i', h') ∧ (0 ≤ x ∧ x ≤ 255) ∧ Cur l i' := by
  unfold spec_l1Byte.f
  unfold Cur at *
  by_cases hi : i < (l.length : Int)
  · rw [if_pos hi, if_pos hc.1]
    refine ⟨_, _, _, rfl, and255 _, ?_⟩
    rw [w64s (n := i + 1) (by omega) (by omega)]
    omega
  · rw [if_neg hi]
    exact ⟨_, _, _, rfl, and255 _, hc⟩
theorem below_some (l : List Int) (hn : l.length ≤ 4000000000000000) (i h : Int) (hc : Cur l i) (n : Int) (h1 : 1 ≤ n) (h2 : n ≤ 1000000000000) : ∃ x i' h', spec_l1Below.f l i h n = some (x, i', h') ∧ (0 ≤ x ∧ x < n) ∧ Cur l i' := by
  unfold spec_l1Below.f
  rw [if_neg (by omega)]
  by_cases h3 : n ≤ 256
  · rw [if_pos h3]
    obtain ⟨x, i', h', e, hx, hc'⟩ := byte_some l hn i h hc
    rw [e]
    simp only [Option.bind_some]
    rw [if_neg (by omega)]
    refine ⟨_, _, _, rfl, ?_, hc'⟩
    rw [Int.tmod_eq_emod_of_nonneg hx.1]
    exact ⟨Int.emod_nonneg _ (by omega), Int.emod_lt_of_pos _ (by omega)⟩
  · rw [if_neg h3]
    obtain ⟨x, i', h', e, hx, hc'⟩ := byte_some l hn i h hc
    rw [e]
    simp only [Option.bind_some]
    obtain ⟨y, i2, h2, e2, hy, hc2⟩ := byte_some l hn i' h' hc'
    rw [e2]
    simp only [Option.bind_some]
    obtain ⟨z, i3, h3, e3, hz, hc3⟩ := byte_some l hn i2 h2 hc2
    rw [e3]
    simp only [Option.bind_some]
    rw [if_neg (by omega)]
    refine ⟨_, _, _, rfl, ?_, hc3⟩
    rw [w64s (n := x * 65536) (by omega) (by omega), w64s (n := y * 256) (by omega) (by omega), w64s (n := x * 65536 + y * 256) (by omega) (by omega), w64s (n := x * 65536 + y * 256 + z) (by omega) (by omega)]
    rw [Int.tmod_eq_emod_of_nonneg (by omega)]
    exact ⟨Int.emod_nonneg _ (by omega), Int.emod_lt_of_pos _ (by omega)⟩

theorem place_loop (L : List Int) (hL : L.length ≤ 4000000000000000) (r s : Int) : ∀ (d : Nat) (p : List Int) (i h : Int), d ≤ 100 → p.length + d ≤ 1000 → (∀ x ∈ p, 0 ≤ x ∧ x ≤ 75) → Cur L i →
    ∃ (q : List Int) (i' h' : Int), Ev (fun k => spec_l13Place.l0 k d L i h p r s) (q, r, s, i', h') ∧ q.length = p.length + d ∧ (∀ x ∈ q, 0 ≤ x ∧ x ≤ 75) ∧ Cur L i' := by
  intro d
  induction d with
  | zero =>
    intro p i h hd hp hx hc
    exact ⟨p, i, h, ev1 (evn (by omega) (evc rfl)), by omega, hx, hc⟩
  | succ d ih =>
    intro p i h hd hp hx hc
    obtain ⟨y, i1, h1, e1, hy, hc1⟩ := below_some L hL i h hc 16 (by omega) (by omega)
    obtain ⟨q, i', h', e, hq, hq2, hc'⟩ := ih (p ++ [5 * y]) i1 h1 (by omega) (by simp; omega) (by
      intro x hx2
      rw [List.mem_append, List.mem_singleton] at hx2
      rcases hx2 with hx2 | rfl
      · exact hx x hx2
      · omega) hc1
    refine ⟨q, i', h', ev1 (evp (by omega) (evs e1 (evp (by omega) ?_))), by rw [hq]; simp; omega, hq2, hc'⟩
    rw [show ((d + 1 : Nat) : Int) - 1 = (d : Int) by omega, w64s (n := (d : Int)) (by omega) (by omega), w64s (n := 5 * y) (by omega) (by omega)]
    exact e
theorem place_ev (L : List Int) (hL : L.length ≤ 4000000000000000) (i h : Int) (hc : Cur L i) : ∃ (p : List Int) (r s i' h' : Int), Ev (fun k => spec_l13Place.f k L i h) (p, r, s, i', h') ∧ (1 ≤ p.length ∧ p.length ≤ 6) ∧ (∀ x ∈ p, 0 ≤ x ∧ x ≤ 75) ∧ (10 ≤ r ∧ r ≤ 30 ∧ r ≤ s ∧ s ≤ 60) ∧ Cur L i' := by
  unfold spec_l13Place.f
  obtain ⟨x, i1, h1, e1, hx, c1⟩ := below_some L hL i h hc 3 (by omega) (by omega)
  obtain ⟨y, i2, h2, e2, hy, c2⟩ := below_some L hL i1 h1 c1 4 (by omega) (by omega)
  obtain ⟨z, i3, h3, e3, hz, c3⟩ := below_some L hL i2 h2 c2 6 (by omega) (by omega)
  obtain ⟨z, rfl⟩ := Int.eq_ofNat_of_zero_le hz.1
  have w1 : wrap64 (10 + wrap64 (10 * x)) = 10 + 10 * x := by rw [w64s (n := 10 * x) (by omega) (by omega), w64s (by omega) (by omega)]
  have w2 : wrap64 (wrap64 (10 + wrap64 (10 * x)) + wrap64 (10 * y)) = 10 + 10 * x + 10 * y := by rw [w1, w64s (n := 10 * y) (by omega) (by omega), w64s (by omega) (by omega)]
  have w3 : wrap64 (1 + (z : Int)) = ((1 + z : Nat) : Int) := by rw [w64s (by omega) (by omega)]; omega
  obtain ⟨q, i', h', e, hq, hq2, hc'⟩ := place_loop L hL (10 + 10 * x) (10 + 10 * x + 10 * y) (1 + z) [] i3 h3 (by omega) (by simp; omega) (by simp) c3
  refine ⟨q, 10 + 10 * x, 10 + 10 * x + 10 * y, i', h', evs e1 (evs e2 (evs e3 ?_)), by simp at hq; omega, hq2, ⟨by omega, by omega, by omega, by omega⟩, hc'⟩
  show Ev (fun k => spec_l13Place.l0 k (wrap64 (1 + (z : Int))) L i3 h3 [] (wrap64 (10 + wrap64 (10 * x))) (wrap64 (wrap64 (10 + wrap64 (10 * x)) + wrap64 (10 * y)))) _
  rw [w3, w2, w1]
  exact e

theorem in_some (x a b : Int) : impl_InRange.f x a b = some (decide (a ≤ x ∧ x ≤ b)) := by
  unfold impl_InRange.f
  by_cases h : a ≤ x <;> simp [h]

theorem senseV_comm (l : List Int) (m a b : Int) : senseV l m a b = senseV l m b a := recvV_comm l m a b
theorem hiddenV_comm (l : List Int) (r s a b c : Int) : hiddenV l r s a b c = hiddenV l r s b a c := by
  unfold hiddenV
  rw [senseV_comm l s b a]
  by_cases h : a = b
  · simp [h]
  · rw [decide_eq_true h, decide_eq_true (Ne.symm h)]
    cases recvV l r c a <;> cases recvV l r c b <;> rfl
theorem pos_at (l : List Int) (h : ∀ x ∈ l, 0 ≤ x ∧ x ≤ 75) (a : Int) (ha : plc l a) : 0 ≤ rd l a ∧ rd l a ≤ 75 := by
  obtain ⟨h0, h1⟩ := ha
  obtain ⟨a, rfl⟩ := Int.eq_ofNat_of_zero_le h0
  rw [rd_nat]
  exact h _ (rd_mem (by omega))
theorem distV_is (l : List Int) (h : ∀ x ∈ l, 0 ≤ x ∧ x ≤ 75) (a b : Int) (ha : plc l a) (hb : plc l b) : distV l a b = if rd l a ≤ rd l b then rd l b - rd l a else rd l a - rd l b := by
  have h1 := pos_at l h a ha
  have h2 := pos_at l h b hb
  unfold distV
  rw [w64s (by split <;> split <;> omega) (by split <;> split <;> omega)]
  split <;> split <;> split <;> omega
theorem vplace_loop (l : List Int) (h : ∀ x ∈ l, 0 ≤ x ∧ x ≤ 75) (hn : l.length ≤ 6) (r s : Int) (hr : 10 ≤ r ∧ r ≤ 30 ∧ r ≤ s ∧ s ≤ 60) : ∀ (d i : Nat), i + d = l.length → Ev (fun k => impl_IsValidPlacement.l0 k l l.length i l r s) true := by
  intro d
  induction d with
  | zero =>
    intro i hi
    refine ev1 (evn (by omega) (evp (by omega) (evp (by omega) (evc ?_))))
    rw [decide_eq_true (by omega)]
  | succ d ih =>
    intro i hi
    have hx := h _ (rd_mem (l := l) (i := i) (by omega))
    refine ev1 (evp (by omega) (evp (by omega) (evp (by omega) (evs (in_some _ _ _) ?_))))
    rw [rd_nat, w64s (n := (i : Int) + 1) (by omega) (by omega)]
    exact evp (dt (by omega)) (ih (i + 1) (by omega))
theorem vplace_ev (l : List Int) (h : ∀ x ∈ l, 0 ≤ x ∧ x ≤ 75) (h1 : 1 ≤ l.length) (hn : l.length ≤ 6) (r s : Int) (hr : 10 ≤ r ∧ r ≤ 30 ∧ r ≤ s ∧ s ≤ 60) : Ev (fun k => impl_IsValidPlacement.f k l r s) true := by
  unfold impl_IsValidPlacement.f
  exact evs (in_some _ _ _) (evp (dt (by omega)) (vplace_loop l h hn r s hr l.length 0 (by omega)))
theorem nb_loop (l : List Int) (hn : l.length ≤ 6) (r s a : Int) : ∀ (d i : Nat) (x : List Int), i + d = l.length → x.length ≤ i → (∀ b : Int, b ∈ x ↔ ((0 ≤ b ∧ b < i) ∧ recvV l r a b = true)) →
    ∃ y : List Int, Ev (fun k => impl_NeighborsOf.l0 k a x l.length i l r s) y ∧ y.length ≤ 6 ∧ (∀ b : Int, b ∈ y ↔ ((0 ≤ b ∧ b < l.length) ∧ recvV l r a b = true)) := by
  intro d
  induction d with
  | zero =>
    intro i x hi hx h
    have e : i = l.length := by omega
    subst e
    exact ⟨x, ev1 (evn (by omega) (evc rfl)), by omega, h⟩
  | succ d ih =>
    intro i x hi hx h
    have hw : wrap64 ((i : Int) + 1) = ((i + 1 : Nat) : Int) := by rw [w64s (by omega) (by omega)]; omega
    cases hq : recvV l r a i with
    | true =>
      obtain ⟨y, h1, h2, h3⟩ := ih (i + 1) (x ++ [(i : Int)]) (by omega) (by simp; omega) (by
        intro b
        rw [List.mem_append, List.mem_singleton, h b]
        constructor
        · rintro (⟨hb, hr⟩ | rfl)
          · exact ⟨by omega, hr⟩
          · exact ⟨by omega, hq⟩
        · rintro ⟨hb, hr⟩
          by_cases e : b = i
          · exact .inr e
          · exact .inl ⟨by omega, hr⟩)
      rw [← hw] at h1
      have hre := recv_ev l r s a i
      rw [hq] at hre
      exact ⟨y, ev1 (evp (by omega) (Ev.bind hre (evp rfl (evp (by omega) h1)))), h2, h3⟩
    | false =>
      obtain ⟨y, h1, h2, h3⟩ := ih (i + 1) x (by omega) (by omega) (by
        intro b
        rw [h b]
        constructor
        · rintro ⟨hb, hr⟩
          exact ⟨by omega, hr⟩
        · rintro ⟨hb, hr⟩
          by_cases e : b = i
          · rw [e, hq] at hr
            exact absurd hr (by decide)
          · exact ⟨by omega, hr⟩)
      rw [← hw] at h1
      have hre := recv_ev l r s a i
      rw [hq] at hre
      exact ⟨y, ev1 (evp (by omega) (Ev.bind hre (evn (by decide) h1))), h2, h3⟩
theorem nb_ev (l : List Int) (hn : l.length ≤ 6) (r s a : Int) : ∃ y : List Int, Ev (fun k => impl_NeighborsOf.f k l r s a) y ∧ y.length ≤ 6 ∧ (∀ b : Int, b ∈ y ↔ ((0 ≤ b ∧ b < l.length) ∧ recvV l r a b = true)) :=
  nb_loop l hn r s a l.length 0 [] (by omega) (by simp) (by intro b; simp; omega)
theorem drop_at (L : List Int) (i : Nat) (h : i < L.length) : L.drop i = L.getD i 0 :: L.drop (i + 1) := by
  rw [List.drop_eq_getElem_cons h]
  congr 1
  simp [List.getD_eq_getElem?_getD, h]
theorem has_loop (l : List Int) (hn : l.length ≤ 6) (b : Int) : ∀ (d i : Nat), i + d = l.length → Ev (fun k => laws_contains.l0 k l b i) (decide (b ∈ l.drop i)) := by
  intro d
  induction d with
  | zero =>
    intro i hi
    rw [List.drop_of_length_le (by omega)]
    exact ev1 (evn (by omega) (evc (by simp)))
  | succ d ih =>
    intro i hi
    refine ev1 (evp (by omega) (evp (by omega) ?_))
    rw [rd_nat, w64s (n := (i : Int) + 1) (by omega) (by omega), drop_at l i (by omega)]
    by_cases e : l.getD i 0 = b
    · exact evp e (evc (by rw [decide_eq_true (by rw [e]; exact List.mem_cons_self)]))
    · refine evn e (ev_eq (ih (i + 1) (by omega)) (dec_iff ⟨fun h => List.mem_cons_of_mem _ h, fun h => ?_⟩))
      rcases List.mem_cons.1 h with h | h
      · exact absurd h.symm e
      · exact h
theorem has_ev (l : List Int) (hn : l.length ≤ 6) (b : Int) : Ev (fun k => laws_contains.f k l b) (decide (b ∈ l)) := has_loop l hn b l.length 0 (by omega)
theorem neq_self (q : Bool) : (q != q) = false := by simp
theorem seen_ev (l : List Int) (hn : l.length ≤ 6) (r s a b : Int) (hb : plc l b) : ∃ y : List Int, Ev (fun k => impl_NeighborsOf.f k l r s a) y ∧ Ev (fun k => laws_contains.f k y b) (recvV l r b a) := by
  obtain ⟨y, h1, h2, h3⟩ := nb_ev l hn r s a
  refine ⟨y, h1, ev_eq (has_ev y h2 b) ?_⟩
  rw [recvV_comm l r b a]
  cases hq : recvV l r a b with
  | true => exact decide_eq_true ((h3 b).2 ⟨hb, hq⟩)
  | false => exact decide_eq_false (fun h => by rw [((h3 b).1 h).2] at hq; exact absurd hq (by decide))
theorem j1a (l : List Int) (r s a c : Int) : Ev (fun k => laws_FnHearing.j1 k a a c false l r s) true := by
  have hid := hidden_ev l r s a a c
  have h0 : hiddenV l r s a a c = false := by unfold hiddenV; simp
  rw [h0] at hid
  exact ev1 (Ev.bind hid (evp rfl (evp rfl (Ev.bind hid (Ev.bind hid (evc rfl))))))
theorem j1b (l : List Int) (r s a b c : Int) (hab : a ≠ b) : Ev (fun k => laws_FnHearing_b.j1 k a b c false l r s) true := by
  have hid := hidden_ev l r s a b c
  have hid2 := hidden_ev l r s b a c
  rw [hiddenV_comm l r s b a c] at hid2
  have r1 := recv_ev l r s a c
  have r2 := recv_ev l r s b c
  have s1 := sense_ev l r s a b
  have hd : hiddenV l r s a b c = (recvV l r a c && (recvV l r b c && !(senseV l s a b))) := by
    unfold hiddenV
    rw [decide_eq_true hab, Bool.true_and, recvV_comm l r c a, recvV_comm l r c b]
  refine ev1 (Ev.bind hid (evn hab (Ev.bind r1 ?_)))
  rw [hd] at hid hid2 ⊢
  generalize recvV l r a c = p at *
  generalize recvV l r b c = q at *
  generalize senseV l s a b = t at *
  cases p with
  | false => exact evn (by decide) (evp rfl (Ev.bind hid (Ev.bind hid2 (evc (by simp)))))
  | true =>
    refine evp rfl (Ev.bind r2 ?_)
    cases q with
    | false => exact evn (by decide) (evp rfl (Ev.bind hid (Ev.bind hid2 (evc (by simp)))))
    | true => exact evp rfl (Ev.bind s1 (evp (by simp) (Ev.bind hid (Ev.bind hid2 (evc (by simp))))))
theorem j1c (l : List Int) (r s a b c : Int) (hab : a ≠ b) : Ev (fun k => laws_FnHearing_c.j1 k a b c false l r s) true := by
  have hid := hidden_ev l r s a b c
  have hid2 := hidden_ev l r s b a c
  rw [hiddenV_comm l r s b a c] at hid2
  have r1 := recv_ev l r s a c
  have r2 := recv_ev l r s b c
  have s1 := sense_ev l r s a b
  have hd : hiddenV l r s a b c = (recvV l r a c && (recvV l r b c && !(senseV l s a b))) := by
    unfold hiddenV
    rw [decide_eq_true hab, Bool.true_and, recvV_comm l r c a, recvV_comm l r c b]
  refine ev1 (Ev.bind hid (evn hab (Ev.bind r1 ?_)))
  rw [hd] at hid hid2 ⊢
  generalize recvV l r a c = p at *
  generalize recvV l r b c = q at *
  generalize senseV l s a b = t at *
  cases p with
  | false => exact evn (by decide) (evp rfl (Ev.bind hid (Ev.bind hid2 (evc (by simp)))))
  | true =>
    refine evp rfl (Ev.bind r2 ?_)
    cases q with
    | false => exact evn (by decide) (evp rfl (Ev.bind hid (Ev.bind hid2 (evc (by simp)))))
    | true => exact evp rfl (Ev.bind s1 (evp (by simp) (Ev.bind hid (Ev.bind hid2 (evc (by simp))))))
theorem FnHearing (L : List Int) (hm : L.length ≤ maxLen) (_ : L.length * 1 ≤ 140737488351232) (_ : ∀ x ∈ L, (Lit.int .u8 x).wf = true) :
    (∃ k, laws_FnHearing.f k L = some true) ∨ (∃ k, laws_FnHearing_b.f k L = some true) ∨ (∃ k, laws_FnHearing_c.f k L = some true) := by
  by_cases hbig : (L.length : Int) > 1048576
  · refine .inl (Ev.rounds (r := true) ?_)
    unfold laws_FnHearing.f
    exact evs (show laws_big.f L = some _ from rfl) (evp (by simpa using hbig) (evc rfl))
  have hnb : ¬ (decide ((L.length : Int) > 1048576) = true) := by simpa using hbig
  obtain ⟨h0, e0⟩ := new_ev L (by omega)
  obtain ⟨l, r, s, i1, h1, e1, hl, hx, hr, c1⟩ := place_ev L (by omega) 0 h0 ⟨by omega, by omega⟩
  obtain ⟨a, i2, h2, e2, ha, c2⟩ := below_some L (by omega) i1 h1 c1 (l.length : Int) (by omega) (by omega)
  obtain ⟨b, i3, h3, e3, hb, c3⟩ := below_some L (by omega) i2 h2 c2 (l.length : Int) (by omega) (by omega)
  obtain ⟨c, i4, h4, e4, hc, c4⟩ := below_some L (by omega) i3 h3 c3 (l.length : Int) (by omega) (by omega)
  have ed : Ev (fun k => spec_DrawPlaced.f k L) (l, r, s, a, b, c) := by
    unfold spec_DrawPlaced.f
    exact Ev.bind e0 (Ev.bind e1 (evs e2 (evs e3 (evs e4 (evc rfl)))))
  have hv := vplace_ev l hx hl.1 hl.2 r s hr
  have dab := dist_ev l r s a b ha hb
  have dba := dist_ev l r s b a hb ha
  rw [distV_comm l b a] at dba
  have dac := dist_ev l r s a c ha hc
  have dbc := dist_ev l r s b c hb hc
  have daa := dist_ev l r s a a ha ha
  have v1 := distV_is l hx a b ha hb
  have v2 := distV_is l hx a c ha hc
  have v3 := distV_is l hx b c hb hc
  have v4 : distV l a a = 0 := by
    rw [distV_is l hx a a ha ha]
    split <;> omega
  rw [v4] at daa
  have pa := pos_at l hx a ha
  have pb := pos_at l hx b hb
  have pc := pos_at l hx c hc
  have tri : ¬ (distV l a c > wrap64 (distV l a b + distV l b c)) := by
    rw [v1, v2, v3, w64s (by split <;> split <;> omega) (by split <;> split <;> omega)]
    split <;> split <;> split <;> omega
  have rab := recv_ev l r s a b
  have rba := recv_ev l r s b a
  obtain ⟨y, hy1, hy2⟩ := seen_ev l hl.2 r s a b hb
  by_cases hab : a = b
  · subst hab
    have hf : recvV l r a a = false := by unfold recvV; simp
    rw [hf] at rab rba hy2
    have hj : Ev (fun k => laws_FnHearing.j0 k a a c false l r s) true :=
      ev1 (Ev.bind rab (evp rfl (evn (by decide) (Ev.bind rab (evn (by decide) (Ev.bind hy1 (Ev.bind hy2 (Ev.bind rba (j1a l r s a c)))))))))
    refine .inl (Ev.rounds (r := true) ?_)
    unfold laws_FnHearing.f
    exact evs (show laws_big.f L = some _ from rfl) (evn hnb (Ev.bind ed (Ev.bind hv (evp rfl (Ev.bind dab (Ev.bind dba (evp rfl (Ev.bind dac (Ev.bind dab (Ev.bind dbc (evn tri (Ev.bind daa hj))))))))))))
  · have hq : recvV l r a b = decide (distV l a b ≤ r) := by
      unfold recvV
      rw [decide_eq_true hab, decide_eq_true (show plc l a from ha), decide_eq_true (show plc l b from hb)]
      rfl
    have hne : ¬ ((recvV l r a b != decide (distV l a b ≤ r)) = true) := by rw [hq]; simp
    cases hrv : recvV l r a b with
    | false =>
      have hj : Ev (fun k => laws_FnHearing_b.j0 k a b c false l r s) true := by
        refine ev1 (Ev.bind rab (evn hab (Ev.bind dab (evn hne (Ev.bind rab (evn (by rw [hrv]; decide) (Ev.bind hy1 (Ev.bind hy2 (Ev.bind rba ?_)))))))))
        rw [neq_self]
        exact j1b l r s a b c hab
      refine .inr (.inl (Ev.rounds (r := true) ?_))
      unfold laws_FnHearing_b.f
      exact evs (show laws_big.f L = some _ from rfl) (evn hnb (Ev.bind ed (Ev.bind hv (evp rfl (Ev.bind dab (Ev.bind dba (evp rfl (Ev.bind dac (Ev.bind dab (Ev.bind dbc (evn tri (Ev.bind daa hj))))))))))))
    | true =>
      have hle : distV l a b ≤ r := by
        rw [hq] at hrv
        exact of_decide_eq_true hrv
      have sab := sense_ev l r s a b
      have hs : senseV l s a b = true := by
        unfold senseV
        rw [decide_eq_true hab, decide_eq_true (show plc l a from ha), decide_eq_true (show plc l b from hb), decide_eq_true (show distV l a b ≤ s by omega)]
        rfl
      rw [hs] at sab
      have hj : Ev (fun k => laws_FnHearing_c.j0 k a b c false l r s) true := by
        refine ev1 (Ev.bind rab (evn hab (Ev.bind dab (evn hne (Ev.bind rab (evp hrv (Ev.bind sab (evp rfl (Ev.bind hy1 (Ev.bind hy2 (Ev.bind rba ?_)))))))))))
        rw [neq_self]
        exact j1c l r s a b c hab
      refine .inr (.inr (Ev.rounds (r := true) ?_))
      unfold laws_FnHearing_c.f
      exact evs (show laws_big.f L = some _ from rfl) (evn hnb (Ev.bind ed (Ev.bind hv (evp rfl (Ev.bind dab (Ev.bind dba (evp rfl (Ev.bind dac (Ev.bind dab (Ev.bind dbc (evn tri (Ev.bind daa hj))))))))))))

end Go.Proofs.Ytmmgjhffjmdhhaa.Pure
