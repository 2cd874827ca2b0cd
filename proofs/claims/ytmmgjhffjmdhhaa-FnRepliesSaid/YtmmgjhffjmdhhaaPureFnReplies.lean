/-
  The answer to a frame is a valid frame that goes back to its sender and calls for no answer of its own, at every drawn frame.
  Conditions: none beyond the given statement's own.
-/
import Derived.Test.YtmmgjhffjmdhhaaPFnRepliesxb
import Derived.Test.YtmmgjhffjmdhhaaPFnRepliesx7
set_option linter.unusedVariables false
set_option linter.unusedSimpArgs false
namespace Go.Proofs.Ytmmgjhffjmdhhaa.Pure
open Go.RowKit Go.Proofs.Ytmmgjhffjmdhhaa.PFnReplies Go.Proofs.YtmmgjhffjmdhhaaW.PrintWords Go.Proofs.YtmmgjhffjmdhhaaW.PrintLast Go.Proofs.YtmmgjhffjmdhhaaW.PrintMore

theorem evp {α : Type} {c : Prop} [Decidable c] {A B : Nat → Option α} {r : α} (hc : c) (h : Ev A r) : Ev (fun k => if c then A k else B k) r :=
  Ev.congr (fun k => if_pos hc) h
theorem evn {α : Type} {c : Prop} [Decidable c] {A B : Nat → Option α} {r : α} (hc : ¬ c) (h : Ev B r) : Ev (fun k => if c then A k else B k) r :=
  Ev.congr (fun k => if_neg hc) h
theorem evs {α β : Type} {g : Option α} {a : α} {f : Nat → α → Option β} {r : β} (hg : g = some a) (h : Ev (fun k => f k a) r) : Ev (fun k => g.bind (f k)) r :=
  Ev.congr (fun k => by rw [hg]; rfl) h
theorem evc {α : Type} {g : Option α} {r : α} (h : g = some r) : Ev (fun _ => g) r := ⟨0, fun _ _ => h⟩
theorem ev_eq {α : Type} {g : Nat → Option α} {r r' : α} (h : Ev g r) (e : r = r') : Ev g r' := e ▸ h
theorem w64 {n : Int} (h0 : -9223372036854775808 ≤ n) (h1 : n ≤ 9223372036854775807) : wrap64 n = n := by
  unfold wrap64
  omega
theorem w64s {n : Int} (h0 : -1000000000000000000 ≤ n) (h1 : n ≤ 1000000000000000000) : wrap64 n = n := w64 (by omega) (by omega)
theorem ev1 {α : Type} {g : Nat → Option α} {r : α} (h : Ev (fun k => g (k + 1)) r) : Ev g r := Ev.step (fun _ => rfl) h
theorem dt {p : Prop} [Decidable p] (h : p) : decide p = true := decide_eq_true h
theorem dnt {p : Prop} [Decidable p] (h : ¬ p) : ¬ (decide p = true) := by simp [h]
theorem ntd {p : Prop} [Decidable p] (h : ¬ p) : (!decide p) = true := by simp [h]
theorem ntt {p : Prop} [Decidable p] (h : p) : ¬ ((!decide p) = true) := by simp [h]
theorem evk {α : Type} {g : Nat → Option α} {r : α} (h : ∀ k, g k = some r) : Ev g r := ⟨0, fun k _ => h k⟩
theorem dec_iff {p q : Prop} [Decidable p] [Decidable q] (h : p ↔ q) : decide p = decide q := by
  by_cases hq : q
  · rw [decide_eq_true hq, decide_eq_true (h.2 hq)]
  · rw [decide_eq_false hq, decide_eq_false (fun hp => hq (h.1 hp))]

theorem rd_nat (l : List Int) (i : Nat) : rd l (i : Int) = l.getD i 0 := by
  unfold rd
  rw [Int.toNat_natCast]
theorem rd_mem {l : List Int} {i : Nat} (h : i < l.length) : l.getD i 0 ∈ l := by
  rw [List.getD_eq_getElem?_getD, List.getElem?_eq_getElem h]
  exact List.getElem_mem h
theorem list_ext {a b : List Int} (hl : a.length = b.length) (h : ∀ i, i < a.length → a.getD i 0 = b.getD i 0) : a = b := by
  apply List.ext_getElem hl
  intro i h1 h2
  have := h i h1
  rw [List.getD_eq_getElem?_getD, List.getD_eq_getElem?_getD, List.getElem?_eq_getElem h1, List.getElem?_eq_getElem h2] at this
  simpa using this
theorem getD_set (l : List Int) (i j : Nat) (v : Int) : (l.set i v).getD j 0 = if i = j ∧ j < l.length then v else l.getD j 0 := by
  rw [List.getD_eq_getElem?_getD, List.getElem?_set, List.getD_eq_getElem?_getD]
  by_cases h : i = j
  · subst h
    by_cases h2 : i < l.length
    · simp [h2]
    · simp [h2]
  · simp [h]

theorem and255 (x : Int) : 0 ≤ Go.bits .and .i64 x 255 ∧ Go.bits .and .i64 x 255 ≤ 255 := by
  have h : ∀ n : Nat, n ≤ 255 → IntKind.i64.wrap (n : Int) = n := by
    intro n hn
    rw [IntKind.wrap_i64]
    omega
  have e : Go.bits .and .i64 x 255 = IntKind.i64.wrap ((BitVec.ofInt 64 x &&& BitVec.ofInt 64 255).toNat : Int) := rfl
  have hle : (BitVec.ofInt 64 x &&& BitVec.ofInt 64 255).toNat ≤ 255 := by
    rw [BitVec.toNat_and]
    exact Nat.and_le_right
  rw [e, h _ hle]
  omega
/-- The draw's cursor lies within the code. -/
def Cur (l : List Int) (i : Int) : Prop := 0 ≤ i ∧ i ≤ l.length
theorem new_loop (x : List Int) (hn : x.length ≤ 4000000000000000) : ∀ (d i : Nat) (h : Int), i + d = x.length → ∃ h', Ev (fun k => spec_l1New.l0 k x h i) (x, 0, h') := by
  intro d
  induction d with
  | zero =>
    intro i h hi
    exact ⟨h, ev1 (evn (by omega) (evc rfl))⟩
  | succ d ih =>
    intro i h hi
    by_cases h4 : (i : Int) < 4000
    · obtain ⟨h', hh⟩ := ih (i + 1) (Go.bits .and .i64 (wrap64 ((wrap64 ((wrap64 (h * 137)) + (wrap64 (rd x i)))) + 11)) 1073741823) (by omega)
      refine ⟨h', ev1 (evp (by omega) (evp h4 (evp (by omega) ?_)))⟩
      rw [w64s (n := (i : Int) + 1) (by omega) (by omega)]
      exact hh
    · exact ⟨h, ev1 (evp (by omega) (evn h4 (evc rfl)))⟩
theorem new_ev (l : List Int) (hn : l.length ≤ 4000000000000000) : ∃ h', Ev (fun k => spec_l1New.f k l) (l, 0, h') := by
  unfold spec_l1New.f
  exact new_loop l hn l.length 0 _ (by omega)
theorem byte_some (l : List Int) (hn : l.length ≤ 4000000000000000) (i h : Int) (hc : Cur l i) : ∃ x i' h', spec_l1Byte.f l i h = some (x, i', h') ∧ (0 ≤ x ∧ x ≤ 255) ∧ Cur l i' := by
  unfold spec_l1Byte.f
  unfold Cur at *
  by_cases hi : i < (l.length : Int)
  · rw [if_pos hi, if_pos hc.1]
    refine ⟨_, _, _, rfl, and255 _, ?_⟩
    rw [w64s (n := i + 1) (by omega) (by omega)]
    omega
  · rw [if_neg hi]
    exact ⟨_, _, _, rfl, and255 _, hc⟩
theorem below_some (l : List Int) (hn : l.length ≤ 4000000000000000) (i h : Int) (hc : Cur l i) (n : Int) (h1 : 1 ≤ n) (h2 : n ≤ 1000000000000) : ∃ x i' h', spec_l1Below.f l i h n = some (x, i', h') ∧ (0 ≤ x ∧ x < n) ∧ Cur l i' := by
  unfold spec_l1Below.f
  rw [if_neg (by omega)]
  by_cases h3 : n ≤ 256
  · rw [if_pos h3]
    obtain ⟨x, i', h', e, hx, hc'⟩ := byte_some l hn i h hc
    rw [e]
    simp only [Option.bind_some]
    rw [if_neg (by omega)]
    refine ⟨_, _, _, rfl, ?_, hc'⟩
    rw [Int.tmod_eq_emod_of_nonneg hx.1]
    exact ⟨Int.emod_nonneg _ (by omega), Int.emod_lt_of_pos _ (by omega)⟩
  · rw [if_neg h3]
    obtain ⟨x, i', h', e, hx, hc'⟩ := byte_some l hn i h hc
    rw [e]
    simp only [Option.bind_some]
    obtain ⟨y, i2, h2, e2, hy, hc2⟩ := byte_some l hn i' h' hc'
    rw [e2]
    simp only [Option.bind_some]
    obtain ⟨z, i3, h3, e3, hz, hc3⟩ := byte_some l hn i2 h2 hc2
    rw [e3]
    simp only [Option.bind_some]
    rw [if_neg (by omega)]
    refine ⟨_, _, _, rfl, ?_, hc3⟩
    rw [w64s (n := x * 65536) (by omega) (by omega), w64s (n := y * 256) (by omega) (by omega), w64s (n := x * 65536 + y * 256) (by omega) (by omega), w64s (n := x * 65536 + y * 256 + z) (by omega) (by omega)]
    rw [Int.tmod_eq_emod_of_nonneg (by omega)]
    exact ⟨Int.emod_nonneg _ (by omega), Int.emod_lt_of_pos _ (by omega)⟩

theorem int_some (l : List Int) (hn : l.length ≤ 4000000000000000) (i h : Int) (hc : Cur l i) (ls : List Int) (h1 : 1 ≤ ls.length) (h2 : ls.length ≤ 1000) : ∃ x i' h', spec_l1Int.f l i h ls = some (x, i', h') ∧ x ∈ ls ∧ Cur l i' := by
  unfold spec_l1Int.f
  obtain ⟨x, i', h', e, hx, hc'⟩ := below_some l hn i h hc (ls.length : Int) (by omega) (by omega)
  rw [e]
  simp only [Option.bind_some]
  rw [if_pos hx.1, if_pos hx.2]
  obtain ⟨j, rfl⟩ := Int.eq_ofNat_of_zero_le hx.1
  refine ⟨_, _, _, rfl, ?_, hc'⟩
  rw [rd_nat]
  exact rd_mem (by omega)

theorem once_some (l : List Int) (hn : l.length ≤ 4000000000000000) (i h : Int) (hc : Cur l i) (n : Int) (h1 : 1 ≤ n) (h2 : n ≤ 256) : ∃ (b : Bool) (i' h' : Int), spec_l1Once.f l i h n = some (b, i', h') ∧ Cur l i' := by
  unfold spec_l1Once.f
  obtain ⟨x, i', h', e, hx, hc'⟩ := below_some l hn i h hc n h1 (by omega)
  rw [e]
  exact ⟨_, _, _, rfl, hc'⟩

theorem drawbytes_loop (L : List Int) (hL : L.length ≤ 4000000000000000) : ∀ (d n : Nat) (x : List Int) (j : Nat) (i h : Int), j + d = n → n ≤ 1000 → x.length ≤ j → (∀ b ∈ x, 0 ≤ b ∧ b ≤ 255) → Cur L i →
    ∃ (r : List Int) (i' h' : Int), Ev (fun k => spec_l1Bytes.l0 k n x j L i h) (r, i', h') ∧ (∀ b ∈ r, 0 ≤ b ∧ b ≤ 255) ∧ r.length ≤ n ∧ Cur L i' := by
  intro d
  induction d with
  | zero =>
    intro n x j i h hj hn hx hb hc
    exact ⟨x, i, h, ev1 (evn (by omega) (evc rfl)), hb, by omega, hc⟩
  | succ d ih =>
    intro n x j i h hj hn hx hb hc
    obtain ⟨b, i1, h1, e1, hb1, hc1⟩ := byte_some L hL i h hc
    obtain ⟨r, i', h', e, hr, hr2, hc'⟩ := ih n (x ++ [b % 256]) (j + 1) i1 h1 (by omega) hn (by simp; omega) (by
      intro y hy
      rw [List.mem_append, List.mem_singleton] at hy
      rcases hy with hy | rfl
      · exact hb y hy
      · omega) hc1
    refine ⟨r, i', h', ev1 (evp (by omega) (evs e1 (evp (by omega) ?_))), hr, hr2, hc'⟩
    rw [w64s (n := (j : Int) + 1) (by omega) (by omega)]
    exact e
theorem l12empty_some (a : Int) : ∃ q : Bool, spec_l12Empty.f a = some q := by
  unfold spec_l12Empty.f
  repeat' split
  all_goals exact ⟨_, rfl⟩
theorem l12frame_ev (L : List Int) (hL : L.length ≤ 4000000000000000) (i h : Int) (hc : Cur L i) : ∃ (a0 a1 a2 a3 a4 : Int) (b5 b6 : Bool) (a7 : Int) (l : List Int) (i' h' : Int),
    Ev (fun k => spec_l12Frame.f k L i h) (a0, a1, a2, a3, a4, b5, b6, a7, l, i', h') ∧ (∀ b ∈ l, 0 ≤ b ∧ b ≤ 255) ∧ l.length ≤ 1000 ∧ Cur L i' := by
  unfold spec_l12Frame.f
  obtain ⟨x0, i0, h0, e0, r0, c0⟩ := below_some L hL i h hc 7 (by omega) (by omega)
  obtain ⟨x1, i1, h1, e1, r1, c1⟩ := below_some L hL i0 h0 c0 4 (by omega) (by omega)
  obtain ⟨x2, i2, h2, e2, r2, c2⟩ := below_some L hL i1 h1 c1 3 (by omega) (by omega)
  obtain ⟨x3, i3, h3, e3, r3, c3⟩ := below_some L hL i2 h2 c2 20 (by omega) (by omega)
  obtain ⟨x4, i4, h4, e4, r4, c4⟩ := below_some L hL i3 h3 c3 3 (by omega) (by omega)
  obtain ⟨x5, i5, h5, e5, c5⟩ := once_some L hL i4 h4 c4 3 (by omega) (by omega)
  obtain ⟨x6, i6, h6, e6, c6⟩ := once_some L hL i5 h5 c5 3 (by omega) (by omega)
  obtain ⟨x7, i7, h7, e7, r7, c7⟩ := below_some L hL i6 h6 c6 9 (by omega) (by omega)
  obtain ⟨q, eq⟩ := l12empty_some (wrap64 (1 + x0))
  cases q with
  | true => exact ⟨_, _, _, _, _, _, _, _, _, _, _, evs e0 (evs e1 (evs e2 (evs e3 (evs e4 (evs e5 (evs e6 (evs e7 (evs eq (evp rfl (evc rfl)))))))))), by simp, by simp, c7⟩
  | false =>
    obtain ⟨x8, i8, h8, e8, r8, c8⟩ := below_some L hL i7 h7 c7 6 (by omega) (by omega)
    obtain ⟨n, rfl⟩ := Int.eq_ofNat_of_zero_le r8.1
    obtain ⟨l, i9, h9, e9, hl, hl2, c9⟩ := drawbytes_loop L hL n n [] 0 i8 h8 (by omega) (by omega) (by simp) (by simp) c8
    obtain ⟨x10, i10, h10, e10, c10⟩ := once_some L hL i9 h9 c9 4 (by omega) (by omega)
    cases x10 with
    | true => exact ⟨_, _, _, _, _, _, _, _, _, _, _, evs e0 (evs e1 (evs e2 (evs e3 (evs e4 (evs e5 (evs e6 (evs e7 (evs eq (evn (by simp) (evs e8 (Ev.bind e9 (evs e10 (evp rfl (evc rfl)))))))))))))), hl, (by dsimp only; omega), c10⟩
    | false => exact ⟨_, _, _, _, _, _, _, _, _, _, _, evs e0 (evs e1 (evs e2 (evs e3 (evs e4 (evs e5 (evs e6 (evs e7 (evs eq (evn (by simp) (evs e8 (Ev.bind e9 (evs e10 (evn (by simp) (evc rfl)))))))))))))), hl, (by dsimp only; omega), c10⟩
theorem l12any_ev (L : List Int) (hL : L.length ≤ 4000000000000000) (i h : Int) (hc : Cur L i) : ∃ (a0 a1 a2 a3 a4 : Int) (b5 b6 : Bool) (a7 : Int) (l : List Int) (i' h' : Int),
    Ev (fun k => spec_l12Any.f k L i h) (a0, a1, a2, a3, a4, b5, b6, a7, l, i', h') ∧ (∀ b ∈ l, 0 ≤ b ∧ b ≤ 255) ∧ l.length ≤ 1000 ∧ Cur L i' := by
  unfold spec_l12Any.f
  obtain ⟨a0, a1, a2, a3, a4, b5, b6, a7, l, i0, h0, e0, hl, hl2, c0⟩ := l12frame_ev L hL i h hc
  obtain ⟨x, i1, h1, e1, r1, c1⟩ := below_some L hL i0 h0 c0 12 (by omega) (by omega)
  by_cases q0 : x = 0
  · obtain ⟨v, i2, h2, e2, hv, c2⟩ := int_some L hL i1 h1 c1 [0, 8] (by decide) (by decide)
    exact ⟨_, _, _, _, _, _, _, _, _, _, _, Ev.bind e0 (evs e1 (evp q0 (evs e2 (evc rfl)))), hl, hl2, c2⟩
  by_cases q1 : x = 1
  · obtain ⟨v, i2, h2, e2, hv, c2⟩ := int_some L hL i1 h1 c1 [(-1), 15, 16, a2] (by simp) (by simp)
    exact ⟨_, _, _, _, _, _, _, _, _, _, _, Ev.bind e0 (evs e1 (evn q0 (evp q1 (evs e2 (evc rfl))))), hl, hl2, c2⟩
  by_cases q2 : x = 2
  · obtain ⟨v, i2, h2, e2, hv, c2⟩ := int_some L hL i1 h1 c1 [(-1), 15, 16, 63] (by decide) (by decide)
    exact ⟨_, _, _, _, _, _, _, _, _, _, _, Ev.bind e0 (evs e1 (evn q0 (evn q1 (evp q2 (evs e2 (evc rfl)))))), hl, hl2, c2⟩
  by_cases q3 : x = 3
  · obtain ⟨v, i2, h2, e2, hv, c2⟩ := int_some L hL i1 h1 c1 [(-1), 4095, 4096] (by decide) (by decide)
    exact ⟨_, _, _, _, _, _, _, _, _, _, _, Ev.bind e0 (evs e1 (evn q0 (evn q1 (evn q2 (evp q3 (evs e2 (evc rfl))))))), hl, hl2, c2⟩
  by_cases q4 : x = 4
  · obtain ⟨v, i2, h2, e2, hv, c2⟩ := int_some L hL i1 h1 c1 [(-1), 15, 16] (by decide) (by decide)
    exact ⟨_, _, _, _, _, _, _, _, _, _, _, Ev.bind e0 (evs e1 (evn q0 (evn q1 (evn q2 (evn q3 (evp q4 (evs e2 (evc rfl)))))))), hl, hl2, c2⟩
  by_cases q5 : x = 5
  · obtain ⟨v, i2, h2, e2, hv, c2⟩ := int_some L hL i1 h1 c1 [(-1), 1000, 1001] (by decide) (by decide)
    exact ⟨_, _, _, _, _, _, _, _, _, _, _, Ev.bind e0 (evs e1 (evn q0 (evn q1 (evn q2 (evn q3 (evn q4 (evp q5 (evs e2 (evc rfl))))))))), hl, hl2, c2⟩
  by_cases q6 : x = 6
  · obtain ⟨v, i2, h2, e2, hv, c2⟩ := below_some L hL i1 h1 c1 2 (by omega) (by omega)
    have hw : wrap64 (100 + v) = 100 + v := w64s (by omega) (by omega)
    refine ⟨_, _, _, _, _, _, _, _, List.replicate (wrap64 (100 + v)).toNat 0, _, _, Ev.bind e0 (evs e1 (evn q0 (evn q1 (evn q2 (evn q3 (evn q4 (evn q5 (evp q6 (evs e2 (evp (by dsimp only; omega) (evp (by dsimp only; omega) (evc rfl)))))))))))), ?_, ?_, c2⟩
    · intro b hb
      rw [List.mem_replicate] at hb
      omega
    · rw [hw, List.length_replicate]
      omega
  exact ⟨_, _, _, _, _, _, _, _, _, _, _, Ev.bind e0 (evs e1 (evn q0 (evn q1 (evn q2 (evn q3 (evn q4 (evn q5 (evn q6 (evc rfl))))))))), hl, hl2, c1⟩

theorem in_some (x a b : Int) : impl_InRange.f x a b = some (decide (a ≤ x ∧ x ≤ b)) := by
  unfold impl_InRange.f
  by_cases h : a ≤ x <;> simp [h]

def bodyP (k n : Int) : Prop := ((k = 2 ∨ k = 3 ∨ k = 4 ∨ k = 7) ∧ n = 0) ∨ (¬ (k = 2 ∨ k = 3 ∨ k = 4 ∨ k = 7) ∧ n ≤ 100)
instance (k n : Int) : Decidable (bodyP k n) := by unfold bodyP; infer_instance
def toP (k f t : Int) : Prop := (t = 63 ∧ (k = 1 ∨ k = 5 ∨ k = 6)) ∨ (t ≠ 63 ∧ (0 ≤ t ∧ t ≤ 15) ∧ t ≠ f)
instance (k f t : Int) : Decidable (toP k f t) := by unfold toP; infer_instance
def restP (k s g d n : Int) : Prop := (0 ≤ s ∧ s ≤ 4095) ∧ (0 ≤ g ∧ g ≤ 15) ∧ (0 ≤ d ∧ d ≤ 1000) ∧ bodyP k n
instance (k s g d n : Int) : Decidable (restP k s g d n) := by unfold restP; infer_instance
def validP (k f t s g d n : Int) : Prop := (1 ≤ k ∧ k ≤ 7) ∧ (0 ≤ f ∧ f ≤ 15) ∧ toP k f t ∧ restP k s g d n
instance (k f t s g d n : Int) : Decidable (validP k f t s g d n) := by unfold validP; infer_instance
section
variable (a0 a1 a2 a3 a4 : Int) (b5 b6 : Bool) (a7 : Int) (l : List Int)
theorem vj1_true : Ev (fun k => impl_IsValidFrame.j1 k true a0 a1 a2 a3 a4 b5 b6 a7 l) false := ev1 (evk fun _ => rfl)
theorem vj1_false : Ev (fun k => impl_IsValidFrame.j1 k false a0 a1 a2 a3 a4 b5 b6 a7 l) (decide (bodyP a0 l.length)) := by
  refine ev1 ?_
  have he : ∀ h : a0 = 2 ∨ a0 = 3 ∨ a0 = 4 ∨ a0 = 7, some ((l.length : Int) == 0) = some (decide (bodyP a0 l.length)) := by
    intro h
    have e : ((l.length : Int) == 0) = decide ((l.length : Int) = 0) := rfl
    rw [e]
    exact congrArg some (dec_iff (by unfold bodyP; omega))
  by_cases h2 : a0 = 2
  · exact evp h2 (evc (he (by omega)))
  refine evn h2 ?_
  by_cases h3 : a0 = 3
  · exact evp h3 (evc (he (by omega)))
  refine evn h3 ?_
  by_cases h4 : a0 = 4
  · exact evp h4 (evc (he (by omega)))
  refine evn h4 ?_
  by_cases h7 : a0 = 7
  · exact evp h7 (evc (he (by omega)))
  refine evn h7 (evc ?_)
  exact congrArg some (dec_iff (by unfold bodyP; omega))
theorem vj0_true : Ev (fun k => impl_IsValidFrame.j0 k true a0 a1 a2 a3 a4 b5 b6 a7 l) false := ev1 (evk fun _ => rfl)
theorem vj0_false : Ev (fun k => impl_IsValidFrame.j0 k false a0 a1 a2 a3 a4 b5 b6 a7 l) (decide (restP a0 a3 a4 a7 l.length)) := by
  refine ev1 (evs (in_some a3 0 4095) ?_)
  by_cases h1 : 0 ≤ a3 ∧ a3 ≤ 4095
  · refine evp (dt h1) (evs (in_some a4 0 15) ?_)
    by_cases h2 : 0 ≤ a4 ∧ a4 ≤ 15
    · refine evp (dt h2) (evs (in_some a7 0 1000) ?_)
      by_cases h3 : 0 ≤ a7 ∧ a7 ≤ 1000
      · rw [decide_eq_true h3]
        refine ev_eq (vj1_false a0 a1 a2 a3 a4 b5 b6 a7 l) (dec_iff ⟨fun h => ⟨h1, h2, h3, h⟩, fun h => h.2.2.2⟩)
      · rw [decide_eq_false h3, decide_eq_false (fun h : restP a0 a3 a4 a7 l.length => h3 h.2.2.1)]
        exact vj1_true a0 a1 a2 a3 a4 b5 b6 a7 l
    · refine evn (dnt h2) ?_
      rw [decide_eq_false (fun h : restP a0 a3 a4 a7 l.length => h2 h.2.1)]
      exact vj1_true a0 a1 a2 a3 a4 b5 b6 a7 l
  · refine evn (dnt h1) ?_
    rw [decide_eq_false (fun h : restP a0 a3 a4 a7 l.length => h1 h.1)]
    exact vj1_true a0 a1 a2 a3 a4 b5 b6 a7 l
theorem station_some (a : Int) : impl_isStation.f a = some (decide (0 ≤ a ∧ a ≤ 15)) := by
  unfold impl_isStation.f
  rw [in_some]
  rfl
theorem receiver_some : impl_isValidReceiver.f a0 a1 a2 a3 a4 b5 b6 a7 l = some (decide (toP a0 a1 a2)) := by
  unfold impl_isValidReceiver.f
  by_cases h : a2 = 63
  · rw [if_pos h]
    by_cases h1 : a0 = 1
    · rw [if_pos h1, decide_eq_true (by unfold toP; omega)]
    rw [if_neg h1]
    by_cases h5 : a0 = 5
    · rw [if_pos h5, decide_eq_true (by unfold toP; omega)]
    rw [if_neg h5]
    have e : (a0 == 6) = decide (a0 = 6) := rfl
    rw [e]
    exact congrArg some (dec_iff (by unfold toP; omega))
  · rw [if_neg h, station_some]
    simp only [Option.bind_some]
    by_cases h1 : 0 ≤ a2 ∧ a2 ≤ 15
    · rw [if_pos (dt h1)]
      have e : (a2 != a1) = decide (a2 ≠ a1) := by
        by_cases h2 : a2 = a1 <;> simp [h2]
      rw [e]
      exact congrArg some (dec_iff (by unfold toP; omega))
    · rw [if_neg (dnt h1), decide_eq_false (by unfold toP; omega)]
theorem validframe_ev : Ev (fun k => impl_IsValidFrame.f k a0 a1 a2 a3 a4 b5 b6 a7 l) (decide (validP a0 a1 a2 a3 a4 a7 l.length)) := by
  unfold impl_IsValidFrame.f
  refine evs (in_some a0 1 7) ?_
  by_cases h1 : 1 ≤ a0 ∧ a0 ≤ 7
  · refine evp (dt h1) (evs (station_some a1) ?_)
    by_cases h2 : 0 ≤ a1 ∧ a1 ≤ 15
    · refine evp (dt h2) (evs (receiver_some a0 a1 a2 a3 a4 b5 b6 a7 l) ?_)
      by_cases h3 : toP a0 a1 a2
      · rw [decide_eq_true h3]
        exact ev_eq (vj0_false a0 a1 a2 a3 a4 b5 b6 a7 l) (dec_iff ⟨fun h => ⟨h1, h2, h3, h⟩, fun h => h.2.2.2⟩)
      · rw [decide_eq_false h3, decide_eq_false (fun h : validP a0 a1 a2 a3 a4 a7 l.length => h3 h.2.2.1)]
        exact vj0_true a0 a1 a2 a3 a4 b5 b6 a7 l
    · refine evn (dnt h2) ?_
      rw [decide_eq_false (fun h : validP a0 a1 a2 a3 a4 a7 l.length => h2 h.2.1)]
      exact vj0_true a0 a1 a2 a3 a4 b5 b6 a7 l
  · refine evn (dnt h1) ?_
    rw [decide_eq_false (fun h : validP a0 a1 a2 a3 a4 a7 l.length => h1 h.1)]
    exact vj0_true a0 a1 a2 a3 a4 b5 b6 a7 l
end

theorem l1_some (x a b : Int) : spec_l1In.f x a b = some (decide (a ≤ x ∧ x ≤ b)) := by
  unfold spec_l1In.f
  by_cases h : a ≤ x <;> simp [h]

section
variable (a0 a1 a2 a3 a4 : Int) (b5 b6 : Bool) (a7 : Int) (l : List Int)
theorem l12_some (a : Int) : spec_l12Empty.f a = some (decide (a = 2 ∨ a = 3 ∨ a = 4 ∨ a = 7)) := by
  unfold spec_l12Empty.f
  by_cases h2 : a = 2
  · rw [if_pos h2, decide_eq_true (by omega)]
  rw [if_neg h2]
  by_cases h3 : a = 3
  · rw [if_pos h3, decide_eq_true (by omega)]
  rw [if_neg h3]
  by_cases h4 : a = 4
  · rw [if_pos h4, decide_eq_true (by omega)]
  rw [if_neg h4]
  have e : (a == 7) = decide (a = 7) := rfl
  rw [e]
  exact congrArg some (dec_iff (by omega))
theorem sj1_true : Ev (fun k => spec_IsValidFrame.j1 k true a0 a1 a2 a3 a4 b5 b6 a7 l) false := ev1 (evk fun _ => rfl)
theorem sj1_false : Ev (fun k => spec_IsValidFrame.j1 k false a0 a1 a2 a3 a4 b5 b6 a7 l) (decide (restP a0 a3 a4 a7 l.length)) := by
  refine ev1 (evs (l1_some a3 0 4095) ?_)
  by_cases h1 : 0 ≤ a3 ∧ a3 ≤ 4095
  · refine evp (dt h1) (evs (l1_some a4 0 15) ?_)
    by_cases h2 : 0 ≤ a4 ∧ a4 ≤ 15
    · refine evp (dt h2) (evs (l1_some a7 0 1000) ?_)
      by_cases h3 : 0 ≤ a7 ∧ a7 ≤ 1000
      · refine evp (dt h3) ?_
        by_cases h4 : (l.length : Int) ≤ 100
        · refine evp h4 ?_
          by_cases h5 : (l.length : Int) = 0
          · refine evp h5 (evc ?_)
            rw [decide_eq_true (show restP a0 a3 a4 a7 l.length from ⟨h1, h2, h3, by unfold bodyP; omega⟩)]
          · refine evn h5 (evs (l12_some a0) (evc ?_))
            rw [← decide_not]
            exact congrArg some (dec_iff ⟨fun h => ⟨h1, h2, h3, by unfold bodyP; omega⟩, fun h => by have := h.2.2.2; unfold bodyP at this; omega⟩)
        · refine evn h4 (evc ?_)
          rw [decide_eq_false (fun h : restP a0 a3 a4 a7 l.length => by have := h.2.2.2; unfold bodyP at this; omega)]
      · refine evn (dnt h3) (evc ?_)
        rw [decide_eq_false (fun h : restP a0 a3 a4 a7 l.length => h3 h.2.2.1)]
    · refine evn (dnt h2) (evc ?_)
      rw [decide_eq_false (fun h : restP a0 a3 a4 a7 l.length => h2 h.2.1)]
  · refine evn (dnt h1) (evc ?_)
    rw [decide_eq_false (fun h : restP a0 a3 a4 a7 l.length => h1 h.1)]
theorem sj0_ev (q : Bool) (hq : (1 ≤ a0 ∧ a0 ≤ 7) → (q = true ↔ toP a0 a1 a2)) : Ev (fun k => spec_IsValidFrame.j0 k q a0 a1 a2 a3 a4 b5 b6 a7 l) (decide (validP a0 a1 a2 a3 a4 a7 l.length)) := by
  refine ev1 (evs (l1_some a0 1 7) ?_)
  by_cases h1 : 1 ≤ a0 ∧ a0 ≤ 7
  · refine evp (dt h1) (evs (l1_some a1 0 15) ?_)
    by_cases h2 : 0 ≤ a1 ∧ a1 ≤ 15
    · refine evp (dt h2) ?_
      have h3 := hq h1
      cases q with
      | true => exact ev_eq (sj1_false a0 a1 a2 a3 a4 b5 b6 a7 l) (dec_iff ⟨fun h => ⟨h1, h2, h3.1 rfl, h⟩, fun h => h.2.2.2⟩)
      | false =>
        rw [decide_eq_false (fun h : validP a0 a1 a2 a3 a4 a7 l.length => by simpa using h3.2 h.2.2.1)]
        exact sj1_true a0 a1 a2 a3 a4 b5 b6 a7 l
    · refine evn (dnt h2) ?_
      rw [decide_eq_false (fun h : validP a0 a1 a2 a3 a4 a7 l.length => h2 h.2.1)]
      exact sj1_true a0 a1 a2 a3 a4 b5 b6 a7 l
  · refine evn (dnt h1) ?_
    rw [decide_eq_false (fun h : validP a0 a1 a2 a3 a4 a7 l.length => h1 h.1)]
    exact sj1_true a0 a1 a2 a3 a4 b5 b6 a7 l
theorem svalidframe_ev : Ev (fun k => spec_IsValidFrame.f k a0 a1 a2 a3 a4 b5 b6 a7 l) (decide (validP a0 a1 a2 a3 a4 a7 l.length)) := by
  unfold spec_IsValidFrame.f
  have hS := sj0_ev a0 a1 a2 a3 a4 b5 b6 a7 l
  have hd : (1 ≤ a0 ∧ a0 ≤ 7) → a2 = 63 → ((!decide (a0 = 2 ∨ a0 = 3 ∨ a0 = 4 ∨ a0 = 7)) = true ↔ toP a0 a1 a2) := by
    intro h1 h2
    rw [← decide_not, decide_eq_true_iff]
    unfold toP
    omega
  refine evs (l1_some a2 0 15) ?_
  by_cases h1 : 0 ≤ a2 ∧ a2 ≤ 15
  · refine evp (dt h1) ?_
    by_cases h2 : a2 = a1
    · refine evp h2 (evn (by omega) (hS false (fun _ => ?_)))
      unfold toP
      simp
      omega
    · refine evn h2 (hS true (fun _ => ?_))
      unfold toP
      simp
      omega
  · refine evn (dnt h1) ?_
    by_cases h2 : a2 = 63
    · exact evp h2 (evs (l12_some a0) (hS _ (fun h => hd h h2)))
    · refine evn h2 (hS false (fun _ => ?_))
      unfold toP
      simp
      omega
end

def needs (a0 a2 : Int) : Bool := (a0 == 1 || a0 == 6) && a2 != 63
theorem needs_some (a0 a1 a2 a3 a4 : Int) (b5 b6 : Bool) (a7 : Int) (l : List Int) : impl_NeedsAck.f a0 a1 a2 a3 a4 b5 b6 a7 l = some (needs a0 a2) := by
  unfold impl_NeedsAck.f needs
  by_cases h1 : a0 = 1
  · simp [h1]
  · by_cases h6 : a0 = 6 <;> simp [h1, h6]
def kindR (a0 a2 : Int) : Int := if needs a0 a2 = true then 2 else if a0 = 3 then 4 else if a0 = 7 then 2 else 0
theorem kind_some (a0 a1 a2 a3 a4 : Int) (b5 b6 : Bool) (a7 : Int) (l : List Int) : impl_ReplyKind.f a0 a1 a2 a3 a4 b5 b6 a7 l = some (kindR a0 a2) := by
  unfold impl_ReplyKind.f kindR
  rw [needs_some]
  simp only [Option.bind_some]
  repeat' split
  all_goals rfl

theorem sneeds_some (a0 a1 a2 a3 a4 : Int) (b5 b6 : Bool) (a7 : Int) (l : List Int) : spec_NeedsAck.f a0 a1 a2 a3 a4 b5 b6 a7 l = some (needs a0 a2) := by
  unfold spec_NeedsAck.f needs
  by_cases h1 : a0 = 1
  · simp [h1]
  · by_cases h6 : a0 = 6 <;> simp [h1, h6]
theorem skind_ev (a0 a1 a2 a3 a4 : Int) (b5 b6 : Bool) (a7 : Int) (l : List Int) : Ev (fun k => spec_ReplyKind.f k a0 a1 a2 a3 a4 b5 b6 a7 l) (kindR a0 a2) := by
  unfold spec_ReplyKind.f
  refine evs (sneeds_some _ _ _ _ _ _ _ _ _) ?_
  unfold kindR
  by_cases h : needs a0 a2 = true
  · rw [if_pos h]
    exact evp h (ev1 (evk fun _ => rfl))
  · rw [if_neg h]
    refine evn h ?_
    have hf : ∀ q : Bool, (a0 == 7) = q → Ev (fun k => spec_ReplyKind.j0 k q a0 a1 a2 a3 a4 b5 b6 a7 l) (if a0 = 3 then 4 else if a0 = 7 then 2 else 0) := by
      intro q hq
      cases q with
      | true =>
        have h7 : a0 = 7 := by simpa using hq
        subst h7
        exact ev1 (evk fun _ => rfl)
      | false =>
        have h7 : a0 ≠ 7 := by simpa using hq
        rw [if_neg h7]
        refine ev1 ?_
        by_cases h3 : a0 = 3
        · rw [if_pos h3]
          exact evp h3 (evc rfl)
        · rw [if_neg h3]
          exact evn h3 (evc rfl)
    exact hf _ rfl

theorem maxes (a b : Int) : spec_Max.f a b = some (if b > a then b else a) ∧ impl_Max.f a b = some (if b > a then b else a) := by
  unfold spec_Max.f impl_Max.f
  constructor <;> split <;> rfl
theorem reply_valid (a0 a1 a2 a3 a4 a7 n : Int) (h : validP a0 a1 a2 a3 a4 a7 n) (h0 : kindR a0 a2 ≠ 0) : validP (kindR a0 a2) a2 a1 a3 a4 (if wrap64 (a7 - 1) > 0 then wrap64 (a7 - 1) else 0) 0 ∧ (kindR a0 a2 = 2 ∨ kindR a0 a2 = 4) := by
  obtain ⟨g0, g1, g2, g3, g4, g5, g6⟩ := h
  have hk : (kindR a0 a2 = 2 ∨ kindR a0 a2 = 4) ∧ a2 ≠ 63 := by
    unfold kindR needs at *
    unfold toP at g2
    by_cases q : ((a0 == 1 || a0 == 6) && a2 != 63) = true
    · rw [if_pos q]
      simp at q
      omega
    · rw [if_neg q] at h0 ⊢
      by_cases q3 : a0 = 3
      · rw [if_pos q3]
        omega
      · rw [if_neg q3] at h0 ⊢
        by_cases q7 : a0 = 7
        · rw [if_pos q7]
          omega
        · rw [if_neg q7] at h0
          omega
  refine ⟨⟨?_, ?_, ?_, g3, g4, ?_, ?_⟩, hk.1⟩
  · omega
  · unfold toP at g2
    omega
  · unfold toP at *
    omega
  · rw [w64s (n := a7 - 1) (by omega) (by omega)]
    split <;> omega
  · unfold bodyP
    omega
theorem FnReplies (L : List Int) (hm : L.length ≤ maxLen) (_ : L.length * 1 ≤ 140737488351232) (_ : ∀ x ∈ L, (Lit.int .u8 x).wf = true) :
    (∃ k, laws_FnReplies.f k L = some true) ∨ (∃ k, laws_FnReplies_b.f k L = some true) := by
  by_cases hbig : (L.length : Int) > 1048576
  · refine .inl (Ev.rounds (r := true) ?_)
    unfold laws_FnReplies.f
    exact evs (show laws_big.f L = some _ from rfl) (evp (by simpa using hbig) (evc rfl))
  obtain ⟨h0, e0⟩ := new_ev L (by omega)
  obtain ⟨a0, a1, a2, a3, a4, b5, b6, a7, l, i1, h1, e1, _, hl, _⟩ := l12any_ev L (by omega) 0 h0 ⟨by omega, by omega⟩
  have ed : Ev (fun k => spec_DrawReplyTo.f k L) (a0, a1, a2, a3, a4, b5, b6, a7, l) := by
    unfold spec_DrawReplyTo.f spec_DrawIsValidFrame.f
    exact Ev.bind (Ev.bind e0 (Ev.bind e1 (evc rfl))) (evc rfl)
  have hv := validframe_ev a0 a1 a2 a3 a4 b5 b6 a7 l
  have hs := svalidframe_ev a0 a1 a2 a3 a4 b5 b6 a7 l
  have hk := skind_ev a0 a1 a2 a3 a4 b5 b6 a7 l
  obtain ⟨m1, m2⟩ := maxes 0 (wrap64 (a7 - 1))
  have hnb : ¬ (decide ((L.length : Int) > 1048576) = true) := by simpa using hbig
  by_cases hk0 : kindR a0 a2 = 0
  · have hr : Ev (fun k => impl_ReplyTo.f k a0 a1 a2 a3 a4 b5 b6 a7 l) (0, 0, 0, 0, 0, false, false, 0, [], false) := by
      unfold impl_ReplyTo.f
      by_cases h : validP a0 a1 a2 a3 a4 a7 l.length
      · rw [decide_eq_true h] at hv
        exact evs (kind_some _ _ _ _ _ _ _ _ _) (Ev.bind hv (evp rfl (evp hk0 (evc rfl))))
      · rw [decide_eq_false h] at hv
        exact evs (kind_some _ _ _ _ _ _ _ _ _) (Ev.bind hv (evn (by decide) (evc rfl)))
    refine .inr (Ev.rounds (r := true) ?_)
    unfold laws_FnReplies_b.f
    exact evs (show laws_big.f L = some _ from rfl) (evn hnb (Ev.bind ed (Ev.bind hr (evn (by simp) (evs (kind_some _ _ _ _ _ _ _ _ _) (evp hk0 (Ev.bind hk (evp hk0 (evc rfl)))))))))
  · by_cases h : validP a0 a1 a2 a3 a4 a7 l.length
    · obtain ⟨hrv, hk24⟩ := reply_valid a0 a1 a2 a3 a4 a7 _ h hk0
      rw [decide_eq_true h] at hv
      have hr : Ev (fun k => impl_ReplyTo.f k a0 a1 a2 a3 a4 b5 b6 a7 l) (kindR a0 a2, a2, a1, a3, a4, false, false, (if wrap64 (a7 - 1) > 0 then wrap64 (a7 - 1) else 0), [], true) := by
        unfold impl_ReplyTo.f
        exact evs (kind_some _ _ _ _ _ _ _ _ _) (Ev.bind hv (evp rfl (evn hk0 (evs m2 (evc rfl)))))
      have hv2 := validframe_ev (kindR a0 a2) a2 a1 a3 a4 false false (if wrap64 (a7 - 1) > 0 then wrap64 (a7 - 1) else 0) []
      have hrv' : validP (kindR a0 a2) a2 a1 a3 a4 (if wrap64 (a7 - 1) > 0 then wrap64 (a7 - 1) else 0) (([] : List Int).length : Int) := hrv
      rw [decide_eq_true hrv'] at hv2
      have hnd : needs (kindR a0 a2) a1 = false := by
        unfold needs
        rcases hk24 with e | e <;> rw [e] <;> rfl
      have hkr : kindR (kindR a0 a2) a1 = 0 := by
        have h3 : kindR a0 a2 ≠ 3 := by omega
        have h7 : kindR a0 a2 ≠ 7 := by omega
        generalize kindR a0 a2 = q at *
        unfold kindR
        rw [hnd, if_neg (by decide), if_neg h3, if_neg h7]
      have n1 := needs_some (kindR a0 a2) a2 a1 a3 a4 false false (if wrap64 (a7 - 1) > 0 then wrap64 (a7 - 1) else 0) []
      rw [hnd] at n1
      have n2 : impl_NeedsAck.f 1 0 1 0 0 false false 0 [] = some true := by rw [needs_some]; rfl
      refine .inl (Ev.rounds (r := true) ?_)
      unfold laws_FnReplies.f
      exact evs (show laws_big.f L = some _ from rfl) (evn hnb (Ev.bind ed (Ev.bind hr (evp rfl (Ev.bind hv2 (evp rfl (evp rfl (evp rfl (evp rfl (evs (kind_some _ _ _ _ _ _ _ _ _) (evp rfl (evs m1 (evp rfl (evs n1 (evn (by simp) (evs (kind_some _ _ _ _ _ _ _ _ _) (evp hkr (evs n2 (evc rfl)))))))))))))))))))
    · rw [decide_eq_false h] at hv hs
      have hr : Ev (fun k => impl_ReplyTo.f k a0 a1 a2 a3 a4 b5 b6 a7 l) (0, 0, 0, 0, 0, false, false, 0, [], false) := by
        unfold impl_ReplyTo.f
        exact evs (kind_some _ _ _ _ _ _ _ _ _) (Ev.bind hv (evn (by decide) (evc rfl)))
      refine .inr (Ev.rounds (r := true) ?_)
      unfold laws_FnReplies_b.f
      exact evs (show laws_big.f L = some _ from rfl) (evn hnb (Ev.bind ed (Ev.bind hr (evn (by simp) (evs (kind_some _ _ _ _ _ _ _ _ _) (evn hk0 (Ev.bind hs (evc rfl))))))))

end Go.Proofs.Ytmmgjhffjmdhhaa.Pure
