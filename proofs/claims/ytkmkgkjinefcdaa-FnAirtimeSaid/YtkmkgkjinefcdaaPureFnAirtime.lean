/-
  Longer frames and lower rates take more slots, and a reservation costs two control frames more, at every drawn rate and size.
  Conditions: none beyond the given statement's own.
-/
import Derived.Test.YtkmkgkjinefcdaaPFnAirtimex2
set_option linter.unusedVariables false
set_option linter.unusedSimpArgs false
namespace Go.Proofs.Ytkmkgkjinefcdaa.Pure
open Go.RowKit Go.Proofs.Ytkmkgkjinefcdaa.PFnAirtime Go.Proofs.YtkmkgkjinefcdaaW.PrintWords Go.Proofs.YtkmkgkjinefcdaaW.PrintLast Go.Proofs.YtkmkgkjinefcdaaW.PrintMore

theorem in_some (x a b : Int) : impl_InRange.f x a b = some (decide (a ≤ x ∧ x ≤ b)) := by
  unfold impl_InRange.f
  by_cases h : a ≤ x <;> simp [h]

theorem rate_some (a : Int) : impl_IsValidRateIndex.f a = some (decide (0 ≤ a ∧ a ≤ 3)) := by
  simp [impl_IsValidRateIndex.f, in_some]

theorem evp {α : Type} {c : Prop} [Decidable c] {A B : Nat → Option α} {r : α} (hc : c) (h : Ev A r) : Ev (fun k => if c then A k else B k) r :=
  Ev.congr (fun k => if_pos hc) h
theorem evn {α : Type} {c : Prop} [Decidable c] {A B : Nat → Option α} {r : α} (hc : ¬ c) (h : Ev B r) : Ev (fun k => if c then A k else B k) r :=
  Ev.congr (fun k => if_neg hc) h
theorem evs {α β : Type} {g : Option α} {a : α} {f : Nat → α → Option β} {r : β} (hg : g = some a) (h : Ev (fun k => f k a) r) : Ev (fun k => g.bind (f k)) r :=
  Ev.congr (fun k => by rw [hg]; rfl) h
theorem evc {α : Type} {g : Option α} {r : α} (h : g = some r) : Ev (fun _ => g) r := ⟨0, fun _ _ => h⟩
theorem ev_eq {α : Type} {g : Nat → Option α} {r r' : α} (h : Ev g r) (e : r = r') : Ev g r' := e ▸ h
theorem w64 {n : Int} (h0 : -9223372036854775808 ≤ n) (h1 : n ≤ 9223372036854775807) : wrap64 n = n := by
  unfold wrap64
  omega
theorem w64s {n : Int} (h0 : -1000000000000000000 ≤ n) (h1 : n ≤ 1000000000000000000) : wrap64 n = n := w64 (by omega) (by omega)
theorem ev1 {α : Type} {g : Nat → Option α} {r : α} (h : Ev (fun k => g (k + 1)) r) : Ev g r := Ev.step (fun _ => rfl) h
theorem dt {p : Prop} [Decidable p] (h : p) : decide p = true := decide_eq_true h
theorem dnt {p : Prop} [Decidable p] (h : ¬ p) : ¬ (decide p = true) := by simp [h]
theorem ntd {p : Prop} [Decidable p] (h : ¬ p) : (!decide p) = true := by simp [h]
theorem ntt {p : Prop} [Decidable p] (h : p) : ¬ ((!decide p) = true) := by simp [h]
theorem evk {α : Type} {g : Nat → Option α} {r : α} (h : ∀ k, g k = some r) : Ev g r := ⟨0, fun k _ => h k⟩

theorem rd_nat (l : List Int) (i : Nat) : rd l (i : Int) = l.getD i 0 := by
  unfold rd
  rw [Int.toNat_natCast]
theorem rd_mem {l : List Int} {i : Nat} (h : i < l.length) : l.getD i 0 ∈ l := by
  rw [List.getD_eq_getElem?_getD, List.getElem?_eq_getElem h]
  exact List.getElem_mem h
theorem list_ext {a b : List Int} (hl : a.length = b.length) (h : ∀ i, i < a.length → a.getD i 0 = b.getD i 0) : a = b := by
  apply List.ext_getElem hl
  intro i h1 h2
  have := h i h1
  rw [List.getD_eq_getElem?_getD, List.getD_eq_getElem?_getD, List.getElem?_eq_getElem h1, List.getElem?_eq_getElem h2] at this
  simpa using this
theorem getD_set (l : List Int) (i j : Nat) (v : Int) : (l.set i v).getD j 0 = if i = j ∧ j < l.length then v else l.getD j 0 := by
  rw [List.getD_eq_getElem?_getD, List.getElem?_set, List.getD_eq_getElem?_getD]
  by_cases h : i = j
  · subst h
    by_cases h2 : i < l.length
    · simp [h2]
    · simp [h2]
  · simp [h]

theorem and255 (x : Int) : 0 ≤ Go.bits .and .i64 x 255 ∧ Go.bits .and .i64 x 255 ≤ 255 := by
  have h : ∀ n : Nat, n ≤ 255 → IntKind.i64.wrap (n : Int) = n := by
    intro n hn
    rw [IntKind.wrap_i64]
    omega
  have e : Go.bits .and .i64 x 255 = IntKind.i64.wrap ((BitVec.ofInt 64 x &&& BitVec.ofInt 64 255).toNat : Int) := rfl
  have hle : (BitVec.ofInt 64 x &&& BitVec.ofInt 64 255).toNat ≤ 255 := by
    rw [BitVec.toNat_and]
    exact Nat.and_le_right
  rw [e, h _ hle]
  omega
/-- The draw's cursor lies within the code. -/
def Cur (l : List Int) (i : Int) : Prop := 0 ≤ i ∧ i ≤ l.length
theorem new_loop (x : List Int) (hn : x.length ≤ 4000000000000000) : ∀ (d i : Nat) (h : Int), i + d = x.length → ∃ h', Ev (fun k => spec_l1New.l0 k x h i) (x, 0, h') := by
  intro d
  induction d with
  | zero =>
    intro i h hi
    exact ⟨h, ev1 (evn (by omega) (evc rfl))⟩
  | succ d ih =>
    intro i h hi
    by_cases h4 : (i : Int) < 4000
    · obtain ⟨h', hh⟩ := ih (i + 1) (Go.bits .and .i64 (wrap64 ((wrap64 ((wrap64 (h * 137)) + (wrap64 (rd x i)))) + 11)) 1073741823) (by omega)
      refine ⟨h', ev1 (evp (by omega) (evp h4 (evp (by omega) ?_)))⟩
      rw [w64s (n := (i : Int) + 1) (by omega) (by omega)]
      exact hh
    · exact ⟨h, ev1 (evp (by omega) (evn h4 (evc rfl)))⟩
theorem new_ev (l : List Int) (hn : l.length ≤ 4000000000000000) : ∃ h', Ev (fun k => spec_l1New.f k l) (l, 0, h') := by
  unfold spec_l1New.f
  exact new_loop l hn l.length 0 _ (by omega)
theorem byte_some (l : List Int) (hn : l.length ≤ 4000000000000000) (i h : Int) (hc : Cur l i) : ∃ x i' h', spec_l1Byte.f l i h = some (x, i', h') ∧ (0 ≤ x ∧ x ≤ 255) ∧ Cur l i' := by
  unfold spec_l1Byte.f
  unfold Cur at *
  by_cases hi : i < (l.length : Int)
  · rw [if_pos hi, if_pos hc.1]
    refine ⟨_, _, _, rfl, and255 _, ?_⟩
    rw [w64s (n := i + 1) (by omega) (by omega)]
    omega
  · rw [if_neg hi]
    exact ⟨_, _, _, rfl, and255 _, hc⟩
theorem below_some (l : List Int) (hn : l.length ≤ 4000000000000000) (i h : Int) (hc : Cur l i) (n : Int) (h1 : 1 ≤ n) (h2 : n ≤ 1000000000000) : ∃ x i' h', spec_l1Below.f l i h n = some (x, i', h') ∧ (0 ≤ x ∧ x < n) ∧ Cur l i' := by
  unfold spec_l1Below.f
  rw [if_neg (by omega)]
  by_cases h3 : n ≤ 256
  · rw [if_pos h3]
    obtain ⟨x, i', h', e, hx, hc'⟩ := byte_some l hn i h hc
    rw [e]
    simp only [Option.bind_some]
    rw [if_neg (by omega)]
    refine ⟨_, _, _, rfl, ?_, hc'⟩
    rw [Int.tmod_eq_emod_of_nonneg hx.1]
    exact ⟨Int.emod_nonneg _ (by omega), Int.emod_lt_of_pos _ (by omega)⟩
  · rw [if_neg h3]
    obtain ⟨x, i', h', e, hx, hc'⟩ := byte_some l hn i h hc
    rw [e]
    simp only [Option.bind_some]
    obtain ⟨y, i2, h2, e2, hy, hc2⟩ := byte_some l hn i' h' hc'
    rw [e2]
    simp only [Option.bind_some]
    obtain ⟨z, i3, h3, e3, hz, hc3⟩ := byte_some l hn i2 h2 hc2
    rw [e3]
    simp only [Option.bind_some]
    rw [if_neg (by omega)]
    refine ⟨_, _, _, rfl, ?_, hc3⟩
    rw [w64s (n := x * 65536) (by omega) (by omega), w64s (n := y * 256) (by omega) (by omega), w64s (n := x * 65536 + y * 256) (by omega) (by omega), w64s (n := x * 65536 + y * 256 + z) (by omega) (by omega)]
    rw [Int.tmod_eq_emod_of_nonneg (by omega)]
    exact ⟨Int.emod_nonneg _ (by omega), Int.emod_lt_of_pos _ (by omega)⟩

theorem int_some (l : List Int) (hn : l.length ≤ 4000000000000000) (i h : Int) (hc : Cur l i) (ls : List Int) (h1 : 1 ≤ ls.length) (h2 : ls.length ≤ 1000) : ∃ x i' h', spec_l1Int.f l i h ls = some (x, i', h') ∧ x ∈ ls ∧ Cur l i' := by
  unfold spec_l1Int.f
  obtain ⟨x, i', h', e, hx, hc'⟩ := below_some l hn i h hc (ls.length : Int) (by omega) (by omega)
  rw [e]
  simp only [Option.bind_some]
  rw [if_pos hx.1, if_pos hx.2]
  obtain ⟨j, rfl⟩ := Int.eq_ofNat_of_zero_le hx.1
  refine ⟨_, _, _, rfl, ?_, hc'⟩
  rw [rd_nat]
  exact rd_mem (by omega)

theorem bps_is (a : Int) (h : 0 ≤ a ∧ a ≤ 3) : impl_BytesPerSlot.f a = some (if a = 0 then 4 else if a = 1 then 8 else if a = 2 then 12 else 24) := by
  have hc : a = 0 ∨ a = 1 ∨ a = 2 ∨ a = 3 := by omega
  rcases hc with rfl | rfl | rfl | rfl <;> rfl
theorem ceil_is (a b : Int) (ha : 0 ≤ a ∧ a ≤ 1000000000000) (hb : 1 ≤ b ∧ b ≤ 1000) : impl_CeilDiv.f a b = some ((a + b - 1) / b) := by
  unfold impl_CeilDiv.f
  simp only [in_some, Option.bind_some]
  rw [if_pos (by simpa using ha), if_pos (by simp; omega), if_neg (by omega), w64s (n := a + b) (by omega) (by omega), w64s (n := a + b - 1) (by omega) (by omega), Int.tdiv_eq_ediv_of_nonneg (by omega), w64s]
  · have : 0 ≤ (a + b - 1) / b := Int.ediv_nonneg (by omega) (by omega)
    omega
  · have : (a + b - 1) / b ≤ (a + b - 1) := Int.ediv_le_self _ (by omega)
    omega
def slots (a b : Int) : Int := 1 + (b + (if a = 0 then 4 else if a = 1 then 8 else if a = 2 then 12 else 24) - 1) / (if a = 0 then 4 else if a = 1 then 8 else if a = 2 then 12 else 24)
theorem slots_ev (a b : Int) (ha : 0 ≤ a ∧ a ≤ 3) (hb : 0 ≤ b ∧ b ≤ 1000000000000) : Ev (fun k => impl_FrameSlots.f k a b) (slots a b) ∧ 1 ≤ slots a b ∧ slots a b ≤ 1000000000001 := by
  have hs : 1 ≤ slots a b ∧ slots a b ≤ 1000000000001 := by
    unfold slots
    split
    · omega
    · split
      · omega
      · split <;> omega
  refine ⟨?_, hs⟩
  unfold impl_FrameSlots.f
  refine evs (rate_some a) (evp (by simpa using ha) (evs (in_some _ _ _) (ev1 (evn (by simpa using hb) (evs (bps_is a ha) (evs (ceil_is b _ hb (by split <;> (try split) <;> (try split) <;> omega)) (evc ?_)))))))
  have e : wrap64 (1 + (b + (if a = 0 then 4 else if a = 1 then 8 else if a = 2 then 12 else 24) - 1) / (if a = 0 then 4 else if a = 1 then 8 else if a = 2 then 12 else 24)) = slots a b := by
    have : (1 + (b + (if a = 0 then 4 else if a = 1 then 8 else if a = 2 then 12 else 24) - 1) / (if a = 0 then 4 else if a = 1 then 8 else if a = 2 then 12 else 24)) = slots a b := rfl
    rw [this, w64s (by omega) (by omega)]
  rw [e]
theorem slots_bad (a b : Int) (h : ¬ ((0 ≤ a ∧ a ≤ 3) ∧ (0 ≤ b ∧ b ≤ 1000000000000))) : Ev (fun k => impl_FrameSlots.f k a b) 0 := by
  unfold impl_FrameSlots.f
  refine evs (rate_some a) ?_
  by_cases ha : 0 ≤ a ∧ a ≤ 3
  · exact evp (by simpa using ha) (evs (in_some _ _ _) (ev1 (evp (ntd (fun h1 => h ⟨ha, h1⟩)) (evc rfl))))
  · exact evn (by simpa using ha) (ev1 (evk fun _ => rfl))
theorem exch_ev (a b : Int) (r : Bool) (ha : 0 ≤ a ∧ a ≤ 3) (hb : 0 ≤ b ∧ b ≤ 1000000000000) : Ev (fun k => impl_ExchangeSlots.f k a b r) (slots a b + if r = true then 3 else 1) := by
  obtain ⟨h, h1, h2⟩ := slots_ev a b ha hb
  unfold impl_ExchangeSlots.f
  refine Ev.bind h (evn (by omega) ?_)
  cases r with
  | true => exact evp rfl (evc (by rw [w64s (by omega) (by omega)]; rfl))
  | false => exact evn (by decide) (evc (by rw [w64s (by omega) (by omega)]; rfl))
theorem exch_bad (a b : Int) (r : Bool) (h : ¬ ((0 ≤ a ∧ a ≤ 3) ∧ (0 ≤ b ∧ b ≤ 1000000000000))) : Ev (fun k => impl_ExchangeSlots.f k a b r) 0 := by
  unfold impl_ExchangeSlots.f
  exact Ev.bind (slots_bad a b h) (evp rfl (evc rfl))
theorem j1_ev (a b : Int) (ha : 0 ≤ a ∧ a ≤ 3) (hb : 0 ≤ b ∧ b ≤ 1000000000000) : Ev (fun k => laws_FnAirtime.j1 k a b (slots a b) false) true := by
  obtain ⟨h, h1, h2⟩ := slots_ev a b ha hb
  have x1 := exch_ev a b false ha hb
  have x2 := exch_ev a b true ha hb
  refine ev1 (evs (bps_is a ha) ?_)
  have hp : 0 ≤ (slots a b - 1) * (if a = 0 then 4 else if a = 1 then 8 else if a = 2 then 12 else 24) ∧ (slots a b - 1) * (if a = 0 then 4 else if a = 1 then 8 else if a = 2 then 12 else 24) ≤ 100000000000000 ∧ b ≤ (slots a b - 1) * (if a = 0 then 4 else if a = 1 then 8 else if a = 2 then 12 else 24) := by
    unfold slots
    split
    · omega
    · split
      · omega
      · split <;> omega
  have hq : b = 0 ∨ (-100 ≤ (slots a b - 2) * (if a = 0 then 4 else if a = 1 then 8 else if a = 2 then 12 else 24) ∧ (slots a b - 2) * (if a = 0 then 4 else if a = 1 then 8 else if a = 2 then 12 else 24) ≤ 100000000000000 ∧ (slots a b - 2) * (if a = 0 then 4 else if a = 1 then 8 else if a = 2 then 12 else 24) < b) := by
    unfold slots
    split
    · omega
    · split
      · omega
      · split <;> omega
  rw [w64s (n := slots a b - 1) (by omega) (by omega), w64s (n := (slots a b - 1) * _) (by omega) (by omega)]
  refine evp hp.2.2 ?_
  have z1 : slots a b + (if false = true then 3 else 1) = wrap64 (slots a b + 1) := by
    rw [w64s (by omega) (by omega)]
    rfl
  have z2 : (slots a b + (if true = true then 3 else 1) == wrap64 (slots a b + 3)) = true := by
    rw [w64s (by omega) (by omega)]
    simp
  by_cases hb0 : b = 0
  · exact evp hb0 (Ev.bind x1 (evp z1 (Ev.bind x2 (evc (by rw [z2])))))
  · refine evn hb0 (evs (bps_is a ha) ?_)
    rcases hq with hq | hq
    · exact absurd hq hb0
    · rw [w64s (n := slots a b - 2) (by omega) (by omega), w64s (n := (slots a b - 2) * _) (by omega) (by omega)]
      exact evp hq.2.2 (Ev.bind x1 (evp z1 (Ev.bind x2 (evc (by rw [z2])))))
theorem rate_mono (a b : Int) (ha : 0 ≤ a ∧ a < 3) (hb : 0 ≤ b ∧ b ≤ 1000000000000) : slots (a + 1) b ≤ slots a b := by
  have hc : a = 0 ∨ a = 1 ∨ a = 2 := by omega
  unfold slots
  rcases hc with rfl | rfl | rfl <;> simp <;> omega
theorem size_mono (a b : Int) (ha : 0 ≤ a ∧ a ≤ 3) (hb : 0 < b ∧ b ≤ 1000000000000) : slots a (b - 1) ≤ slots a b := by
  have hc : a = 0 ∨ a = 1 ∨ a = 2 ∨ a = 3 := by omega
  unfold slots
  rcases hc with rfl | rfl | rfl | rfl <;> simp <;> omega
theorem j0_good (a b : Int) (ha : 0 ≤ a ∧ a ≤ 3) (hb : 0 ≤ b ∧ b ≤ 1000000000000) : Ev (fun k => laws_FnAirtime.j0 k a b (slots a b) false) true := by
  have hj := j1_ev a b ha hb
  refine ev1 ?_
  have tail : b > 0 → Ev (fun k => (impl_FrameSlots.f k a (wrap64 (b - 1))).bind fun t => laws_FnAirtime.j1 k a b (slots a b) (decide (t > slots a b))) true := by
    intro h0
    rw [w64s (n := b - 1) (by omega) (by omega)]
    refine Ev.bind (slots_ev a (b - 1) ha (by omega)).1 ?_
    have := size_mono a b ha (by omega)
    rw [decide_eq_false (by omega)]
    exact hj
  by_cases h3 : a < 3
  · refine evp h3 ?_
    rw [w64s (n := a + 1) (by omega) (by omega)]
    refine Ev.bind (slots_ev (a + 1) b (by omega) hb).1 (evn ?_ ?_)
    · have := rate_mono a b (by omega) hb
      omega
    · by_cases h0 : b > 0
      · exact evp h0 (tail h0)
      · exact evn h0 hj
  · refine evn h3 ?_
    by_cases h0 : b > 0
    · exact evp h0 (tail h0)
    · exact evn h0 hj
theorem j0_bad (a b : Int) (h : ¬ ((0 ≤ a ∧ a ≤ 3) ∧ (0 ≤ b ∧ b ≤ 1000000000000))) : Ev (fun k => laws_FnAirtime.j0 k a b 0 true) true := by
  refine ev1 (Ev.bind (exch_bad a b true h) (evp rfl (evs (rate_some a) ?_)))
  by_cases h0 : a ≥ 0
  · refine evp h0 (evc ?_)
    simp [h0]
  · refine evn h0 (evc ?_)
    simp [h0]
theorem FnAirtime : laws_FnAirtime.Pure := by
  intro l hm hs hw
  refine Ev.rounds (r := true) ?_
  unfold laws_FnAirtime.f
  refine evs (show laws_big.f l = some _ from rfl) ?_
  by_cases hbig : (l.length : Int) > 1048576
  · exact evp (by simpa using hbig) (evc rfl)
  refine evn (by simpa using hbig) ?_
  have hn : l.length ≤ 4000000000000000 := by omega
  obtain ⟨h0, e0⟩ := new_ev l hn
  have c0 : Cur l 0 := ⟨by omega, by omega⟩
  obtain ⟨r, i1, h1, e1, hr, c1⟩ := below_some l hn 0 h0 c0 6 (by omega) (by omega)
  obtain ⟨n, i2, h2, e2, hmem, c2⟩ := int_some l hn i1 h1 c1 [(-1), 0, 1, 20, 24, 25, 1000000000000, 1000000000001] (by decide) (by decide)
  have ed : Ev (fun k => spec_DrawFrameSlots.f k l) (r - 1, n) := by
    unfold spec_DrawFrameSlots.f
    refine Ev.bind e0 (evs (a := (r - 1, i1, h1)) ?_ (evs e2 (evc rfl)))
    unfold spec_l11Rate.f
    rw [e1]
    simp only [Option.bind_some]
    rw [w64s (n := r - 1) (by omega) (by omega)]
  refine Ev.bind ed ?_
  have hnb : -1 ≤ n ∧ n ≤ 1000000000001 := by
    simp at hmem
    omega
  show Ev (fun k => (impl_FrameSlots.f k (r - 1) n).bind fun t148 => if (r - 1) < 0 then laws_FnAirtime.j0 k (r - 1) n t148 true else if (r - 1) > 3 then laws_FnAirtime.j0 k (r - 1) n t148 true else if n < 0 then laws_FnAirtime.j0 k (r - 1) n t148 true else laws_FnAirtime.j0 k (r - 1) n t148 (decide (n > 1000000000000))) true
  generalize r - 1 = a at *
  by_cases h : (0 ≤ a ∧ a ≤ 3) ∧ (0 ≤ n ∧ n ≤ 1000000000000)
  · refine Ev.bind (slots_ev a n h.1 h.2).1 (evn (by omega) (evn (by omega) (evn (by omega) ?_)))
    rw [decide_eq_false (by omega)]
    exact j0_good a n h.1 h.2
  · refine Ev.bind (slots_bad a n h) ?_
    have hb := j0_bad a n h
    by_cases h1 : a < 0
    · exact evp h1 hb
    · refine evn h1 ?_
      by_cases h2 : a > 3
      · exact evp h2 hb
      · refine evn h2 ?_
        by_cases h3 : n < 0
        · exact evp h3 hb
        · refine evn h3 ?_
          rw [decide_eq_true (by omega)]
          exact hb

end Go.Proofs.Ytkmkgkjinefcdaa.Pure
