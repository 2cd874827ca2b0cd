/-
  The program's IsHidden and the reference's agree at every placement of at most 2^20 positions and every three stations, and the argument is left as it was.
  Conditions: none beyond the given statement's own.
-/
import Derived.Test.YtkmkgkjinefcdaaPFnExactIsHiddenx7
set_option linter.unusedVariables false
set_option linter.unusedSimpArgs false
namespace Go.Proofs.Ytkmkgkjinefcdaa.Pure
open Go.RowKit Go.Proofs.Ytkmkgkjinefcdaa.PFnExactIsHidden Go.Proofs.YtkmkgkjinefcdaaW.PrintWords Go.Proofs.YtkmkgkjinefcdaaW.PrintLast Go.Proofs.YtkmkgkjinefcdaaW.PrintMore

theorem evp {α : Type} {c : Prop} [Decidable c] {A B : Nat → Option α} {r : α} (hc : c) (h : Ev A r) : Ev (fun k => if c then A k else B k) r :=
  Ev.congr (fun k => if_pos hc) h
theorem evn {α : Type} {c : Prop} [Decidable c] {A B : Nat → Option α} {r : α} (hc : ¬ c) (h : Ev B r) : Ev (fun k => if c then A k else B k) r :=
  Ev.congr (fun k => if_neg hc) h
theorem evs {α β : Type} {g : Option α} {a : α} {f : Nat → α → Option β} {r : β} (hg : g = some a) (h : Ev (fun k => f k a) r) : Ev (fun k => g.bind (f k)) r :=
  Ev.congr (fun k => by rw [hg]; rfl) h
theorem evc {α : Type} {g : Option α} {r : α} (h : g = some r) : Ev (fun _ => g) r := ⟨0, fun _ _ => h⟩
theorem ev_eq {α : Type} {g : Nat → Option α} {r r' : α} (h : Ev g r) (e : r = r') : Ev g r' := e ▸ h
theorem w64 {n : Int} (h0 : -9223372036854775808 ≤ n) (h1 : n ≤ 9223372036854775807) : wrap64 n = n := by
  unfold wrap64
  omega
theorem w64s {n : Int} (h0 : -1000000000000000000 ≤ n) (h1 : n ≤ 1000000000000000000) : wrap64 n = n := w64 (by omega) (by omega)
theorem ev1 {α : Type} {g : Nat → Option α} {r : α} (h : Ev (fun k => g (k + 1)) r) : Ev g r := Ev.step (fun _ => rfl) h
theorem dt {p : Prop} [Decidable p] (h : p) : decide p = true := decide_eq_true h
theorem dnt {p : Prop} [Decidable p] (h : ¬ p) : ¬ (decide p = true) := by simp [h]
theorem ntd {p : Prop} [Decidable p] (h : ¬ p) : (!decide p) = true := by simp [h]
theorem ntt {p : Prop} [Decidable p] (h : p) : ¬ ((!decide p) = true) := by simp [h]
theorem evk {α : Type} {g : Nat → Option α} {r : α} (h : ∀ k, g k = some r) : Ev g r := ⟨0, fun k _ => h k⟩
theorem dec_iff {p q : Prop} [Decidable p] [Decidable q] (h : p ↔ q) : decide p = decide q := by
  by_cases hq : q
  · rw [decide_eq_true hq, decide_eq_true (h.2 hq)]
  · rw [decide_eq_false hq, decide_eq_false (fun hp => hq (h.1 hp))]

theorem rd_nat (l : List Int) (i : Nat) : rd l (i : Int) = l.getD i 0 := by
  unfold rd
  rw [Int.toNat_natCast]
theorem rd_mem {l : List Int} {i : Nat} (h : i < l.length) : l.getD i 0 ∈ l := by
  rw [List.getD_eq_getElem?_getD, List.getElem?_eq_getElem h]
  exact List.getElem_mem h
theorem list_ext {a b : List Int} (hl : a.length = b.length) (h : ∀ i, i < a.length → a.getD i 0 = b.getD i 0) : a = b := by
  apply List.ext_getElem hl
  intro i h1 h2
  have := h i h1
  rw [List.getD_eq_getElem?_getD, List.getD_eq_getElem?_getD, List.getElem?_eq_getElem h1, List.getElem?_eq_getElem h2] at this
  simpa using this
theorem getD_set (l : List Int) (i j : Nat) (v : Int) : (l.set i v).getD j 0 = if i = j ∧ j < l.length then v else l.getD j 0 := by
  rw [List.getD_eq_getElem?_getD, List.getElem?_set, List.getD_eq_getElem?_getD]
  by_cases h : i = j
  · subst h
    by_cases h2 : i < l.length
    · simp [h2]
    · simp [h2]
  · simp [h]

theorem toInts_loop (x0 : List Int) (hn : x0.length ≤ 4000000000000000) : ∀ (d i : Nat) (x3 : List Int), i + d = x0.length → x3.length = x0.length → (∀ j, j < i → x3.getD j 0 = x0.getD j 0) → Ev (fun k => laws_toIntS.l0 k x0 x3 i) x0 := by
  intro d
  induction d with
  | zero =>
    intro i x3 hi hl hj
    refine ev1 ?_
    refine evn (by omega) (evc ?_)
    rw [list_ext hl (fun j h => hj j (by omega))]
  | succ d ih =>
    intro i x3 hi hl hj
    refine ev1 ?_
    refine evp (by omega) (evp (by omega) (evp (by omega) ?_))
    rw [w64s (by omega) (by omega), Int.toNat_natCast, rd_nat]
    have := ih (i + 1) (x3.set i (x0.getD i 0)) (by omega) (by simpa using hl) (by
      intro j h
      rw [getD_set]
      by_cases e : i = j
      · subst e
        rw [if_pos ⟨rfl, by omega⟩]
      · rw [if_neg (fun h' => e h'.1)]
        exact hj j (by omega))
    exact this
theorem toInts_ev (l : List Int) (hn : l.length ≤ 1048576) : Ev (fun k => laws_toIntS.f k l) l := by
  unfold laws_toIntS.f
  refine evp (by omega) (evp (by omega) ?_)
  exact toInts_loop l (by omega) l.length 0 _ (by omega) (by simp) (by intro j h; omega)

theorem eqInts_loop (x : List Int) (hn : x.length ≤ 4000000000000000) : ∀ (d i : Nat), i + d = x.length → Ev (fun k => laws_eqIntS.l0 k x x i) true := by
  intro d
  induction d with
  | zero =>
    intro i hi
    refine ev1 ?_
    exact evn (by omega) (evc rfl)
  | succ d ih =>
    intro i hi
    refine ev1 ?_
    refine evp (by omega) (evp (by omega) (evp (by omega) (evp rfl ?_)))
    rw [w64s (by omega) (by omega)]
    exact ih (i + 1) (by omega)
theorem eqInts_ev (l : List Int) (hn : l.length ≤ 4000000000000000) : Ev (fun k => laws_eqIntS.f k l l) true := by
  unfold laws_eqIntS.f
  exact evp rfl (eqInts_loop l hn l.length 0 (by omega))

theorem szPlace_some (l : List Int) (a b : Int) (hm : l.length ≤ maxLen) : laws_szPlacement.f l a b 1048576 = some (if l.length ≤ 1048576 then (1048576 : Int) - (l.length : Int) else -1) := by
  unfold maxLen at hm
  unfold laws_szPlacement.f laws_szIntS.f
  by_cases h : l.length ≤ 1048576
  · rw [w64s (by omega) (by omega), if_neg (by omega), if_pos h]
    simp only [Option.bind_some]
    rw [if_neg (by omega)]
  · rw [w64 (by omega) (by omega), if_pos (by omega), if_neg h]
    rfl
theorem toPlace_ev (l : List Int) (a b : Int) (hn : l.length ≤ 1048576) : Ev (fun k => laws_toPlacement.f k l a b) (l, a, b) := by
  unfold laws_toPlacement.f
  exact Ev.bind (toInts_ev l hn) (evc rfl)
theorem eqPlace_ev (l : List Int) (a b : Int) (hn : l.length ≤ 1048576) : Ev (fun k => laws_eqPlacement.f k l a b l a b) true := by
  unfold laws_eqPlacement.f
  exact Ev.bind (eqInts_ev l (by omega)) (evp rfl (evp rfl (evp rfl (evc rfl))))

def plc (l : List Int) (a : Int) : Prop := 0 ≤ a ∧ a < (l.length : Int)
instance (l : List Int) (a : Int) : Decidable (plc l a) := by unfold plc; infer_instance
def distV (l : List Int) (a b : Int) : Int := wrap64 ((if rd l b > rd l a then rd l b else rd l a) - (if rd l b < rd l a then rd l b else rd l a))
theorem placed_some (l : List Int) (r s a : Int) : impl_isPlaced.f l r s a = some (decide (plc l a)) := by
  unfold impl_isPlaced.f
  by_cases h : a ≥ 0
  · rw [if_pos h]
    exact congrArg some (dec_iff ⟨fun h2 => ⟨h, h2⟩, fun h2 => h2.2⟩)
  · rw [if_neg h, decide_eq_false (fun h2 => h h2.1)]
theorem imax_some (a b : Int) : impl_Max.f a b = some (if b > a then b else a) := by
  unfold impl_Max.f
  split <;> rfl
theorem imin_some (a b : Int) : impl_Min.f a b = some (if b < a then b else a) := by
  unfold impl_Min.f
  split <;> rfl
theorem dist_ev (l : List Int) (r s a b : Int) (ha : plc l a) (hb : plc l b) : Ev (fun k => impl_Distance.f k l r s a b) (distV l a b) := by
  unfold impl_Distance.f
  refine evs (placed_some l r s a) (evp (by simpa using ha) (evs (placed_some l r s b) (ev1 (evn (by simpa using hb) ?_))))
  exact evp ha.1 (evp ha.2 (evp hb.1 (evp hb.2 (evs (imax_some _ _) (evs (imin_some _ _) (evc rfl))))))

def senseV (l : List Int) (m a b : Int) : Bool := decide (a ≠ b) && (decide (plc l a) && (decide (plc l b) && decide (distV l a b ≤ m)))
theorem sense_ev (l : List Int) (r s a b : Int) : Ev (fun k => impl_CanSense.f k l r s a b) (senseV l s a b) := by
  unfold impl_CanSense.f senseV
  by_cases h : a = b
  · exact evp h (evc (by simp [h]))
  · refine evn h (evs (placed_some l r s a) ?_)
    by_cases ha : plc l a
    · refine evp (by simpa using ha) (evs (placed_some l r s b) ?_)
      by_cases hb : plc l b
      · exact evp (by simpa using hb) (Ev.bind (dist_ev l r s a b ha hb) (evc (by simp [h, ha, hb])))
      · exact evn (by simpa using hb) (evc (by simp [hb]))
    · exact evn (by simpa using ha) (evc (by simp [ha]))

theorem l1_some (x a b : Int) : spec_l1In.f x a b = some (decide (a ≤ x ∧ x ≤ b)) := by
  unfold spec_l1In.f
  by_cases h : a ≤ x <;> simp [h]

theorem smax_some (a b : Int) : spec_Max.f a b = some (if b > a then b else a) := by
  unfold spec_Max.f
  split <;> rfl
theorem smin_some (a b : Int) : spec_Min.f a b = some (if b < a then b else a) := by
  unfold spec_Min.f
  split <;> rfl
theorem l13_some (l : List Int) (hn : l.length ≤ 1048576) (r s a : Int) : spec_l13Is.f l r s a = some (decide (plc l a)) := by
  unfold spec_l13Is.f
  rw [l1_some, w64s (by omega) (by omega)]
  exact congrArg some (dec_iff ⟨fun h => ⟨h.1, by omega⟩, fun h => ⟨h.1, by have := h.2; omega⟩⟩)
theorem sdist_ev (l : List Int) (hn : l.length ≤ 1048576) (r s a b : Int) (ha : plc l a) (hb : plc l b) : Ev (fun k => spec_Distance.f k l r s a b) (distV l a b) := by
  unfold spec_Distance.f
  refine evs (l13_some l hn r s a) (evp (by simpa using ha) (evs (l13_some l hn r s b) (ev1 (evn (by simpa using hb) ?_))))
  exact evp ha.1 (evp ha.2 (evp hb.1 (evp hb.2 (evs (smax_some _ _) (evs (smin_some _ _) (evc rfl))))))
theorem ssense_ev (l : List Int) (hn : l.length ≤ 1048576) (r s a b : Int) : Ev (fun k => spec_CanSense.f k l r s a b) (senseV l s a b) := by
  unfold spec_CanSense.f senseV
  refine evs (l13_some l hn r s a) ?_
  by_cases ha : plc l a
  · refine evp (by simpa using ha) (evs (l13_some l hn r s b) ?_)
    by_cases hb : plc l b
    · refine evp (by simpa using hb) ?_
      by_cases h : a = b
      · exact evp h (evc (by simp [h]))
      · exact evn h (Ev.bind (sdist_ev l hn r s a b ha hb) (evc (by simp [h, ha, hb])))
    · exact evn (by simpa using hb) (evc (by simp [hb]))
  · exact evn (by simpa using ha) (evc (by simp [ha]))

def recvV (l : List Int) (m a b : Int) : Bool := decide (a ≠ b) && (decide (plc l a) && (decide (plc l b) && decide (distV l a b ≤ m)))
theorem recv_ev (l : List Int) (r s a b : Int) : Ev (fun k => impl_CanReceive.f k l r s a b) (recvV l r a b) := by
  unfold impl_CanReceive.f recvV
  by_cases h : a = b
  · exact evp h (evc (by simp [h]))
  · refine evn h (evs (placed_some l r s a) ?_)
    by_cases ha : plc l a
    · refine evp (by simpa using ha) (evs (placed_some l r s b) ?_)
      by_cases hb : plc l b
      · exact evp (by simpa using hb) (Ev.bind (dist_ev l r s a b ha hb) (evc (by simp [h, ha, hb])))
      · exact evn (by simpa using hb) (evc (by simp [hb]))
    · exact evn (by simpa using ha) (evc (by simp [ha]))
theorem distV_comm (l : List Int) (a b : Int) : distV l a b = distV l b a := by
  unfold distV
  congr 1
  split <;> split <;> (try split) <;> (try split) <;> omega
theorem recvV_comm (l : List Int) (m a b : Int) : recvV l m a b = recvV l m b a := by
  unfold recvV
  rw [distV_comm l b a]
  by_cases h : a = b
  · simp [h]
  · by_cases ha : plc l a <;> by_cases hb : plc l b <;> simp [h, ha, hb, Ne.symm h, eq_comm]

def hiddenV (l : List Int) (r s a b c : Int) : Bool := decide (a ≠ b) && (recvV l r c a && (recvV l r c b && !(senseV l s a b)))
theorem hidden_ev (l : List Int) (r s a b c : Int) : Ev (fun k => impl_IsHidden.f k l r s a b c) (hiddenV l r s a b c) := by
  unfold impl_IsHidden.f hiddenV
  by_cases h : a = b
  · exact evp h (evc (by simp [h]))
  · refine evn h (Ev.bind (recv_ev l r s c a) ?_)
    cases h1 : recvV l r c a with
    | false => exact evn (by decide) (evc (by simp))
    | true =>
      refine evp rfl (Ev.bind (recv_ev l r s c b) ?_)
      cases h2 : recvV l r c b with
      | false => exact evn (by decide) (evc (by simp))
      | true => exact evp rfl (Ev.bind (sense_ev l r s a b) (evc (by simp [h])))

theorem srecv_ev (l : List Int) (hn : l.length ≤ 1048576) (r s a b : Int) : Ev (fun k => spec_CanReceive.f k l r s a b) (recvV l r a b) := by
  unfold spec_CanReceive.f recvV
  refine evs (l13_some l hn r s a) ?_
  by_cases ha : plc l a
  · refine evp (by simpa using ha) (evs (l13_some l hn r s b) ?_)
    by_cases hb : plc l b
    · refine evp (by simpa using hb) ?_
      by_cases h : a = b
      · exact evp h (evc (by simp [h]))
      · exact evn h (Ev.bind (sdist_ev l hn r s a b ha hb) (evc (by simp [h, ha, hb])))
    · exact evn (by simpa using hb) (evc (by simp [hb]))
  · exact evn (by simpa using ha) (evc (by simp [ha]))
theorem shidden_ev (l : List Int) (hn : l.length ≤ 1048576) (r s a b c : Int) : Ev (fun k => spec_IsHidden.f k l r s a b c) (hiddenV l r s a b c) := by
  unfold spec_IsHidden.f hiddenV
  rw [recvV_comm l r c a, recvV_comm l r c b]
  by_cases h : a = b
  · exact evp h (evc (by simp [h]))
  · refine evn h (Ev.bind (srecv_ev l hn r s a c) ?_)
    cases h1 : recvV l r a c with
    | false => exact evn (by decide) (evc (by simp))
    | true =>
      refine evp rfl (Ev.bind (srecv_ev l hn r s b c) ?_)
      cases h2 : recvV l r b c with
      | false => exact evn (by decide) (evc (by simp))
      | true => exact evp rfl (Ev.bind (ssense_ev l hn r s a b) (evc (by simp [h])))
theorem FnExactIsHidden (l : List Int) (r s a b c : Int) (hm : l.length ≤ maxLen) (_ : ∀ x ∈ l, (Lit.int .i64 x).wf = true) (_ : (Lit.int .i64 r).wf = true) (_ : (Lit.int .i64 s).wf = true) (_ : (Lit.int .i64 a).wf = true) (_ : (Lit.int .i64 b).wf = true) (_ : (Lit.int .i64 c).wf = true) :
    ∃ k, laws_FnExactIsHidden.f k l r s a b c = some true := by
  refine Ev.rounds (r := true) ?_
  unfold laws_FnExactIsHidden.f
  refine evs (szPlace_some l r s hm) ?_
  by_cases hn : l.length ≤ 1048576
  · rw [if_pos hn]
    exact evn (by omega) (Ev.bind (toPlace_ev l r s hn) (Ev.bind (shidden_ev l hn r s a b c) (Ev.bind (toPlace_ev l r s hn) (Ev.bind (hidden_ev l r s a b c) (evn (by simp) (Ev.bind (toPlace_ev l r s hn) (Ev.bind (eqPlace_ev l r s hn) (evp rfl (evc rfl)))))))))
  · rw [if_neg hn]
    exact evp (by decide) (evc rfl)

end Go.Proofs.Ytkmkgkjinefcdaa.Pure
