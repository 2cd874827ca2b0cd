/-
  The program's EqualFrames and the reference's agree at every two frames whose bodies together have at most 2^20 bytes, and the arguments are left as they were.
  Conditions: none beyond the given statement's own.
-/
import Derived.Lib.Bytes
import Derived.Test.YtmmgjhffjmdhhaaPFnExactEqualFramesx2
set_option linter.unusedVariables false
set_option linter.unusedSimpArgs false
namespace Go.Proofs.Ytmmgjhffjmdhhaa.Pure
open Go.RowKit Go.Proofs.Ytmmgjhffjmdhhaa.PFnExactEqualFrames Go.Proofs.YtmmgjhffjmdhhaaW.PrintWords Go.Proofs.YtmmgjhffjmdhhaaW.PrintLast Go.Proofs.YtmmgjhffjmdhhaaW.PrintMore

theorem evp {α : Type} {c : Prop} [Decidable c] {A B : Nat → Option α} {r : α} (hc : c) (h : Ev A r) : Ev (fun k => if c then A k else B k) r :=
  Ev.congr (fun k => if_pos hc) h
theorem evn {α : Type} {c : Prop} [Decidable c] {A B : Nat → Option α} {r : α} (hc : ¬ c) (h : Ev B r) : Ev (fun k => if c then A k else B k) r :=
  Ev.congr (fun k => if_neg hc) h
theorem evs {α β : Type} {g : Option α} {a : α} {f : Nat → α → Option β} {r : β} (hg : g = some a) (h : Ev (fun k => f k a) r) : Ev (fun k => g.bind (f k)) r :=
  Ev.congr (fun k => by rw [hg]; rfl) h
theorem evc {α : Type} {g : Option α} {r : α} (h : g = some r) : Ev (fun _ => g) r := ⟨0, fun _ _ => h⟩
theorem ev_eq {α : Type} {g : Nat → Option α} {r r' : α} (h : Ev g r) (e : r = r') : Ev g r' := e ▸ h
theorem w64 {n : Int} (h0 : -9223372036854775808 ≤ n) (h1 : n ≤ 9223372036854775807) : wrap64 n = n := by
  unfold wrap64
  omega
theorem w64s {n : Int} (h0 : -1000000000000000000 ≤ n) (h1 : n ≤ 1000000000000000000) : wrap64 n = n := w64 (by omega) (by omega)
theorem ev1 {α : Type} {g : Nat → Option α} {r : α} (h : Ev (fun k => g (k + 1)) r) : Ev g r := Ev.step (fun _ => rfl) h
theorem dt {p : Prop} [Decidable p] (h : p) : decide p = true := decide_eq_true h
theorem dnt {p : Prop} [Decidable p] (h : ¬ p) : ¬ (decide p = true) := by simp [h]
theorem ntd {p : Prop} [Decidable p] (h : ¬ p) : (!decide p) = true := by simp [h]
theorem ntt {p : Prop} [Decidable p] (h : p) : ¬ ((!decide p) = true) := by simp [h]
theorem evk {α : Type} {g : Nat → Option α} {r : α} (h : ∀ k, g k = some r) : Ev g r := ⟨0, fun k _ => h k⟩
theorem dec_iff {p q : Prop} [Decidable p] [Decidable q] (h : p ↔ q) : decide p = decide q := by
  by_cases hq : q
  · rw [decide_eq_true hq, decide_eq_true (h.2 hq)]
  · rw [decide_eq_false hq, decide_eq_false (fun hp => hq (h.1 hp))]

theorem rd_nat (l : List Int) (i : Nat) : rd l (i : Int) = l.getD i 0 := by
  unfold rd
  rw [Int.toNat_natCast]
theorem rd_mem {l : List Int} {i : Nat} (h : i < l.length) : l.getD i 0 ∈ l := by
  rw [List.getD_eq_getElem?_getD, List.getElem?_eq_getElem h]
  exact List.getElem_mem h
theorem list_ext {a b : List Int} (hl : a.length = b.length) (h : ∀ i, i < a.length → a.getD i 0 = b.getD i 0) : a = b := by
  apply List.ext_getElem hl
  intro i h1 h2
  have := h i h1
  rw [List.getD_eq_getElem?_getD, List.getD_eq_getElem?_getD, List.getElem?_eq_getElem h1, List.getElem?_eq_getElem h2] at this
  simpa using this
theorem getD_set (l : List Int) (i j : Nat) (v : Int) : (l.set i v).getD j 0 = if i = j ∧ j < l.length then v else l.getD j 0 := by
  rw [List.getD_eq_getElem?_getD, List.getElem?_set, List.getD_eq_getElem?_getD]
  by_cases h : i = j
  · subst h
    by_cases h2 : i < l.length
    · simp [h2]
    · simp [h2]
  · simp [h]

theorem toBytes_loop (x0 : List Int) (hn : x0.length ≤ 4000000000000000) : ∀ (d i : Nat) (x3 : List Int), i + d = x0.length → x3.length = x0.length → (∀ j, j < i → x3.getD j 0 = x0.getD j 0) → Ev (fun k => laws_toByteS.l0 k x0 x3 i) x0 := by
  intro d
  induction d with
  | zero =>
    intro i x3 hi hl hj
    refine ev1 ?_
    refine evn (by omega) (evc ?_)
    rw [list_ext hl (fun j h => hj j (by omega))]
  | succ d ih =>
    intro i x3 hi hl hj
    refine ev1 ?_
    refine evp (by omega) (evp (by omega) (evp (by omega) ?_))
    rw [w64s (by omega) (by omega), Int.toNat_natCast, rd_nat]
    have := ih (i + 1) (x3.set i (x0.getD i 0)) (by omega) (by simpa using hl) (by
      intro j h
      rw [getD_set]
      by_cases e : i = j
      · subst e
        rw [if_pos ⟨rfl, by omega⟩]
      · rw [if_neg (fun h' => e h'.1)]
        exact hj j (by omega))
    exact this
theorem toBytes_ev (l : List Int) (hn : l.length ≤ 1048576) : Ev (fun k => laws_toByteS.f k l) l := by
  unfold laws_toByteS.f
  refine evp (by omega) (evp (by omega) ?_)
  exact toBytes_loop l (by omega) l.length 0 _ (by omega) (by simp) (by intro j h; omega)

theorem eqBytes_loop (x : List Int) (hn : x.length ≤ 4000000000000000) : ∀ (d i : Nat), i + d = x.length → Ev (fun k => laws_eqByteS.l0 k x x i) true := by
  intro d
  induction d with
  | zero =>
    intro i hi
    refine ev1 ?_
    exact evn (by omega) (evc rfl)
  | succ d ih =>
    intro i hi
    refine ev1 ?_
    refine evp (by omega) (evp (by omega) (evp (by omega) (evp rfl ?_)))
    rw [w64s (by omega) (by omega)]
    exact ih (i + 1) (by omega)
theorem eqBytes_ev (l : List Int) (hn : l.length ≤ 4000000000000000) : Ev (fun k => laws_eqByteS.f k l l) true := by
  unfold laws_eqByteS.f
  exact evp rfl (eqBytes_loop l hn l.length 0 (by omega))

theorem szMac_some (a0 a1 a2 a3 a4 : Int) (b5 b6 : Bool) (a7 : Int) (l : List Int) (hm : l.length ≤ maxLen) : laws_szMacFrame.f a0 a1 a2 a3 a4 b5 b6 a7 l 1048576 = some (if l.length ≤ 1048576 then (1048576 : Int) - (l.length : Int) else -1) := by
  unfold maxLen at hm
  unfold laws_szMacFrame.f laws_szByteS.f
  by_cases h : l.length ≤ 1048576
  · rw [w64s (by omega) (by omega), if_neg (by omega), if_pos h]
    simp only [Option.bind_some]
    rw [if_neg (by omega)]
  · rw [w64 (by omega) (by omega), if_pos (by omega), if_neg h]
    rfl
theorem toMac_ev (a0 a1 a2 a3 a4 : Int) (b5 b6 : Bool) (a7 : Int) (l : List Int) (hn : l.length ≤ 1048576) : Ev (fun k => laws_toMacFrame.f k a0 a1 a2 a3 a4 b5 b6 a7 l) (a0, a1, a2, a3, a4, b5, b6, a7, l) := by
  unfold laws_toMacFrame.f
  exact Ev.bind (toBytes_ev l hn) (evc rfl)
theorem eqMac_ev (a0 a1 a2 a3 a4 : Int) (b5 b6 : Bool) (a7 : Int) (l : List Int) (hn : l.length ≤ 1048576) : Ev (fun k => laws_eqMacFrame.f k a0 a1 a2 a3 a4 b5 b6 a7 l a0 a1 a2 a3 a4 b5 b6 a7 l) true := by
  unfold laws_eqMacFrame.f
  exact evp rfl (evp rfl (evp rfl (evp rfl (evp rfl (evn (by simp) (evn (by simp) (evp rfl (Ev.bind (eqBytes_ev l (by omega)) (evp rfl (evc rfl))))))))))

theorem ieqb_loop (a b : List Int) (hl : a.length = b.length) (hn : a.length ≤ 4000000000000000) : ∀ (d i : Nat), i + d = a.length → (∀ j, j < i → a.getD j 0 = b.getD j 0) → Ev (fun k => impl_EqualBytes.l0 k a b a.length i) (decide (a = b)) := by
  intro d
  induction d with
  | zero =>
    intro i hi hj
    rw [decide_eq_true (list_ext hl (fun j h => hj j (by omega)))]
    exact ev1 (evn (by omega) (evc rfl))
  | succ d ih =>
    intro i hi hj
    refine ev1 (evp (by omega) (evp (by omega) (evp (by omega) (evp (by omega) ?_))))
    rw [rd_nat, rd_nat, w64s (n := (i : Int) + 1) (by omega) (by omega)]
    by_cases h : a.getD i 0 = b.getD i 0
    · refine evp h (ih (i + 1) (by omega) (fun j hj2 => ?_))
      by_cases e : j = i
      · rw [e]
        exact h
      · exact hj j (by omega)
    · refine evn h ?_
      rw [decide_eq_false (fun e => h (by rw [e]))]
      exact evc rfl
theorem ieqb_ev (a b : List Int) (hn : a.length ≤ 4000000000000000) : Ev (fun k => impl_EqualBytes.f k a b) (decide (a = b)) := by
  unfold impl_EqualBytes.f
  by_cases h : a.length = b.length
  · exact evp (by omega) (ieqb_loop a b h hn a.length 0 (by omega) (fun j hj => by omega))
  · refine evn (by omega) ?_
    rw [decide_eq_false (fun e => h (by rw [e]))]
    exact evc rfl

theorem strnums_inj : ∀ (a b : List Int), (∀ x ∈ a, 0 ≤ x ∧ x ≤ 255) → (∀ x ∈ b, 0 ≤ x ∧ x ≤ 255) → (a.map fun n : Int => UInt8.ofNat n.toNat) = (b.map fun n : Int => UInt8.ofNat n.toNat) → a = b
  | [], [], _, _, _ => rfl
  | [], y :: b, _, _, h => by simp at h
  | x :: a, [], _, _, h => by simp at h
  | x :: a, y :: b, ha, hb, h => by
    rw [List.map_cons, List.map_cons, List.cons.injEq] at h
    have hx := ha x (by simp)
    have hy := hb y (by simp)
    have e : x = y := by
      have h1 := congrArg UInt8.toNat h.1
      rw [UInt8.toNat_ofNat', UInt8.toNat_ofNat'] at h1
      omega
    rw [e, strnums_inj a b (fun z hz => ha z (by simp [hz])) (fun z hz => hb z (by simp [hz])) h.2]

theorem wf64 {a : Int} (h : (Lit.int .i64 a).wf = true) : -9223372036854775808 ≤ a ∧ a ≤ 9223372036854775807 := by
  simpa [Lit.wf, IntKind.min, IntKind.max, IntKind.bits, IntKind.signed] using h
theorem wf8 {a : Int} (h : (Lit.int .u8 a).wf = true) : 0 ≤ a ∧ a ≤ 255 := by
  simpa [Lit.wf, IntKind.min, IntKind.max, IntKind.bits, IntKind.signed] using h

theorem sz2_some (a0 a1 a2 a3 a4 : Int) (b5 b6 : Bool) (a7 : Int) (l : List Int) (hm : l.length ≤ maxLen) (m : Int) (h0 : 0 ≤ m ∧ m ≤ 1048576) : laws_szMacFrame.f a0 a1 a2 a3 a4 b5 b6 a7 l m = some (if (l.length : Int) ≤ m then m - (l.length : Int) else -1) := by
  unfold maxLen at hm
  unfold laws_szMacFrame.f laws_szByteS.f
  by_cases h : (l.length : Int) ≤ m
  · rw [w64s (by omega) (by omega), if_neg (by omega), if_pos h]
    simp only [Option.bind_some]
    rw [if_neg (by omega)]
  · rw [w64 (by omega) (by omega), if_pos (by omega), if_neg h]
    rfl
theorem seqb_some (a b : List Int) (ha : ∀ x ∈ a, 0 ≤ x ∧ x ≤ 255) (hb : ∀ x ∈ b, 0 ≤ x ∧ x ≤ 255) : spec_EqualBytes.f a b = some (decide (a = b)) := by
  unfold spec_EqualBytes.f
  rw [Go.Lib.strOfNums_toList, Go.Lib.strOfNums_toList]
  refine congrArg some ?_
  by_cases h : a = b
  · subst h
    simp
  · rw [decide_eq_false h]
    have : Go.Lib.bytesOf a ≠ Go.Lib.bytesOf b := fun e => h (strnums_inj a b ha hb e)
    simpa using this
section
variable (a0 a1 a2 a3 a4 : Int) (a5 a6 : Bool) (a7 : Int) (l : List Int) (b0 b1 b2 b3 b4 : Int) (b5 b6 : Bool) (b7 : Int) (m : List Int)
theorem eqf_ev (hn : l.length ≤ 1048576) (ha : ∀ x ∈ l, 0 ≤ x ∧ x ≤ 255) (hb : ∀ x ∈ m, 0 ≤ x ∧ x ≤ 255) : ∃ r : Bool, spec_EqualFrames.f a0 a1 a2 a3 a4 a5 a6 a7 l b0 b1 b2 b3 b4 b5 b6 b7 m = some r ∧ Ev (fun k => impl_EqualFrames.f k a0 a1 a2 a3 a4 a5 a6 a7 l b0 b1 b2 b3 b4 b5 b6 b7 m) r := by
  unfold spec_EqualFrames.f impl_EqualFrames.f
  by_cases h0 : a0 = b0
  · rw [if_pos h0]
    by_cases h1 : a1 = b1
    · rw [if_pos h1]
      by_cases h2 : a2 = b2
      · rw [if_pos h2]
        by_cases h3 : a3 = b3
        · rw [if_pos h3]
          by_cases h4 : a4 = b4
          · rw [if_pos h4]
            by_cases h5 : (a5 == b5) = true
            · rw [if_pos h5]
              by_cases h6 : (a6 == b6) = true
              · rw [if_pos h6]
                by_cases h7 : a7 = b7
                · rw [if_pos h7, seqb_some l m ha hb]
                  exact ⟨_, rfl, evp h0 (evp h1 (evp h2 (evp h3 (evp h4 (evp h5 (evp h6 (evp h7 (Ev.bind (ieqb_ev l m (by omega)) (evc rfl)))))))))⟩
                · rw [if_neg h7]
                  exact ⟨_, rfl, evp h0 (evp h1 (evp h2 (evp h3 (evp h4 (evp h5 (evp h6 (evn h7 (evc rfl))))))))⟩
              · rw [if_neg h6]
                exact ⟨_, rfl, evp h0 (evp h1 (evp h2 (evp h3 (evp h4 (evp h5 (evn h6 (evc rfl)))))))⟩
            · rw [if_neg h5]
              exact ⟨_, rfl, evp h0 (evp h1 (evp h2 (evp h3 (evp h4 (evn h5 (evc rfl))))))⟩
          · rw [if_neg h4]
            exact ⟨_, rfl, evp h0 (evp h1 (evp h2 (evp h3 (evn h4 (evc rfl)))))⟩
        · rw [if_neg h3]
          exact ⟨_, rfl, evp h0 (evp h1 (evp h2 (evn h3 (evc rfl))))⟩
      · rw [if_neg h2]
        exact ⟨_, rfl, evp h0 (evp h1 (evn h2 (evc rfl)))⟩
    · rw [if_neg h1]
      exact ⟨_, rfl, evp h0 (evn h1 (evc rfl))⟩
  · rw [if_neg h0]
    exact ⟨_, rfl, evn h0 (evc rfl)⟩
theorem FnExactEqualFrames (_ : (Lit.int .i64 a0).wf = true) (_ : (Lit.int .i64 a1).wf = true) (_ : (Lit.int .i64 a2).wf = true) (_ : (Lit.int .i64 a3).wf = true) (_ : (Lit.int .i64 a4).wf = true) (_ : (Lit.int .i64 a7).wf = true) (hm : l.length ≤ maxLen) (hw : ∀ x ∈ l, (Lit.int .u8 x).wf = true)
    (_ : (Lit.int .i64 b0).wf = true) (_ : (Lit.int .i64 b1).wf = true) (_ : (Lit.int .i64 b2).wf = true) (_ : (Lit.int .i64 b3).wf = true) (_ : (Lit.int .i64 b4).wf = true) (_ : (Lit.int .i64 b7).wf = true) (hm2 : m.length ≤ maxLen) (hw2 : ∀ x ∈ m, (Lit.int .u8 x).wf = true) :
    ∃ k, laws_FnExactEqualFrames.f k a0 a1 a2 a3 a4 a5 a6 a7 l b0 b1 b2 b3 b4 b5 b6 b7 m = some true := by
  refine Ev.rounds (r := true) ?_
  unfold laws_FnExactEqualFrames.f
  refine evs (szMac_some _ _ _ _ _ _ _ _ _ hm) ?_
  by_cases hn : l.length ≤ 1048576
  · rw [if_pos hn]
    refine evn (by omega) (evs (sz2_some _ _ _ _ _ _ _ _ _ hm2 _ (by omega)) ?_)
    by_cases hn2 : (m.length : Int) ≤ 1048576 - (l.length : Int)
    · rw [if_pos hn2]
      obtain ⟨r, hs, hi⟩ := eqf_ev a0 a1 a2 a3 a4 a5 a6 a7 l b0 b1 b2 b3 b4 b5 b6 b7 m hn (fun x hx => wf8 (hw x hx)) (fun x hx => wf8 (hw2 x hx))
      have t1 := toMac_ev a0 a1 a2 a3 a4 a5 a6 a7 l hn
      have t2 := toMac_ev b0 b1 b2 b3 b4 b5 b6 b7 m (by omega)
      exact evn (by omega) (Ev.bind t1 (Ev.bind t2 (evs hs (Ev.bind t1 (Ev.bind t2 (Ev.bind hi (evn (by simp) (Ev.bind t1 (Ev.bind (eqMac_ev a0 a1 a2 a3 a4 a5 a6 a7 l hn) (evp rfl (Ev.bind t2 (Ev.bind (eqMac_ev b0 b1 b2 b3 b4 b5 b6 b7 m (by omega)) (evp rfl (evc rfl))))))))))))))
    · rw [if_neg hn2]
      exact evp (by decide) (evc rfl)
  · rw [if_neg hn]
    exact evp (by decide) (evc rfl)
end

end Go.Proofs.Ytmmgjhffjmdhhaa.Pure
