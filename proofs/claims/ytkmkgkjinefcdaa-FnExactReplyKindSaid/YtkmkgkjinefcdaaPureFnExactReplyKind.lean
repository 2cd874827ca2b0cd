/-
  The program's ReplyKind and the reference's agree at every frame whose body has at most 2^20 bytes, and the argument is left as it was.
  Conditions: none beyond the given statement's own.
-/
import Derived.Test.YtkmkgkjinefcdaaPFnExactReplyKindx2
set_option linter.unusedVariables false
set_option linter.unusedSimpArgs false
namespace Go.Proofs.Ytkmkgkjinefcdaa.Pure
open Go.RowKit Go.Proofs.Ytkmkgkjinefcdaa.PFnExactReplyKind Go.Proofs.YtkmkgkjinefcdaaW.PrintWords Go.Proofs.YtkmkgkjinefcdaaW.PrintLast Go.Proofs.YtkmkgkjinefcdaaW.PrintMore

theorem evp {α : Type} {c : Prop} [Decidable c] {A B : Nat → Option α} {r : α} (hc : c) (h : Ev A r) : Ev (fun k => if c then A k else B k) r :=
  Ev.congr (fun k => if_pos hc) h
theorem evn {α : Type} {c : Prop} [Decidable c] {A B : Nat → Option α} {r : α} (hc : ¬ c) (h : Ev B r) : Ev (fun k => if c then A k else B k) r :=
  Ev.congr (fun k => if_neg hc) h
theorem evs {α β : Type} {g : Option α} {a : α} {f : Nat → α → Option β} {r : β} (hg : g = some a) (h : Ev (fun k => f k a) r) : Ev (fun k => g.bind (f k)) r :=
  Ev.congr (fun k => by rw [hg]; rfl) h
theorem evc {α : Type} {g : Option α} {r : α} (h : g = some r) : Ev (fun _ => g) r := ⟨0, fun _ _ => h⟩
theorem ev_eq {α : Type} {g : Nat → Option α} {r r' : α} (h : Ev g r) (e : r = r') : Ev g r' := e ▸ h
theorem w64 {n : Int} (h0 : -9223372036854775808 ≤ n) (h1 : n ≤ 9223372036854775807) : wrap64 n = n := by
  unfold wrap64
  omega
theorem w64s {n : Int} (h0 : -1000000000000000000 ≤ n) (h1 : n ≤ 1000000000000000000) : wrap64 n = n := w64 (by omega) (by omega)
theorem ev1 {α : Type} {g : Nat → Option α} {r : α} (h : Ev (fun k => g (k + 1)) r) : Ev g r := Ev.step (fun _ => rfl) h
theorem dt {p : Prop} [Decidable p] (h : p) : decide p = true := decide_eq_true h
theorem dnt {p : Prop} [Decidable p] (h : ¬ p) : ¬ (decide p = true) := by simp [h]
theorem ntd {p : Prop} [Decidable p] (h : ¬ p) : (!decide p) = true := by simp [h]
theorem ntt {p : Prop} [Decidable p] (h : p) : ¬ ((!decide p) = true) := by simp [h]
theorem evk {α : Type} {g : Nat → Option α} {r : α} (h : ∀ k, g k = some r) : Ev g r := ⟨0, fun k _ => h k⟩
theorem dec_iff {p q : Prop} [Decidable p] [Decidable q] (h : p ↔ q) : decide p = decide q := by
  by_cases hq : q
  · rw [decide_eq_true hq, decide_eq_true (h.2 hq)]
  · rw [decide_eq_false hq, decide_eq_false (fun hp => hq (h.1 hp))]

theorem rd_nat (l : List Int) (i : Nat) : rd l (i : Int) = l.getD i 0 := by
  unfold rd
  rw [Int.toNat_natCast]
theorem rd_mem {l : List Int} {i : Nat} (h : i < l.length) : l.getD i 0 ∈ l := by
  rw [List.getD_eq_getElem?_getD, List.getElem?_eq_getElem h]
  exact List.getElem_mem h
theorem list_ext {a b : List Int} (hl : a.length = b.length) (h : ∀ i, i < a.length → a.getD i 0 = b.getD i 0) : a = b := by
  apply List.ext_getElem hl
  intro i h1 h2
  have := h i h1
  rw [List.getD_eq_getElem?_getD, List.getD_eq_getElem?_getD, List.getElem?_eq_getElem h1, List.getElem?_eq_getElem h2] at this
  simpa using this
theorem getD_set (l : List Int) (i j : Nat) (v : Int) : (l.set i v).getD j 0 = if i = j ∧ j < l.length then v else l.getD j 0 := by
  rw [List.getD_eq_getElem?_getD, List.getElem?_set, List.getD_eq_getElem?_getD]
  by_cases h : i = j
  · subst h
    by_cases h2 : i < l.length
    · simp [h2]
    · simp [h2]
  · simp [h]

theorem toBytes_loop (x0 : List Int) (hn : x0.length ≤ 4000000000000000) : ∀ (d i : Nat) (x3 : List Int), i + d = x0.length → x3.length = x0.length → (∀ j, j < i → x3.getD j 0 = x0.getD j 0) → Ev (fun k => laws_toByteS.l0 k x0 x3 i) x0 := by
  intro d
  induction d with
  | zero =>
    intro i x3 hi hl hj
    refine ev1 ?_
    refine evn (by omega) (evc ?_)
    rw [list_ext hl (fun j h => hj j (by omega))]
  | succ d ih =>
    intro i x3 hi hl hj
    refine ev1 ?_
    refine evp (by omega) (evp (by omega) (evp (by omega) ?_))
    rw [w64s (by omega) (by omega), Int.toNat_natCast, rd_nat]
    have := ih (i + 1) (x3.set i (x0.getD i 0)) (by omega) (by simpa using hl) (by
      intro j h
      rw [getD_set]
      by_cases e : i = j
      · subst e
        rw [if_pos ⟨rfl, by omega⟩]
      · rw [if_neg (fun h' => e h'.1)]
        exact hj j (by omega))
    exact this
theorem toBytes_ev (l : List Int) (hn : l.length ≤ 1048576) : Ev (fun k => laws_toByteS.f k l) l := by
  unfold laws_toByteS.f
  refine evp (by omega) (evp (by omega) ?_)
  exact toBytes_loop l (by omega) l.length 0 _ (by omega) (by simp) (by intro j h; omega)

theorem eqBytes_loop (x : List Int) (hn : x.length ≤ 4000000000000000) : ∀ (d i : Nat), i + d = x.length → Ev (fun k => laws_eqByteS.l0 k x x i) true := by
  intro d
  induction d with
  | zero =>
    intro i hi
    refine ev1 ?_
    exact evn (by omega) (evc rfl)
  | succ d ih =>
    intro i hi
    refine ev1 ?_
    refine evp (by omega) (evp (by omega) (evp (by omega) (evp rfl ?_)))
    rw [w64s (by omega) (by omega)]
    exact ih (i + 1) (by omega)
theorem eqBytes_ev (l : List Int) (hn : l.length ≤ 4000000000000000) : Ev (fun k => laws_eqByteS.f k l l) true := by
  unfold laws_eqByteS.f
  exact evp rfl (eqBytes_loop l hn l.length 0 (by omega))

theorem szMac_some (a0 a1 a2 a3 a4 : Int) (b5 b6 : Bool) (a7 : Int) (l : List Int) (hm : l.length ≤ maxLen) : laws_szMacFrame.f a0 a1 a2 a3 a4 b5 b6 a7 l 1048576 = some (if l.length ≤ 1048576 then (1048576 : Int) - (l.length : Int) else -1) := by
  unfold maxLen at hm
  unfold laws_szMacFrame.f laws_szByteS.f
  by_cases h : l.length ≤ 1048576
  · rw [w64s (by omega) (by omega), if_neg (by omega), if_pos h]
    simp only [Option.bind_some]
    rw [if_neg (by omega)]
  · rw [w64 (by omega) (by omega), if_pos (by omega), if_neg h]
    rfl
theorem toMac_ev (a0 a1 a2 a3 a4 : Int) (b5 b6 : Bool) (a7 : Int) (l : List Int) (hn : l.length ≤ 1048576) : Ev (fun k => laws_toMacFrame.f k a0 a1 a2 a3 a4 b5 b6 a7 l) (a0, a1, a2, a3, a4, b5, b6, a7, l) := by
  unfold laws_toMacFrame.f
  exact Ev.bind (toBytes_ev l hn) (evc rfl)
theorem eqMac_ev (a0 a1 a2 a3 a4 : Int) (b5 b6 : Bool) (a7 : Int) (l : List Int) (hn : l.length ≤ 1048576) : Ev (fun k => laws_eqMacFrame.f k a0 a1 a2 a3 a4 b5 b6 a7 l a0 a1 a2 a3 a4 b5 b6 a7 l) true := by
  unfold laws_eqMacFrame.f
  exact evp rfl (evp rfl (evp rfl (evp rfl (evp rfl (evn (by simp) (evn (by simp) (evp rfl (Ev.bind (eqBytes_ev l (by omega)) (evp rfl (evc rfl))))))))))

def needs (a0 a2 : Int) : Bool := (a0 == 1 || a0 == 6) && a2 != 63
theorem needs_some (a0 a1 a2 a3 a4 : Int) (b5 b6 : Bool) (a7 : Int) (l : List Int) : impl_NeedsAck.f a0 a1 a2 a3 a4 b5 b6 a7 l = some (needs a0 a2) := by
  unfold impl_NeedsAck.f needs
  by_cases h1 : a0 = 1
  · simp [h1]
  · by_cases h6 : a0 = 6 <;> simp [h1, h6]
def kindR (a0 a2 : Int) : Int := if needs a0 a2 = true then 2 else if a0 = 3 then 4 else if a0 = 7 then 2 else 0
theorem kind_some (a0 a1 a2 a3 a4 : Int) (b5 b6 : Bool) (a7 : Int) (l : List Int) : impl_ReplyKind.f a0 a1 a2 a3 a4 b5 b6 a7 l = some (kindR a0 a2) := by
  unfold impl_ReplyKind.f kindR
  rw [needs_some]
  simp only [Option.bind_some]
  repeat' split
  all_goals rfl

theorem sneeds_some (a0 a1 a2 a3 a4 : Int) (b5 b6 : Bool) (a7 : Int) (l : List Int) : spec_NeedsAck.f a0 a1 a2 a3 a4 b5 b6 a7 l = some (needs a0 a2) := by
  unfold spec_NeedsAck.f needs
  by_cases h1 : a0 = 1
  · simp [h1]
  · by_cases h6 : a0 = 6 <;> simp [h1, h6]
theorem skind_ev (a0 a1 a2 a3 a4 : Int) (b5 b6 : Bool) (a7 : Int) (l : List Int) : Ev (fun k => spec_ReplyKind.f k a0 a1 a2 a3 a4 b5 b6 a7 l) (kindR a0 a2) := by
  unfold spec_ReplyKind.f
  refine evs (sneeds_some _ _ _ _ _ _ _ _ _) ?_
  unfold kindR
  by_cases h : needs a0 a2 = true
  · rw [if_pos h]
    exact evp h (ev1 (evk fun _ => rfl))
  · rw [if_neg h]
    refine evn h ?_
    have hf : ∀ q : Bool, (a0 == 7) = q → Ev (fun k => spec_ReplyKind.j0 k q a0 a1 a2 a3 a4 b5 b6 a7 l) (if a0 = 3 then 4 else if a0 = 7 then 2 else 0) := by
      intro q hq
      cases q with
      | true =>
        have h7 : a0 = 7 := by simpa using hq
        subst h7
        exact ev1 (evk fun _ => rfl)
      | false =>
        have h7 : a0 ≠ 7 := by simpa using hq
        rw [if_neg h7]
        refine ev1 ?_
        by_cases h3 : a0 = 3
        · rw [if_pos h3]
          exact evp h3 (evc rfl)
        · rw [if_neg h3]
          exact evn h3 (evc rfl)
    exact hf _ rfl

theorem FnExactReplyKind (a0 a1 a2 a3 a4 : Int) (b5 b6 : Bool) (a7 : Int) (l : List Int) (_ : (Lit.int .i64 a0).wf = true) (_ : (Lit.int .i64 a1).wf = true) (_ : (Lit.int .i64 a2).wf = true) (_ : (Lit.int .i64 a3).wf = true) (_ : (Lit.int .i64 a4).wf = true) (_ : (Lit.int .i64 a7).wf = true) (hm : l.length ≤ maxLen) (_ : ∀ x ∈ l, (Lit.int .u8 x).wf = true) :
    ∃ k, laws_FnExactReplyKind.f k a0 a1 a2 a3 a4 b5 b6 a7 l = some true := by
  refine Ev.rounds (r := true) ?_
  unfold laws_FnExactReplyKind.f
  refine evs (szMac_some _ _ _ _ _ _ _ _ _ hm) ?_
  by_cases hn : l.length ≤ 1048576
  · rw [if_pos hn]
    exact evn (by omega) (Ev.bind (toMac_ev _ _ _ _ _ _ _ _ _ hn) (Ev.bind (skind_ev _ _ _ _ _ _ _ _ _) (Ev.bind (toMac_ev _ _ _ _ _ _ _ _ _ hn) (evs (kind_some _ _ _ _ _ _ _ _ _) (evp rfl (Ev.bind (toMac_ev _ _ _ _ _ _ _ _ _ hn) (Ev.bind (eqMac_ev _ _ _ _ _ _ _ _ _ hn) (evp rfl (evc rfl)))))))))
  · rw [if_neg hn]
    exact evp (by decide) (evc rfl)

end Go.Proofs.Ytkmkgkjinefcdaa.Pure
