/-
  The program's EncodeFrame and the reference's agree at every frame whose body has at most 2^20 bytes, the argument is left as it was, and the answers share no memory.
  Conditions: none beyond the given statement's own.
-/
import Derived.Test.YthdjoogholigbaaPFnExactEncodeFramex7
set_option linter.unusedVariables false
set_option linter.unusedSimpArgs false
namespace Go.Proofs.Ythdjoogholigbaa.Pure
open Go.RowKit Go.Proofs.Ythdjoogholigbaa.PFnExactEncodeFrame Go.Proofs.YthdjoogholigbaaW.PrintWords Go.Proofs.YthdjoogholigbaaW.PrintLast Go.Proofs.YthdjoogholigbaaW.PrintMore

theorem evp {α : Type} {c : Prop} [Decidable c] {A B : Nat → Option α} {r : α} (hc : c) (h : Ev A r) : Ev (fun k => if c then A k else B k) r :=
  Ev.congr (fun k => if_pos hc) h
theorem evn {α : Type} {c : Prop} [Decidable c] {A B : Nat → Option α} {r : α} (hc : ¬ c) (h : Ev B r) : Ev (fun k => if c then A k else B k) r :=
  Ev.congr (fun k => if_neg hc) h
theorem evs {α β : Type} {g : Option α} {a : α} {f : Nat → α → Option β} {r : β} (hg : g = some a) (h : Ev (fun k => f k a) r) : Ev (fun k => g.bind (f k)) r :=
  Ev.congr (fun k => by rw [hg]; rfl) h
theorem evc {α : Type} {g : Option α} {r : α} (h : g = some r) : Ev (fun _ => g) r := ⟨0, fun _ _ => h⟩
theorem ev_eq {α : Type} {g : Nat → Option α} {r r' : α} (h : Ev g r) (e : r = r') : Ev g r' := e ▸ h
theorem w64 {n : Int} (h0 : -9223372036854775808 ≤ n) (h1 : n ≤ 9223372036854775807) : wrap64 n = n := by
  unfold wrap64
  omega
theorem w64s {n : Int} (h0 : -1000000000000000000 ≤ n) (h1 : n ≤ 1000000000000000000) : wrap64 n = n := w64 (by omega) (by omega)
theorem ev1 {α : Type} {g : Nat → Option α} {r : α} (h : Ev (fun k => g (k + 1)) r) : Ev g r := Ev.step (fun _ => rfl) h
theorem dt {p : Prop} [Decidable p] (h : p) : decide p = true := decide_eq_true h
theorem dnt {p : Prop} [Decidable p] (h : ¬ p) : ¬ (decide p = true) := by simp [h]
theorem ntd {p : Prop} [Decidable p] (h : ¬ p) : (!decide p) = true := by simp [h]
theorem ntt {p : Prop} [Decidable p] (h : p) : ¬ ((!decide p) = true) := by simp [h]
theorem evk {α : Type} {g : Nat → Option α} {r : α} (h : ∀ k, g k = some r) : Ev g r := ⟨0, fun k _ => h k⟩
theorem dec_iff {p q : Prop} [Decidable p] [Decidable q] (h : p ↔ q) : decide p = decide q := by
  by_cases hq : q
  · rw [decide_eq_true hq, decide_eq_true (h.2 hq)]
  · rw [decide_eq_false hq, decide_eq_false (fun hp => hq (h.1 hp))]

theorem rd_nat (l : List Int) (i : Nat) : rd l (i : Int) = l.getD i 0 := by
  unfold rd
  rw [Int.toNat_natCast]
theorem rd_mem {l : List Int} {i : Nat} (h : i < l.length) : l.getD i 0 ∈ l := by
  rw [List.getD_eq_getElem?_getD, List.getElem?_eq_getElem h]
  exact List.getElem_mem h
theorem list_ext {a b : List Int} (hl : a.length = b.length) (h : ∀ i, i < a.length → a.getD i 0 = b.getD i 0) : a = b := by
  apply List.ext_getElem hl
  intro i h1 h2
  have := h i h1
  rw [List.getD_eq_getElem?_getD, List.getD_eq_getElem?_getD, List.getElem?_eq_getElem h1, List.getElem?_eq_getElem h2] at this
  simpa using this
theorem getD_set (l : List Int) (i j : Nat) (v : Int) : (l.set i v).getD j 0 = if i = j ∧ j < l.length then v else l.getD j 0 := by
  rw [List.getD_eq_getElem?_getD, List.getElem?_set, List.getD_eq_getElem?_getD]
  by_cases h : i = j
  · subst h
    by_cases h2 : i < l.length
    · simp [h2]
    · simp [h2]
  · simp [h]

theorem toBytes_loop (x0 : List Int) (hn : x0.length ≤ 4000000000000000) : ∀ (d i : Nat) (x3 : List Int), i + d = x0.length → x3.length = x0.length → (∀ j, j < i → x3.getD j 0 = x0.getD j 0) → Ev (fun k => laws_toByteS.l0 k x0 x3 i) x0 := by
  intro d
  induction d with
  | zero =>
    intro i x3 hi hl hj
    refine ev1 ?_
    refine evn (by omega) (evc ?_)
    rw [list_ext hl (fun j h => hj j (by omega))]
  | succ d ih =>
    intro i x3 hi hl hj
    refine ev1 ?_
    refine evp (by omega) (evp (by omega) (evp (by omega) ?_))
    rw [w64s (by omega) (by omega), Int.toNat_natCast, rd_nat]
    have := ih (i + 1) (x3.set i (x0.getD i 0)) (by omega) (by simpa using hl) (by
      intro j h
      rw [getD_set]
      by_cases e : i = j
      · subst e
        rw [if_pos ⟨rfl, by omega⟩]
      · rw [if_neg (fun h' => e h'.1)]
        exact hj j (by omega))
    exact this
theorem toBytes_ev (l : List Int) (hn : l.length ≤ 1048576) : Ev (fun k => laws_toByteS.f k l) l := by
  unfold laws_toByteS.f
  refine evp (by omega) (evp (by omega) ?_)
  exact toBytes_loop l (by omega) l.length 0 _ (by omega) (by simp) (by intro j h; omega)

theorem eqBytes_loop (x : List Int) (hn : x.length ≤ 4000000000000000) : ∀ (d i : Nat), i + d = x.length → Ev (fun k => laws_eqByteS.l0 k x x i) true := by
  intro d
  induction d with
  | zero =>
    intro i hi
    refine ev1 ?_
    exact evn (by omega) (evc rfl)
  | succ d ih =>
    intro i hi
    refine ev1 ?_
    refine evp (by omega) (evp (by omega) (evp (by omega) (evp rfl ?_)))
    rw [w64s (by omega) (by omega)]
    exact ih (i + 1) (by omega)
theorem eqBytes_ev (l : List Int) (hn : l.length ≤ 4000000000000000) : Ev (fun k => laws_eqByteS.f k l l) true := by
  unfold laws_eqByteS.f
  exact evp rfl (eqBytes_loop l hn l.length 0 (by omega))

theorem szMac_some (a0 a1 a2 a3 a4 : Int) (b5 b6 : Bool) (a7 : Int) (l : List Int) (hm : l.length ≤ maxLen) : laws_szMacFrame.f a0 a1 a2 a3 a4 b5 b6 a7 l 1048576 = some (if l.length ≤ 1048576 then (1048576 : Int) - (l.length : Int) else -1) := by
  unfold maxLen at hm
  unfold laws_szMacFrame.f laws_szByteS.f
  by_cases h : l.length ≤ 1048576
  · rw [w64s (by omega) (by omega), if_neg (by omega), if_pos h]
    simp only [Option.bind_some]
    rw [if_neg (by omega)]
  · rw [w64 (by omega) (by omega), if_pos (by omega), if_neg h]
    rfl
theorem toMac_ev (a0 a1 a2 a3 a4 : Int) (b5 b6 : Bool) (a7 : Int) (l : List Int) (hn : l.length ≤ 1048576) : Ev (fun k => laws_toMacFrame.f k a0 a1 a2 a3 a4 b5 b6 a7 l) (a0, a1, a2, a3, a4, b5, b6, a7, l) := by
  unfold laws_toMacFrame.f
  exact Ev.bind (toBytes_ev l hn) (evc rfl)
theorem eqMac_ev (a0 a1 a2 a3 a4 : Int) (b5 b6 : Bool) (a7 : Int) (l : List Int) (hn : l.length ≤ 1048576) : Ev (fun k => laws_eqMacFrame.f k a0 a1 a2 a3 a4 b5 b6 a7 l a0 a1 a2 a3 a4 b5 b6 a7 l) true := by
  unfold laws_eqMacFrame.f
  exact evp rfl (evp rfl (evp rfl (evp rfl (evp rfl (evn (by simp) (evn (by simp) (evp rfl (Ev.bind (eqBytes_ev l (by omega)) (evp rfl (evc rfl))))))))))

theorem in_some (x a b : Int) : impl_InRange.f x a b = some (decide (a ≤ x ∧ x ≤ b)) := by
  unfold impl_InRange.f
  by_cases h : a ≤ x <;> simp [h]

theorem l1_some (x a b : Int) : spec_l1In.f x a b = some (decide (a ≤ x ∧ x ≤ b)) := by
  unfold spec_l1In.f
  by_cases h : a ≤ x <;> simp [h]

/-- The bytes of a number, seven bits each, the lowest first. -/
def uvL : Nat → Int → List Int
  | 0, x => [x % 256]
  | d + 1, x => if x > 127 then (x % 128 + 128) :: uvL d (x / 128) else [x % 256]
theorem uvL_length : ∀ (d : Nat) (x : Int), 1 ≤ (uvL d x).length ∧ (uvL d x).length ≤ d + 1
  | 0, x => by simp [uvL]
  | d + 1, x => by
    unfold uvL
    have := uvL_length d (x / 128)
    split
    · rw [List.length_cons]
      omega
    · simp
theorem uvL_byte : ∀ (d : Nat) (x : Int), ∀ b ∈ uvL d x, 0 ≤ b ∧ b ≤ 255
  | 0, x, b, hb => by
    simp only [uvL, List.mem_singleton] at hb
    omega
  | d + 1, x, b, hb => by
    unfold uvL at hb
    split at hb
    · simp only [List.mem_cons] at hb
      rcases hb with rfl | hb
      · omega
      · exact uvL_byte d _ b hb
    · simp only [List.mem_singleton] at hb
      omega
theorem and127 (x : Int) (h : 0 ≤ x ∧ x ≤ 1000000000000) : Go.bits .and .i64 x 127 = x % 128 := by
  obtain ⟨n, rfl⟩ := Int.eq_ofNat_of_zero_le h.1
  have hw : ∀ n : Nat, n ≤ 127 → IntKind.i64.wrap (n : Int) = n := by
    intro n hn
    rw [IntKind.wrap_i64]
    omega
  have e : Go.bits .and .i64 (n : Int) 127 = IntKind.i64.wrap ((BitVec.ofInt 64 (n : Int) &&& BitVec.ofInt 64 127).toNat : Int) := rfl
  have e2 : (BitVec.ofInt 64 (n : Int) &&& BitVec.ofInt 64 127).toNat = n % 128 := by
    rw [BitVec.toNat_and, BitVec.toNat_ofInt]
    have : (BitVec.ofInt 64 127).toNat = 2 ^ 7 - 1 := by decide
    rw [this, Nat.and_two_pow_sub_one_eq_mod]
    omega
  rw [e, e2, hw _ (by omega)]
  omega
theorem or128 (y : Nat) (h : y < 128) : Go.bits .or .i64 (y : Int) 128 = (y : Int) + 128 := by
  have : ∀ y : Fin 128, Go.bits .or .i64 (y.val : Int) 128 = (y.val : Int) + 128 := by decide +kernel
  exact this ⟨y, h⟩
def uvLs (l : List Int) : List Int := l.flatMap (uvL 5)
def Small (l : List Int) : Prop := ∀ x ∈ l, 0 ≤ x ∧ x ≤ 1000000000000
theorem uvLs_length (l : List Int) : (uvLs l).length ≤ 6 * l.length := by
  induction l with
  | nil => simp [uvLs]
  | cons x r ih =>
    have := uvL_length 5 x
    simp only [uvLs, List.flatMap_cons, List.length_append, List.length_cons] at *
    omega
theorem uvLs_byte (l : List Int) : ∀ b ∈ uvLs l, 0 ≤ b ∧ b ≤ 255 := by
  intro b hb
  simp only [uvLs, List.mem_flatMap] at hb
  obtain ⟨x, _, hb⟩ := hb
  exact uvL_byte 5 x b hb
theorem dropGetD (L : List Int) (i : Nat) (h : i < L.length) : L.drop i = L.getD i 0 :: L.drop (i + 1) := by
  rw [List.drop_eq_getElem_cons h]
  congr 1
  simp [List.getD_eq_getElem?_getD, h]

def crcIn : Nat → Int → Int
  | 0, x => x
  | d + 1, x => crcIn d (if Go.bits .and .i64 x 1 = 1 then Go.bits .xor .i64 (x / 2) 33800 else x / 2)
def crcGo : Int → List Int → Int
  | acc, [] => Go.bits .xor .i64 acc 65535
  | acc, b :: r => crcGo (crcIn 8 (Go.bits .xor .i64 acc b)) r
def Bytes (l : List Int) : Prop := ∀ x ∈ l, 0 ≤ x ∧ x ≤ 255
theorem xor16 (a b : Int) (ha : 0 ≤ a ∧ a < 65536) (hb : 0 ≤ b ∧ b < 65536) : 0 ≤ Go.bits .xor .i64 a b ∧ Go.bits .xor .i64 a b < 65536 := by
  obtain ⟨a, rfl⟩ := Int.eq_ofNat_of_zero_le ha.1
  obtain ⟨b, rfl⟩ := Int.eq_ofNat_of_zero_le hb.1
  have hw : ∀ n : Nat, n < 65536 → IntKind.i64.wrap (n : Int) = n := by
    intro n hn
    rw [IntKind.wrap_i64]
    omega
  have e : Go.bits .xor .i64 (a : Int) (b : Int) = IntKind.i64.wrap ((BitVec.ofInt 64 (a : Int) ^^^ BitVec.ofInt 64 (b : Int)).toNat : Int) := rfl
  have e2 : (BitVec.ofInt 64 (a : Int) ^^^ BitVec.ofInt 64 (b : Int)).toNat < 65536 := by
    rw [BitVec.toNat_xor, BitVec.toNat_ofInt, BitVec.toNat_ofInt]
    exact Nat.xor_lt_two_pow (n := 16) (by omega) (by omega)
  rw [e, hw _ e2]
  omega
theorem crcIn_range : ∀ (d : Nat) (x : Int), 0 ≤ x ∧ x < 65536 → 0 ≤ crcIn d x ∧ crcIn d x < 65536
  | 0, x, h => h
  | d + 1, x, h => by
    unfold crcIn
    refine crcIn_range d _ ?_
    split
    · exact xor16 _ _ (by omega) (by omega)
    · omega
theorem crcGo_range : ∀ (l : List Int) (x : Int), Bytes l → 0 ≤ x ∧ x < 65536 → 0 ≤ crcGo x l ∧ crcGo x l < 65536
  | [], x, _, h => xor16 _ _ h (by omega)
  | b :: r, x, hb, h => by
    have := hb b (by simp)
    exact crcGo_range r _ (fun y hy => hb y (by simp [hy])) (crcIn_range 8 _ (xor16 _ _ h (by omega)))
def crcL (l : List Int) : List Int := l ++ [crcGo 65535 l % 256, crcGo 65535 l / 256]

def bodyP (k n : Int) : Prop := ((k = 2 ∨ k = 3 ∨ k = 4 ∨ k = 7) ∧ n = 0) ∨ (¬ (k = 2 ∨ k = 3 ∨ k = 4 ∨ k = 7) ∧ n ≤ 100)
instance (k n : Int) : Decidable (bodyP k n) := by unfold bodyP; infer_instance
def toP (k f t : Int) : Prop := (t = 63 ∧ (k = 1 ∨ k = 5 ∨ k = 6)) ∨ (t ≠ 63 ∧ (0 ≤ t ∧ t ≤ 15) ∧ t ≠ f)
instance (k f t : Int) : Decidable (toP k f t) := by unfold toP; infer_instance
def restP (k s g d n : Int) : Prop := (0 ≤ s ∧ s ≤ 4095) ∧ (0 ≤ g ∧ g ≤ 15) ∧ (0 ≤ d ∧ d ≤ 1000) ∧ bodyP k n
instance (k s g d n : Int) : Decidable (restP k s g d n) := by unfold restP; infer_instance
def validP (k f t s g d n : Int) : Prop := (1 ≤ k ∧ k ≤ 7) ∧ (0 ≤ f ∧ f ≤ 15) ∧ toP k f t ∧ restP k s g d n
instance (k f t s g d n : Int) : Decidable (validP k f t s g d n) := by unfold validP; infer_instance
section
variable (a0 a1 a2 a3 a4 : Int) (b5 b6 : Bool) (a7 : Int) (l : List Int)
theorem vj1_true : Ev (fun k => impl_IsValidFrame.j1 k true a0 a1 a2 a3 a4 b5 b6 a7 l) false := ev1 (evk fun _ => rfl)
theorem vj1_false : Ev (fun k => impl_IsValidFrame.j1 k false a0 a1 a2 a3 a4 b5 b6 a7 l) (decide (bodyP a0 l.length)) := by
  refine ev1 ?_
  have he : ∀ h : a0 = 2 ∨ a0 = 3 ∨ a0 = 4 ∨ a0 = 7, some ((l.length : Int) == 0) = some (decide (bodyP a0 l.length)) := by
    intro h
    have e : ((l.length : Int) == 0) = decide ((l.length : Int) = 0) := rfl
    rw [e]
    exact congrArg some (dec_iff (by unfold bodyP; omega))
  by_cases h2 : a0 = 2
  · exact evp h2 (evc (he (by omega)))
  refine evn h2 ?_
  by_cases h3 : a0 = 3
  · exact evp h3 (evc (he (by omega)))
  refine evn h3 ?_
  by_cases h4 : a0 = 4
  · exact evp h4 (evc (he (by omega)))
  refine evn h4 ?_
  by_cases h7 : a0 = 7
  · exact evp h7 (evc (he (by omega)))
  refine evn h7 (evc ?_)
  exact congrArg some (dec_iff (by unfold bodyP; omega))
theorem vj0_true : Ev (fun k => impl_IsValidFrame.j0 k true a0 a1 a2 a3 a4 b5 b6 a7 l) false := ev1 (evk fun _ => rfl)
theorem vj0_false : Ev (fun k => impl_IsValidFrame.j0 k false a0 a1 a2 a3 a4 b5 b6 a7 l) (decide (restP a0 a3 a4 a7 l.length)) := by
  refine ev1 (evs (in_some a3 0 4095) ?_)
  by_cases h1 : 0 ≤ a3 ∧ a3 ≤ 4095
  · refine evp (dt h1) (evs (in_some a4 0 15) ?_)
    by_cases h2 : 0 ≤ a4 ∧ a4 ≤ 15
    · refine evp (dt h2) (evs (in_some a7 0 1000) ?_)
      by_cases h3 : 0 ≤ a7 ∧ a7 ≤ 1000
      · rw [decide_eq_true h3]
        refine ev_eq (vj1_false a0 a1 a2 a3 a4 b5 b6 a7 l) (dec_iff ⟨fun h => ⟨h1, h2, h3, h⟩, fun h => h.2.2.2⟩)
      · rw [decide_eq_false h3, decide_eq_false (fun h : restP a0 a3 a4 a7 l.length => h3 h.2.2.1)]
        exact vj1_true a0 a1 a2 a3 a4 b5 b6 a7 l
    · refine evn (dnt h2) ?_
      rw [decide_eq_false (fun h : restP a0 a3 a4 a7 l.length => h2 h.2.1)]
      exact vj1_true a0 a1 a2 a3 a4 b5 b6 a7 l
  · refine evn (dnt h1) ?_
    rw [decide_eq_false (fun h : restP a0 a3 a4 a7 l.length => h1 h.1)]
    exact vj1_true a0 a1 a2 a3 a4 b5 b6 a7 l
theorem station_some (a : Int) : impl_isStation.f a = some (decide (0 ≤ a ∧ a ≤ 15)) := by
  unfold impl_isStation.f
  rw [in_some]
  rfl
theorem receiver_some : impl_isValidReceiver.f a0 a1 a2 a3 a4 b5 b6 a7 l = some (decide (toP a0 a1 a2)) := by
  unfold impl_isValidReceiver.f
  by_cases h : a2 = 63
  · rw [if_pos h]
    by_cases h1 : a0 = 1
    · rw [if_pos h1, decide_eq_true (by unfold toP; omega)]
    rw [if_neg h1]
    by_cases h5 : a0 = 5
    · rw [if_pos h5, decide_eq_true (by unfold toP; omega)]
    rw [if_neg h5]
    have e : (a0 == 6) = decide (a0 = 6) := rfl
    rw [e]
    exact congrArg some (dec_iff (by unfold toP; omega))
  · rw [if_neg h, station_some]
    simp only [Option.bind_some]
    by_cases h1 : 0 ≤ a2 ∧ a2 ≤ 15
    · rw [if_pos (dt h1)]
      have e : (a2 != a1) = decide (a2 ≠ a1) := by
        by_cases h2 : a2 = a1 <;> simp [h2]
      rw [e]
      exact congrArg some (dec_iff (by unfold toP; omega))
    · rw [if_neg (dnt h1), decide_eq_false (by unfold toP; omega)]
theorem validframe_ev : Ev (fun k => impl_IsValidFrame.f k a0 a1 a2 a3 a4 b5 b6 a7 l) (decide (validP a0 a1 a2 a3 a4 a7 l.length)) := by
  unfold impl_IsValidFrame.f
  refine evs (in_some a0 1 7) ?_
  by_cases h1 : 1 ≤ a0 ∧ a0 ≤ 7
  · refine evp (dt h1) (evs (station_some a1) ?_)
    by_cases h2 : 0 ≤ a1 ∧ a1 ≤ 15
    · refine evp (dt h2) (evs (receiver_some a0 a1 a2 a3 a4 b5 b6 a7 l) ?_)
      by_cases h3 : toP a0 a1 a2
      · rw [decide_eq_true h3]
        exact ev_eq (vj0_false a0 a1 a2 a3 a4 b5 b6 a7 l) (dec_iff ⟨fun h => ⟨h1, h2, h3, h⟩, fun h => h.2.2.2⟩)
      · rw [decide_eq_false h3, decide_eq_false (fun h : validP a0 a1 a2 a3 a4 a7 l.length => h3 h.2.2.1)]
        exact vj0_true a0 a1 a2 a3 a4 b5 b6 a7 l
    · refine evn (dnt h2) ?_
      rw [decide_eq_false (fun h : validP a0 a1 a2 a3 a4 a7 l.length => h2 h.2.1)]
      exact vj0_true a0 a1 a2 a3 a4 b5 b6 a7 l
  · refine evn (dnt h1) ?_
    rw [decide_eq_false (fun h : validP a0 a1 a2 a3 a4 a7 l.length => h1 h.1)]
    exact vj0_true a0 a1 a2 a3 a4 b5 b6 a7 l
end

def flagV (b5 b6 : Bool) : Int := (if b5 then 1 else 0) + 2 * (if b6 then 1 else 0)
def encF (a0 a1 a2 a3 a4 : Int) (b5 b6 : Bool) (a7 : Int) (l : List Int) : List Int :=
  if validP a0 a1 a2 a3 a4 a7 l.length then crcL (uvLs [a0, a1, a2, a3, a4, flagV b5 b6, a7] ++ l) else []
theorem crcL_length (l : List Int) : (crcL l).length = l.length + 2 := by simp [crcL]
theorem body_le (k : Int) (n : Int) (h : bodyP k n) : n ≤ 100 := by
  unfold bodyP at h
  omega
theorem encF_small (a0 a1 a2 a3 a4 : Int) (b5 b6 : Bool) (a7 : Int) (n : Int) (h : validP a0 a1 a2 a3 a4 a7 n) : Small [a0, a1, a2, a3, a4, flagV b5 b6, a7] ∧ n ≤ 100 := by
  obtain ⟨h0, h1, h2, h3, h4, h5, h6⟩ := h
  have hb := body_le _ _ h6
  have hf : 0 ≤ flagV b5 b6 ∧ flagV b5 b6 ≤ 3 := by
    unfold flagV
    split <;> split <;> omega
  unfold toP at h2
  refine ⟨?_, hb⟩
  intro x hx
  simp only [List.mem_cons, List.not_mem_nil, or_false] at hx
  rcases hx with rfl | rfl | rfl | rfl | rfl | rfl | rfl <;> omega
theorem encF_length (a0 a1 a2 a3 a4 : Int) (b5 b6 : Bool) (a7 : Int) (l : List Int) : (encF a0 a1 a2 a3 a4 b5 b6 a7 l).length ≤ 144 := by
  unfold encF
  split
  · rename_i h
    have := (encF_small a0 a1 a2 a3 a4 b5 b6 a7 _ h).2
    have h2 := uvLs_length [a0, a1, a2, a3, a4, flagV b5 b6, a7]
    simp only [List.length_cons, List.length_nil] at h2
    rw [crcL_length, List.length_append]
    omega
  · simp
theorem enc_bytes (l : List Int) (hl : Bytes l) (q : List Int) : Bytes (uvLs q ++ l) := by
  intro x hx
  rw [List.mem_append] at hx
  rcases hx with hx | hx
  · exact uvLs_byte q x hx
  · exact hl x hx

theorem copyB_some (l : List Int) (h : l.length ≤ 4000000) : impl_copyBytes.f l = some l := if_pos (by omega)
theorem iuv_loop : ∀ (d : Nat) (x : Int) (acc : List Int), 0 ≤ x → x < 128 * 128 ^ d → x ≤ 1000000000000 → acc.length + d ≤ 1000000 → Ev (fun k => impl_AppendUvarint.l0 k x acc) (acc ++ uvL d x) := by
  intro d
  induction d with
  | zero =>
    intro x acc h0 h1 h2 h3
    exact ev1 (evn (by omega) (evp (by omega) (evc rfl)))
  | succ d ih =>
    intro x acc h0 h1 h2 h3
    unfold uvL
    by_cases h : x > 127
    · rw [if_pos h]
      have hd : x / 128 < 128 * 128 ^ d := by
        rw [Int.pow_succ] at h1
        generalize (128 : Int) ^ d = q at *
        omega
      have := ih (x / 128) (acc ++ [x % 128 + 128]) (by omega) hd (by omega) (by simp; omega)
      rw [List.append_assoc] at this
      refine ev1 (evp (by omega) (evp (by omega) ?_))
      rw [Int.tmod_eq_emod_of_nonneg h0, Int.tdiv_eq_ediv_of_nonneg h0, w64s (n := x % 128 + 128) (by omega) (by omega), w64s (n := x / 128) (by omega) (by omega), show (x % 128 + 128) % 256 = x % 128 + 128 by omega]
      exact this
    · rw [if_neg h]
      exact ev1 (evn (by omega) (evp (by omega) (evc rfl)))
theorem iuv_ev (acc : List Int) (x : Int) (h : 0 ≤ x ∧ x ≤ 1000000000000) (ha : acc.length ≤ 100000) : Ev (fun k => impl_AppendUvarint.f k acc x) (acc ++ uvL 5 x) := by
  unfold impl_AppendUvarint.f
  refine evs (copyB_some acc (by omega)) (evs (in_some _ _ _) (evp (dt h) ?_))
  exact iuv_loop 5 x acc h.1 (by omega) h.2 (by omega)
theorem iints_loop (l : List Int) (hs : Small l) (hn : l.length ≤ 1000) : ∀ (d i : Nat) (acc : List Int), i + d = l.length → acc.length ≤ 6 * i → Ev (fun k => impl_EncodeInts.l0 k acc l l.length i) (acc ++ uvLs (l.drop i)) := by
  intro d
  induction d with
  | zero =>
    intro i acc hi ha
    rw [List.drop_of_length_le (by omega)]
    exact ev1 (evn (by omega) (evc (by simp [uvLs])))
  | succ d ih =>
    intro i acc hi ha
    have hx := hs _ (rd_mem (l := l) (i := i) (by omega))
    have hl := uvL_length 5 (l.getD i 0)
    refine ev1 (evp (by omega) (evp (by omega) (evp (by omega) ?_)))
    rw [rd_nat, dropGetD l i (by omega)]
    refine Ev.bind (iuv_ev acc _ hx (by omega)) ?_
    rw [w64s (n := (i : Int) + 1) (by omega) (by omega)]
    have := ih (i + 1) (acc ++ uvL 5 (l.getD i 0)) (by omega) (by rw [List.length_append]; omega)
    rw [List.append_assoc] at this
    exact this
theorem iints_ev (l : List Int) (hs : Small l) (hn : l.length ≤ 1000) : Ev (fun k => impl_EncodeInts.f k l) (uvLs l) := by
  have := iints_loop l hs hn l.length 0 [] (by omega) (by simp)
  exact this

theorem icrc_in (l : List Int) (i : Nat) (hi : i ≤ 1000000) (r : Int) : ∀ (d j : Nat) (x : Int), j + d = 8 → Ev (fun k => impl_Crc16.l0 k (crcIn d x) l l.length ((i + 1 : Nat) : Int)) r → Ev (fun k => impl_Crc16.l1 k x j l l.length i) r := by
  intro d
  induction d with
  | zero =>
    intro j x hj h
    refine ev1 (evn (by omega) ?_)
    rw [w64s (n := (i : Int) + 1) (by omega) (by omega)]
    exact h
  | succ d ih =>
    intro j x hj h
    have hw : wrap64 ((j : Int) + 1) = ((j + 1 : Nat) : Int) := by rw [w64s (by omega) (by omega)]; omega
    refine ev1 (evp (by omega) ?_)
    rw [hw]
    unfold crcIn at h
    by_cases hb : Go.bits .and .i64 x 1 = 1
    · rw [if_pos hb] at h
      exact evp hb (ih (j + 1) _ (by omega) h)
    · rw [if_neg hb] at h
      exact evn hb (ih (j + 1) _ (by omega) h)
theorem icrc_loop (l : List Int) (hb : Bytes l) (hn : l.length ≤ 100000) : ∀ (d i : Nat) (x : Int), i + d = l.length → Ev (fun k => impl_Crc16.l0 k x l l.length i) (crcGo x (l.drop i)) := by
  intro d
  induction d with
  | zero =>
    intro i x hi
    rw [List.drop_of_length_le (by omega)]
    exact ev1 (evn (by omega) (evc rfl))
  | succ d ih =>
    intro i x hi
    have hx := hb _ (rd_mem (l := l) (i := i) (by omega))
    refine ev1 (evp (by omega) (evp (by omega) (evp (by omega) ?_)))
    rw [rd_nat, w64s (n := l.getD i 0) (by omega) (by omega), dropGetD l i (by omega)]
    exact icrc_in l i (by omega) _ 8 0 _ (by omega) (ih (i + 1) _ (by omega))
theorem iacrc_ev (l : List Int) (hb : Bytes l) (hn : l.length ≤ 100000) : Ev (fun k => impl_AppendCrc.f k l) (crcL l) := by
  have hr := crcGo_range l 65535 hb (by omega)
  unfold impl_AppendCrc.f
  refine Ev.bind (icrc_loop l hb hn l.length 0 65535 (by omega)) (evs (copyB_some l (by omega)) (evs rfl (evp (by simp; omega) (evc ?_))))
  rw [List.drop_zero]
  unfold crcL
  rw [Int.tmod_eq_emod_of_nonneg hr.1, Int.tdiv_eq_ediv_of_nonneg hr.1, w64s (n := crcGo 65535 l / 256) (by omega) (by omega), show crcGo 65535 l / 256 % 256 = crcGo 65535 l / 256 by omega, show crcGo 65535 l % 256 % 256 = crcGo 65535 l % 256 by omega]

theorem iencf_ev (a0 a1 a2 a3 a4 : Int) (b5 b6 : Bool) (a7 : Int) (l : List Int) (hl : Bytes l) : Ev (fun k => impl_EncodeFrame.f k a0 a1 a2 a3 a4 b5 b6 a7 l) (encF a0 a1 a2 a3 a4 b5 b6 a7 l) := by
  unfold impl_EncodeFrame.f
  refine Ev.bind (validframe_ev a0 a1 a2 a3 a4 b5 b6 a7 l) ?_
  unfold encF
  by_cases h : validP a0 a1 a2 a3 a4 a7 l.length
  · rw [if_pos h]
    obtain ⟨hs, hn⟩ := encF_small a0 a1 a2 a3 a4 b5 b6 a7 _ h
    have hlen := uvLs_length [a0, a1, a2, a3, a4, flagV b5 b6, a7]
    simp only [List.length_cons, List.length_nil] at hlen
    have hf : wrap64 ((if b5 then (1 : Int) else 0) + wrap64 (2 * (if b6 then (1 : Int) else 0))) = flagV b5 b6 := by
      cases b5 <;> cases b6 <;> decide +kernel
    have hb5 : impl_boolToInt.f b5 = some (if b5 then 1 else 0) := by cases b5 <;> rfl
    have hb6 : impl_boolToInt.f b6 = some (if b6 then 1 else 0) := by cases b6 <;> rfl
    refine evp (dt h) (evs hb5 (evs hb6 ?_))
    rw [hf]
    exact Ev.bind (iints_ev _ hs (by simp)) (evp (by omega) (Ev.bind (iacrc_ev _ (enc_bytes l hl _) (by rw [List.length_append]; omega)) (evc rfl)))
  · rw [if_neg h]
    exact evn (dnt h) (evc rfl)

theorem scrc_in (l : List Int) (i : Nat) (hi : i ≤ 1000000) (r : Int) : ∀ (d j : Nat) (x : Int), j + d = 8 → Ev (fun k => spec_Crc16.l0 k l (crcIn d x) ((i + 1 : Nat) : Int)) r → Ev (fun k => spec_Crc16.l1 k l x i j) r := by
  intro d
  induction d with
  | zero =>
    intro j x hj h
    refine ev1 (evn (by omega) ?_)
    rw [w64s (n := (i : Int) + 1) (by omega) (by omega)]
    exact h
  | succ d ih =>
    intro j x hj h
    have hw : wrap64 ((j : Int) + 1) = ((j + 1 : Nat) : Int) := by rw [w64s (by omega) (by omega)]; omega
    refine ev1 (evp (by omega) ?_)
    rw [hw]
    unfold crcIn at h
    by_cases hb : Go.bits .and .i64 x 1 = 1
    · rw [if_pos hb] at h
      exact evp hb (ih (j + 1) _ (by omega) h)
    · rw [if_neg hb] at h
      exact evn hb (ih (j + 1) _ (by omega) h)
theorem scrc_loop (l : List Int) (hb : Bytes l) (hn : l.length ≤ 100000) : ∀ (d i : Nat) (x : Int), i + d = l.length → Ev (fun k => spec_Crc16.l0 k l x i) (crcGo x (l.drop i)) := by
  intro d
  induction d with
  | zero =>
    intro i x hi
    rw [List.drop_of_length_le (by omega)]
    exact ev1 (evn (by omega) (evc rfl))
  | succ d ih =>
    intro i x hi
    have hx := hb _ (rd_mem (l := l) (i := i) (by omega))
    refine ev1 (evp (by omega) (evp (by omega) ?_))
    rw [rd_nat, w64s (n := l.getD i 0) (by omega) (by omega), dropGetD l i (by omega)]
    exact scrc_in l i (by omega) _ 8 0 _ (by omega) (ih (i + 1) _ (by omega))
theorem sacrc_ev (l : List Int) (hb : Bytes l) (hn : l.length ≤ 100000) : Ev (fun k => spec_AppendCrc.f k l) (crcL l) := by
  have hr := crcGo_range l 65535 hb (by omega)
  unfold spec_AppendCrc.f
  refine Ev.bind (scrc_loop l hb hn l.length 0 65535 (by omega)) (evs rfl (evp (by simp; omega) (evs (show some (([] : List Int) ++ l) = some l from rfl) (evs rfl (evp (by simp; omega) (evc ?_))))))
  rw [List.drop_zero]
  unfold crcL
  rw [show crcGo 65535 l / 256 % 256 = crcGo 65535 l / 256 by omega]

theorem suv_loop : ∀ (d : Nat) (x : Int) (acc : List Int), 0 ≤ x → x < 128 * 128 ^ d → x ≤ 1000000000000 → acc.length + d ≤ 1000000 → Ev (fun k => spec_AppendUvarint.l0 k x acc) (acc ++ uvL d x) := by
  intro d
  induction d with
  | zero =>
    intro x acc h0 h1 h2 h3
    exact ev1 (evn (by omega) (evp (by omega) (evc rfl)))
  | succ d ih =>
    intro x acc h0 h1 h2 h3
    unfold uvL
    by_cases h : x > 127
    · rw [if_pos h]
      have hd : x / 128 < 128 * 128 ^ d := by
        rw [Int.pow_succ] at h1
        generalize (128 : Int) ^ d = q at *
        omega
      have := ih (x / 128) (acc ++ [x % 128 + 128]) (by omega) hd (by omega) (by simp; omega)
      rw [List.append_assoc] at this
      refine ev1 (evp h (evp (by omega) ?_))
      have e : (Go.bits .or .i64 (Go.bits .and .i64 x 127) 128) % 256 = x % 128 + 128 := by
        rw [and127 x ⟨h0, h2⟩]
        obtain ⟨y, hy⟩ := Int.eq_ofNat_of_zero_le (show 0 ≤ x % 128 by omega)
        rw [hy, or128 y (by omega)]
        omega
      rw [e]
      exact this
    · rw [if_neg h]
      exact ev1 (evn h (evp (by omega) (evc rfl)))
theorem suv_ev (acc : List Int) (x : Int) (h : 0 ≤ x ∧ x ≤ 1000000000000) (ha : acc.length ≤ 100000) : Ev (fun k => spec_AppendUvarint.f k acc x) (acc ++ uvL 5 x) := by
  unfold spec_AppendUvarint.f
  refine evs rfl (evp (by simp; omega) (evs (show some (([] : List Int) ++ acc) = some acc from rfl) (evs (l1_some _ _ _) (evp (dt h) ?_))))
  exact suv_loop 5 x acc h.1 (by omega) h.2 (by omega)
theorem sints_loop (l : List Int) (hs : Small l) (hn : l.length ≤ 1000) : ∀ (d i : Nat) (acc : List Int), i + d = l.length → acc.length ≤ 6 * i → Ev (fun k => spec_EncodeInts.l0 k l acc i) (acc ++ uvLs (l.drop i)) := by
  intro d
  induction d with
  | zero =>
    intro i acc hi ha
    rw [List.drop_of_length_le (by omega)]
    exact ev1 (evn (by omega) (evc (by simp [uvLs])))
  | succ d ih =>
    intro i acc hi ha
    have hx := hs _ (rd_mem (l := l) (i := i) (by omega))
    have hl := uvL_length 5 (l.getD i 0)
    refine ev1 (evp (by omega) (evp (by omega) ?_))
    rw [rd_nat, dropGetD l i (by omega)]
    refine Ev.bind (suv_ev acc _ hx (by omega)) ?_
    rw [w64s (n := (i : Int) + 1) (by omega) (by omega)]
    have := ih (i + 1) (acc ++ uvL 5 (l.getD i 0)) (by omega) (by rw [List.length_append]; omega)
    rw [List.append_assoc] at this
    exact this
theorem sints_ev (l : List Int) (hs : Small l) (hn : l.length ≤ 1000) : Ev (fun k => spec_EncodeInts.f k l) (uvLs l) := by
  have := sints_loop l hs hn l.length 0 [] (by omega) (by simp)
  exact this

section
variable (a0 a1 a2 a3 a4 : Int) (b5 b6 : Bool) (a7 : Int) (l : List Int)
theorem l12_some (a : Int) : spec_l12Empty.f a = some (decide (a = 2 ∨ a = 3 ∨ a = 4 ∨ a = 7)) := by
  unfold spec_l12Empty.f
  by_cases h2 : a = 2
  · rw [if_pos h2, decide_eq_true (by omega)]
  rw [if_neg h2]
  by_cases h3 : a = 3
  · rw [if_pos h3, decide_eq_true (by omega)]
  rw [if_neg h3]
  by_cases h4 : a = 4
  · rw [if_pos h4, decide_eq_true (by omega)]
  rw [if_neg h4]
  have e : (a == 7) = decide (a = 7) := rfl
  rw [e]
  exact congrArg some (dec_iff (by omega))
theorem sj1_true : Ev (fun k => spec_IsValidFrame.j1 k true a0 a1 a2 a3 a4 b5 b6 a7 l) false := ev1 (evk fun _ => rfl)
theorem sj1_false : Ev (fun k => spec_IsValidFrame.j1 k false a0 a1 a2 a3 a4 b5 b6 a7 l) (decide (restP a0 a3 a4 a7 l.length)) := by
  refine ev1 (evs (l1_some a3 0 4095) ?_)
  by_cases h1 : 0 ≤ a3 ∧ a3 ≤ 4095
  · refine evp (dt h1) (evs (l1_some a4 0 15) ?_)
    by_cases h2 : 0 ≤ a4 ∧ a4 ≤ 15
    · refine evp (dt h2) (evs (l1_some a7 0 1000) ?_)
      by_cases h3 : 0 ≤ a7 ∧ a7 ≤ 1000
      · refine evp (dt h3) ?_
        by_cases h4 : (l.length : Int) ≤ 100
        · refine evp h4 ?_
          by_cases h5 : (l.length : Int) = 0
          · refine evp h5 (evc ?_)
            rw [decide_eq_true (show restP a0 a3 a4 a7 l.length from ⟨h1, h2, h3, by unfold bodyP; omega⟩)]
          · refine evn h5 (evs (l12_some a0) (evc ?_))
            rw [← decide_not]
            exact congrArg some (dec_iff ⟨fun h => ⟨h1, h2, h3, by unfold bodyP; omega⟩, fun h => by have := h.2.2.2; unfold bodyP at this; omega⟩)
        · refine evn h4 (evc ?_)
          rw [decide_eq_false (fun h : restP a0 a3 a4 a7 l.length => by have := h.2.2.2; unfold bodyP at this; omega)]
      · refine evn (dnt h3) (evc ?_)
        rw [decide_eq_false (fun h : restP a0 a3 a4 a7 l.length => h3 h.2.2.1)]
    · refine evn (dnt h2) (evc ?_)
      rw [decide_eq_false (fun h : restP a0 a3 a4 a7 l.length => h2 h.2.1)]
  · refine evn (dnt h1) (evc ?_)
    rw [decide_eq_false (fun h : restP a0 a3 a4 a7 l.length => h1 h.1)]
theorem sj0_ev (q : Bool) (hq : (1 ≤ a0 ∧ a0 ≤ 7) → (q = true ↔ toP a0 a1 a2)) : Ev (fun k => spec_IsValidFrame.j0 k q a0 a1 a2 a3 a4 b5 b6 a7 l) (decide (validP a0 a1 a2 a3 a4 a7 l.length)) := by
  refine ev1 (evs (l1_some a0 1 7) ?_)
  by_cases h1 : 1 ≤ a0 ∧ a0 ≤ 7
  · refine evp (dt h1) (evs (l1_some a1 0 15) ?_)
    by_cases h2 : 0 ≤ a1 ∧ a1 ≤ 15
    · refine evp (dt h2) ?_
      have h3 := hq h1
      cases q with
      | true => exact ev_eq (sj1_false a0 a1 a2 a3 a4 b5 b6 a7 l) (dec_iff ⟨fun h => ⟨h1, h2, h3.1 rfl, h⟩, fun h => h.2.2.2⟩)
      | false =>
        rw [decide_eq_false (fun h : validP a0 a1 a2 a3 a4 a7 l.length => by simpa using h3.2 h.2.2.1)]
        exact sj1_true a0 a1 a2 a3 a4 b5 b6 a7 l
    · refine evn (dnt h2) ?_
      rw [decide_eq_false (fun h : validP a0 a1 a2 a3 a4 a7 l.length => h2 h.2.1)]
      exact sj1_true a0 a1 a2 a3 a4 b5 b6 a7 l
  · refine evn (dnt h1) ?_
    rw [decide_eq_false (fun h : validP a0 a1 a2 a3 a4 a7 l.length => h1 h.1)]
    exact sj1_true a0 a1 a2 a3 a4 b5 b6 a7 l
theorem svalidframe_ev : Ev (fun k => spec_IsValidFrame.f k a0 a1 a2 a3 a4 b5 b6 a7 l) (decide (validP a0 a1 a2 a3 a4 a7 l.length)) := by
  unfold spec_IsValidFrame.f
  have hS := sj0_ev a0 a1 a2 a3 a4 b5 b6 a7 l
  have hd : (1 ≤ a0 ∧ a0 ≤ 7) → a2 = 63 → ((!decide (a0 = 2 ∨ a0 = 3 ∨ a0 = 4 ∨ a0 = 7)) = true ↔ toP a0 a1 a2) := by
    intro h1 h2
    rw [← decide_not, decide_eq_true_iff]
    unfold toP
    omega
  refine evs (l1_some a2 0 15) ?_
  by_cases h1 : 0 ≤ a2 ∧ a2 ≤ 15
  · refine evp (dt h1) ?_
    by_cases h2 : a2 = a1
    · refine evp h2 (evn (by omega) (hS false (fun _ => ?_)))
      unfold toP
      simp
      omega
    · refine evn h2 (hS true (fun _ => ?_))
      unfold toP
      simp
      omega
  · refine evn (dnt h1) ?_
    by_cases h2 : a2 = 63
    · exact evp h2 (evs (l12_some a0) (hS _ (fun h => hd h h2)))
    · refine evn h2 (hS false (fun _ => ?_))
      unfold toP
      simp
      omega
end

theorem sencf_ev (a0 a1 a2 a3 a4 : Int) (b5 b6 : Bool) (a7 : Int) (l : List Int) (hl : Bytes l) : Ev (fun k => spec_EncodeFrame.f k a0 a1 a2 a3 a4 b5 b6 a7 l) (encF a0 a1 a2 a3 a4 b5 b6 a7 l) := by
  unfold spec_EncodeFrame.f
  refine Ev.bind (svalidframe_ev a0 a1 a2 a3 a4 b5 b6 a7 l) ?_
  unfold encF
  by_cases h : validP a0 a1 a2 a3 a4 a7 l.length
  · rw [if_pos h]
    obtain ⟨hs, hn⟩ := encF_small a0 a1 a2 a3 a4 b5 b6 a7 _ h
    have hlen := uvLs_length [a0, a1, a2, a3, a4, flagV b5 b6, a7]
    simp only [List.length_cons, List.length_nil] at hlen
    have hf : spec_l12Flags.f a0 a1 a2 a3 a4 b5 b6 a7 l = some (flagV b5 b6) := by
      cases b5 <;> cases b6 <;> rfl
    refine evp (dt h) (evs hf ?_)
    exact Ev.bind (sints_ev _ hs (by simp)) (evp (by omega) (Ev.bind (sacrc_ev _ (enc_bytes l hl _) (by rw [List.length_append]; omega)) (evc rfl)))
  · rw [if_neg h]
    exact evn (dnt h) (evc rfl)

def marksB (s : Int) (n : Nat) : List Int := (List.range n).map fun j : Nat => ((s + (j : Int)) % 256)
theorem marksB_length (s : Int) (n : Nat) : (marksB s n).length = n := by simp [marksB]
theorem marksB_at (s : Int) (n j : Nat) (h : j < n) : (marksB s n).getD j 0 = ((s + (j : Int)) % 256) := by
  simp [marksB, List.getD_eq_getElem?_getD, List.getElem?_map, List.getElem?_range h]
theorem markBytes_loop (n : Nat) (hn : n ≤ 4000000000000000) (s : Int) (h0 : 0 ≤ s) (hs : s ≤ 4000000000000000) : ∀ (d i : Nat) (x : List Int), i + d = n → x.length = n → (∀ j, j < i → x.getD j 0 = ((s + (j : Int)) % 256)) →
    Ev (fun k => laws_markByteS.l0 k x (s + i) i) (s + n, marksB s n) := by
  intro d
  induction d with
  | zero =>
    intro i x hi hl hj
    refine ev1 ?_
    refine evn (by omega) (evc ?_)
    rw [show i = n by omega, list_ext (a := x) (b := marksB s n) (by rw [hl, marksB_length]) (fun j h => by rw [hj j (by omega), marksB_at s n j (by omega)])]
  | succ d ih =>
    intro i x hi hl hj
    refine ev1 ?_
    refine evp (by omega) (evp (by omega) ?_)
    rw [w64s (by omega) (by omega), w64s (by omega) (by omega), Int.toNat_natCast]
    have := ih (i + 1) (x.set i ((s + (i : Int)) % 256)) (by omega) (by simpa using hl) (by
      intro j h
      rw [getD_set]
      by_cases e : i = j
      · subst e
        rw [if_pos ⟨rfl, by omega⟩]
      · rw [if_neg (fun h' => e h'.1)]
        exact hj j (by omega))
    rw [show s + ((i + 1 : Nat) : Int) = s + (i : Int) + 1 by omega] at this
    exact this
theorem markBytes_ev (l : List Int) (hn : l.length ≤ 4000000000000000) (s : Int) (h0 : 0 ≤ s) (hs : s ≤ 4000000000000000) : Ev (fun k => laws_markByteS.f k l s) (s + l.length, marksB s l.length) := by
  have := markBytes_loop l.length hn s h0 hs l.length 0 l (by omega) rfl (by intro j h; omega)
  rw [show s + ((0 : Nat) : Int) = s by omega] at this
  exact this
theorem heldBytes_loop (n : Nat) (hn : n ≤ 4000000000000000) (s : Int) (h0 : 0 ≤ s) (hs : s ≤ 4000000000000000) : ∀ (d i : Nat), i + d = n →
    Ev (fun k => laws_heldByteS.l0 k (marksB s n) (s + i) i) (s + n) := by
  intro d
  induction d with
  | zero =>
    intro i hi
    refine ev1 ?_
    refine evn (by rw [marksB_length]; omega) (evc ?_)
    rw [show i = n by omega]
  | succ d ih =>
    intro i hi
    refine ev1 ?_
    refine evp (by rw [marksB_length]; omega) (evp (by omega) (evp (by rw [rd_nat, marksB_at s n i (by omega)]) ?_))
    rw [w64s (by omega) (by omega), w64s (by omega) (by omega)]
    have := ih (i + 1) (by omega)
    rw [show s + ((i + 1 : Nat) : Int) = s + (i : Int) + 1 by omega] at this
    exact this
theorem heldBytes_ev (n : Nat) (hn : n ≤ 4000000000000000) (s : Int) (h0 : 0 ≤ s) (hs : s ≤ 4000000000000000) : Ev (fun k => laws_heldByteS.f k (marksB s n) s) (s + n) := by
  have := heldBytes_loop n hn s h0 hs n 0 (by omega)
  rw [show s + ((0 : Nat) : Int) = s by omega] at this
  exact this

theorem wf64 {a : Int} (h : (Lit.int .i64 a).wf = true) : -9223372036854775808 ≤ a ∧ a ≤ 9223372036854775807 := by
  simpa [Lit.wf, IntKind.min, IntKind.max, IntKind.bits, IntKind.signed] using h
theorem wf8 {a : Int} (h : (Lit.int .u8 a).wf = true) : 0 ≤ a ∧ a ≤ 255 := by
  simpa [Lit.wf, IntKind.min, IntKind.max, IntKind.bits, IntKind.signed] using h

theorem FnExactEncodeFrame (a0 a1 a2 a3 a4 : Int) (b5 b6 : Bool) (a7 : Int) (l : List Int) (_ : (Lit.int .i64 a0).wf = true) (_ : (Lit.int .i64 a1).wf = true) (_ : (Lit.int .i64 a2).wf = true) (_ : (Lit.int .i64 a3).wf = true) (_ : (Lit.int .i64 a4).wf = true) (_ : (Lit.int .i64 a7).wf = true) (hm : l.length ≤ maxLen) (hw : ∀ x ∈ l, (Lit.int .u8 x).wf = true) :
    ∃ k, laws_FnExactEncodeFrame.f k a0 a1 a2 a3 a4 b5 b6 a7 l = some true := by
  refine Ev.rounds (r := true) ?_
  unfold laws_FnExactEncodeFrame.f
  refine evs (szMac_some _ _ _ _ _ _ _ _ _ hm) ?_
  by_cases hn : l.length ≤ 1048576
  · rw [if_pos hn]
    have hb : Bytes l := fun x hx => wf8 (hw x hx)
    have ht := toMac_ev a0 a1 a2 a3 a4 b5 b6 a7 l hn
    have hs := sencf_ev a0 a1 a2 a3 a4 b5 b6 a7 l hb
    have hi := iencf_ev a0 a1 a2 a3 a4 b5 b6 a7 l hb
    have hlen := encF_length a0 a1 a2 a3 a4 b5 b6 a7 l
    generalize encF a0 a1 a2 a3 a4 b5 b6 a7 l = r at *
    have he := eqBytes_ev r (by omega)
    have hmk := markBytes_ev r (by omega) 1 (by omega) (by omega)
    have hh := heldBytes_ev r.length (by omega) 1 (by omega) (by omega)
    have hj : Ev (fun k => laws_FnExactEncodeFrame.j0 k r r false a0 a1 a2 a3 a4 b5 b6 a7 l) true :=
      ev1 (Ev.bind hmk (Ev.bind hh (evn (by omega) (evp rfl (Ev.bind ht (Ev.bind hi (Ev.bind he (evp rfl (Ev.bind hh (evn (by omega) (evp rfl (evc rfl))))))))))))
    have hmm : Ev (fun k => laws_markMacFrame.f k a0 a1 a2 a3 a4 b5 b6 a7 l 1) (1 + l.length, marksB 1 l.length) := by
      unfold laws_markMacFrame.f
      exact Ev.bind (markBytes_ev l (by omega) 1 (by omega) (by omega)) (evc rfl)
    exact evn (by omega) (Ev.bind ht (Ev.bind hs (Ev.bind ht (Ev.bind hi (Ev.bind he (evp rfl (Ev.bind ht (Ev.bind (eqMac_ev _ _ _ _ _ _ _ _ _ hn) (evp rfl (Ev.bind hmm (evn (by dsimp only; omega) (Ev.bind he hj))))))))))))
  · rw [if_neg hn]
    exact evp (by decide) (evc rfl)

end Go.Proofs.Ythdjoogholigbaa.Pure
