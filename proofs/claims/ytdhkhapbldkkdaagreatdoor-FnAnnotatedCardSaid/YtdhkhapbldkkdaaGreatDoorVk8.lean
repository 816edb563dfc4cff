/-
  DERIVED. Several texts of ours in one: VpPrg, VtPg1I, VtHasS, VpPt, VsIdx, VtEx, VtPt, VtPtS, VtPe, VtLnOk, VtPg2I, VpPrg2, VtLnS.
-/
import Derived.Test.YtdhkhapbldkkdaaGreatDoorVk0
import Derived.Test.YtdhkhapbldkkdaaGreatDoorVk1
import Derived.Test.YtdhkhapbldkkdaaGreatDoorVk2
import Derived.Test.YtdhkhapbldkkdaaGreatDoorVk3
import Derived.Test.YtdhkhapbldkkdaaGreatDoorVk4
import Derived.Test.YtdhkhapbldkkdaaGreatDoorVk5
import Derived.Test.YtdhkhapbldkkdaaGreatDoorVk6
import Derived.Test.YtdhkhapbldkkdaaGreatDoorVk7
import Derived.Shelf.Strings.Search3
set_option linter.unusedSimpArgs false
set_option linter.unusedVariables false
set_option maxHeartbeats 1000000
set_option maxRecDepth 10000
namespace Go.Proofs.YtdhkhapbldkkdaaGreatDoor
def kd (P : List Line) (i : Nat) : Int := match P[i]? with
 |some x => x.kind
 |none => -1
theorem kD1 {P : List Line} {i : Nat} (h : i < P.length) : kd P i = P[i].kind := by unfold kd; rw [List.getElem?_eq_getElem h]
theorem kd_ge {P : List Line} {i : Nat} (h : ¬ i < P.length) : kd P i = -1 := by unfold kd; rw [List.getElem?_eq_none (by omega)]
theorem k3t {P : List Line} {i : Nat} (h : 0 ≤ kd P i) : i < P.length := by
 rcases Nat.lt_or_ge i P.length with h' | h'
 ·exact h'
 ·rw [kd_ge (by omega)] at h; omega
def delta (k : Int) : Int := if k = 0 ∨ k = 3 ∨ k = 5 then 1 else if k = 7 then -1 else 0
theorem kRb (k : Int) : -1 ≤ delta k ∧ delta k ≤ 1 := by
 unfold delta
 split
 ·omega
 ·split <;> omega
def kBw (k : Int) : Bool := decide (k = 0) || decide (k = 3) || decide (k = 5)
theorem kFd {k : Int} : kBw k = true ↔ k = 0 ∨ k = 3 ∨ k = 5 := by simp [kBw, or_assoc]
theorem kHk {k : Int} (h : kBw k = true) : delta k = 1 := if_pos (kFd.1 h)
theorem kMh : delta 7 = -1 := by decide
theorem kK5 {k : Int} (h : kBw k = false) (h7 : k ≠ 7) : delta k = 0 := by
 unfold delta; rw [if_neg (fun e => by rw [kFd.2 e] at h; cases h), if_neg h7]
def sumTo (P : List Line) : Nat → Int
 | 0 => 0
 |i + 1 => sumTo P i + delta (kd P i)
theorem kOe (P : List Line) (i : Nat) : sumTo P i - 1 ≤ sumTo P (i + 1) ∧ sumTo P (i + 1) ≤ sumTo P i + 1 := by
 have := kRb (kd P i)
 have e : sumTo P (i + 1) = sumTo P i + delta (kd P i) := rfl
 rw [e]; omega
theorem kHx (P : List Line) : ∀ i : Nat, -(i : Int) ≤ sumTo P i ∧ sumTo P i ≤ i
 | 0 => by simp [sumTo]
 |i + 1 => by have := kHx P i; have := kOe P i; omega
theorem ivt {f : Nat → Int} (hs : ∀ i : Nat, f i - 1 ≤ f (i + 1)) {c : Int} : ∀ (n a : Nat), c ≤ f a → f (a + n) ≤ c → ∃ e : Nat, a ≤ e ∧ e ≤ a + n ∧ f e = c ∧ ∀ e' : Nat, a ≤ e' → e' < e → c < f e'
 | 0, a, h1, h2 => ⟨a, by omega, by omega, by simp only [Nat.add_zero] at h2; omega, fun e' q1 q2 => by omega⟩
 |n + 1, a, h1, h2 => by
  by_cases h : f a = c
  ·exact ⟨a, by omega, by omega, h, fun e' q1 q2 => by omega⟩
  ·have := hs a
   obtain ⟨e, e1, e2, e3, e4⟩ := ivt hs (c := c) n (a + 1) (by omega) (by rw [show a + 1 + n = a + (n + 1) by omega]; exact h2)
   refine ⟨e, by omega, by omega, e3, fun e' q1 q2 => ?_⟩
   rcases Nat.lt_or_ge a e' with q | q
   ·exact e4 e' (by omega) q2
   ·rw [show e' = a by omega]; omega
structure kCk (P : List Line) (k e : Nat) : Prop where
 le : k ≤ e
 lt : e < P.length
 sum : sumTo P (e + 1) = sumTo P k
 least : ∀ e' : Nat, k ≤ e' → e' < e → sumTo P (e' + 1) ≠ sumTo P k
def kEk : List Line → Nat → Int → Int
 | [], _, _ => -1
 |x :: L, i, o => if o + delta x.kind = 0 then (i : Int) else kEk L (i + 1) (o + delta x.kind)
theorem drop_cons {α : Type} {P : List α} {i : Nat} (h : i < P.length) : P.drop i = P[i] :: P.drop (i + 1) := by rw [List.drop_eq_getElem_cons h]
theorem kLu {P : List Line} {i : Nat} (h : i < P.length) (o : Int) : kEk (P.drop i) i o = if o + delta P[i].kind = 0 then (i : Int) else kEk (P.drop (i + 1)) (i + 1) (o + delta P[i].kind) := by
 rw [drop_cons h, kEk]
theorem kKi {P : List Line} {i : Nat} (h : ¬ i < P.length) (o : Int) : kEk (P.drop i) i o = -1 := by
 rw [List.drop_eq_nil_of_le (by omega), kEk]
def endOf (P : List Line) (k : Int) : Int := if 0 ≤ k ∧ k < P.length ∧ kBw (kd P k.toNat) = true then kEk (P.drop k.toNat) k.toNat 0 else -1
theorem kZa (P : List Line) (c : Int) : ∀ (n i : Nat), P.length - i ≤ n →
  (kEk (P.drop i) i (sumTo P i - c) = -1 ∧ ∀ e : Nat, i ≤ e → e < P.length → sumTo P (e + 1) ≠ c) ∨
  ∃ e : Nat, kEk (P.drop i) i (sumTo P i - c) = (e : Int) ∧ i ≤ e ∧ e < P.length ∧ sumTo P (e + 1) = c ∧ ∀ e' : Nat, i ≤ e' → e' < e → sumTo P (e' + 1) ≠ c := by
 intro n
 induction n with
 |zero => intro i h; exact .inl ⟨kKi (by omega) _, fun e h1 h2 => by omega⟩
 |succ n ih =>
  intro i h
  by_cases hi : i < P.length
  ·have hs : sumTo P i - c + delta P[i].kind = sumTo P (i + 1) - c := by rw [sumTo, kD1 hi]; omega
   rw [kLu hi, hs]
   by_cases h0 : sumTo P (i + 1) - c = 0
   ·rw [if_pos h0]
    exact .inr ⟨i, rfl, by omega, hi, by omega, fun e' h1 h2 => by omega⟩
   ·rw [if_neg h0]
    rcases ih (i + 1) (by omega) with ⟨a, b⟩ | ⟨e, a, b, d, f, g⟩
    ·refine .inl ⟨a, fun e h1 h2 => ?_⟩
     rcases Nat.lt_or_ge i e with q | q
     ·exact b e (by omega) h2
     ·rw [show e = i by omega]; omega
    ·refine .inr ⟨e, a, by omega, d, f, fun e' h1 h2 => ?_⟩
     rcases Nat.lt_or_ge i e' with q | q
     ·exact g e' (by omega) h2
     ·rw [show e' = i by omega]; omega
  ·exact .inl ⟨kKi hi _, fun e h1 h2 => by omega⟩
theorem kTa {P : List Line} {k : Nat} (ho : kBw (kd P k) = true) : (endOf P k = -1 ∧ ∀ e : Nat, ¬ kCk P k e) ∨ ∃ e : Nat, endOf P k = (e : Int) ∧ kCk P k e ∧ k < e := by
 have hk : k < P.length := k3t (by rcases kFd.1 ho with e | e | e <;> omega)
 unfold endOf
 rw [if_pos ⟨by omega, by omega, ho⟩, Int.toNat_natCast]
 rcases kZa P (sumTo P k) P.length k (by omega) with ⟨a, b⟩ | ⟨e, a, b, d, f, g⟩
 ·rw [show sumTo P k - sumTo P k = 0 by omega] at a
  exact .inl ⟨a, fun e h => b e h.le h.lt h.sum⟩
 ·rw [show sumTo P k - sumTo P k = 0 by omega] at a
  have h1 : sumTo P (k + 1) = sumTo P k + 1 := by rw [sumTo, kHk ho]
  refine .inr ⟨e, a, ⟨b, d, f, g⟩, ?_⟩
  rcases Nat.lt_or_ge k e with q | q
  ·exact q
  ·rw [show e = k by omega] at f; omega
theorem kCk.inj {P : List Line} {k e e' : Nat} (h : kCk P k e) (h' : kCk P k e') : e = e' := by
 rcases Nat.lt_trichotomy e e' with q | q | q
 ·exact absurd h.sum (h'.least e h.le q)
 ·exact q
 ·exact absurd h'.sum (h.least e' h'.le q)
theorem kR2 {P : List Line} {k e : Nat} (ho : kBw (kd P k) = true) (h : kCk P k e) : endOf P k = e := by
 rcases kTa ho with ⟨_, b⟩ | ⟨e', a, b, _⟩
 ·exact absurd h (b e)
 ·rw [a, b.inj h]
theorem kHy {P : List Line} {k : Int} (h : 0 ≤ endOf P k) : 0 ≤ k ∧ k < P.length ∧ kBw (kd P k.toNat) = true := by
 unfold endOf at h
 split at h
 ·assumption
 ·omega
theorem kIl {P : List Line} {k : Nat} (h : 0 ≤ endOf P k) : ∃ e : Nat, endOf P k = (e : Int) ∧ kCk P k e ∧ k < e := by
 have ho := (kHy h).2.2
 rw [Int.toNat_natCast] at ho
 rcases kTa ho with ⟨a, _⟩ | q
 ·omega
 ·exact q
theorem kCk.inside {P : List Line} {k e i : Nat} (h : kCk P k e) (ho : kBw (kd P k) = true) (h1 : k < i) (h2 : i ≤ e) : sumTo P k < sumTo P i := by
 have hk1 : sumTo P (k + 1) = sumTo P k + 1 := by rw [sumTo, kHk ho]
 rcases Int.lt_or_le (sumTo P k) (sumTo P i) with q | q
 ·exact q
 ·obtain ⟨e0, e1, e2, e3, e4⟩ := ivt (f := sumTo P) (fun i => (kOe P i).1) (c := sumTo P k) (i - (k + 1)) (k + 1) (by omega) (by rw [show k + 1 + (i - (k + 1)) = i by omega]; exact q)
  exfalso
  have := h.least (e0 - 1) (by omega) (by omega)
  rw [show e0 - 1 + 1 = e0 by omega] at this
  exact this e3
theorem kCk.kind {P : List Line} {k e : Nat} (h : kCk P k e) (ho : kBw (kd P k) = true) (hke : k < e) : kd P e = 7 := by
 have h1 := h.inside ho hke (by omega)
 have h2 := h.sum
 rw [sumTo] at h2
 have : delta (kd P e) < 0 := by omega
 unfold delta at this
 split at this
 ·omega
 ·split at this
  ·assumption
  ·omega
theorem kCk.nest {P : List Line} {k e i : Nat} (h : kCk P k e) (ho : kBw (kd P k) = true) (h1 : k < i) (h2 : i < e) (hi : kBw (kd P i) = true) : ∃ e' : Nat, endOf P i = (e' : Int) ∧ kCk P i e' ∧ i < e' ∧ e' < e := by
 have hin := h.inside ho h1 (by omega)
 have hi1 : sumTo P (i + 1) = sumTo P i + 1 := by rw [sumTo, kHk hi]
 have hs := h.sum
 obtain ⟨e0, e1, e2, e3, e4⟩ := ivt (f := sumTo P) (fun i => (kOe P i).1) (c := sumTo P i) (e + 1 - (i + 1)) (i + 1) (by omega) (by rw [show i + 1 + (e + 1 - (i + 1)) = e + 1 by omega]; omega)
 have h0 : e0 ≠ i + 1 := fun q => by rw [q] at e3; omega
 have h9 : e0 ≠ e + 1 := fun q => by rw [q] at e3; omega
 have hE : kCk P i (e0 - 1) := ⟨by omega, by have := h.lt; omega, by rw [show e0 - 1 + 1 = e0 by omega]; exact e3, fun e' q1 q2 => by
  by_cases q : e' = i
  ·subst q; omega
  ·have := e4 (e' + 1) (by omega) (by omega); omega⟩
 exact ⟨e0 - 1, kR2 hi hE, hE, by omega, by omega⟩
def kDv (P : List Line) (e i : Nat) : Int :=
 if i < e then (if kd P i = 4 then (i : Int) else if (kd P i = 3 ∨ kd P i = 5) ∧ (i : Int) ≤ endOf P i then kDv P e ((endOf P i).toNat + 1) else kDv P e (i + 1)) else -1
termination_by e - i
decreasing_by all_goals omega
def kCd (P : List Line) (k : Int) : Int := if endOf P k < 0 ∨ kd P k.toNat ≠ 3 then -1 else kDv P (endOf P k).toNat (k.toNat + 1)
theorem kK6 {P : List Line} {e i : Nat} (h : ¬ i < e) : kDv P e i = -1 := by rw [kDv, if_neg h]
theorem kOf {P : List Line} {e i : Nat} (h : i < e) (hk : kd P i = 4) : kDv P e i = i := by rw [kDv, if_pos h, if_pos hk]
theorem kM0 {P : List Line} {e i : Nat} (h : i < e) (hk : kd P i = 3 ∨ kd P i = 5) (he : (i : Int) ≤ endOf P i) : kDv P e i = kDv P e ((endOf P i).toNat + 1) := by
 rw [kDv, if_pos h, if_neg (by omega), if_pos ⟨hk, he⟩]
theorem kM1 {P : List Line} {e i : Nat} (h : i < e) (h4 : kd P i ≠ 4) (hk : ¬ ((kd P i = 3 ∨ kd P i = 5) ∧ (i : Int) ≤ endOf P i)) : kDv P e i = kDv P e (i + 1) := by
 rw [kDv, if_pos h, if_neg h4, if_neg hk]
theorem k0t (P : List Line) (e : Nat) : ∀ (n i : Nat), e - i ≤ n → kDv P e i = -1 ∨ ∃ j : Nat, kDv P e i = (j : Int) ∧ i ≤ j ∧ j < e ∧ kd P j = 4 := by
 intro n
 induction n with
 |zero => intro i h; exact .inl (kK6 (by omega))
 |succ n ih =>
  intro i h
  by_cases hi : i < e
  ·by_cases h4 : kd P i = 4
   ·exact .inr ⟨i, kOf hi h4, by omega, hi, h4⟩
   ·by_cases hk : (kd P i = 3 ∨ kd P i = 5) ∧ (i : Int) ≤ endOf P i
    ·rw [kM0 hi hk.1 hk.2]
     rcases ih ((endOf P i).toNat + 1) (by omega) with q | ⟨j, a, b, c, d⟩
     ·exact .inl q
     ·exact .inr ⟨j, a, by omega, c, d⟩
    ·rw [kM1 hi h4 hk]
     rcases ih (i + 1) (by omega) with q | ⟨j, a, b, c, d⟩
     ·exact .inl q
     ·exact .inr ⟨j, a, by omega, c, d⟩
  ·exact .inl (kK6 hi)
theorem k0u (P : List Line) (k : Nat) : kCd P k = -1 ∨ ∃ j e : Nat, kCd P k = (j : Int) ∧ k < j ∧ j < e ∧ kd P j = 4 ∧ kd P k = 3 ∧ kCk P k e := by
 unfold kCd
 split
 ·exact .inl rfl
 ·rename_i h
  rw [Int.toNat_natCast] at h ⊢
  obtain ⟨e, a, b, c⟩ := kIl (P := P) (k := k) (by omega)
  rw [a, Int.toNat_natCast]
  rcases k0t P e e (k + 1) (by omega) with q | ⟨j, q1, q2, q3, q4⟩
  ·exact .inl q
  ·exact .inr ⟨j, e, q1, by omega, q3, q4, by omega, b⟩
def funs (P : List Line) (n : Nat) : List Int := ((List.range n).filter fun i => decide (kd P i = 0)).map fun i : Nat => (i : Int)
theorem kMi (P : List Line) (n : Nat) : funs P (n + 1) = funs P n ++ if kd P n = 0 then [(n : Int)] else [] := by
 unfold funs
 rw [List.range_succ, List.filter_append, List.map_append]
 congr 1
 by_cases h : kd P n = 0
 ·simp [h]
 ·simp [h]
theorem kLv (P : List Line) : ∀ n, (funs P n).length ≤ n
 | 0 => by simp [funs]
 |n + 1 => by
  rw [kMi, List.length_append]
  have := kLv P n
  split <;> simp <;> omega
def isFn (s : ByteArray) (x : Line) : Bool := decide (x.kind = 0) && decide (x.name = s)
def kC9 (P : List Line) (s : ByteArray) : Int := firstIdx (isFn s) P
def argsAt (P : List Line) (i : Nat) : List ByteArray := match P[i]? with
 |some x => x.args
 |none => []
def kLw (P : List Line) (i : Nat) : List Tok := match P[i]? with
 |some x => x.expr
 |none => []
def nameAt (P : List Line) (i : Nat) : ByteArray := match P[i]? with
 |some x => x.name
 |none => ⟨#[]⟩
theorem kKs {P : List Line} {i : Nat} (h : i < P.length) : argsAt P i = P[i].args := by unfold argsAt; rw [List.getElem?_eq_getElem h]
theorem kMj {P : List Line} {i : Nat} (h : i < P.length) : kLw P i = P[i].expr := by unfold kLw; rw [List.getElem?_eq_getElem h]
theorem kIu {P : List Line} {i : Nat} (h : i < P.length) : nameAt P i = P[i].name := by unfold nameAt; rw [List.getElem?_eq_getElem h]
def kH9 (P : List Line) : Nat → Nat → List ByteArray → List ByteArray
 | 0, _, A => A
 |n + 1, i, A => kH9 P n (i + 1) (if kd P i = 1 ∧ nameAt P i ∉ A then A ++ [nameAt P i] else A)
def kDr (P : List Line) (k : Int) : List ByteArray := if endOf P k < 0 ∨ kd P k.toNat ≠ 0 then [] else kH9 P ((endOf P k).toNat - k.toNat) k.toNat (argsAt P k.toNat)
def kDc (P : List Line) (A : List ByteArray) (t : Tok) : Bool :=
 (if t.kind = 1 then decide (t.name ∈ A) else true) && (if t.kind = 7 then decide (0 ≤ kC9 P t.name) && decide (((argsAt P (kC9 P t.name).toNat).length : Int) = t.num) else true)
def kEa (P : List Line) (A : List ByteArray) (E : List Tok) : Bool := E.all (kDc P A)
def kFj (P : List Line) (k e : Nat) : Prop := (kDr P k).length ≤ 8 ∧ ∀ i : Nat, k < i → i < e →
 kd P i ≠ 0 ∧ (kd P i = 4 → ∃ j : Nat, k ≤ j ∧ j < i ∧ kCd P j = (i : Int)) ∧ sumTo P (i + 1) - sumTo P (k + 1) ≤ 4 ∧ kEa P (kDr P k) (kLw P i) = true
def kE1 (P : List Line) (k e : Nat) : Prop := (kDr P k).length ≤ 8 ∧ ∀ i : Nat, k < i → i ≤ e →
 kd P i ≠ 0 ∧ sumTo P i - sumTo P (k + 1) + (if kd P i = 3 ∨ kd P i = 5 then 1 else 0) ≤ 4 ∧ kEa P (kDr P k) (kLw P i) = true
inductive kDb (B : Nat → Nat → Prop) (P : List Line) : Nat → Prop
 |done : kDb B P P.length
 |step {k e : Nat} (hk : kd P k = 0) (he : kCk P k e) (hb : B k e) (h : kDb B P (e + 1)) : kDb B P k
structure kQk (P : List Line) : Prop where
 some : P ≠ []
 few : P.length ≤ 60
 main : kd P 0 = 0 ∧ nameAt P 0 = bts [109, 97, 105, 110] ∧ argsAt P 0 = []
 funs : (funs P P.length).length ≤ 6
 lines : ∀ x ∈ P, kAm x
 first : ∀ i : Nat, i < P.length → kd P i = 0 → kC9 P (nameAt P i) = (i : Int)
 kIa : kDb (kFj P) P 0
structure kW9 (P : List Line) : Prop where
 few : P.length ≤ 60
 funs : 1 ≤ (funs P P.length).length ∧ (funs P P.length).length ≤ 6
 lines : ∀ x ∈ P, kAm x
 main : kd P 0 = 0 ∧ nameAt P 0 = bts [109, 97, 105, 110] ∧ argsAt P 0 = []
 first : ∀ i : Nat, i < P.length → kd P i = 0 → kC9 P (nameAt P i) = (i : Int)
 kIa : kDb (kE1 P) P 0
 kGu : ∀ i : Nat, i < P.length → kd P i = 4 → ∃ j : Nat, j < P.length ∧ kCd P j = (i : Int)
theorem kIm {P : List Line} {k : Nat} (h : kd P k = 0 ∨ kd P k = 3 ∨ kd P k = 5) : kBw (kd P k) = true := kFd.2 h
theorem kCk.lt' {P : List Line} {k e : Nat} (h : kCk P k e) (hk : kd P k = 0) : k < e := by
 have h1 : sumTo P (k + 1) = sumTo P k + 1 := by rw [sumTo, hk]; rfl
 have h2 := h.le
 rcases Nat.lt_or_ge k e with q | q
 ·exact q
 ·have := h.sum; rw [show e = k by omega] at this; omega
theorem kDb.mono {B B' : Nat → Nat → Prop} {P : List Line} (hB : ∀ k e, kd P k = 0 → kCk P k e → B k e → B' k e) {k : Nat} (h : kDb B P k) : kDb B' P k := by
 induction h with
 |done => exact .done
 |step hk he hb _ ih => exact .step hk he (hB _ _ hk he hb) ih
theorem kDb.sums {B : Nat → Nat → Prop} {P : List Line} {k : Nat} (h : kDb B P k) : sumTo P k = 0 → ∀ i : Nat, k ≤ i → i ≤ P.length → 0 ≤ sumTo P i := by
 induction h with
 |done => intro h0 i h1 h2; rw [show i = P.length by omega, h0]; omega
 | @step k e hk he hb h ih =>
  intro h0 i h1 h2
  by_cases hi : i ≤ e
  ·by_cases hik : i = k
   ·rw [hik, h0]; omega
   ·have := he.inside (kIm (.inl hk)) (show k < i by omega) hi
    omega
  ·exact ih (by rw [he.sum, h0]) i (by omega) h2
theorem qCc {P : List Line} {k e : Nat} (hx : ∀ x ∈ P, kAm x) (hk : kd P k = 0) (he : kCk P k e) (h : kFj P k e) : kE1 P k e := by
 refine ⟨h.1, fun i h1 h2 => ?_⟩
 have hke := he.lt' hk
 have hs1 : sumTo P (k + 1) = sumTo P k + 1 := by rw [sumTo, hk]; rfl
 by_cases hie : i = e
 ·subst hie
  have h7 := he.kind (kIm (.inl hk)) hke
  have hs := he.sum
  rw [sumTo, h7, kMh] at hs
  have hx7 := hx _ (List.getElem_mem he.lt)
  rw [kD1 he.lt] at h7
  refine ⟨by rw [kD1 he.lt]; omega, by rw [kD1 he.lt, if_neg (by omega)]; omega, ?_⟩
  rw [kMj he.lt, hx7.kFv (by rw [h7]; rfl)]; rfl
 ·obtain ⟨a, b, c, d⟩ := h.2 i h1 (by omega)
  refine ⟨a, ?_, d⟩
  by_cases ho : kd P i = 3 ∨ kd P i = 5
  ·rw [if_pos ho]
   have : delta (kd P i) = 1 := if_pos (.inr ho)
   rw [sumTo, this] at c; omega
  ·rw [if_neg ho]
   rcases Nat.lt_or_ge (k + 1) i with q | q
   ·have := (h.2 (i - 1) (by omega) (by omega)).2.2.1
    rw [show i - 1 + 1 = i by omega] at this; omega
   ·rw [show i = k + 1 by omega]; omega
theorem qCd {P : List Line} {k e : Nat} (hk : kd P k = 0) (he : kCk P k e) (h : kE1 P k e) (hel : ∀ i : Nat, k < i → i < e → kd P i = 4 → ∃ j : Nat, k ≤ j ∧ j < i ∧ kCd P j = (i : Int)) : kFj P k e := by
 refine ⟨h.1, fun i h1 h2 => ?_⟩
 obtain ⟨a, b, c⟩ := h.2 i h1 (by omega)
 refine ⟨a, hel i h1 h2, ?_, c⟩
 rw [sumTo]
 have hd := kRb (kd P i)
 by_cases ho : kd P i = 3 ∨ kd P i = 5
 ·rw [if_pos ho] at b; omega
 ·rw [if_neg ho] at b
  have : delta (kd P i) ≤ 0 := by
   unfold delta
   rw [if_neg (by omega)]
   split <;> omega
  omega
theorem k7x {P : List Line} (hS : ∀ i : Nat, i ≤ P.length → 0 ≤ sumTo P i) {j i k : Nat} (h : kCd P j = (i : Int)) (hki : k < i) (hk0 : sumTo P k = 0) : k ≤ j ∧ j < i := by
 rcases k0u P j with q | ⟨i', e, a, b, c, d, f, g⟩
 ·omega
 ·obtain rfl : i' = i := by omega
  refine ⟨?_, b⟩
  rcases Nat.lt_or_ge j k with q | q
  ·have := g.inside (kIm (.inr (.inl f))) q (by omega)
   have := hS j (by have := g.lt; omega)
   omega
  ·exact q
theorem kDb.kGu {B : Nat → Nat → Prop} {P : List Line} (hS : ∀ i : Nat, i ≤ P.length → 0 ≤ sumTo P i) (hB : ∀ k e, kd P k = 0 → kCk P k e → B k e → kE1 P k e)
  (hel : ∀ i : Nat, i < P.length → kd P i = 4 → ∃ j : Nat, j < P.length ∧ kCd P j = (i : Int)) {k : Nat} (h : kDb B P k) : sumTo P k = 0 → kDb (kFj P) P k := by
 induction h with
 |done => intro _; exact .done
 | @step k e hk he hb h ih =>
  intro h0
  refine .step hk he (qCd hk he (hB k e hk he hb) fun i h1 h2 h4 => ?_) (ih (by rw [he.sum, h0]))
  obtain ⟨j, _, hj⟩ := hel i (by have := he.lt; omega) h4
  have := k7x hS hj h1 h0
  exact ⟨j, this.1, this.2, hj⟩
theorem kDb.elseIn {P : List Line} {k : Nat} (h : kDb (kFj P) P k) : ∀ i : Nat, k ≤ i → i < P.length → kd P i = 4 → ∃ j : Nat, j < P.length ∧ kCd P j = (i : Int) := by
 induction h with
 |done => intro i h1 h2; omega
 | @step k e hk he hb h ih =>
  intro i h1 h2 h4
  by_cases hie : i ≤ e
  ·have hne : i ≠ k := fun q => by rw [q] at h4; omega
   have hne2 : i ≠ e := fun q => by rw [q, he.kind (kIm (.inl hk)) (he.lt' hk)] at h4; omega
   obtain ⟨j, a, b, c⟩ := (hb.2 i (by omega) (by omega)).2.1 h4
   exact ⟨j, by omega, c⟩
  ·exact ih i (by omega) h2 h4
theorem qCe {P : List Line} (h : kQk P) : kW9 P := by
 refine ⟨h.few, ⟨?_, h.funs⟩, h.lines, h.main, h.first, h.kIa.mono fun k e hk he hb => qCc h.lines hk he hb, fun i hi h4 => h.kIa.elseIn i (by omega) hi h4⟩
 have h0 : 0 < P.length := List.length_pos_iff.2 h.some
 have : (0 : Int) ∈ Go.Proofs.YtdhkhapbldkkdaaGreatDoor.funs P P.length := by
  unfold Go.Proofs.YtdhkhapbldkkdaaGreatDoor.funs
  refine List.mem_map.2 ⟨0, List.mem_filter.2 ⟨List.mem_range.2 h0, by simp [h.main.1]⟩, rfl⟩
 have := List.length_pos_of_mem this
 omega
theorem qCf {P : List Line} (h : kW9 P) : kQk P := by
 have hS : ∀ i : Nat, i ≤ P.length → 0 ≤ sumTo P i := fun i hi => h.kIa.sums rfl i (by omega) hi
 exact ⟨fun e => by have := h.funs.1; rw [e] at this; exact absurd this (by decide), h.few, h.main, h.funs.2, h.lines, h.first, h.kIa.kGu hS (fun k e _ _ hb => hb) h.kGu rfl⟩
noncomputable def kFw (P : List Line) : Bool := @decide (kQk P) (Classical.propDecidable _)
theorem kJf {P : List Line} : kFw P = true ↔ kQk P := by
 unfold kFw
 exact @decide_eq_true_iff (kQk P) (Classical.propDecidable _)
theorem kRc {P : List Line} : kFw P = true ↔ kW9 P := kJf.trans ⟨qCe, qCf⟩
def runF (P : List Line) : List Int → Int → Prop
 | [], next => next = P.length
 |k :: F, next => k = next ∧ kC9 P (nameAt P k.toNat) = k ∧ ∃ e : Nat, kCk P k.toNat e ∧ kE1 P k.toNat e ∧ runF P F ((e : Int) + 1)
end Go.Proofs.YtdhkhapbldkkdaaGreatDoor

namespace Go.Proofs.YtdhkhapbldkkdaaGreatDoor
open Go.Vc
attribute [local irreducible] Go.Vc.WP
attribute [local go_sem] kAr kAs
attribute [local go_sem] kAq kA5 kCb kBo kBx St.fzS addL behind St.runO St.kDg
def kKw : Ctr := pur (fun args => aI args 0) (fun k => [.v (.int .i64 k)]) (fun _ => True) (fun _ k => .v (.bool (kBw k))) (fun _ _ => [])
def aPk (args : List SV) : List Line × Int := (kE4 (aR args 0), aI args 1)
attribute [local go_sem] aPk
def kBlk : Ctr := pur aPk (fun x => [.sl 4 (x.1.map kAc), .v (.int .i64 x.2)]) (fun x => x.1.length ≤ 1048576) (fun _ x => .v (.int .i64 (endOf x.1 x.2))) (fun _ _ => [])
def kMq : Ctr := pur aPk (fun x => [.sl 4 (x.1.map kAc), .v (.int .i64 x.2)]) (fun x => x.1.length ≤ 1048576) (fun _ x => .v (.int .i64 (kCd x.1 x.2))) (fun _ _ => [])
def kFuns : Ctr := pur (fun args => kE4 (aR args 0)) (fun P => [.sl 4 (P.map kAc)]) (fun P => P.length ≤ 1048576) (fun d _ => .own d) (fun d P => [(d, .sl 3 1 ((funs P P.length).map encI))])
def kGz : Ctr := pur (fun args => (kE4 (aR args 0), aS args 1)) (fun x => [.sl 4 (x.1.map kAc), .v (.string x.2)]) (fun x => x.1.length ≤ 1048576) (fun _ x => .v (.int .i64 (kC9 x.1 x.2))) (fun _ _ => [])
theorem kR7 {k : Int} (h0 : ¬ k = 0) (h3 : ¬ k = 3) (h5 : ¬ k = 5) : kBw k = false := by simp [kBw, h0, h3, h5]
theorem kMr {P : List Line} {k : Int} (h : ¬ (0 ≤ k ∧ k < P.length)) : endOf P k = -1 := if_neg fun q => h ⟨q.1, q.2.1⟩
theorem kZz {P : List Line} {n : Nat} (h : n < P.length) : endOf P n = if kBw P[n].kind = true then kEk (P.drop n) n 0 else -1 := by
 unfold endOf
 rw [Int.toNat_natCast, kD1 h]
 by_cases ho : kBw P[n].kind = true
 ·rw [if_pos ⟨by omega, by omega, ho⟩, if_pos ho]
 ·rw [if_neg (fun q => ho q.2.2), if_neg ho]
theorem kTy {P : List Line} {k : Int} (h : endOf P k < 0) : kCd P k = -1 := if_pos (.inl h)
theorem kWh {P : List Line} {n : Nat} (h : n < P.length) (h3 : ¬ P[n].kind = 3) : kCd P n = -1 := if_pos (.inr (by rw [Int.toNat_natCast, kD1 h]; exact h3))
theorem kWi {P : List Line} {n e : Nat} (h : n < P.length) (h3 : P[n].kind = 3) (he : endOf P n = (e : Int)) : kCd P n = kDv P e (n + 1) := by
 unfold kCd
 rw [Int.toNat_natCast, kD1 h, he, Int.toNat_natCast, if_neg (by omega)]
section
noncomputable def kZ0 : Cx := { P := Tryz.prog, tys := tys, C := [], hty := kAp, hC := COk.nil _ }
theorem qA9 : kZ0.tys = tys := rfl
theorem qBa : kZ0.C = [] := rfl
attribute [local go_sem] qA9 qBa
theorem qE8 : Cn Tryz.prog 120 kKw := by
 refine Cn.pur Tryz.func120 (by kernel_rfl) rfl fun d x hx => ?_
 rename Int => k
 refine Holds.go (c := kZ0) Tryz.func120 rfl Tryz.results120 Tryz.ntmps120 (by omega) (by simp) rfl ?_
 intro X0 w0
 by_cases h0 : k = 0
 ·have ho : kBw k = true := by rw [h0]; rfl
  rw [ho]
  (repeat' (first | refine WP.seq ?_ | refine WP.block ?_ | ((first | refine WP.region ?_ | refine WP.kAa ?_ | refine WP.ret ?_ | refine WP.exit ?_ | refine WP.skip ?_ ); simp only [go_sem, h0]) | refine And.intro ?_ ?_ | intro _))
  all_goals first | omega | rfl | skip
 by_cases h3 : k = 3
 ·have ho : kBw k = true := by rw [h3]; rfl
  rw [ho]
  (repeat' (first | refine WP.seq ?_ | refine WP.block ?_ | ((first | refine WP.region ?_ | refine WP.kAa ?_ | refine WP.ret ?_ | refine WP.exit ?_ | refine WP.skip ?_ ); simp only [go_sem, h3]) | refine And.intro ?_ ?_ | intro _))
  all_goals first | omega | rfl | skip
 by_cases h5 : k = 5
 ·have ho : kBw k = true := by rw [h5]; rfl
  rw [ho]
  (repeat' (first | refine WP.seq ?_ | refine WP.block ?_ | ((first | refine WP.region ?_ | refine WP.kAa ?_ | refine WP.ret ?_ | refine WP.exit ?_ | refine WP.skip ?_ ); simp only [go_sem, h5]) | refine And.intro ?_ ?_ | intro _))
  all_goals first | omega | rfl | skip
 rw [kR7 h0 h3 h5]
 (repeat' (first | refine WP.seq ?_ | refine WP.block ?_ | ((first | refine WP.region ?_ | refine WP.kAa ?_ | refine WP.ret ?_ | refine WP.exit ?_ | refine WP.skip ?_ ); simp only [go_sem, h0, h3, h5]) | refine And.intro ?_ ?_ | intro _))
 all_goals first | omega | rfl | (simp [h0, h3, h5]; done) | skip
end
section
noncomputable def kZ1 : Cx := { P := Tryz.prog, tys := tys, C := [(41, k60), (120, kKw)], hty := kAp, hC := COk.cons c60 (COk.cons qE8 (COk.nil _)) }
theorem qBb : kZ1.tys = tys := rfl
theorem qBc : kZ1.C = [(41, k60), (120, kKw)] := rfl
attribute [local go_sem] qBb qBc k60 kKw
set_option maxHeartbeats 4000000
theorem kXi : Cn Tryz.prog 68 kBlk := by
 refine Cn.pur Tryz.func68 (by kernel_rfl) rfl fun d x hx => ?_
 obtain ⟨P, k⟩ := x
 simp only at hx ⊢
 refine Holds.go (c := kZ1) Tryz.func68 rfl Tryz.results68 Tryz.ntmps68 (by omega) (by simp) rfl ?_
 intro X0 w0
 have lk0 : lk 0 tys = none := rfl
 by_cases hk0 : 0 ≤ k
 rotate_left
 ·rw [kMr (P := P) fun q => hk0 q.1]
  have hk : k < 0 := by omega
  (repeat' (first | refine WP.seq ?_ | refine WP.block ?_ | ((first | refine WP.kBh (id := 1) ?_); simp only [go_sem, hk0]) | ((first | refine WP.region ?_ | refine WP.kAa ?_ | refine WP.ret ?_ | refine WP.exit ?_ | refine WP.skip ?_ ); simp only [go_sem, hk0]) | refine And.intro ?_ ?_ | intro _))
  all_goals first | omega | rfl | skip
 by_cases hk1 : k < P.length
 rotate_left
 ·rw [kMr (P := P) fun q => hk1 q.2]
  have hk : ¬ k ≤ (P.length : Int) - 1 := by omega
  have hkm : ¬ k < 0 := by omega
  have hr0 : Go.Vc.rowAt (P.map kAc) k.toNat = [] := by
   unfold Go.Vc.rowAt
   rw [List.getElem?_eq_none (by rw [List.length_map]; omega)]; rfl
  (repeat' (first | refine WP.seq ?_ | refine WP.block ?_ | ((first | refine WP.kBh (id := 1) ?_); simp only [go_sem, hk0, hk, hkm, hr0]) | ((first | refine WP.region ?_ | refine WP.kAa ?_ | refine WP.ret ?_ | refine WP.exit ?_ | refine WP.skip ?_ ); simp only [go_sem, hk0, hk, hkm, hr0]) | refine And.intro ?_ ?_ | intro _))
  all_goals first | omega | rfl | skip
 obtain ⟨n, rfl⟩ := Int.eq_ofNat_of_zero_le hk0
 have hn : n < P.length := by omega
 have h1 := kAd kAc P n hn
 have b1 : (n : Int) ≤ (P.length : Int) - 1 := by omega
 have b0 : (0 : Int) ≤ (n : Int) := by omega
 rw [kZz hn]
 cases ho : kBw P[n].kind with
 |false =>
  rw [if_neg (by simp)]
  (repeat' (first | refine WP.seq ?_ | refine WP.block ?_ | ((first | refine WP.region ?_ | refine WP.kAa ?_ | refine WP.ret ?_ | refine WP.exit ?_ | refine WP.skip ?_ ); simp only [go_sem, h1, kAc, ho, b0, b1]) | refine And.intro ?_ ?_ | intro _))
  all_goals first | omega | rfl | skip
 |true =>
  rw [if_pos rfl]
  (repeat' (first | refine WP.seq ?_ | refine WP.block ?_ | ((first | refine WP.region ?_ | refine WP.kAa ?_ | refine WP.ret ?_ | refine WP.exit ?_ | refine WP.skip ?_ ); simp only [go_sem, h1, kAc, ho, b0, b1]) | refine And.intro ?_ ?_ | intro _))
  all_goals first | omega | skip
  generalize hE : kEk (P.drop n) n 0 = E
  refine WP.loop (fun q : Nat × Int => ⟨[(0, .sl 4 (P.map kAc)), (5, .v (.int .i64 q.2)), (6, .v (.int .i64 q.1))], []⟩)
   (fun q => q.1 ≤ P.length ∧ -(q.1 : Int) ≤ q.2 ∧ q.2 ≤ q.1 ∧ kEk (P.drop q.1) q.1 q.2 = E) (fun q => P.length - q.1) (n, 0) ⟨by omega, by simp only; omega, by simp only; omega, hE⟩ ?_ ?_
  ·(simp only [go_sem] <;> (first | (and_intros <;> rfl) | simp))
  rintro ⟨i, o⟩ ⟨hi, ho1, ho2, hF⟩
  simp only at hi ho1 ho2 hF ⊢
  by_cases hlt : i < P.length
  ·have hli : (i : Int) < P.length := by omega
   have h2 := kAd kAc P i hlt
   rw [kLu hlt] at hF
   rw [kAc] at h2
   generalize P[i].kind = kk at h2 hF
   cases hop : kBw kk with
   |true =>
    have h7 : ¬ kk = 7 := fun e => by rw [e] at hop; cases hop
    rw [kHk hop] at hF
    by_cases hz : o + 1 = 0
    ·rw [if_pos hz] at hF
     subst hF
     (repeat' (first | refine WP.seq ?_ | refine WP.block ?_ | ((first | refine WP.region ?_ | refine WP.kAa ?_ | refine WP.ret ?_ | refine WP.exit ?_ | refine WP.skip ?_ ); simp only [go_sem, hli, h2, hop, h7, hz]) | refine And.intro ?_ ?_ | intro _))
     all_goals first | omega | rfl | skip
    ·rw [if_neg hz] at hF
     (repeat' (first | refine WP.seq ?_ | refine WP.block ?_ | ((first | refine WP.region ?_ | refine WP.kAa ?_ | refine WP.ret ?_ | refine WP.exit ?_ | refine WP.skip ?_ ); simp only [go_sem, hli, h2, hop, h7, hz]) | refine And.intro ?_ ?_ | intro _))
     all_goals first | omega | exact ⟨(i + 1, o + 1), ⟨by simp only; omega, by simp only; omega, by simp only; omega, hF⟩, by simp only; omega, by (first | (and_intros <;> rfl) | simp)⟩ | skip
   |false =>
    by_cases h7 : kk = 7
    ·subst h7
     rw [kMh] at hF
     by_cases hz : o - 1 = 0
     ·rw [if_pos (by omega)] at hF
      subst hF
      (repeat' (first | refine WP.seq ?_ | refine WP.block ?_ | ((first | refine WP.region ?_ | refine WP.kAa ?_ | refine WP.ret ?_ | refine WP.exit ?_ | refine WP.skip ?_ ); simp only [go_sem, hli, h2, hop, hz]) | refine And.intro ?_ ?_ | intro _))
      all_goals first | omega | rfl | skip
     ·rw [if_neg (by omega)] at hF
      (repeat' (first | refine WP.seq ?_ | refine WP.block ?_ | ((first | refine WP.region ?_ | refine WP.kAa ?_ | refine WP.ret ?_ | refine WP.exit ?_ | refine WP.skip ?_ ); simp only [go_sem, hli, h2, hop, hz]) | refine And.intro ?_ ?_ | intro _))
      all_goals first | omega | exact ⟨(i + 1, o - 1), ⟨by simp only; omega, by simp only; omega, by simp only; omega, hF⟩, by simp only; omega, by (first | (and_intros <;> rfl) | simp)⟩ | skip
    ·rw [kK5 hop h7, Int.add_zero] at hF
     by_cases hz : o = 0
     ·rw [if_pos hz] at hF
      subst hF
      (repeat' (first | refine WP.seq ?_ | refine WP.block ?_ | ((first | refine WP.region ?_ | refine WP.kAa ?_ | refine WP.ret ?_ | refine WP.exit ?_ | refine WP.skip ?_ ); simp only [go_sem, hli, h2, hop, h7, hz]) | refine And.intro ?_ ?_ | intro _))
      all_goals first | omega | rfl | skip
     ·rw [if_neg hz] at hF
      (repeat' (first | refine WP.seq ?_ | refine WP.block ?_ | ((first | refine WP.region ?_ | refine WP.kAa ?_ | refine WP.ret ?_ | refine WP.exit ?_ | refine WP.skip ?_ ); simp only [go_sem, hli, h2, hop, h7, hz]) | refine And.intro ?_ ?_ | intro _))
      all_goals first | omega | exact ⟨(i + 1, o), ⟨by simp only; omega, by simp only; omega, by simp only; omega, hF⟩, by simp only; omega, by (first | (and_intros <;> rfl) | simp)⟩ | skip
  ·have hge : ¬ (i : Int) < P.length := by omega
   rw [kKi hlt] at hF
   subst hF
   (repeat' (first | refine WP.seq ?_ | refine WP.block ?_ | ((first | refine WP.region ?_ | refine WP.kAa ?_ | refine WP.ret ?_ | refine WP.exit ?_ | refine WP.skip ?_ ); simp only [go_sem, hge]) | refine And.intro ?_ ?_ | intro _))
   all_goals first | omega | rfl | skip
end
section
noncomputable def kU2 : Cx := { P := Tryz.prog, tys := tys, C := [(68, kBlk)], hty := kAp, hC := COk.cons kXi (COk.nil _) }
theorem k9b : kU2.tys = tys := rfl
theorem k9c : kU2.C = [(68, kBlk)] := rfl
attribute [local go_sem] k9b k9c kBlk
set_option maxHeartbeats 4000000
theorem cElseI : Cn Tryz.prog 71 kMq := by
 refine Cn.pur Tryz.func71 (by kernel_rfl) rfl fun d x hx => ?_
 obtain ⟨P, k⟩ := x
 simp only at hx ⊢
 refine Holds.go (c := kU2) Tryz.func71 rfl Tryz.results71 Tryz.ntmps71 (by omega) (by simp) rfl ?_
 intro X0 w0
 have lk0 : lk 0 tys = none := rfl
 by_cases hneg : endOf P k < 0
 ·rw [kTy hneg]
  (repeat' (first | refine WP.seq ?_ | refine WP.block ?_ | ((first | refine WP.kBh (id := 2) ?_); simp only [go_sem, hneg]) | ((first | refine WP.region ?_ | refine WP.kAa ?_ | refine WP.ret ?_ | refine WP.exit ?_ | refine WP.skip ?_ ); simp only [go_sem, hneg]) | refine And.intro ?_ ?_ | intro _))
  all_goals first | omega | rfl | skip
 have hin := kHy (P := P) (k := k) (by omega)
 obtain ⟨n, rfl⟩ := Int.eq_ofNat_of_zero_le hin.1
 have hn : n < P.length := by omega
 obtain ⟨e, he, hE, hne⟩ := kIl (P := P) (k := n) (by omega)
 have hoK := hin.2.2
 rw [Int.toNat_natCast] at hoK
 have hel := hE.lt
 have h1 := kAd kAc P n hn
 have he0 : ¬ (e : Int) < 0 := by omega
 by_cases h3 : P[n].kind = 3
 rotate_left
 ·rw [kWh hn h3]
  (repeat' (first | refine WP.seq ?_ | refine WP.block ?_ | ((first | refine WP.region ?_ | refine WP.kAa ?_ | refine WP.ret ?_ | refine WP.exit ?_ | refine WP.skip ?_ ); simp only [go_sem, h1, kAc, h3, he, he0]) | refine And.intro ?_ ?_ | intro _))
  all_goals first | omega | rfl | skip
 rw [kWi hn h3 he]
 (repeat' (first | refine WP.seq ?_ | refine WP.block ?_ | ((first | refine WP.region ?_ | refine WP.kAa ?_ | refine WP.ret ?_ | refine WP.exit ?_ | refine WP.skip ?_ ); simp only [go_sem, h1, kAc, h3, he, he0]) | refine And.intro ?_ ?_ | intro _))
 all_goals first | omega | skip
 generalize hG : kDv P e (n + 1) = G
 refine WP.loop (fun i : Nat => ⟨[(0, .sl 4 (P.map kAc)), (5, .v (.int .i64 e)), (6, .v (.int .i64 i))], []⟩)
  (fun i => n < i ∧ i ≤ P.length ∧ kDv P e i = G) (fun i => P.length + 1 - i) (n + 1) ⟨by omega, by omega, hG⟩ ?_ ?_
 ·(simp only [go_sem] <;> (first | (and_intros <;> rfl) | simp))
 rintro i ⟨hi0, hi1, hF⟩
 by_cases hlt : i < e
 ·have hli : (i : Int) < (e : Int) := by omega
  have hiP : i < P.length := by omega
  have h2 := kAd kAc P i hiP
  rw [kAc] at h2
  have hkd := kD1 hiP
  generalize P[i].kind = kk at h2 hkd
  by_cases h4 : kk = 4
  ·subst h4
   rw [kOf hlt hkd] at hF
   subst hF
   (repeat' (first | refine WP.seq ?_ | refine WP.block ?_ | ((first | refine WP.region ?_ | refine WP.kAa ?_ | refine WP.ret ?_ | refine WP.exit ?_ | refine WP.skip ?_ ); simp only [go_sem, hli, h2]) | refine And.intro ?_ ?_ | intro _))
   all_goals first | omega | rfl | skip
  ·by_cases h35 : kk = 3 ∨ kk = 5
   ·have hopi : kBw (kd P i) = true := kFd.2 (by rw [hkd]; omega)
    obtain ⟨e2, g1, g2, g3, g4⟩ := hE.nest hoK hi0 hlt hopi
    rw [kM0 hlt (by rw [hkd]; exact h35) (by rw [g1]; omega), g1, Int.toNat_natCast] at hF
    have g5 : (0 : Int) ≤ (e2 : Int) := by omega
    rcases h35 with h35 | h35
    ·subst h35
     (repeat' (first | refine WP.seq ?_ | refine WP.block ?_ | ((first | refine WP.region ?_ | refine WP.kAa ?_ | refine WP.ret ?_ | refine WP.exit ?_ | refine WP.skip ?_ ); simp only [go_sem, hli, h2, g1, g5]) | refine And.intro ?_ ?_ | intro _))
     all_goals first | omega | exact ⟨e2 + 1, ⟨by omega, by omega, hF⟩, by omega, by (first | (and_intros <;> rfl) | simp)⟩ | skip
    ·subst h35
     (repeat' (first | refine WP.seq ?_ | refine WP.block ?_ | ((first | refine WP.region ?_ | refine WP.kAa ?_ | refine WP.ret ?_ | refine WP.exit ?_ | refine WP.skip ?_ ); simp only [go_sem, hli, h2, g1, g5]) | refine And.intro ?_ ?_ | intro _))
     all_goals first | omega | exact ⟨e2 + 1, ⟨by omega, by omega, hF⟩, by omega, by (first | (and_intros <;> rfl) | simp)⟩ | skip
   ·rw [kM1 hlt (by rw [hkd]; exact h4) (fun q => h35 (by rw [← hkd]; exact q.1))] at hF
    have n3 : ¬ kk = 3 := fun e => h35 (.inl e)
    have n5 : ¬ kk = 5 := fun e => h35 (.inr e)
    (repeat' (first | refine WP.seq ?_ | refine WP.block ?_ | ((first | refine WP.region ?_ | refine WP.kAa ?_ | refine WP.ret ?_ | refine WP.exit ?_ | refine WP.skip ?_ ); simp only [go_sem, hli, h2, h4, n3, n5]) | refine And.intro ?_ ?_ | intro _))
    all_goals first | omega | exact ⟨i + 1, ⟨by omega, by omega, hF⟩, by omega, by (first | (and_intros <;> rfl) | simp)⟩ | skip
 ·have hge : ¬ (i : Int) < (e : Int) := by omega
  rw [kK6 hlt] at hF
  subst hF
  (repeat' (first | refine WP.seq ?_ | refine WP.block ?_ | ((first | refine WP.region ?_ | refine WP.kAa ?_ | refine WP.ret ?_ | refine WP.exit ?_ | refine WP.skip ?_ ); simp only [go_sem, hge]) | refine And.intro ?_ ?_ | intro _))
  all_goals first | omega | rfl | skip
end
section
noncomputable def kQs : Cx := { P := Tryz.prog, tys := tys, C := [], hty := kAp, hC := COk.nil _ }
theorem k9d : kQs.tys = tys := rfl
theorem k9e : kQs.C = [] := rfl
attribute [local go_sem] k9d k9e
theorem cFunsI : Cn Tryz.prog 66 kFuns := by
 refine Cn.pur Tryz.func66 (by kernel_rfl) rfl fun d x hx => ?_
 rename List Line => P
 refine Holds.go (c := kQs) Tryz.func66 rfl Tryz.results66 Tryz.ntmps66 (by omega) (by simp) rfl ?_
 intro X0 w0
 (repeat' (first | refine WP.seq ?_ | refine WP.block ?_ | ((first | refine WP.region ?_ | refine WP.kAa ?_ | refine WP.ret ?_ | refine WP.exit ?_ | refine WP.skip ?_ ); simp only [go_sem]) | refine And.intro ?_ ?_ | intro _))
 all_goals first | omega | skip
 refine WP.loop (fun i : Nat => ⟨[(3, .own 6), (7, .sl 4 (P.map kAc)), (8, .v (.int .i64 P.length)), (9, .v (.int .i64 i))], [(6, .sl 3 1 ((funs P i).map encI))]⟩) (fun i => i ≤ P.length) (fun i => P.length - i) 0 (by simp) ?_ ?_
 ·(simp only [go_sem] <;> (first | (and_intros <;> rfl) | simp))
 intro i hi
 have hfl := kLv P i
 have hfs := kMi P i
 by_cases hlt : i < P.length
 ·have hli : (i : Int) < P.length := by omega
  have h2 := kAd kAc P i hlt
  rw [kAc] at h2
  rw [kD1 hlt] at hfs
  generalize P[i].kind = kk at h2 hfs
  by_cases h0 : kk = 0
  ·rw [if_pos h0] at hfs
   (repeat' (first | refine WP.seq ?_ | refine WP.block ?_ | ((first | refine WP.region ?_ | refine WP.kAa ?_ | refine WP.ret ?_ | refine WP.exit ?_ | refine WP.skip ?_ ); simp only [go_sem, hli, h2, h0]) | refine And.intro ?_ ?_ | intro _))
   all_goals first | omega | exact ⟨i + 1, by omega, by omega, by rw [hfs, List.map_append]; (first | (and_intros <;> rfl) | simp)⟩ | skip
  ·rw [if_neg h0, List.append_nil] at hfs
   (repeat' (first | refine WP.seq ?_ | refine WP.block ?_ | ((first | refine WP.region ?_ | refine WP.kAa ?_ | refine WP.ret ?_ | refine WP.exit ?_ | refine WP.skip ?_ ); simp only [go_sem, hli, h2, h0]) | refine And.intro ?_ ?_ | intro _))
   all_goals first | omega | exact ⟨i + 1, by omega, by omega, by rw [hfs]; (first | (and_intros <;> rfl) | simp)⟩ | skip
 ·have hge : ¬ (i : Int) < P.length := by omega
  obtain rfl : i = P.length := by omega
  (repeat' (first | refine WP.seq ?_ | refine WP.block ?_ | ((first | refine WP.region ?_ | refine WP.kAa ?_ | refine WP.ret ?_ | refine WP.exit ?_ | refine WP.skip ?_ ); simp only [go_sem, hge]) | refine And.intro ?_ ?_ | intro _))
  all_goals first | omega | rfl | skip
theorem k9f : Cn Tryz.prog 69 kGz := by
 refine Cn.pur Tryz.func69 (by kernel_rfl) rfl fun d x hx => ?_
 obtain ⟨P, s⟩ := x
 simp only at hx ⊢
 refine Holds.go (c := kQs) Tryz.func69 rfl Tryz.results69 Tryz.ntmps69 (by omega) (by simp) rfl ?_
 intro X0 w0
 (repeat' (first | refine WP.seq ?_ | refine WP.block ?_ | ((first | refine WP.region ?_ | refine WP.kAa ?_ | refine WP.ret ?_ | refine WP.exit ?_ | refine WP.skip ?_ ); simp only [go_sem]) | refine And.intro ?_ ?_ | intro _))
 all_goals first | omega | skip
 refine WP.loop (fun i : Nat => ⟨[(1, .v (.string s)), (7, .sl 4 (P.map kAc)), (8, .v (.int .i64 P.length)), (9, .v (.int .i64 i))], []⟩) (fun k => k ≤ P.length ∧ ∀ i (hi : i < P.length), i < k → isFn s P[i] = false) (fun i => P.length - i) 0 (by simp) ?_ ?_
 ·(simp only [go_sem] <;> (first | (and_intros <;> rfl) | simp))
 rintro k ⟨hk, hf⟩
 by_cases hlt : k < P.length
 ·have hli : (k : Int) < P.length := by omega
  have h2 := kAd kAc P k hlt
  rw [kAc] at h2
  have hit : P[k].kind = 0 → P[k].name = s → kC9 P s = k := fun a b => kF1 hlt hf (by simp [isFn, a, b])
  have hno : ¬ (P[k].kind = 0 ∧ P[k].name = s) → ∀ i (hi : i < P.length), i < k + 1 → isFn s P[i] = false := fun q i hi hik => by
   rcases Nat.lt_or_ge i k with h | h
   ·exact hf i hi h
   ·have : i = k := by omega
    subst this
    cases hb : isFn s P[i] with
    |false => rfl
    |true => exact absurd (by simpa [isFn] using hb) q
  generalize P[k].kind = kk at h2 hit hno
  generalize P[k].name = nn at h2 hit hno
  by_cases h0 : kk = 0
  ·by_cases hs : nn = s
   ·rw [hit h0 hs]
    (repeat' (first | refine WP.seq ?_ | refine WP.block ?_ | ((first | refine WP.region ?_ | refine WP.kAa ?_ | refine WP.ret ?_ | refine WP.exit ?_ | refine WP.skip ?_ ); simp only [go_sem, hli, h2, h0, hs]) | refine And.intro ?_ ?_ | intro _))
    all_goals first | omega | rfl | skip
   ·have hnx := hno fun q => hs q.2
    (repeat' (first | refine WP.seq ?_ | refine WP.block ?_ | ((first | refine WP.region ?_ | refine WP.kAa ?_ | refine WP.ret ?_ | refine WP.exit ?_ | refine WP.skip ?_ ); simp only [go_sem, hli, h2, h0, hs]) | refine And.intro ?_ ?_ | intro _))
    all_goals first | omega | exact ⟨k + 1, ⟨by omega, hnx⟩, by omega, by (first | (and_intros <;> rfl) | simp)⟩ | skip
  ·have hnx := hno fun q => h0 q.1
   (repeat' (first | refine WP.seq ?_ | refine WP.block ?_ | ((first | refine WP.region ?_ | refine WP.kAa ?_ | refine WP.ret ?_ | refine WP.exit ?_ | refine WP.skip ?_ ); simp only [go_sem, hli, h2, h0]) | refine And.intro ?_ ?_ | intro _))
   all_goals first | omega | exact ⟨k + 1, ⟨by omega, hnx⟩, by omega, by (first | (and_intros <;> rfl) | simp)⟩ | skip
 ·have hge : ¬ (k : Int) < P.length := by omega
  rw [show kC9 P s = -1 from firstIdx_none fun i hi => hf i hi (by omega)]
  (repeat' (first | refine WP.seq ?_ | refine WP.block ?_ | ((first | refine WP.region ?_ | refine WP.kAa ?_ | refine WP.ret ?_ | refine WP.exit ?_ | refine WP.skip ?_ ); simp only [go_sem, hge]) | refine And.intro ?_ ?_ | intro _))
  all_goals first | omega | rfl | skip
end
end Go.Proofs.YtdhkhapbldkkdaaGreatDoor

namespace Go.Proofs.YtdhkhapbldkkdaaGreatDoor
open Go.Vc
attribute [local irreducible] Go.Vc.WP
attribute [local go_sem] kAr kAs
attribute [local go_sem] kAq
def kDm (s : ByteArray) (x : ByteArray) : Bool := decide (x = s)
def kGy : Ctr := pur (fun args => (decS (aR args 0), aS args 1)) (fun x => [.sl 1 (x.1.map encS), .v (.string x.2)]) (fun x => x.1.length ≤ 4398046511104) (fun _ x => .v (.int .i64 (firstIdx (kDm x.2) x.1))) (fun _ _ => [])
section
noncomputable def kXg : Cx := { P := Tryz.prog, tys := tys, C := [], hty := kAp, hC := COk.nil _ }
theorem qEf : kXg.tys = tys := rfl
theorem qEg : kXg.C = [] := rfl
attribute [local go_sem] qEf qEg
theorem k8x : Cn Tryz.prog 102 kGy := by
 refine Cn.pur Tryz.func102 (by kernel_rfl) rfl fun d x hx => ?_
 obtain ⟨L, s⟩ := x
 simp only at hx ⊢
 refine Holds.go (c := kXg) Tryz.func102 rfl Tryz.results102 Tryz.ntmps102 (by omega) (by simp) rfl ?_
 intro X0 w0
 (repeat' (first | refine WP.seq ?_ | refine WP.block ?_ | ((first | refine WP.region ?_ | refine WP.kAa ?_ | refine WP.ret ?_ | refine WP.exit ?_ | refine WP.skip ?_ ); simp only [go_sem]) | refine And.intro ?_ ?_ | intro _))
 all_goals first | omega | skip
 refine WP.loop (fun k : Nat => ⟨[(0, .sl 1 (L.map encS)), (1, .v (.string s)), (7, .v (.int .i64 L.length)), (8, .v (.int .i64 k))], []⟩) (fun k => k ≤ L.length ∧ ∀ i (hi : i < L.length), i < k → kDm s L[i] = false) (fun k => L.length - k) 0 (by simp) ?_ ?_
 ·(simp only [go_sem] <;> (first | (and_intros <;> rfl) | simp))
 intro k ⟨hk, hf⟩
 by_cases hlt : k < L.length
 ·have hli : (k : Int) < L.length := by omega
  have h1 := kAd encS L k hlt
  (repeat' (first | refine WP.seq ?_ | refine WP.block ?_ | ((first | refine WP.region ?_ | refine WP.kAa ?_ | refine WP.ret ?_ | refine WP.exit ?_ | refine WP.skip ?_ ); simp only [go_sem, hli, h1, encS]) | refine And.intro ?_ ?_ | intro _))
  all_goals first | omega | skip
  ·rename_i he
   rw [show firstIdx (kDm s) L = k from kF1 hlt hf (by simp [kDm, he])]
  ·rename_i hne
   refine ⟨k + 1, ⟨by omega, fun i hi hik => ?_⟩, by omega, by (first | (and_intros <;> rfl) | simp)⟩
   rcases Nat.lt_or_ge i k with h | h
   ·exact hf i hi h
   ·have : i = k := by omega
    subst this
    first | (simp [kDm, hne]; done) | (simp only [kDm, decide_eq_false_iff_not]; exact fun e => hne e.symm)
 ·have hge : ¬ (k : Int) < L.length := by omega
  (repeat' (first | refine WP.seq ?_ | refine WP.block ?_ | ((first | refine WP.region ?_ | refine WP.kAa ?_ | refine WP.ret ?_ | refine WP.exit ?_ | refine WP.skip ?_ ); simp only [go_sem, hge]) | refine And.intro ?_ ?_ | intro _))
  all_goals first | omega | skip
  rw [show firstIdx (kDm s) L = -1 from firstIdx_none fun i hi => hf i hi (by omega)]
theorem k8y : Cn Tryz.prog 100 kGy := by
 refine Cn.pur Tryz.func100 (by kernel_rfl) rfl fun d x hx => ?_
 obtain ⟨L, s⟩ := x
 simp only at hx ⊢
 refine Holds.go (c := kXg) Tryz.func100 rfl Tryz.results100 Tryz.ntmps100 (by omega) (by simp) rfl ?_
 intro X0 w0
 (repeat' (first | refine WP.seq ?_ | refine WP.block ?_ | ((first | refine WP.region ?_ | refine WP.kAa ?_ | refine WP.ret ?_ | refine WP.exit ?_ | refine WP.skip ?_ ); simp only [go_sem]) | refine And.intro ?_ ?_ | intro _))
 all_goals first | omega | skip
 refine WP.loop (fun k : Nat => ⟨[(0, .sl 1 (L.map encS)), (1, .v (.string s)), (5, .v (.int .i64 k))], []⟩) (fun k => k ≤ L.length ∧ ∀ i (hi : i < L.length), i < k → kDm s L[i] = false) (fun k => L.length - k) 0 (by simp) ?_ ?_
 ·(simp only [go_sem] <;> (first | (and_intros <;> rfl) | simp))
 intro k ⟨hk, hf⟩
 by_cases hlt : k < L.length
 ·have hli : (k : Int) < L.length := by omega
  have h1 := kAd encS L k hlt
  (repeat' (first | refine WP.seq ?_ | refine WP.block ?_ | ((first | refine WP.region ?_ | refine WP.kAa ?_ | refine WP.ret ?_ | refine WP.exit ?_ | refine WP.skip ?_ ); simp only [go_sem, hli, h1, encS]) | refine And.intro ?_ ?_ | intro _))
  all_goals first | omega | skip
  ·rename_i he
   rw [show firstIdx (kDm s) L = k from kF1 hlt hf (by simp [kDm, he])]
  ·rename_i hne
   refine ⟨k + 1, ⟨by omega, fun i hi hik => ?_⟩, by omega, by (first | (and_intros <;> rfl) | simp)⟩
   rcases Nat.lt_or_ge i k with h | h
   ·exact hf i hi h
   ·have : i = k := by omega
    subst this
    first | (simp [kDm, hne]; done) | (simp only [kDm, decide_eq_false_iff_not]; exact fun e => hne e.symm)
 ·have hge : ¬ (k : Int) < L.length := by omega
  (repeat' (first | refine WP.seq ?_ | refine WP.block ?_ | ((first | refine WP.region ?_ | refine WP.kAa ?_ | refine WP.ret ?_ | refine WP.exit ?_ | refine WP.skip ?_ ); simp only [go_sem, hge]) | refine And.intro ?_ ?_ | intro _))
  all_goals first | omega | skip
  rw [show firstIdx (kDm s) L = -1 from firstIdx_none fun i hi => hf i hi (by omega)]
end
theorem kG7 {L : List ByteArray} {s : ByteArray} : (0 ≤ firstIdx (kDm s) L) = (s ∈ L) := propext ⟨fun h => by
 obtain ⟨k, hk, _, h2⟩ := kJb (p := kDm s) (L := L) (by omega)
 have : L[k] = s := by simpa [kDm] using h2
 rw [← this]; exact List.getElem_mem hk, fun h => by
 rcases Int.lt_or_le (firstIdx (kDm s) L) 0 with hn | hn
 ·have := kLs hn s h
  simp [kDm] at this
 ·exact hn⟩
def kKo : Ctr := pur (fun args => (decS (aR args 0), aS args 1)) (fun x => [.sl 1 (x.1.map encS), .v (.string x.2)]) (fun x => x.1.length ≤ 4398046511104) (fun _ x => .v (.bool (decide (x.2 ∈ x.1)))) (fun _ _ => [])
section
noncomputable def kZq : Cx := { P := Tryz.prog, tys := tys, C := [(102, kGy)], hty := kAp, hC := COk.cons k8x (COk.nil _) }
theorem qA3 : kZq.tys = tys := rfl
theorem qA4 : kZq.C = [(102, kGy)] := rfl
attribute [local go_sem] qA3 qA4 kGy
theorem k47 : Cn Tryz.prog 146 kKo := by
 refine Cn.pur Tryz.func146 (by kernel_rfl) rfl fun d x hx => ?_
 obtain ⟨L, s⟩ := x
 simp only at hx ⊢
 have hm := kG7 (L := L) (s := s)
 refine Holds.go (c := kZq) Tryz.func146 rfl Tryz.results146 Tryz.ntmps146 (by omega) (by simp) rfl ?_
 intro X0 w0
 (repeat' (first | refine WP.seq ?_ | refine WP.block ?_ | ((first | refine WP.region ?_ | refine WP.kAa ?_ | refine WP.ret ?_ | refine WP.exit ?_ | refine WP.skip ?_ ); simp only [go_sem, hm]) | refine And.intro ?_ ?_ | intro _))
 all_goals first | omega | skip
end
end Go.Proofs.YtdhkhapbldkkdaaGreatDoor

namespace Go.Proofs.YtdhkhapbldkkdaaGreatDoor
def tokD (s : ByteArray) : Tok := (kEl s).getD ⟨0, 0, ⟨#[]⟩⟩
theorem k72 {s : ByteArray} (h : ¬ s = ⟨#[]⟩) (h2 : kEj (kGb s) = s) : kEl s = some (kGb s) := by
 unfold kEl; rw [if_pos ⟨fun e => h (k73 e), h2⟩]
theorem qAh {s : ByteArray} (h : s = ⟨#[]⟩ ∨ ¬ kEj (kGb s) = s) : kEl s = none := by
 unfold kEl
 rw [if_neg]
 rintro ⟨a, b⟩
 rcases h with h | h
 ·exact a (kXa h)
 ·exact h b
theorem k74 {s : ByteArray} {n : Nat} (h : kBj s = some n) : kGb s = ⟨0, (n : Int), ⟨#[]⟩⟩ := by unfold kGb; rw [h]
theorem qAi {s : ByteArray} (h : kBj s = none) (h1 : s.size = 1 ∧ 0 ≤ Lib.index [43, 45, 42, 60, 61] s.data.toList) : kGb s = ⟨2 + Lib.index [43, 45, 42, 60, 61] s.data.toList, 0, ⟨#[]⟩⟩ := by
 unfold kGb; rw [h]; simp only; rw [if_pos h1]
theorem k3u {s : ByteArray} {n : Nat} (h : kBj s = none) (h1 : ¬ (s.size = 1 ∧ 0 ≤ Lib.index [43, 45, 42, 60, 61] s.data.toList)) (h2 : (Lib.cut s.data.toList [47]).2.2 = true) (h3 : kBj (bts (Lib.cut s.data.toList [47]).2.1) = some n) :
  kGb s = ⟨7, (n : Int), bts (Lib.cut s.data.toList [47]).1⟩ := by
 unfold kGb; rw [h]; simp only; rw [if_neg h1, h3, if_pos ⟨h2, rfl⟩]; rfl
theorem kV0 {s : ByteArray} (h : kBj s = none) (h1 : ¬ (s.size = 1 ∧ 0 ≤ Lib.index [43, 45, 42, 60, 61] s.data.toList)) (h2 : (Lib.cut s.data.toList [47]).2.2 = false ∨ kBj (bts (Lib.cut s.data.toList [47]).2.1) = none) :
  kGb s = ⟨1, 0, s⟩ := by
 unfold kGb; rw [h]; simp only; rw [if_neg h1, if_neg]
 rintro ⟨a, b⟩
 rcases h2 with h2 | h2
 ·rw [h2] at a; cases a
 ·rw [h2] at b; cases b
theorem qAj (l : List UInt8) : (bts (Lib.cut l [47]).1).size ≤ l.length ∧ (bts (Lib.cut l [47]).2.1).size ≤ l.length := by
 rw [kBb, kBb]
 unfold Lib.cut
 split
 ·simp; omega
 ·simp
def k1x (s : ByteArray) : Prop := 2 < s.size ∧ s[s.size - 2]! = 47
instance (s : ByteArray) : Decidable (k1x s) := by unfold k1x; infer_instance
theorem qAk (l s : List UInt8) : Lib.index l s ≤ l.length := by
 induction l with
 |nil => unfold Lib.index; split <;> simp
 |cons b l ih =>
  unfold Lib.index
  split
  ·simp; omega
  ·split <;> simp <;> omega
theorem qCi (s : List UInt8) : Lib.index [43, 45, 42, 60, 61] s ≤ 5 := qAk _ s
def kMl (W : List ByteArray) (k : Nat) (F : List Tok) : Prop := W.mapM kEl = ((W.drop k).mapM kEl).map (F ++ ·) ∧ F.length = k ∧ ∀ t ∈ F, kCl t = true
theorem kTd {α β : Type} (f : α → Option β) (x : α) (l : List α) : (x :: l).mapM f = (f x).bind fun y => (l.mapM f).map (y :: ·) := by
 rw [List.mapM_cons]
 cases f x with
 |none => rfl
 |some y => cases l.mapM f <;> rfl
theorem k3v (W : List ByteArray) : kMl W 0 [] := ⟨by simp, rfl, by simp⟩
theorem k3w {W : List ByteArray} {k : Nat} {F : List Tok} (h : kMl W k F) (hk : k < W.length) (hp : kEl W[k] = none) : kCn W = none := by
 have h1 := h.1
 rw [List.drop_eq_getElem_cons hk, kTd, hp] at h1
 unfold kCn
 rw [h1]; rfl
theorem k3x {W : List ByteArray} {k : Nat} {F : List Tok} {t : Tok} (h : kMl W k F) (hk : k < W.length) (hp : kEl W[k] = some t) : kMl W (k + 1) (F ++ [t]) := by
 obtain ⟨h1, h2, h3⟩ := h
 rw [List.drop_eq_getElem_cons hk, kTd, hp] at h1
 refine ⟨?_, by rw [List.length_append, h2]; rfl, fun g hg => ?_⟩
 ·rw [h1]
  simp only [Option.bind_some, Option.map_map]
  congr 1
  funext G
  simp
 ·rcases List.mem_append.1 hg with hg | hg
  ·exact h3 g hg
  ·simp only [List.mem_cons, List.not_mem_nil, or_false] at hg
   subst hg; exact (k3y hp).1
theorem kV1 {W : List ByteArray} {k : Nat} {F : List Tok} (h : kMl W k F) (hk : W.length ≤ k) : kCn W = if kCy F = true then some F else none := by
 have h1 := h.1
 rw [List.drop_of_length_le hk] at h1
 unfold kCn
 have : W.mapM kEl = some F := by rw [h1]; simp
 rw [this]
end Go.Proofs.YtdhkhapbldkkdaaGreatDoor

namespace Go.Proofs.YtdhkhapbldkkdaaGreatDoor
open Go.Vc
attribute [local irreducible] Go.Vc.WP
attribute [local go_sem] kAr kAs
open Go.RowKit (Below)
def kTj : Ctr := pur (fun args => (aS args 0, aS args 1)) (fun x => [.v (.string x.1), .v (.string x.2)]) (fun x => x.1.size < 4294967281) (fun _ x => .v (.int .i64 (Lib.index x.1.data.toList x.2.data.toList))) (fun _ _ => [])
theorem cIndex : Cn Tryz.prog 168 kTj := by
 refine Cn.pur Tryz.func168 (by kernel_rfl) rfl fun d x hx => ?_
 refine Holds.valV (xs := [.string x.1, .string x.2]) (fun w X β => .p (.v _)) fun w hG => ?_
 obtain ⟨m, hm⟩ := hG.kUk (g := Tryz.kV4.g 1) kXb (by decide +kernel) (fun W0 h => Tryz.lM143.s1_3 W0 h)
 exact (Any.strings_Index { Tryz.lM143 with } x.1 x.2 m w hx hm).mono fun e w' ⟨he, hw⟩ => ⟨he, by rw [hw]; exact Below.refl _ _⟩
end Go.Proofs.YtdhkhapbldkkdaaGreatDoor

namespace Go.Proofs.YtdhkhapbldkkdaaGreatDoor
open Go.Vc
attribute [local irreducible] Go.Vc.WP
attribute [local go_sem] kAr kAs
attribute [local go_sem] kA5 kB4 kAq St.fzS addL behind St.runO St.kDg
theorem kRf {L : List Tok} {a : Int} (h : a < 0 ∨ (L.length : Int) ≤ a) : kIv L a = -1 := by
 unfold kIv
 split
 ·rw [List.drop_eq_nil_of_le (by omega), kPt _ (by omega)]
 ·rfl
theorem kTm {L : List Tok} {a : Int} (h : 0 ≤ a) : kIv L a = endGo (L.drop a.toNat) 1 a.toNat := if_pos h
theorem kV8 {L : List Tok} {j n : Nat} (hj : j < L.length) (hn : 0 < n) : endGo (L.drop j) n j = if kCl L[j] = true then endGo (L.drop (j + 1)) (n - 1 + arN L[j]) (j + 1) else -1 := by
 rw [List.drop_eq_getElem_cons hj]
 split
 ·rename_i h; exact kZd hn h
 ·rename_i h; exact kV2 hn (by simpa using h)
section
noncomputable def k4m : Cx := { P := Tryz.prog, tys := tys, C := [(41, k60), (149, kD3), (174, kKv)], hty := kAp, hC := COk.cons c60 (COk.cons kUw (COk.cons qC6 (COk.nil _))) }
theorem qC7 : k4m.tys = tys := rfl
theorem qC8 : k4m.C = [(41, k60), (149, kD3), (174, kKv)] := rfl
attribute [local go_sem] qC7 qC8 k60 kD3 kKv
theorem cEndI : Cn Tryz.prog 147 kEnd := by
 refine Cn.pur Tryz.func147 (by kernel_rfl) rfl fun d x hx => ?_
 obtain ⟨L, a⟩ := x
 obtain ⟨hL, hs⟩ := hx
 simp only at hL hs ⊢
 refine Holds.go (c := k4m) Tryz.func147 rfl Tryz.results147 Tryz.ntmps147 (by omega) (by simp) rfl ?_
 intro X0 w0
 by_cases ha : 0 ≤ a ∧ a ≤ (L.length : Int) - 1
 ·have ha0 := ha.1
  have ha1 := ha.2
  rw [kTm ha0]
  (repeat' (first | refine WP.seq ?_ | refine WP.block ?_ | ((first | refine WP.region ?_ | refine WP.kAa ?_ | refine WP.ret ?_ | refine WP.exit ?_ | refine WP.skip ?_ ); simp only [go_sem, ha0, ha1]) | refine And.intro ?_ ?_ | intro _))
  all_goals first | omega | skip
  refine WP.loop (fun p : Nat × Nat => ⟨[(0, .sl 3 (L.map kAw)), (1, .v (.int .i64 p.1)), (5, .v (.int .i64 p.2))], []⟩) (fun p => p.1 ≤ L.length ∧ p.2 ≤ 4 * p.1 + 1 ∧ endGo (L.drop a.toNat) 1 a.toNat = endGo (L.drop p.1) p.2 p.1) (fun p => L.length - p.1) (a.toNat, 1) ⟨by simp only; omega, by simp only; omega, rfl⟩ ?_ ?_
  ·have e : ((a.toNat : Nat) : Int) = a := by omega
   have e1 : ((1 : Nat) : Int) = 1 := rfl
   (simp only [go_sem, e, e1] <;> (first | (and_intros <;> rfl) | simp))
  rintro ⟨j, n⟩ ⟨hj, hn, he⟩
  simp only at hj hn he ⊢
  rw [he]
  by_cases hn0 : 0 < n
  ·have hn0i : (0 : Int) < n := by omega
   by_cases hlt : j < L.length
   ·have hlti : (j : Int) < L.length := by omega
    have h1 := kAd kAw L j hlt
    have h2 := kV8 hlt hn0
    have h3 := hs _ (List.getElem_mem hlt)
    rw [h2]
    generalize L[j] = y at h1 h2 h3
    obtain ⟨yk, yn, ys⟩ := y
    rw [kAw] at h1
    simp only at h1
    cases hk : kCl ⟨yk, yn, ys⟩ with
    |false =>
     rw [if_neg (by simp)]
     (repeat' (first | refine WP.seq ?_ | refine WP.block ?_ | ((first | refine WP.region ?_ | refine WP.kAa ?_ | refine WP.ret ?_ | refine WP.exit ?_ | refine WP.skip ?_ ); simp only [go_sem, h1, hk, hn0i, hlti]) | refine And.intro ?_ ?_ | intro _))
     all_goals first | omega | exact h3 | skip
    |true =>
     have har : arity ⟨yk, yn, ys⟩ = (arN ⟨yk, yn, ys⟩ : Int) := by unfold arity; rw [hk]; rfl
     have hle := k75 hk
     rw [if_pos rfl]
     (repeat' (first | refine WP.seq ?_ | refine WP.block ?_ | ((first | refine WP.region ?_ | refine WP.kAa ?_ | refine WP.ret ?_ | refine WP.exit ?_ | refine WP.skip ?_ ); simp only [go_sem, h1, hk, hn0i, hlti, har]) | refine And.intro ?_ ?_ | intro _))
     all_goals first | omega | exact h3 | skip
     refine ⟨(j + 1, n - 1 + arN ⟨yk, yn, ys⟩), ⟨by simp only; omega, by simp only; omega, by first | rfl | rw [he, h2, if_pos hk]⟩, by simp only; omega, ?_⟩
     rw [show ((n : Int) + ((arN ⟨yk, yn, ys⟩ : Int) - 1)) = ((n - 1 + arN ⟨yk, yn, ys⟩ : Nat) : Int) by omega, show ((j : Int) + 1) = ((j + 1 : Nat) : Int) by omega]
     (first | (and_intros <;> rfl) | simp)
   ·have hge : ¬ (j : Int) < L.length := by omega
    have e : endGo (L.drop j) n j = -1 := by rw [List.drop_eq_nil_of_le (by omega), kPt _ hn0]
    rw [e]
    have h0 : lk 0 tys = none := rfl
    have hro : Go.Vc.rowAt (L.map kAw) j = [] := by unfold Go.Vc.rowAt; rw [List.getElem?_eq_none (by rw [List.length_map]; omega)]; rfl
    have hle : (L.length : Int) ≤ j := by omega
    (repeat' (first | refine WP.seq ?_ | refine WP.block ?_ | ((first | refine WP.kBh (id := 6) ?_); simp only [go_sem, hn0i, hle, h0, hro]) | ((first | refine WP.region ?_ | refine WP.kAa ?_ | refine WP.ret ?_ | refine WP.exit ?_ | refine WP.skip ?_ ); simp only [go_sem, hn0i, hle, h0, hro]) | refine And.intro ?_ ?_ | intro _))
    all_goals first | omega | skip
  ·have hn1 : n = 0 := by omega
   subst hn1
   rw [kTe]
   (repeat' (first | refine WP.seq ?_ | refine WP.block ?_ | ((first | refine WP.region ?_ | refine WP.kAa ?_ | refine WP.ret ?_ | refine WP.exit ?_ | refine WP.skip ?_ ); simp only [go_sem]) | refine And.intro ?_ ?_ | intro _))
   all_goals first | omega | skip
 ·rw [kRf (by omega)]
  have hb : (decide (0 ≤ a) && decide (a ≤ (L.length : Int) - 1)) = false := by simp; omega
  (repeat' (first | refine WP.seq ?_ | refine WP.block ?_ | ((first | refine WP.region ?_ | refine WP.kAa ?_ | refine WP.ret ?_ | refine WP.exit ?_ | refine WP.skip ?_ ); simp only [go_sem, hb]) | refine And.intro ?_ ?_ | intro _))
  all_goals first | omega | skip
end
section
noncomputable def k4n : Cx := { P := Tryz.prog, tys := tys, C := [(144, kD3), (169, kKv)], hty := kAp, hC := COk.cons k2b (COk.cons qC9 (COk.nil _)) }
theorem qDa : k4n.tys = tys := rfl
theorem qDb : k4n.C = [(144, kD3), (169, kKv)] := rfl
attribute [local go_sem] qDa qDb kD3 kKv
theorem cEndS : Cn Tryz.prog 140 kEnd := by
 refine Cn.pur Tryz.func140 (by kernel_rfl) rfl fun d x hx => ?_
 obtain ⟨L, a⟩ := x
 obtain ⟨hL, hs⟩ := hx
 simp only at hL hs ⊢
 refine Holds.go (c := k4n) Tryz.func140 rfl Tryz.results140 Tryz.ntmps140 (by omega) (by simp) rfl ?_
 intro X0 w0
 by_cases ha0 : 0 ≤ a
 ·have hna : ¬ a < 0 := by omega
  rw [kTm ha0]
  (repeat' (first | refine WP.seq ?_ | refine WP.block ?_ | ((first | refine WP.region ?_ | refine WP.kAa ?_ | refine WP.ret ?_ | refine WP.exit ?_ | refine WP.skip ?_ ); simp only [go_sem, hna]) | refine And.intro ?_ ?_ | intro _))
  all_goals first | omega | skip
  refine WP.loop (fun p : Nat × Nat => ⟨[(0, .sl 3 (L.map kAw)), (1, .v (.int .i64 p.1)), (5, .v (.int .i64 p.2))], []⟩) (fun p => (p.2 = 1 ∨ p.1 ≤ L.length) ∧ p.2 ≤ 4 * p.1 + 1 ∧ endGo (L.drop a.toNat) 1 a.toNat = endGo (L.drop p.1) p.2 p.1) (fun p => L.length - p.1) (a.toNat, 1) ⟨.inl rfl, by simp only; omega, rfl⟩ ?_ ?_
  ·have e : ((a.toNat : Nat) : Int) = a := by omega
   have e1 : ((1 : Nat) : Int) = 1 := rfl
   (simp only [go_sem, e, e1] <;> (first | (and_intros <;> rfl) | simp))
  rintro ⟨j, n⟩ ⟨hj, hn, he⟩
  simp only at hj hn he ⊢
  rw [he]
  by_cases hn0 : 0 < n
  ·have hn0i : (0 : Int) < n := by omega
   by_cases hlt : j < L.length
   ·have hlti : (j : Int) < L.length := by omega
    have h1 := kAd kAw L j hlt
    have h2 := kV8 hlt hn0
    have h3 := hs _ (List.getElem_mem hlt)
    rw [h2]
    generalize L[j] = y at h1 h2 h3
    obtain ⟨yk, yn, ys⟩ := y
    rw [kAw] at h1
    simp only at h1
    cases hk : kCl ⟨yk, yn, ys⟩ with
    |false =>
     rw [if_neg (by simp)]
     (repeat' (first | refine WP.seq ?_ | refine WP.block ?_ | ((first | refine WP.region ?_ | refine WP.kAa ?_ | refine WP.ret ?_ | refine WP.exit ?_ | refine WP.skip ?_ ); simp only [go_sem, h1, hk, hn0i, hlti]) | refine And.intro ?_ ?_ | intro _))
     all_goals first | omega | exact h3 | skip
    |true =>
     have har : arity ⟨yk, yn, ys⟩ = (arN ⟨yk, yn, ys⟩ : Int) := by unfold arity; rw [hk]; rfl
     have hle := k75 hk
     rw [if_pos rfl]
     (repeat' (first | refine WP.seq ?_ | refine WP.block ?_ | ((first | refine WP.region ?_ | refine WP.kAa ?_ | refine WP.ret ?_ | refine WP.exit ?_ | refine WP.skip ?_ ); simp only [go_sem, h1, hk, hn0i, hlti, har]) | refine And.intro ?_ ?_ | intro _))
     all_goals first | omega | exact h3 | skip
     refine ⟨(j + 1, n - 1 + arN ⟨yk, yn, ys⟩), ⟨.inr (by simp only; omega), by simp only; omega, by first | rfl | rw [he, h2, if_pos hk]⟩, by simp only; omega, ?_⟩
     rw [show ((n : Int) - 1 + (arN ⟨yk, yn, ys⟩ : Int)) = ((n - 1 + arN ⟨yk, yn, ys⟩ : Nat) : Int) by omega, show ((j : Int) + 1) = ((j + 1 : Nat) : Int) by omega]
     (first | (and_intros <;> rfl) | simp)
   ·have hge : ¬ (j : Int) < L.length := by omega
    have e : endGo (L.drop j) n j = -1 := by rw [List.drop_eq_nil_of_le (by omega), kPt _ hn0]
    rw [e]
    have h0 : lk 0 tys = none := rfl
    have hro : Go.Vc.rowAt (L.map kAw) j = [] := by unfold Go.Vc.rowAt; rw [List.getElem?_eq_none (by rw [List.length_map]; omega)]; rfl
    have hle : (L.length : Int) ≤ j := by omega
    (repeat' (first | refine WP.seq ?_ | refine WP.block ?_ | ((first | refine WP.kBh (id := 6) ?_); simp only [go_sem, hn0i, hle, h0, hro]) | ((first | refine WP.region ?_ | refine WP.kAa ?_ | refine WP.ret ?_ | refine WP.exit ?_ | refine WP.skip ?_ ); simp only [go_sem, hn0i, hle, h0, hro]) | refine And.intro ?_ ?_ | intro _))
    all_goals first | omega | skip
  ·have hn1 : n = 0 := by omega
   subst hn1
   rw [kTe]
   (repeat' (first | refine WP.seq ?_ | refine WP.block ?_ | ((first | refine WP.region ?_ | refine WP.kAa ?_ | refine WP.ret ?_ | refine WP.exit ?_ | refine WP.skip ?_ ); simp only [go_sem]) | refine And.intro ?_ ?_ | intro _))
   all_goals first | omega | skip
 ·rw [kRf (by omega)]
  have hna : a < 0 := by omega
  (repeat' (first | refine WP.seq ?_ | refine WP.block ?_ | ((first | refine WP.region ?_ | refine WP.kAa ?_ | refine WP.ret ?_ | refine WP.exit ?_ | refine WP.skip ?_ ); simp only [go_sem, hna]) | refine And.intro ?_ ?_ | intro _))
  all_goals first | omega | skip
end
theorem kV9 (L : List Tok) : kCy L = (decide ((L.length : Int) ≤ 20) && decide ((0 : Int) < L.length) && (kIv L 0 == (L.length : Int))) := by
 rw [Bool.eq_iff_iff, kHl]
 simp only [Bool.and_eq_true, decide_eq_true_eq, beq_iff_eq, ← List.length_pos_iff]
 omega
section
noncomputable def k4o : Cx := { P := Tryz.prog, tys := tys, C := [(147, kEnd)], hty := kAp, hC := COk.cons cEndI (COk.nil _) }
theorem qDc : k4o.tys = tys := rfl
theorem qDd : k4o.C = [(147, kEnd)] := rfl
attribute [local go_sem] qDc qDd kEnd
theorem kZo : Cn Tryz.prog 119 kFl := by
 refine Cn.pur Tryz.func119 (by kernel_rfl) rfl fun d x hx => ?_
 rename List Tok => L
 have hL := hx.1
 refine Holds.go (c := k4o) Tryz.func119 rfl Tryz.results119 Tryz.ntmps119 (by omega) (by simp) rfl ?_
 intro X0 w0
 rw [kV9]
 (repeat' (first | refine WP.seq ?_ | refine WP.block ?_ | ((first | refine WP.region ?_ | refine WP.kAa ?_ | refine WP.ret ?_ | refine WP.exit ?_ | refine WP.skip ?_ ); simp only [go_sem]) | refine And.intro ?_ ?_ | intro _))
 all_goals first | omega | exact hx | exact hx.2 _ ‹_› | skip
end
section
noncomputable def k4p : Cx := { P := Tryz.prog, tys := tys, C := [(140, kEnd)], hty := kAp, hC := COk.cons cEndS (COk.nil _) }
theorem qDe : k4p.tys = tys := rfl
theorem qDf : k4p.C = [(140, kEnd)] := rfl
attribute [local go_sem] qDe qDf kEnd
theorem cExOkS : Cn Tryz.prog 96 kFl := by
 refine Cn.pur Tryz.func96 (by kernel_rfl) rfl fun d x hx => ?_
 rename List Tok => L
 have hL := hx.1
 refine Holds.go (c := k4p) Tryz.func96 rfl Tryz.results96 Tryz.ntmps96 (by omega) (by simp) rfl ?_
 intro X0 w0
 rw [kV9, Bool.and_comm (decide ((L.length : Int) ≤ 20))]
 (repeat' (first | refine WP.seq ?_ | refine WP.block ?_ | ((first | refine WP.region ?_ | refine WP.kAa ?_ | refine WP.ret ?_ | refine WP.exit ?_ | refine WP.skip ?_ ); simp only [go_sem]) | refine And.intro ?_ ?_ | intro _))
 all_goals first | omega | exact hx | exact hx.2 _ ‹_› | skip
end
def kTn : Ctr := pur (fun args => kI8 (aR args 0)) (fun x => [.sl 3 (x.map kAw)]) kFx (fun _ x => .v (.string (kNn x))) (fun _ _ => [])
theorem k8n {t : Tok} (h : kCl t = true) : kEj t = bts (tokL t) := by unfold kEj; rw [if_pos h]
theorem k0x {L : List Tok} (h : kCy L = false) : kNn L = ⟨#[]⟩ := by unfold kNn; rw [h]; rfl
theorem kOl {L : List Tok} (h : kCy L = true) : kNn L = bts (joinL 32 (L.map tokL)) := by unfold kNn; rw [if_pos h]
theorem k8o {L : List Tok} (h : ∀ t ∈ L, kCl t = true) (k : Nat) : (joinL 32 ((L.take k).map tokL)).length ≤ 11 * L.length := by
 have := kOi 32 ((L.take k).map tokL) 10 fun x hx => by
  obtain ⟨t, ht, rfl⟩ := List.mem_map.1 hx
  exact (kOh (h t (List.mem_of_mem_take ht))).2.2
 simp only [List.length_map, List.length_take] at this
 omega
theorem mapT (L : List Tok) (k : Nat) : (((L.take k).map fun t => bts (tokL t)).map (·.data.toList)) = (L.take k).map tokL := by
 rw [List.map_map]
 exact List.map_congr_left fun f _ => by simp [bts]
theorem takeT (L : List Tok) (k : Nat) (hk : k < L.length) : ((L.take k).map fun t => bts (tokL t)).map encS ++ [[SV.v (.string (bts (tokL L[k])))]] = ((L.take (k + 1)).map fun t => bts (tokL t)).map encS := by
 rw [List.take_succ_eq_append_getElem hk, List.map_append, List.map_append, List.map_cons, List.map_nil]; rfl
section
noncomputable def k4q : Cx := { P := Tryz.prog, tys := tys, C := [(119, kFl), (126, kLa), (77, kKm)], hty := kAp, hC := COk.cons kZo (COk.cons k8p (COk.cons k4b (COk.nil _))) }
theorem qDg : k4q.tys = tys := rfl
theorem qDh : k4q.C = [(119, kFl), (126, kLa), (77, kKm)] := rfl
attribute [local go_sem] qDg qDh kFl kLa kKm
theorem cFmtEI : Cn Tryz.prog 76 kTn := by
 refine Cn.pur Tryz.func76 (by kernel_rfl) rfl fun d x hx => ?_
 rename List Tok => L
 have hL := hx.1
 refine Holds.go (c := k4q) Tryz.func76 rfl Tryz.results76 Tryz.ntmps76 (by omega) (by simp) rfl ?_
 intro X0 w0
 cases hok : kCy L with
 |false =>
  rw [k0x hok]
  (repeat' (first | refine WP.seq ?_ | refine WP.block ?_ | ((first | refine WP.region ?_ | refine WP.kAa ?_ | refine WP.ret ?_ | refine WP.exit ?_ | refine WP.skip ?_ ); simp only [go_sem, hok]) | refine And.intro ?_ ?_ | intro _))
  all_goals first | omega | exact hx | exact hx.2 _ ‹_› | skip
 |true =>
  have hT := kKk hok
  have hl20 := (kHl.1 hok).1
  rw [kOl hok]
  (repeat' (first | refine WP.seq ?_ | refine WP.block ?_ | ((first | refine WP.region ?_ | refine WP.kAa ?_ | refine WP.ret ?_ | refine WP.exit ?_ | refine WP.skip ?_ ); simp only [go_sem, hok]) | refine And.intro ?_ ?_ | intro _))
  all_goals first | omega | exact hx | exact hx.2 _ ‹_› | skip
  refine WP.prep [] [(9, 3)] rfl ?_
  refine WP.loop (fun k : Nat => ⟨[(3, .own 3), (10, .sl 3 (L.map kAw)), (11, .v (.int .i64 L.length)), (12, .v (.int .i64 k))], [(3, .sl 9 1 (((L.take k).map fun t => bts (tokL t)).map encS))]⟩) (fun k => k ≤ L.length) (fun k => L.length - k) 0 (by simp) ?_ ?_
  ·(simp only [go_sem] <;> (first | (and_intros <;> rfl) | simp))
  intro k hk
  have hlk : ((L.take k).map fun t => bts (tokL t)).length = k := by rw [List.length_map, List.length_take]; omega
  by_cases hlt : k < L.length
  ·have hlti : (k : Int) < L.length := by omega
   have h1 := kAd kAw L k hlt
   have htk := takeT L k hlt
   have hf := k8n (hT _ (List.getElem_mem hlt))
   have h3 := hx.2 _ (List.getElem_mem hlt)
   generalize L[k] = y at h1 htk hf h3
   obtain ⟨yk, yn, ys⟩ := y
   rw [kAw] at h1
   simp only at h1
   (repeat' (first | refine WP.seq ?_ | refine WP.block ?_ | ((first | refine WP.region ?_ | refine WP.kAa ?_ | refine WP.ret ?_ | refine WP.exit ?_ | refine WP.skip ?_ ); simp only [go_sem, h1, hlti, hf, hlk]) | refine And.intro ?_ ?_ | intro _))
   all_goals first | omega | exact h3 | exact ⟨k + 1, by omega, by omega, by rw [htk]; (first | (and_intros <;> rfl) | simp)⟩ | skip
  ·have hge : ¬ (k : Int) < L.length := by omega
   have hkl : k = L.length := by omega
   have hm := mapT L k
   have hjl := k8o hT k
   have e32 : (⟨#[32]⟩ : ByteArray)[0]! = 32 := rfl
   have z32 : ByteArray.size ⟨#[32]⟩ = 1 := rfl
   have htl : L.take k = L := by rw [hkl, List.take_length]
   rw [htl] at hm hlk hjl ⊢
   (repeat' (first | refine WP.seq ?_ | refine WP.block ?_ | ((first | refine WP.region ?_ | refine WP.kAa ?_ | refine WP.ret ?_ | refine WP.exit ?_ | refine WP.skip ?_ ); simp only [go_sem, hge, hm, hlk, e32, z32]) | refine And.intro ?_ ?_ | intro _))
   all_goals first | omega | skip
end
section
attribute [local go_sem] kFl kLa
end
end Go.Proofs.YtdhkhapbldkkdaaGreatDoor

namespace Go.Proofs.YtdhkhapbldkkdaaGreatDoor
open Go.Vc
attribute [local irreducible] Go.Vc.WP
attribute [local go_sem] kAr kAs
attribute [local go_sem] kA5 kB4 kAq St.fzS addL behind St.runO St.kDg
def kPT : Ctr := pur (fun args => aS args 0) (fun s => [.v (.string s)]) (fun s => s.size ≤ 1048576) (fun _ s => .tup [.agg [.v (.int .i64 (tokD s).kind), .v (.int .i64 (tokD s).num), .v (.string (tokD s).name)], .v (.bool (kEl s).isSome)]) (fun _ _ => [])
theorem kLj {s : ByteArray} (h : kEl s = none) : tokD s = ⟨0, 0, ⟨#[]⟩⟩ := by unfold tokD; rw [h]; rfl
theorem kJ4 {s : ByteArray} {t : Tok} (h : kEl s = some t) : tokD s = t := by unfold tokD; rw [h]; rfl
section
noncomputable def k5w : Cx := { P := Tryz.prog, tys := tys, C := [(49, kCut), (50, kEv), (168, kTj), (126, kLa)], hty := kAp, hC := COk.cons cCut (COk.cons kR6 (COk.cons cIndex (COk.cons k8p (COk.nil _)))) }
theorem qFv : k5w.tys = tys := rfl
theorem qFw : k5w.C = [(49, kCut), (50, kEv), (168, kTj), (126, kLa)] := rfl
attribute [local go_sem] qFv qFw kCut kEv kTj kLa
theorem cPTI : Cn Tryz.prog 142 kPT := by
 refine Cn.pur Tryz.func142 (by kernel_rfl) rfl fun d x hx => ?_
 rename ByteArray => s
 refine Holds.go (c := k5w) Tryz.func142 rfl Tryz.results142 Tryz.ntmps142 (by omega) (by simp) rfl ?_
 intro X0 w0
 have h47 : (⟨#[47]⟩ : ByteArray).data.toList = [47] := rfl
 have h5 : (⟨#[43, 45, 42, 60, 61]⟩ : ByteArray).data.toList = [43, 45, 42, 60, 61] := rfl
 have z5 : (⟨#[43, 45, 42, 60, 61]⟩ : ByteArray).size = 5 := rfl
 have hcs := qAj s.data.toList
 have hsl : s.data.toList.length = s.size := by simp
 have hno := @qAh s
 have hyes := @k72 s
 by_cases hz : s = ⟨#[]⟩
 ·have hn := hno (.inl hz)
  subst hz
  rw [hn, kLj hn]
  have hu : kBj ⟨#[]⟩ = none := rfl
  have hop : (((ByteArray.size ⟨#[]⟩ : Nat) : Int) == 1) = false := rfl
  have hcb : Lib.cut [] [47] = ([], [], false) := rfl
  have hd : (ByteArray.mk #[]).data.toList = [] := rfl
  have hix : Lib.index [43, 45, 42, 60, 61] [] = 0 := rfl
  have hz0 : ByteArray.size ⟨#[]⟩ = 0 := rfl
  have hbn : bts [] = ⟨#[]⟩ := rfl
  (repeat' (first | refine WP.seq ?_ | refine WP.block ?_ | ((first | refine WP.kBh (id := 12) ?_); simp only [go_sem, h47, h5, z5, hu, hop, hcb, hd, hix, hz0, hbn]) | ((first | refine WP.region ?_ | refine WP.kAa ?_ | refine WP.ret ?_ | refine WP.exit ?_ | refine WP.skip ?_ ); simp only [go_sem, h47, h5, z5, hu, hop, hcb, hd, hix, hz0, hbn]) | refine And.intro ?_ ?_ | intro _))
  all_goals first | omega | rfl | exact ⟨_, _, rfl, _, _, rfl, rfl⟩ | skip
 cases hu : kBj s with
 |some n =>
  have hc := k74 hu
  have hsm : kEm ⟨0, (n : Int), ⟨#[]⟩⟩ := by unfold kEm; show ByteArray.size ⟨#[]⟩ ≤ _; decide
  rw [hc] at hno hyes
  by_cases hq : kEj ⟨0, (n : Int), ⟨#[]⟩⟩ = s
  ·have hy := hyes hz hq
   rw [hy, kJ4 hy]
   (repeat' (first | refine WP.seq ?_ | refine WP.block ?_ | ((first | refine WP.region ?_ | refine WP.kAa ?_ | refine WP.ret ?_ | refine WP.exit ?_ | refine WP.skip ?_ ); simp only [go_sem, h47, h5, z5, hu, hz, hq]) | refine And.intro ?_ ?_ | intro _))
   all_goals first | omega | exact hsm | rfl | exact ⟨_, _, rfl, _, _, rfl, rfl⟩ | skip
  ·have hn := hno (.inr hq)
   rw [hn, kLj hn]
   (repeat' (first | refine WP.seq ?_ | refine WP.block ?_ | ((first | refine WP.region ?_ | refine WP.kAa ?_ | refine WP.ret ?_ | refine WP.exit ?_ | refine WP.skip ?_ ); simp only [go_sem, h47, h5, z5, hu, hz, hq]) | refine And.intro ?_ ?_ | intro _))
   all_goals first | omega | exact hsm | rfl | exact ⟨_, _, rfl, _, _, rfl, rfl⟩ | skip
 |none =>
  by_cases ho : s.size = 1 ∧ 0 ≤ Lib.index [43, 45, 42, 60, 61] s.data.toList
  ·have hc := qAi hu ho
   have ho1 := ho.1
   have ho2 := ho.2
   have hob : Lib.index [43, 45, 42, 60, 61] s.data.toList ≤ 5 := qCi _
   have e1 : ((1 : Nat) : Int) = 1 := rfl
   obtain ⟨ix, hix⟩ : ∃ ix, Lib.index [43, 45, 42, 60, 61] s.data.toList = ix := ⟨_, rfl⟩
   rw [hix] at hc ho2 hob
   have hsm : kEm ⟨2 + ix, 0, ⟨#[]⟩⟩ := by unfold kEm; show ByteArray.size ⟨#[]⟩ ≤ _; decide
   rw [hc] at hno hyes
   by_cases hq : kEj ⟨2 + ix, 0, ⟨#[]⟩⟩ = s
   ·have hy := hyes hz hq
    rw [hy, kJ4 hy]
    (repeat' (first | refine WP.seq ?_ | refine WP.block ?_ | ((first | refine WP.region ?_ | refine WP.kAa ?_ | refine WP.ret ?_ | refine WP.exit ?_ | refine WP.skip ?_ ); simp only [go_sem, h47, h5, z5, hu, ho1, ho2, hix, e1, hz, hq]) | refine And.intro ?_ ?_ | intro _))
    all_goals first | omega | exact hsm | rfl | exact ⟨_, _, rfl, _, _, rfl, rfl⟩ | skip
   ·have hn := hno (.inr hq)
    rw [hn, kLj hn]
    (repeat' (first | refine WP.seq ?_ | refine WP.block ?_ | ((first | refine WP.region ?_ | refine WP.kAa ?_ | refine WP.ret ?_ | refine WP.exit ?_ | refine WP.skip ?_ ); simp only [go_sem, h47, h5, z5, hu, ho1, ho2, hix, e1, hz, hq]) | refine And.intro ?_ ?_ | intro _))
    all_goals first | omega | exact hsm | rfl | exact ⟨_, _, rfl, _, _, rfl, rfl⟩ | skip
  ·have hop : ((s.size : Int) == 1 && decide (0 ≤ Lib.index [43, 45, 42, 60, 61] s.data.toList)) = false := by simp; omega
   have hcb : Lib.cut s.data.toList [47] = ((Lib.cut s.data.toList [47]).1, (Lib.cut s.data.toList [47]).2.1, (Lib.cut s.data.toList [47]).2.2) := rfl
   cases hb : (Lib.cut s.data.toList [47]).2.2 with
   |true =>
    cases hv : kBj (bts (Lib.cut s.data.toList [47]).2.1) with
    |some n =>
     have hc := k3u hu ho hb hv
     obtain ⟨nm, hnm⟩ : ∃ nm, (Lib.cut s.data.toList [47]).1 = nm := ⟨_, rfl⟩
     rw [hnm] at hc hcs
     have hsm : kEm ⟨7, (n : Int), bts nm⟩ := by unfold kEm; simp only; omega
     rw [hc] at hno hyes
     by_cases hq : kEj ⟨7, (n : Int), bts nm⟩ = s
     ·have hy := hyes hz hq
      rw [hy, kJ4 hy]
      (repeat' (first | refine WP.seq ?_ | refine WP.block ?_ | ((first | refine WP.region ?_ | refine WP.kAa ?_ | refine WP.ret ?_ | refine WP.exit ?_ | refine WP.skip ?_ ); simp only [go_sem, h47, h5, z5, hu, hop, hb, hv, hnm, hz, hq]) | refine And.intro ?_ ?_ | intro _))
      all_goals first | omega | exact hsm | rfl | exact ⟨_, _, rfl, _, _, rfl, rfl⟩ | skip
     ·have hn := hno (.inr hq)
      rw [hn, kLj hn]
      (repeat' (first | refine WP.seq ?_ | refine WP.block ?_ | ((first | refine WP.region ?_ | refine WP.kAa ?_ | refine WP.ret ?_ | refine WP.exit ?_ | refine WP.skip ?_ ); simp only [go_sem, h47, h5, z5, hu, hop, hb, hv, hnm, hz, hq]) | refine And.intro ?_ ?_ | intro _))
      all_goals first | omega | exact hsm | rfl | exact ⟨_, _, rfl, _, _, rfl, rfl⟩ | skip
    |none =>
     have hc := kV0 hu ho (.inr hv)
     have hsm : kEm ⟨1, 0, s⟩ := by unfold kEm; simp only; omega
     rw [hc] at hno hyes
     by_cases hq : kEj ⟨1, 0, s⟩ = s
     ·have hy := hyes hz hq
      rw [hy, kJ4 hy]
      (repeat' (first | refine WP.seq ?_ | refine WP.block ?_ | ((first | refine WP.region ?_ | refine WP.kAa ?_ | refine WP.ret ?_ | refine WP.exit ?_ | refine WP.skip ?_ ); simp only [go_sem, h47, h5, z5, hu, hop, hb, hv, hz, hq]) | refine And.intro ?_ ?_ | intro _))
      all_goals first | omega | exact hsm | rfl | exact ⟨_, _, rfl, _, _, rfl, rfl⟩ | skip
     ·have hn := hno (.inr hq)
      rw [hn, kLj hn]
      (repeat' (first | refine WP.seq ?_ | refine WP.block ?_ | ((first | refine WP.region ?_ | refine WP.kAa ?_ | refine WP.ret ?_ | refine WP.exit ?_ | refine WP.skip ?_ ); simp only [go_sem, h47, h5, z5, hu, hop, hb, hv, hz, hq]) | refine And.intro ?_ ?_ | intro _))
      all_goals first | omega | exact hsm | rfl | exact ⟨_, _, rfl, _, _, rfl, rfl⟩ | skip
   |false =>
    have hc := kV0 hu ho (.inl hb)
    have hsm : kEm ⟨1, 0, s⟩ := by unfold kEm; simp only; omega
    rw [hc] at hno hyes
    by_cases hq : kEj ⟨1, 0, s⟩ = s
    ·have hy := hyes hz hq
     rw [hy, kJ4 hy]
     (repeat' (first | refine WP.seq ?_ | refine WP.block ?_ | ((first | refine WP.region ?_ | refine WP.kAa ?_ | refine WP.ret ?_ | refine WP.exit ?_ | refine WP.skip ?_ ); simp only [go_sem, h47, h5, z5, hu, hop, hb, hz, hq]) | refine And.intro ?_ ?_ | intro _))
     all_goals first | omega | exact hsm | rfl | exact ⟨_, _, rfl, _, _, rfl, rfl⟩ | skip
    ·have hn := hno (.inr hq)
     rw [hn, kLj hn]
     (repeat' (first | refine WP.seq ?_ | refine WP.block ?_ | ((first | refine WP.region ?_ | refine WP.kAa ?_ | refine WP.ret ?_ | refine WP.exit ?_ | refine WP.skip ?_ ); simp only [go_sem, h47, h5, z5, hu, hop, hb, hz, hq]) | refine And.intro ?_ ?_ | intro _))
     all_goals first | omega | exact hsm | rfl | exact ⟨_, _, rfl, _, _, rfl, rfl⟩ | skip
end
end Go.Proofs.YtdhkhapbldkkdaaGreatDoor

namespace Go.Proofs.YtdhkhapbldkkdaaGreatDoor
open Go.Vc
attribute [local irreducible] Go.Vc.WP
attribute [local go_sem] kAr kAs
attribute [local go_sem] kA5 kB4 kAq St.fzS addL behind St.runO St.kDg
section
set_option maxHeartbeats 8000000
attribute [local go_sem] kEv kD3 kLa
end
end Go.Proofs.YtdhkhapbldkkdaaGreatDoor

namespace Go.Proofs.YtdhkhapbldkkdaaGreatDoor
open Go.Vc
attribute [local irreducible] Go.Vc.WP
attribute [local go_sem] kAr kAs
attribute [local go_sem] kA5 kB4 kAq St.fzS addL behind St.runO St.kDg
def wfW (W : List ByteArray) : Prop := W.length ≤ 1048576 ∧ ∀ w ∈ W, w.size ≤ 1048576
theorem kTv {W : List ByteArray} (h : W.length ≤ 1048576) (h2 : ∀ w ∈ W, w.size ≤ 1048576) : wfW W := ⟨h, h2⟩
def kPE : Ctr := pur (fun args => decS (aR args 0)) (fun W => [.sl 1 (W.map encS)]) wfW (fun d W => .tup [.own d, .v (.bool (kCn W).isSome)]) (fun d W => [(d, .sl 140 3 (((kCn W).getD []).map kAw))])
theorem addT (F : List Tok) (t : Tok) : F.map kAw ++ [[SV.v (.int .i64 t.kind), SV.v (.int .i64 t.num), SV.v (.string t.name)]] = (F ++ [t]).map kAw := by rw [List.map_append]; rfl
theorem k5j {t : Tok} (h : kCl t = true) : t.name.size ≤ 8 := by
 rcases kFh h with ⟨a, b, c, d⟩ | ⟨a, b, c⟩ | ⟨a, b, c, d⟩ | ⟨a, b, c, d⟩
 ·rw [d]; decide
 ·exact (kBk c).2.2
 ·exact (kBk d).2.2
 ·rw [d]; decide
theorem kP1 {F : List Tok} (h : F.length ≤ 1048576) (h2 : ∀ t ∈ F, kCl t = true) : kFx F := ⟨h, fun t ht => by have := k5j (h2 t ht); unfold kEm; omega⟩
theorem qE5 {W : List ByteArray} {k : Nat} {F : List Tok} (h : kMl W k F) (hk : W.length ≤ k) (hc : kCy F = false) : kCn W = none := by rw [kV1 h hk, hc]; rfl
theorem qA8 {W : List ByteArray} {k : Nat} {F : List Tok} (h : kMl W k F) (hk : W.length ≤ k) (hc : kCy F = true) : kCn W = some F := by rw [kV1 h hk, if_pos hc]
section
noncomputable def k5k : Cx := { P := Tryz.prog, tys := tys, C := [(142, kPT), (119, kFl)], hty := kAp, hC := COk.cons cPTI (COk.cons kZo (COk.nil _)) }
theorem qE6 : k5k.tys = tys := rfl
theorem qE7 : k5k.C = [(142, kPT), (119, kFl)] := rfl
attribute [local go_sem] qE6 qE7 kPT kFl
theorem cPEI : Cn Tryz.prog 103 kPE := by
 refine Cn.pur Tryz.func103 (by kernel_rfl) rfl fun d x hx => ?_
 rename List ByteArray => W
 have hL := hx.1
 refine Holds.go (c := k5k) Tryz.func103 rfl Tryz.results103 Tryz.ntmps103 (by omega) (by simp) rfl ?_
 intro X0 w0
 (repeat' (first | refine WP.seq ?_ | refine WP.block ?_ | ((first | refine WP.region ?_ | refine WP.kAa ?_ | refine WP.ret ?_ | refine WP.exit ?_ | refine WP.skip ?_ ); simp only [go_sem]) | refine And.intro ?_ ?_ | intro _))
 all_goals first | omega | skip
 refine WP.loop (fun q : Nat × List Tok => ⟨[(4, .own 9), (10, .sl 1 (W.map encS)), (11, .v (.int .i64 W.length)), (12, .v (.int .i64 q.1))], [(9, .sl 140 3 (q.2.map kAw))]⟩) (fun q => q.1 ≤ W.length ∧ kMl W q.1 q.2) (fun q => W.length - q.1) (0, []) ⟨by simp, k3v W⟩ ?_ ?_
 ·(simp only [go_sem] <;> (first | (and_intros <;> rfl) | simp))
 rintro ⟨k, F⟩ ⟨hk, hI⟩
 simp only at hk hI ⊢
 have hFl := hI.2.1
 by_cases hlt : k < W.length
 ·have hli : (k : Int) < W.length := by omega
  have h1 := kAd encS W k hlt
  have h2 := hx.2 _ (List.getElem_mem hlt)
  cases ht : kEl W[k] with
  |none =>
   have hno := k3w hI hlt ht
   rw [hno]
   (repeat' (first | refine WP.seq ?_ | refine WP.block ?_ | ((first | refine WP.region ?_ | refine WP.kAa ?_ | refine WP.ret ?_ | refine WP.exit ?_ | refine WP.skip ?_ ); simp only [go_sem, hli, h1, encS, ht]) | refine And.intro ?_ ?_ | intro _))
   all_goals first | omega | exact ⟨_, _, rfl⟩ | rfl | skip
  |some t =>
   have hyes := k3x hI hlt ht
   have htd := kJ4 ht
   have had := addT F t
   (repeat' (first | refine WP.seq ?_ | refine WP.block ?_ | ((first | refine WP.region ?_ | refine WP.kAa ?_ | refine WP.ret ?_ | refine WP.exit ?_ | refine WP.skip ?_ ); simp only [go_sem, hli, h1, encS, ht, htd, had]) | refine And.intro ?_ ?_ | intro _))
   all_goals first | omega | exact ⟨(k + 1, F ++ [t]), ⟨by simp only; omega, hyes⟩, by simp only; omega, by (first | (and_intros <;> rfl) | simp)⟩ | skip
 ·have hge : ¬ (k : Int) < W.length := by omega
  have hsm := kP1 (by omega) hI.2.2
  cases hok : kCy F with
  |false =>
   rw [qE5 hI (by omega) hok]
   (repeat' (first | refine WP.seq ?_ | refine WP.block ?_ | ((first | refine WP.region ?_ | refine WP.kAa ?_ | refine WP.ret ?_ | refine WP.exit ?_ | refine WP.skip ?_ ); simp only [go_sem, hge, hok]) | refine And.intro ?_ ?_ | intro _))
   all_goals first | omega | exact hsm | exact hsm.2 _ ‹_› | exact ⟨_, _, rfl⟩ | rfl | skip
  |true =>
   rw [qA8 hI (by omega) hok]
   (repeat' (first | refine WP.seq ?_ | refine WP.block ?_ | ((first | refine WP.region ?_ | refine WP.kAa ?_ | refine WP.ret ?_ | refine WP.exit ?_ | refine WP.skip ?_ ); simp only [go_sem, hge, hok]) | refine And.intro ?_ ?_ | intro _))
   all_goals first | omega | exact hsm | exact hsm.2 _ ‹_› | exact ⟨_, _, rfl⟩ | rfl | skip
end
section
attribute [local go_sem] kFl
end
end Go.Proofs.YtdhkhapbldkkdaaGreatDoor

namespace Go.Proofs.YtdhkhapbldkkdaaGreatDoor
open Go.Vc
attribute [local irreducible] Go.Vc.WP
attribute [local go_sem] kAr kAs
attribute [local go_sem] kA5 kB4 kAq kBo kBx St.fzS addL behind St.runO St.kDg
def kTr (k : Int) : Bool := decide (k ≠ 0) && decide (k ≠ 4) && decide (k ≠ 7)
theorem k80 {k : Int} (h : 0 ≤ k) (h' : k ≤ 7) : kTr k = kDl k := by
 rcases kUt h h' with e | e | e | e | e | e | e | e <;> rw [e] <;> decide
def kTs : Ctr := pur (fun args => aI args 0) (fun k => [.v (.int .i64 k)]) (fun _ => True) (fun _ k => .v (.bool (kDl k))) (fun _ _ => [])
def kQp : Ctr := pur (fun args => aI args 0) (fun k => [.v (.int .i64 k)]) (fun _ => True) (fun _ k => .v (.bool (kTr k))) (fun _ _ => [])
theorem qEn : Cn Tryz.prog 118 kTs := by
 refine Cn.pur Tryz.func118 (by kernel_rfl) rfl fun d x hx => ?_
 rename Int => k
 refine Holds.go (c := cx0) Tryz.func118 rfl Tryz.results118 Tryz.ntmps118 (by omega) (by simp) rfl ?_
 intro X0 w0
 have e : kDl k = ((k == 1) || (k == 2) || (k == 3) || (k == 5) || (k == 6)) := rfl
 rw [e]
 (repeat' (first | refine WP.seq ?_ | refine WP.block ?_ | ((first | refine WP.region ?_ | refine WP.kAa ?_ | refine WP.ret ?_ | refine WP.exit ?_ | refine WP.skip ?_ ); simp only [go_sem]) | refine And.intro ?_ ?_ | intro _))
 all_goals first | omega | skip
theorem qEo : Cn Tryz.prog 95 kQp := by
 refine Cn.pur Tryz.func95 (by kernel_rfl) rfl fun d x hx => ?_
 rename Int => k
 refine Holds.go (c := cx0) Tryz.func95 rfl Tryz.results95 Tryz.ntmps95 (by omega) (by simp) rfl ?_
 intro X0 w0
 have e : kTr k = ((k != 0) && (k != 4) && (k != 7)) := by
  unfold kTr
  rw [show (k != 0) = decide (k ≠ 0) by simp [bne]; rfl, show (k != 4) = decide (k ≠ 4) by simp [bne]; rfl, show (k != 7) = decide (k ≠ 7) by simp [bne]; rfl]
 rw [e]
 (repeat' (first | refine WP.seq ?_ | refine WP.block ?_ | ((first | refine WP.region ?_ | refine WP.kAa ?_ | refine WP.ret ?_ | refine WP.exit ?_ | refine WP.skip ?_ ); simp only [go_sem]) | refine And.intro ?_ ?_ | intro _))
 all_goals first | omega | skip
def kMp (L : List ByteArray) : Prop := (∀ s ∈ L, kBv s = true) ∧ L.Nodup ∧ L.length ≤ 4
instance (L : List ByteArray) : Decidable (kMp L) := by unfold kMp; infer_instance
theorem kOp {L : List ByteArray} {k : Nat} (hk : k < L.length) (h : (L.take k).Nodup) (hn : L[k] ∉ L.take k) : (L.take (k + 1)).Nodup := by
 rw [List.take_succ_eq_append_getElem hk, List.nodup_append]
 refine ⟨h, by simp, fun a ha b hb => ?_⟩
 simp only [List.mem_cons, List.not_mem_nil, or_false] at hb
 subst hb
 exact fun e => hn (e ▸ ha)
theorem kZt {L : List ByteArray} {k : Nat} (hk : k < L.length) (hn : L[k] ∈ L.take k) : ¬ L.Nodup := fun h => by
 have h2 : (L.take (k + 1)).Nodup := h.sublist (List.take_sublist _ _)
 rw [List.take_succ_eq_append_getElem hk, List.nodup_append] at h2
 exact h2.2.2 _ hn _ (by simp) rfl
def kQq : Ctr := pur (fun args => decS (aR args 0)) (fun L => [.sl 1 (L.map encS)]) wfW (fun _ L => .v (.bool (decide (kMp L)))) (fun _ _ => [])
section
noncomputable def cxAr : Cx := { P := Tryz.prog, tys := tys, C := [(116, kCf), (146, kKo)], hty := kAp, hC := COk.cons kOq (COk.cons k47 (COk.nil _)) }
theorem cxAr_t : cxAr.tys = tys := rfl
theorem cxAr_c : cxAr.C = [(116, kCf), (146, kKo)] := rfl
attribute [local go_sem] cxAr_t cxAr_c kCf kKo
theorem qEp : Cn Tryz.prog 117 kQq := by
 refine Cn.pur Tryz.func117 (by kernel_rfl) rfl fun d x hx => ?_
 rename List ByteArray => L
 have hL := hx.1
 refine Holds.go (c := cxAr) Tryz.func117 rfl Tryz.results117 Tryz.ntmps117 (by omega) (by simp) rfl ?_
 intro X0 w0
 (repeat' (first | refine WP.seq ?_ | refine WP.block ?_ | ((first | refine WP.region ?_ | refine WP.kAa ?_ | refine WP.ret ?_ | refine WP.exit ?_ | refine WP.skip ?_ ); simp only [go_sem]) | refine And.intro ?_ ?_ | intro _))
 all_goals first | omega | skip
 refine WP.loop (fun k : Nat => ⟨[(0, .sl 1 (L.map encS)), (5, .sl 1 (L.map encS)), (6, .v (.int .i64 L.length)), (7, .v (.int .i64 k))], []⟩) (fun k => k ≤ L.length ∧ (∀ i (hi : i < L.length), i < k → kBv L[i] = true) ∧ (L.take k).Nodup) (fun k => L.length - k) 0 (by simp) ?_ ?_
 ·(simp only [go_sem] <;> (first | (and_intros <;> rfl) | simp))
 rintro k ⟨hk, hf, hd⟩
 by_cases hlt : k < L.length
 ·have hli : (k : Int) < L.length := by omega
  have h1 := kAd encS L k hlt
  have h2 := hx.2 _ (List.getElem_mem hlt)
  have hcut : (L.map encS).take k = (L.take k).map encS := (List.map_take ..).symm
  have hcl : (L.take k).length = k := by rw [List.length_take]; omega
  cases hn : kBv L[k] with
  |false =>
   have hno : decide (kMp L) = false := decide_eq_false fun q => by rw [q.1 _ (List.getElem_mem hlt)] at hn; cases hn
   rw [hno]
   (repeat' (first | refine WP.seq ?_ | refine WP.block ?_ | ((first | refine WP.kBh (id := 4) ?_); simp only [go_sem, hli, h1, encS, hn, hcut, hcl]) | ((first | refine WP.region ?_ | refine WP.kAa ?_ | refine WP.ret ?_ | refine WP.exit ?_ | refine WP.skip ?_ ); simp only [go_sem, hli, h1, encS, hn, hcut, hcl]) | refine And.intro ?_ ?_ | intro _))
   all_goals first | omega | skip
  |true =>
   by_cases hm : L[k] ∈ L.take k
   ·have hno : decide (kMp L) = false := decide_eq_false fun q => kZt hlt hm q.2.1
    rw [hno]
    (repeat' (first | refine WP.seq ?_ | refine WP.block ?_ | ((first | refine WP.region ?_ | refine WP.kAa ?_ | refine WP.ret ?_ | refine WP.exit ?_ | refine WP.skip ?_ ); simp only [go_sem, hli, h1, encS, hn, hcut, hcl, hm]) | refine And.intro ?_ ?_ | intro _))
    all_goals first | omega | skip
   ·have hnx : ∀ i (hi : i < L.length), i < k + 1 → kBv L[i] = true := fun i hi hik => by
     rcases Nat.lt_or_ge i k with q | q
     ·exact hf i hi q
     ·have : i = k := by omega
      subst this; exact hn
    (repeat' (first | refine WP.seq ?_ | refine WP.block ?_ | ((first | refine WP.region ?_ | refine WP.kAa ?_ | refine WP.ret ?_ | refine WP.exit ?_ | refine WP.skip ?_ ); simp only [go_sem, hli, h1, encS, hn, hcut, hcl, hm]) | refine And.intro ?_ ?_ | intro _))
    all_goals first | omega | exact ⟨k + 1, ⟨by omega, hnx, kOp hlt hd hm⟩, by omega, by (first | (and_intros <;> rfl) | simp)⟩ | skip
 ·have hge : ¬ (k : Int) < L.length := by omega
  have e : decide (kMp L) = decide ((L.length : Int) ≤ 4) := decide_eq_decide.2 ⟨fun q => by have := q.2.2; omega, fun q => ⟨fun s hs => by
   obtain ⟨i, hi, rfl⟩ := List.mem_iff_getElem.1 hs
   exact hf i hi (by omega), by rwa [List.take_of_length_le (by omega)] at hd, by omega⟩⟩
  rw [e]
  (repeat' (first | refine WP.seq ?_ | refine WP.block ?_ | ((first | refine WP.region ?_ | refine WP.kAa ?_ | refine WP.ret ?_ | refine WP.exit ?_ | refine WP.skip ?_ ); simp only [go_sem, hge]) | refine And.intro ?_ ?_ | intro _))
  all_goals first | omega | skip
end
def kCz (x : Line) : Prop := x.name.size ≤ 1048576 ∧ wfW x.args ∧ kFx x.expr
def kHp : Ctr := pur (fun args => kHo (aC args 0)) (fun x => [.agg [.v (.int .i64 x.kind), .v (.string x.name), .sl 1 (x.args.map encS), .sl 3 (x.expr.map kAw)]]) kCz (fun _ x => .v (.bool (decide (kAm x)))) (fun _ _ => [])
def lastP (x : Line) : Prop := (kDl x.kind = true → kCy x.expr = true) ∧ (kDl x.kind = false → x.expr = [])
theorem kKq {p : Prop} [Decidable p] {b : Bool} (h : p ↔ b = true) : decide p = b := by
 cases b with
 |false => exact decide_eq_false fun e => by simpa using h.1 e
 |true => exact decide_eq_true (h.2 rfl)
theorem kUz (E : List Tok) : ((E.length : Int) == 0) = decide (E = []) := by
 cases E with
 |nil => rfl
 |cons a l => simp; omega
section
noncomputable def k5c : Cx := { P := Tryz.prog, tys := tys, C := [(41, k60), (116, kCf), (117, kQq), (118, kTs), (119, kFl)], hty := kAp, hC := COk.cons c60 (COk.cons kOq (COk.cons qEp (COk.cons qEn (COk.cons kZo (COk.nil _))))) }
theorem qEq : k5c.tys = tys := rfl
theorem qEr : k5c.C = [(41, k60), (116, kCf), (117, kQq), (118, kTs), (119, kFl)] := rfl
attribute [local go_sem] qEq qEr k60 kCf kQq kTs kFl
theorem k8t : Cn Tryz.prog 67 kHp := by
 refine Cn.pur Tryz.func67 (by kernel_rfl) rfl fun d x hx => ?_
 obtain ⟨k, n, A, E⟩ := x
 obtain ⟨hn, hA, hE⟩ := hx
 have hAl := hA.1
 have hEl := hE.1
 simp only at hn hAl hEl hA hE ⊢
 refine Holds.go (c := k5c) Tryz.func67 rfl Tryz.results67 Tryz.ntmps67 (by omega) (by simp) rfl ?_
 intro X0 w0
 by_cases hk : 0 ≤ k ∧ k ≤ 7
 ·have hk0 := hk.1
  have hk7 := hk.2
  by_cases h01 : k = 0 ∨ k = 1
  ·cases hnm : kBv n with
   |false =>
    have hno : decide (kAm ⟨k, n, A, E⟩) = false := decide_eq_false fun q => by rw [q.name h01] at hnm; cases hnm
    rw [hno]
    (repeat' (first | refine WP.seq ?_ | refine WP.block ?_ | ((first | refine WP.region ?_ | refine WP.kAa ?_ | refine WP.ret ?_ | refine WP.exit ?_ | refine WP.skip ?_ ); simp only [go_sem, hk0, hk7, h01, hnm]) | refine And.intro ?_ ?_ | intro _))
    all_goals first | omega | exact hA | exact hE | exact hA.2 _ ‹_› | exact hE.2 _ ‹_› | skip
   |true =>
    by_cases h0 : k = 0
    ·subst h0
     by_cases hap : kMp A
     ·have he : decide (kAm ⟨0, n, A, E⟩) = decide (E = []) := decide_eq_decide.2 ⟨fun q => q.kFv rfl, fun q => ⟨hk, hap.2.2, hap.1, hap.2.1, fun h => absurd rfl h, fun _ => hnm, fun h => absurd (.inl rfl) h, fun h => absurd (show kDl 0 = true from h) (by decide), fun _ => q⟩⟩
      have hx0 : kDl 0 = false := rfl
      have hl0 := kUz E
      rw [he]
      (repeat' (first | refine WP.seq ?_ | refine WP.block ?_ | ((first | refine WP.region ?_ | refine WP.kAa ?_ | refine WP.ret ?_ | refine WP.exit ?_ | refine WP.skip ?_ ); simp only [go_sem, hnm, hap, hx0, hl0]) | refine And.intro ?_ ?_ | intro _))
      all_goals first | omega | exact hA | exact hE | exact hA.2 _ ‹_› | exact hE.2 _ ‹_› | skip
     ·have hno : decide (kAm ⟨0, n, A, E⟩) = false := decide_eq_false fun q => hap ⟨q.names, q.apart, q.few⟩
      rw [hno]
      (repeat' (first | refine WP.seq ?_ | refine WP.block ?_ | ((first | refine WP.region ?_ | refine WP.kAa ?_ | refine WP.ret ?_ | refine WP.exit ?_ | refine WP.skip ?_ ); simp only [go_sem, hnm, hap]) | refine And.intro ?_ ?_ | intro _))
      all_goals first | omega | exact hA | exact hE | exact hA.2 _ ‹_› | exact hE.2 _ ‹_› | skip
    ·have h1 : k = 1 := by omega
     subst h1
     by_cases hA0 : A = []
     ·have he : decide (kAm ⟨1, n, A, E⟩) = kCy E := by
       exact kKq ⟨fun q => q.expr rfl, fun q => ⟨hk, by rw [hA0]; show (0 : Nat) ≤ 4; decide, by rw [hA0]; simp, by rw [hA0]; simp, fun _ => hA0, fun _ => hnm, fun h => absurd (.inr rfl) h, fun _ => q, fun h => absurd (show kDl 1 = false from h) (by decide)⟩⟩
      have hx0 : kDl 1 = true := rfl
      have hl0 : (A.length : Int) = 0 := by rw [hA0]; rfl
      rw [he]
      (repeat' (first | refine WP.seq ?_ | refine WP.block ?_ | ((first | refine WP.region ?_ | refine WP.kAa ?_ | refine WP.ret ?_ | refine WP.exit ?_ | refine WP.skip ?_ ); simp only [go_sem, hnm, hx0, hl0]) | refine And.intro ?_ ?_ | intro _))
      all_goals first | omega | exact hA | exact hE | exact hA.2 _ ‹_› | exact hE.2 _ ‹_› | skip
     ·have hno : decide (kAm ⟨1, n, A, E⟩) = false := decide_eq_false fun q => hA0 (q.kLz (show (1 : Int) ≠ 0 by decide))
      have hl0 : (0 : Int) < A.length := by have := List.length_pos_iff.2 hA0; omega
      rw [hno]
      (repeat' (first | refine WP.seq ?_ | refine WP.block ?_ | ((first | refine WP.region ?_ | refine WP.kAa ?_ | refine WP.ret ?_ | refine WP.exit ?_ | refine WP.skip ?_ ); simp only [go_sem, hnm, hl0]) | refine And.intro ?_ ?_ | intro _))
      all_goals first | omega | exact hA | exact hE | exact hA.2 _ ‹_› | exact hE.2 _ ‹_› | skip
  ·have h0 : ¬ k = 0 := fun e => h01 (.inl e)
   have h1 : ¬ k = 1 := fun e => h01 (.inr e)
   by_cases hne : n = ⟨#[]⟩
   ·by_cases hA0 : A = []
    ·have hl0 : (A.length : Int) = 0 := by rw [hA0]; rfl
     have hneT : (n = ⟨#[]⟩) = True := eq_true hne
     have hneF : (n ≠ ⟨#[]⟩) = False := eq_false fun h => h hne
     have hz : kAm ⟨k, n, A, E⟩ ↔ lastP ⟨k, n, A, E⟩ := ⟨fun q => ⟨q.expr, q.kFv⟩, fun q => ⟨hk, by rw [hA0]; show (0 : Nat) ≤ 4; decide, by rw [hA0]; simp, by rw [hA0]; simp, fun _ => hA0, fun h => absurd h h01, fun _ => hne, q.1, q.2⟩⟩
     cases hex : kDl k with
     |true =>
      have he : decide (kAm ⟨k, n, A, E⟩) = kCy E := by
       exact kKq (hz.trans ⟨fun q => q.1 hex, fun q => ⟨fun _ => q, fun h => by rw [hex] at h; cases h⟩⟩)
      rw [he]
      (repeat' (first | refine WP.seq ?_ | refine WP.block ?_ | ((first | refine WP.region ?_ | refine WP.kAa ?_ | refine WP.ret ?_ | refine WP.exit ?_ | refine WP.skip ?_ ); simp only [go_sem, hk0, hk7, h0, h1, hneT, hl0, hex]) | refine And.intro ?_ ?_ | intro _))
      all_goals first | omega | exact hA | exact hE | exact hA.2 _ ‹_› | exact hE.2 _ ‹_› | skip
     |false =>
      have he : decide (kAm ⟨k, n, A, E⟩) = decide (E = []) := decide_eq_decide.2 (hz.trans ⟨fun q => q.2 hex, fun q => ⟨fun h => (by rw [hex] at h; cases h), fun _ => q⟩⟩)
      have hle := kUz E
      rw [he]
      (repeat' (first | refine WP.seq ?_ | refine WP.block ?_ | ((first | refine WP.region ?_ | refine WP.kAa ?_ | refine WP.ret ?_ | refine WP.exit ?_ | refine WP.skip ?_ ); simp only [go_sem, hk0, hk7, h0, h1, hneT, hl0, hex, hle]) | refine And.intro ?_ ?_ | intro _))
      all_goals first | omega | exact hA | exact hE | exact hA.2 _ ‹_› | exact hE.2 _ ‹_› | skip
    ·have hno : decide (kAm ⟨k, n, A, E⟩) = false := decide_eq_false fun q => hA0 (q.kLz h0)
     have hl0 : (0 : Int) < A.length := by have := List.length_pos_iff.2 hA0; omega
     have hneT : (n = ⟨#[]⟩) = True := eq_true hne
     rw [hno]
     (repeat' (first | refine WP.seq ?_ | refine WP.block ?_ | ((first | refine WP.region ?_ | refine WP.kAa ?_ | refine WP.ret ?_ | refine WP.exit ?_ | refine WP.skip ?_ ); simp only [go_sem, hk0, hk7, h0, h1, hneT, hl0]) | refine And.intro ?_ ?_ | intro _))
     all_goals first | omega | exact hA | exact hE | exact hA.2 _ ‹_› | exact hE.2 _ ‹_› | skip
   ·have hno : decide (kAm ⟨k, n, A, E⟩) = false := decide_eq_false fun q => hne (q.kPu h01)
    rw [hno]
    (repeat' (first | refine WP.seq ?_ | refine WP.block ?_ | ((first | refine WP.region ?_ | refine WP.kAa ?_ | refine WP.ret ?_ | refine WP.exit ?_ | refine WP.skip ?_ ); simp only [go_sem, hk0, hk7, h0, h1, hne]) | refine And.intro ?_ ?_ | intro _))
    all_goals first | omega | exact hA | exact hE | exact hA.2 _ ‹_› | exact hE.2 _ ‹_› | skip
 ·have hno : decide (kAm ⟨k, n, A, E⟩) = false := decide_eq_false fun q => hk q.kind
  have hb : (decide (0 ≤ k) && decide (k ≤ 7)) = false := by simp; omega
  rw [hno]
  (repeat' (first | refine WP.seq ?_ | refine WP.block ?_ | ((first | refine WP.region ?_ | refine WP.kAa ?_ | refine WP.ret ?_ | refine WP.exit ?_ | refine WP.skip ?_ ); simp only [go_sem, hb]) | refine And.intro ?_ ?_ | intro _))
  all_goals first | omega | exact hA | exact hE | exact hA.2 _ ‹_› | exact hE.2 _ ‹_› | skip
end
end Go.Proofs.YtdhkhapbldkkdaaGreatDoor

namespace Go.Proofs.YtdhkhapbldkkdaaGreatDoor
open Go.Vc
attribute [local irreducible] Go.Vc.WP
attribute [local go_sem] kAr kAs
attribute [local go_sem] kAq kA5 kCb kBo kBx kB4 aPk St.fzS addL behind St.runO St.kDg
theorem k2g {L : List ByteArray} {r : List SV} (h : r ∈ L.map encS) : r.length = 1 := by obtain ⟨n, _, rfl⟩ := List.mem_map.1 h; rfl
theorem kTz (P : List Line) {e i : Nat} (h : i < e) (A : List ByteArray) : kH9 P (e - i) i A = kH9 P (e - (i + 1)) (i + 1) (if kd P i = 1 ∧ nameAt P i ∉ A then A ++ [nameAt P i] else A) := by
 rw [show e - i = (e - (i + 1)) + 1 by omega, kH9]
def kLcl : Ctr := pur aPk (fun x => [.sl 4 (x.1.map kAc), .v (.int .i64 x.2)]) (fun x => x.1.length ≤ 1048576 ∧ ∀ y ∈ x.1, kCh y) (fun d _ => .own d) (fun d x => [(d, .sl 9 1 ((kDr x.1 x.2).map encS))])
theorem kP2 {P : List Line} {k : Int} (h : endOf P k < 0) : kDr P k = [] := if_pos (.inl h)
theorem kRg {P : List Line} {n : Nat} (h : n < P.length) (h3 : ¬ P[n].kind = 0) : kDr P n = [] := if_pos (.inr (by rw [Int.toNat_natCast, kD1 h]; exact h3))
theorem kRh {P : List Line} {n e : Nat} (h : n < P.length) (h3 : P[n].kind = 0) (he : endOf P n = (e : Int)) : kDr P n = kH9 P (e - n) n P[n].args := by
 unfold kDr
 rw [Int.toNat_natCast, kD1 h, he, Int.toNat_natCast, if_neg (by omega), kKs h]
section
attribute [local irreducible] kCh
noncomputable def kZ4 : Cx := { P := Tryz.prog, tys := tys, C := [(68, kBlk), (146, kKo)], hty := kAp, hC := COk.cons kXi (COk.cons k47 (COk.nil _)) }
theorem qBh : kZ4.tys = tys := rfl
theorem qBi : kZ4.C = [(68, kBlk), (146, kKo)] := rfl
attribute [local go_sem] qBh qBi kBlk kKo
set_option maxHeartbeats 8000000
theorem cLclI : Cn Tryz.prog 121 kLcl := by
 refine Cn.pur Tryz.func121 (by kernel_rfl) rfl fun d x hx => ?_
 obtain ⟨P, k⟩ := x
 obtain ⟨hx, hsh⟩ := hx
 simp only at hx hsh ⊢
 refine Holds.go (c := kZ4) Tryz.func121 rfl Tryz.results121 Tryz.ntmps121 (by omega) (by simp) rfl ?_
 intro X0 w0
 have lk0 : lk 0 tys = none := rfl
 by_cases hneg : endOf P k < 0
 ·rw [kP2 hneg]
  (repeat' (first | refine WP.seq ?_ | refine WP.block ?_ | ((first | refine WP.kBh (id := 2) ?_); simp only [go_sem, hneg]) | ((first | refine WP.region ?_ | refine WP.kAa ?_ | refine WP.ret ?_ | refine WP.exit ?_ | refine WP.skip ?_ ); simp only [go_sem, hneg]) | refine And.intro ?_ ?_ | intro _))
  all_goals first | omega | rfl | exact ⟨_, _, rfl⟩ | exact ⟨_, _, _, rfl⟩ | skip
 have hin := kHy (P := P) (k := k) (by omega)
 obtain ⟨n, rfl⟩ := Int.eq_ofNat_of_zero_le hin.1
 have hn : n < P.length := by omega
 obtain ⟨e, he, hE, hne⟩ := kIl (P := P) (k := n) (by omega)
 have hel := hE.lt
 have h1 := kAd kAc P n hn
 have he0 : ¬ (e : Int) < 0 := by omega
 by_cases h3 : P[n].kind = 0
 rotate_left
 ·rw [kRg hn h3]
  (repeat' (first | refine WP.seq ?_ | refine WP.block ?_ | ((first | refine WP.region ?_ | refine WP.kAa ?_ | refine WP.ret ?_ | refine WP.exit ?_ | refine WP.skip ?_ ); simp only [go_sem, h1, kAc, h3, he, he0]) | refine And.intro ?_ ?_ | intro _))
  all_goals first | omega | rfl | exact ⟨_, _, rfl⟩ | exact ⟨_, _, _, rfl⟩ | skip
 rw [kRh hn h3 he]
 have hsn : P[n].args.length ≤ 1048576 := by have := hsh _ (List.getElem_mem hn); unfold kCh at this; exact this.1
 generalize hA0 : P[n].args = A0 at hsn
 rw [kAc, hA0] at h1
 have hnn : (0 : Nat) + A0.length = A0.length := by omega
 (repeat' (first | refine WP.seq ?_ | refine WP.block ?_ | ((first | refine WP.region ?_ | refine WP.kAa ?_ | refine WP.ret ?_ | refine WP.exit ?_ | refine WP.skip ?_ ); simp only [go_sem, h1, h3, he, he0]) | refine And.intro ?_ ?_ | intro _))
 all_goals first | omega | exact k2g ‹_› | skip
 generalize hG : kH9 P (e - n) n A0 = G
 refine WP.loop (fun s : Nat × List ByteArray => ⟨[(0, .sl 4 (P.map kAc)), (5, .v (.int .i64 e)), (6, .own 21), (7, .v (.int .i64 s.1))], [(21, .sl 9 1 (s.2.map encS))]⟩)
  (fun s => n ≤ s.1 ∧ s.1 ≤ e ∧ s.2.length ≤ A0.length + s.1 ∧ kH9 P (e - s.1) s.1 s.2 = G) (fun s => e - s.1) (n, A0) ⟨by simp only; omega, by simp only; omega, by simp only; omega, hG⟩ ?_ ?_
 ·(simp only [go_sem] <;> (first | (and_intros <;> rfl) | simp))
 rintro ⟨i, A⟩ ⟨hi0, hi1, hA, hF⟩
 simp only at hi0 hi1 hA hF ⊢
 by_cases hlt : i < e
 ·have hli : (i : Int) < (e : Int) := by omega
  have hiP : i < P.length := by omega
  have h2 := kAd kAc P i hiP
  rw [kAc] at h2
  have hkd := kD1 hiP
  have hnm := kIu hiP
  rw [kTz P hlt, hkd, hnm] at hF
  generalize P[i].kind = kk at h2 hF
  generalize P[i].name = nn at h2 hF
  by_cases h1k : kk = 1
  ·by_cases hm : nn ∈ A
   ·have hmi : (nn ∈ A) = True := eq_true hm
    rw [if_neg (fun q => q.2 hm)] at hF
    (repeat' (first | refine WP.seq ?_ | refine WP.block ?_ | ((first | refine WP.region ?_ | refine WP.kAa ?_ | refine WP.ret ?_ | refine WP.exit ?_ | refine WP.skip ?_ ); simp only [go_sem, hli, h2, h1k, hmi]) | refine And.intro ?_ ?_ | intro _))
    all_goals first | omega | exact ⟨(i + 1, A), ⟨by simp only; omega, by simp only; omega, by simp only; omega, hF⟩, by simp only; omega, by (first | (and_intros <;> rfl) | simp)⟩ | skip
   ·have hmi : (nn ∈ A) = False := eq_false hm
    rw [if_pos ⟨h1k, hm⟩] at hF
    (repeat' (first | refine WP.seq ?_ | refine WP.block ?_ | ((first | refine WP.region ?_ | refine WP.kAa ?_ | refine WP.ret ?_ | refine WP.exit ?_ | refine WP.skip ?_ ); simp only [go_sem, hli, h2, h1k, hmi]) | refine And.intro ?_ ?_ | intro _))
    all_goals first | omega | exact ⟨(i + 1, A ++ [nn]), ⟨by simp only; omega, by simp only; omega, by simp only [List.length_append, List.length_cons, List.length_nil]; omega, hF⟩, by simp only; omega, by simp only [List.map_append, List.map_cons, List.map_nil, encS]; (first | (and_intros <;> rfl) | simp)⟩ | skip
  ·rw [if_neg (fun q => h1k q.1)] at hF
   (repeat' (first | refine WP.seq ?_ | refine WP.block ?_ | ((first | refine WP.region ?_ | refine WP.kAa ?_ | refine WP.ret ?_ | refine WP.exit ?_ | refine WP.skip ?_ ); simp only [go_sem, hli, h2, h1k]) | refine And.intro ?_ ?_ | intro _))
   all_goals first | omega | exact ⟨(i + 1, A), ⟨by simp only; omega, by simp only; omega, by simp only; omega, hF⟩, by simp only; omega, by (first | (and_intros <;> rfl) | simp)⟩ | skip
 ·have hge : ¬ (i : Int) < (e : Int) := by omega
  rw [show e - i = 0 by omega, kH9] at hF
  subst hF
  (repeat' (first | refine WP.seq ?_ | refine WP.block ?_ | ((first | refine WP.region ?_ | refine WP.kAa ?_ | refine WP.ret ?_ | refine WP.exit ?_ | refine WP.skip ?_ ); simp only [go_sem, hge]) | refine And.intro ?_ ?_ | intro _))
  all_goals first | omega | rfl | skip
end
def kT0 : Ctr := pur (fun args => (kE4 (aR args 0), decS (aR args 1), kI8 (aR args 2))) (fun x => [.sl 4 (x.1.map kAc), .sl 1 (x.2.1.map encS), .sl 3 (x.2.2.map kAw)]) (fun x => x.1.length ≤ 1048576 ∧ x.2.1.length ≤ 1048576 ∧ x.2.2.length ≤ 1048576 ∧ ∀ y ∈ x.1, kCh y)
 (fun _ x => .v (.bool (kEa x.1 x.2.1 x.2.2))) (fun _ _ => [])
theorem kWj {P : List Line} {A : List ByteArray} {E : List Tok} {i : Nat} (h : i < E.length) (hk : kDc P A E[i] = false) : kEa P A E = false := by
 cases hb : kEa P A E with
 |false => rfl
 |true => rw [List.all_eq_true.1 hb _ (List.getElem_mem h)] at hk; cases hk
theorem kT1 {P : List Line} {A : List ByteArray} {E : List Tok} (h : ∀ i (hi : i < E.length), kDc P A E[i] = true) : kEa P A E = true :=
 List.all_eq_true.2 fun x hx => by obtain ⟨i, hi, rfl⟩ := List.mem_iff_getElem.1 hx; exact h i hi
theorem kWk {P : List Line} {A : List ByteArray} {E : List Tok} {i : Nat} (h : i < E.length) (hk : kDc P A E[i] = true) (hb : ∀ j (hj : j < E.length), j < i → kDc P A E[j] = true) : ∀ j (hj : j < E.length), j < i + 1 → kDc P A E[j] = true := fun j hj hji => by
 rcases Nat.lt_or_ge j i with q | q
 ·exact hb j hj q
 ·have : j = i := by omega
  subst this; exact hk
theorem kRi (P : List Line) (s : ByteArray) : kC9 P s = -1 ∨ ∃ f : Nat, f < P.length ∧ kC9 P s = (f : Int) := by
 rcases Int.lt_or_le (kC9 P s) 0 with h | h
 ·left
  rcases kNm (isFn s) P with q | q
  ·unfold kC9 at h ⊢; omega
  ·exact q
 ·obtain ⟨f, hf, h1, _⟩ := kJb (p := isFn s) (L := P) (by unfold kC9 at h; omega)
  exact .inr ⟨f, hf, h1⟩
section
attribute [local irreducible] kCh
noncomputable def k5m : Cx := { P := Tryz.prog, tys := tys, C := [(146, kKo), (69, kGz)], hty := kAp, hC := COk.cons k47 (COk.cons k9f (COk.nil _)) }
theorem qFa : k5m.tys = tys := rfl
theorem qFb : k5m.C = [(146, kKo), (69, kGz)] := rfl
attribute [local go_sem] qFa qFb kKo kGz
set_option maxHeartbeats 8000000
theorem qFc : Cn Tryz.prog 122 kT0 := by
 refine Cn.pur Tryz.func122 (by kernel_rfl) rfl fun d x hx => ?_
 obtain ⟨P, A, E⟩ := x
 obtain ⟨hx, hA, hEl, hsh⟩ := hx
 simp only at hx hA hEl hsh ⊢
 refine Holds.go (c := k5m) Tryz.func122 rfl Tryz.results122 Tryz.ntmps122 (by omega) (by simp) rfl ?_
 intro X0 w0
 have lk0 : lk 0 tys = none := rfl
 (repeat' (first | refine WP.seq ?_ | refine WP.block ?_ | ((first | refine WP.region ?_ | refine WP.kAa ?_ | refine WP.ret ?_ | refine WP.exit ?_ | refine WP.skip ?_ | refine WP.kAg 13 (by decide +kernel) (by kernel_rfl) ?_); simp only [go_sem]) | refine And.intro ?_ ?_ | intro _))
 all_goals first | omega | skip
 refine WP.loop (fun i : Nat => ⟨[(0, .sl 4 (P.map kAc)), (1, .sl 1 (A.map encS)), (10, .sl 3 (E.map kAw)), (11, .v (.int .i64 E.length)), (12, .v (.int .i64 i))], []⟩)
  (fun i => i ≤ E.length ∧ ∀ j (hj : j < E.length), j < i → kDc P A E[j] = true) (fun i => E.length - i) 0 ⟨by omega, fun j hj h => by omega⟩ ?_ ?_
 ·(simp only [go_sem] <;> (first | (and_intros <;> rfl) | simp))
 rintro i ⟨hi, hb⟩
 by_cases hlt : i < E.length
 ·have hli : (i : Int) < E.length := by omega
  have h2 := kAd kAw E i hlt
  have hno := kWj (P := P) (A := A) hlt
  have hnx := fun q => kWk (P := P) (A := A) hlt q hb
  generalize E[i] = t at h2 hno hnx
  obtain ⟨tk, tn, ts⟩ := t
  rw [kAw] at h2
  simp only at h2
  by_cases h1 : tk = 1
  ·subst h1
   by_cases hm : ts ∈ A
   ·have hmi : (ts ∈ A) = True := eq_true hm
    have hkt : kDc P A ⟨1, tn, ts⟩ = true := by simp [kDc, hm]
    have hq := hnx hkt
    (repeat' (first | refine WP.seq ?_ | refine WP.block ?_ | ((first | refine WP.region ?_ | refine WP.kAa ?_ | refine WP.ret ?_ | refine WP.exit ?_ | refine WP.skip ?_ | refine WP.kAg 13 (by decide +kernel) (by kernel_rfl) ?_); simp only [go_sem, hli, h2, hmi]) | refine And.intro ?_ ?_ | intro _))
    all_goals first | omega | exact ⟨i + 1, ⟨by omega, hq⟩, by omega, by (first | (and_intros <;> rfl) | simp)⟩ | skip
   ·have hmi : (ts ∈ A) = False := eq_false hm
    rw [hno (by simp [kDc, hm])]
    (repeat' (first | refine WP.seq ?_ | refine WP.block ?_ | ((first | refine WP.region ?_ | refine WP.kAa ?_ | refine WP.ret ?_ | refine WP.exit ?_ | refine WP.skip ?_ | refine WP.kAg 13 (by decide +kernel) (by kernel_rfl) ?_); simp only [go_sem, hli, h2, hmi]) | refine And.intro ?_ ?_ | intro _))
    all_goals first | omega | rfl | skip
  by_cases h7 : tk = 7
  rotate_left
  ·have hq := hnx (by simp [kDc, h1, h7])
   (repeat' (first | refine WP.seq ?_ | refine WP.block ?_ | ((first | refine WP.region ?_ | refine WP.kAa ?_ | refine WP.ret ?_ | refine WP.exit ?_ | refine WP.skip ?_ | refine WP.kAg 13 (by decide +kernel) (by kernel_rfl) ?_); simp only [go_sem, hli, h2, h1, h7]) | refine And.intro ?_ ?_ | intro _))
   all_goals first | omega | exact ⟨i + 1, ⟨by omega, hq⟩, by omega, by (first | (and_intros <;> rfl) | simp)⟩ | skip
  subst h7
  rcases kRi P ts with hf | ⟨f, hf, hff⟩
  ·rw [hno (by simp [kDc, hf])]
   by_cases hP : 0 < P.length
   ·have h3 := kAd kAc P 0 hP
    rw [kAc] at h3
    (repeat' (first | refine WP.seq ?_ | refine WP.block ?_ | ((first | refine WP.region ?_ | refine WP.kAa ?_ | refine WP.ret ?_ | refine WP.exit ?_ | refine WP.skip ?_ | refine WP.kAg 13 (by decide +kernel) (by kernel_rfl) ?_); simp only [go_sem, hli, h2, hf, h3]) | refine And.intro ?_ ?_ | intro _))
    all_goals first | omega | rfl | skip
   ·have h3 : Go.Vc.rowAt (P.map kAc) 0 = [] := by unfold Go.Vc.rowAt; rw [List.getElem?_eq_none (by rw [List.length_map]; omega)]; rfl
    (repeat' (first | refine WP.seq ?_ | refine WP.block ?_ | ((first | refine WP.region ?_ | refine WP.kAa ?_ | refine WP.ret ?_ | refine WP.exit ?_ | refine WP.skip ?_ | refine WP.kAg 13 (by decide +kernel) (by kernel_rfl) ?_); simp only [go_sem, hli, h2, hf, h3]) | refine And.intro ?_ ?_ | intro _))
    all_goals first | omega | rfl | skip
  ·have h3 := kAd kAc P f hf
   rw [kAc] at h3
   have hal := kKs hf
   have hf0 : ¬ (f : Int) < 0 := by omega
   have hkt : kDc P A ⟨7, tn, ts⟩ = decide ((P[f].args.length : Int) = tn) := by simp [kDc, hff, hal]
   have hsl : P[f].args.length ≤ 1048576 := by have := hsh _ (List.getElem_mem hf); unfold kCh at this; exact this.1
   generalize P[f].args = AA at h3 hkt hsl
   by_cases hc : (AA.length : Int) = tn
   ·have hq := hnx (by rw [hkt]; exact decide_eq_true hc)
    (repeat' (first | refine WP.seq ?_ | refine WP.block ?_ | ((first | refine WP.region ?_ | refine WP.kAa ?_ | refine WP.ret ?_ | refine WP.exit ?_ | refine WP.skip ?_ | refine WP.kAg 13 (by decide +kernel) (by kernel_rfl) ?_); simp only [go_sem, hli, h2, hff, hf0, h3, hc]) | refine And.intro ?_ ?_ | intro _))
    all_goals first | omega | exact ⟨i + 1, ⟨by omega, hq⟩, by omega, by (first | (and_intros <;> rfl) | simp)⟩ | skip
   ·rw [hno (by rw [hkt]; exact decide_eq_false hc)]
    (repeat' (first | refine WP.seq ?_ | refine WP.block ?_ | ((first | refine WP.region ?_ | refine WP.kAa ?_ | refine WP.ret ?_ | refine WP.exit ?_ | refine WP.skip ?_ | refine WP.kAg 13 (by decide +kernel) (by kernel_rfl) ?_); simp only [go_sem, hli, h2, hff, hf0, h3, hc]) | refine And.intro ?_ ?_ | intro _))
    all_goals first | omega | rfl | skip
 ·have hge : ¬ (i : Int) < E.length := by omega
  rw [kT1 fun j hj => hb j hj (by omega)]
  (repeat' (first | refine WP.seq ?_ | refine WP.block ?_ | ((first | refine WP.region ?_ | refine WP.kAa ?_ | refine WP.ret ?_ | refine WP.exit ?_ | refine WP.skip ?_ | refine WP.kAg 13 (by decide +kernel) (by kernel_rfl) ?_); simp only [go_sem, hge]) | refine And.intro ?_ ?_ | intro _))
  all_goals first | omega | rfl | skip
end
end Go.Proofs.YtdhkhapbldkkdaaGreatDoor

namespace Go.Proofs.YtdhkhapbldkkdaaGreatDoor
def popR (i : Int) : List Int → List Int
 | [] => []
 |x :: R => if x < i then popR i R else x :: R
def popL (i : Int) (L : List Int) : List Int := (popR i L.reverse).reverse
theorem k1u {i x : Int} (L : List Int) (h : x < i) : popL i (L ++ [x]) = popL i L := by
 unfold popL
 rw [List.reverse_append, List.reverse_singleton, List.singleton_append, popR, if_pos h]
theorem kUq {i x : Int} (L : List Int) (h : ¬ x < i) : popL i (L ++ [x]) = L ++ [x] := by
 unfold popL
 rw [List.reverse_append, List.reverse_singleton, List.singleton_append, popR, if_neg h, List.reverse_cons, List.reverse_reverse]
inductive Stk (P : List Line) (b : Int) : Nat → List Int → Prop
 |nil {i : Nat} (h : sumTo P i = b) : Stk P b i []
 |snoc {i j x : Nat} {L : List Int} (hL : Stk P b j L) (ho : kBw (kd P j) = true) (hE : kCk P j x) (hji : j < i) (hix : i ≤ x) (hs : sumTo P i = sumTo P j + 1) : Stk P b i (L ++ [(x : Int)])
theorem Stk.len {P : List Line} {b : Int} {i : Nat} {L : List Int} (h : Stk P b i L) : (L.length : Int) = sumTo P i - b := by
 induction h with
 |nil h => simp only [List.length_nil]; omega
 |snoc hL ho hE hji hix hs ih => simp only [List.length_append, List.length_cons, List.length_nil]; omega
theorem Stk.pop {P : List Line} {b : Int} {i : Nat} {L : List Int} (h : Stk P b i L) : popL i L = L := by
 cases h with
 |nil h => rfl
 |snoc hL ho hE hji hix hs => exact kUq _ (by omega)
theorem Stk.next {P : List Line} {k e i : Nat} {L : List Int} (hk : kd P k = 0) (he : kCk P k e) (h1 : k < i) (h2 : i < e) (hki : kd P i ≠ 0) (h : Stk P (sumTo P (k + 1)) i L) :
  Stk P (sumTo P (k + 1)) (i + 1) (popL ((i + 1 : Nat) : Int) (if kd P i = 3 ∨ kd P i = 5 then L ++ [endOf P i] else L)) := by
 have hs1 : sumTo P (k + 1) = sumTo P k + 1 := by rw [sumTo, hk]; rfl
 by_cases ho : kd P i = 3 ∨ kd P i = 5
 ·rw [if_pos ho]
  have hop : kBw (kd P i) = true := kFd.2 (.inr ho)
  obtain ⟨e', a, b, c, d⟩ := he.nest (kIm (.inl hk)) h1 h2 hop
  rw [a, kUq _ (by omega)]
  exact .snoc h hop b (by omega) (by omega) (by rw [sumTo, kHk hop])
 ·rw [if_neg ho]
  have hnop : kBw (kd P i) = false := by
   cases hb : kBw (kd P i) with
   |false => rfl
   |true =>
        rcases kFd.1 hb with q | q | q
        ·exact absurd q hki
        ·exact absurd (.inl q) ho
        ·exact absurd (.inr q) ho
  by_cases h7 : kd P i = 7
  ·have hs : sumTo P (i + 1) = sumTo P i - 1 := by rw [sumTo, h7, kMh]; omega
   cases h with
   |nil h => exact absurd (show sumTo P (i + 1) = sumTo P k by omega) (he.least i (by omega) h2)
   | @snoc _ j x L0 hL hoj hE hji hix hsj =>
    have hxi : x = i := by
     rcases Nat.lt_or_ge i x with q | q
     ·exact absurd (show sumTo P (i + 1) = sumTo P j by omega) (hE.least i (by omega) q)
     ·omega
    subst hxi
    rw [k1u _ (by omega)]
    have hn : Stk P (sumTo P (k + 1)) (x + 1) L0 := by
     cases hL with
     |nil h => exact .nil (by omega)
     | @snoc _ j' y L1 hL1 hoj' hE' hj' hjy hsj' =>
      refine .snoc hL1 hoj' hE' (by omega) ?_ (by omega)
      rcases Nat.lt_or_ge x y with q | q
      ·omega
      ·exfalso
       have hsy := hE'.sum
       rcases Nat.lt_or_ge y x with q2 | q2
       ·have := hE.inside hoj (show j < y + 1 by omega) (by omega)
        omega
       ·rw [show y = x by omega] at hsy; omega
    rw [hn.pop]; exact hn
  ·have hs : sumTo P (i + 1) = sumTo P i := by rw [sumTo, kK5 hnop h7]; omega
   have hn : Stk P (sumTo P (k + 1)) (i + 1) L := by
    cases h with
    |nil h => exact .nil (by omega)
    | @snoc _ j x L0 hL hoj hE hji hix hsj =>
     have hx7 := hE.kind hoj (by omega)
     refine .snoc hL hoj hE (by omega) ?_ (by omega)
     rcases Nat.lt_or_ge i x with q | q
     ·omega
     ·rw [show x = i by omega] at hx7; exact absurd hx7 h7
   rw [hn.pop]; exact hn
noncomputable def kJg (P : List Line) (k e : Nat) : Bool := @decide (kE1 P k e) (Classical.propDecidable _)
theorem kTb {P : List Line} {k e : Nat} (h : kE1 P k e) : kJg P k e = true := by unfold kJg; exact @decide_eq_true _ (Classical.propDecidable _) h
theorem kVw {P : List Line} {k e : Nat} (h : ¬ kE1 P k e) : kJg P k e = false := by unfold kJg; exact @decide_eq_false _ (Classical.propDecidable _) h
theorem k7y {P : List Line} {k e : Nat} (h : kJg P k e = true) : kE1 P k e := by unfold kJg at h; exact @of_decide_eq_true _ (Classical.propDecidable _) h
noncomputable def kHz (P : List Line) (k e : Nat) : Bool := @decide (kFj P k e) (Classical.propDecidable _)
theorem kTc {P : List Line} {k e : Nat} (h : kFj P k e) : kHz P k e = true := by unfold kHz; exact @decide_eq_true _ (Classical.propDecidable _) h
theorem kVx {P : List Line} {k e : Nat} (h : ¬ kFj P k e) : kHz P k e = false := by unfold kHz; exact @decide_eq_false _ (Classical.propDecidable _) h
theorem k7z {P : List Line} {k e : Nat} (h : kHz P k e = true) : kFj P k e := by unfold kHz at h; exact @of_decide_eq_true _ (Classical.propDecidable _) h
def kFk (P : List Line) (k i : Nat) : Prop := kd P i ≠ 0 ∧ sumTo P i - sumTo P (k + 1) + (if kd P i = 3 ∨ kd P i = 5 then 1 else 0) ≤ 4 ∧ kEa P (kDr P k) (kLw P i) = true
def kIb (P : List Line) (k i : Nat) : Prop := kd P i ≠ 0 ∧ (kd P i = 4 → ∃ j : Nat, k ≤ j ∧ j < i ∧ kCd P j = (i : Int)) ∧ sumTo P (i + 1) - sumTo P (k + 1) ≤ 4 ∧ kEa P (kDr P k) (kLw P i) = true
theorem kFk.kn {P : List Line} {k i : Nat} (h : kFk P k i) : kd P i ≠ 0 := h.1
theorem kIb.kn {P : List Line} {k i : Nat} (h : kIb P k i) : kd P i ≠ 0 := h.1
theorem kIb.el {P : List Line} {k i : Nat} (h : kIb P k i) : kd P i = 4 → ∃ j : Nat, k ≤ j ∧ j < i ∧ kCd P j = (i : Int) := h.2.1
theorem kIb.dp {P : List Line} {k i : Nat} (h : kIb P k i) : sumTo P (i + 1) - sumTo P (k + 1) ≤ 4 := h.2.2.1
theorem kIb.kw {P : List Line} {k i : Nat} (h : kIb P k i) : kEa P (kDr P k) (kLw P i) = true := h.2.2.2
theorem kFg {P : List Line} {k e i : Nat} (h1 : k < i) (h2 : i ≤ e) (h : ¬ kFk P k i) : kJg P k e = false := kVw fun q => h (q.2 i h1 h2)
theorem kOg {P : List Line} {k e i : Nat} (h1 : k < i) (h2 : i < e) (h : ¬ kIb P k i) : kHz P k e = false := kVx fun q => h (q.2 i h1 h2)
end Go.Proofs.YtdhkhapbldkkdaaGreatDoor

namespace Go.Proofs.YtdhkhapbldkkdaaGreatDoor
open Go.Vc
attribute [local irreducible] Go.Vc.WP
attribute [local go_sem] kAr kAs
attribute [local go_sem] kA5 kB4 kAq kBo kBx St.fzS addL behind St.runO St.kDg
section
noncomputable def k5d : Cx := { P := Tryz.prog, tys := tys, C := [(57, k60), (94, kCf), (95, kQp), (96, kFl)], hty := kAp, hC := COk.cons c58 (COk.cons kR5 (COk.cons qEo (COk.cons cExOkS (COk.nil _)))) }
theorem qEs : k5d.tys = tys := rfl
theorem qEt : k5d.C = [(57, k60), (94, kCf), (95, kQp), (96, kFl)] := rfl
attribute [local go_sem] qEs qEt k60 kCf kQp kFl
set_option maxHeartbeats 4000000
theorem cLnOkS : Cn Tryz.prog 45 kHp := by
 refine Cn.pur Tryz.func45 (by kernel_rfl) rfl fun d x hx => ?_
 obtain ⟨k, n, A, E⟩ := x
 obtain ⟨hn, hA, hE⟩ := hx
 have hAl := hA.1
 have hEl := hE.1
 simp only at hn hAl hEl hA hE ⊢
 refine Holds.go (c := k5d) Tryz.func45 rfl Tryz.results45 Tryz.ntmps45 (by omega) (by simp) rfl ?_
 intro X0 w0
 by_cases hk : 0 ≤ k ∧ k ≤ 7
 ·have hk0 := hk.1
  have hk7 := hk.2
  have hh3 := k80 hk0 hk7
  by_cases hl : ((A.length : Nat) : Int) ≤ 4
  ·(repeat' (first | refine WP.seq ?_ | refine WP.block ?_ | ((first | refine WP.region ?_ | refine WP.kAa ?_ | refine WP.ret ?_ | refine WP.exit ?_ | refine WP.skip ?_ | refine WP.kAg 11 (by decide +kernel) (by kernel_rfl) ?_); simp only [go_sem, hk0, hk7, hl]) | refine And.intro ?_ ?_ | intro _))
   all_goals first | omega | skip
   refine WP.loop (fun a : Nat => ⟨[(1, .ptr 1 0 0 0), (3, .v (.int .i64 a))], [(1, .box 68 [.v (.int .i64 k), .v (.string n), .sl 1 (A.map encS), .sl 3 (E.map kAw)])]⟩)
    (fun a => a ≤ A.length ∧ (∀ i (hi : i < A.length), i < a → kBv A[i] = true) ∧ (A.take a).Nodup ∧ (0 < a → k = 0)) (fun a => A.length - a) 0 (by simp) ?_ ?_
   ·(simp only [go_sem] <;> (first | (and_intros <;> rfl) | simp))
   rintro a ⟨ha, hf, hd, hz⟩
   by_cases hlt : a < A.length
   ·have hli : (a : Int) < A.length := by omega
    have h1 := kAd encS A a hlt
    have h2 := hA.2 _ (List.getElem_mem hlt)
    cases hnm : kBv A[a] with
    |false =>
     have hno : decide (kAm ⟨k, n, A, E⟩) = false := decide_eq_false fun q => by rw [q.names _ (List.getElem_mem hlt)] at hnm; cases hnm
     rw [hno]
     (repeat' (first | refine WP.seq ?_ | refine WP.block ?_ | ((first | refine WP.region ?_ | refine WP.kAa ?_ | refine WP.ret ?_ | refine WP.exit ?_ | refine WP.skip ?_ | refine WP.kAg 11 (by decide +kernel) (by kernel_rfl) ?_); simp only [go_sem, hli, h1, encS, hnm]) | refine And.intro ?_ ?_ | intro _))
     all_goals first | omega | skip
    |true =>
     by_cases h0 : k = 0
     ·have h0T : (k = 0) = True := eq_true h0
      (repeat' (first | refine WP.seq ?_ | refine WP.block ?_ | ((first | refine WP.region ?_ | refine WP.kAa ?_ | refine WP.ret ?_ | refine WP.exit ?_ | refine WP.skip ?_ | refine WP.kAg 11 (by decide +kernel) (by kernel_rfl) ?_); simp only [go_sem, hli, h1, encS, hnm, h0T]) | refine And.intro ?_ ?_ | intro _))
      all_goals first | omega | skip
      refine WP.loop (fun j : Nat => ⟨[(1, .ptr 1 0 0 0), (3, .v (.int .i64 a)), (4, .v (.int .i64 j))], [(1, .box 68 [.v (.int .i64 k), .v (.string n), .sl 1 (A.map encS), .sl 3 (E.map kAw)])]⟩)
       (fun j => j ≤ a ∧ ∀ i (hi : i < A.length), i < j → A[i] ≠ A[a]) (fun j => a - j) 0 (by simp) ?_ ?_
      ·(simp only [go_sem] <;> (first | (and_intros <;> rfl) | simp))
      rintro j ⟨hj, hg⟩
      by_cases hja : j < a
      ·have hji : (j : Int) < a := by omega
       have hjl : j < A.length := by omega
       have hjli : (j : Int) < A.length := by omega
       have h3 := kAd encS A j hjl
       by_cases he : A[j] = A[a]
       ·have hno : decide (kAm ⟨k, n, A, E⟩) = false := decide_eq_false fun q => kZt hlt (by rw [← he, List.mem_take_iff_getElem]; exact ⟨j, by omega, rfl⟩) q.apart
        rw [hno]
        (repeat' (first | refine WP.seq ?_ | refine WP.block ?_ | ((first | refine WP.region ?_ | refine WP.kAa ?_ | refine WP.ret ?_ | refine WP.exit ?_ | refine WP.skip ?_ | refine WP.kAg 11 (by decide +kernel) (by kernel_rfl) ?_); simp only [go_sem, hji, hjli, hli, h1, h3, encS, he]) | refine And.intro ?_ ?_ | intro _))
        all_goals first | omega | skip
       ·have hnx : ∀ i (hi : i < A.length), i < j + 1 → A[i] ≠ A[a] := fun i hi hij => by
         rcases Nat.lt_or_ge i j with q | q
         ·exact hg i hi q
         ·have : i = j := by omega
          subst this; exact he
        (repeat' (first | refine WP.seq ?_ | refine WP.block ?_ | ((first | refine WP.region ?_ | refine WP.kAa ?_ | refine WP.ret ?_ | refine WP.exit ?_ | refine WP.skip ?_ | refine WP.kAg 11 (by decide +kernel) (by kernel_rfl) ?_); simp only [go_sem, hji, hjli, hli, h1, h3, encS, he]) | refine And.intro ?_ ?_ | intro _))
        all_goals first | omega | exact ⟨j + 1, ⟨by omega, hnx⟩, by omega, by (first | (and_intros <;> rfl) | simp)⟩ | skip
      ·have hjge : ¬ (j : Int) < a := by omega
       have hnm2 : A[a] ∉ A.take a := fun hm => by
        obtain ⟨i, hi, hia⟩ := List.mem_take_iff_getElem.1 hm
        exact hg i (by omega) (by omega) hia
       have hnx : ∀ i (hi : i < A.length), i < a + 1 → kBv A[i] = true := fun i hi hik => by
        rcases Nat.lt_or_ge i a with q | q
        ·exact hf i hi q
        ·have : i = a := by omega
         subst this; exact hnm
       (repeat' (first | refine WP.seq ?_ | refine WP.block ?_ | ((first | refine WP.region ?_ | refine WP.kAa ?_ | refine WP.ret ?_ | refine WP.exit ?_ | refine WP.skip ?_ | refine WP.kAg 11 (by decide +kernel) (by kernel_rfl) ?_); simp only [go_sem, hjge]) | refine And.intro ?_ ?_ | intro _))
       all_goals first | omega | exact ⟨a + 1, ⟨by omega, hnx, kOp hlt hd hnm2, fun _ => h0⟩, by omega, by (first | (and_intros <;> rfl) | simp)⟩ | exact ⟨a + 1, ⟨by omega, hnx, kOp hlt hd hnm2⟩, by omega, by (first | (and_intros <;> rfl) | simp)⟩ | skip
     ·have hno : decide (kAm ⟨k, n, A, E⟩) = false := decide_eq_false fun q => by have := q.kLz h0; simp only at this; rw [this] at hlt; exact absurd hlt (by simp)
      rw [hno]
      (repeat' (first | refine WP.seq ?_ | refine WP.block ?_ | ((first | refine WP.region ?_ | refine WP.kAa ?_ | refine WP.ret ?_ | refine WP.exit ?_ | refine WP.skip ?_ | refine WP.kAg 11 (by decide +kernel) (by kernel_rfl) ?_); simp only [go_sem, hli, h1, encS, hnm, h0]) | refine And.intro ?_ ?_ | intro _))
      all_goals first | omega | skip
   ·have hge : ¬ (a : Int) < A.length := by omega
    have hap : kMp A := ⟨fun s hs => by
     obtain ⟨i, hi, rfl⟩ := List.mem_iff_getElem.1 hs
     exact hf i hi (by omega), by rwa [List.take_of_length_le (by omega)] at hd, by omega⟩
    have hk00 : k ≠ 0 → A = [] := fun h => by
     apply List.eq_nil_of_length_eq_zero
     rcases Nat.eq_zero_or_pos A.length with q | q
     ·exact q
     ·exact absurd (hz (by omega)) h
    clear hf hd hz
    cases hex : kDl k with
    |true =>
     rw [hex] at hh3
     by_cases h01 : k = 0 ∨ k = 1
     ·cases hnm : kBv n with
      |false =>
       have hno : decide (kAm ⟨k, n, A, E⟩) = false := decide_eq_false fun q => by rw [q.name h01] at hnm; cases hnm
       rw [hno]
       (repeat' (first | refine WP.seq ?_ | refine WP.block ?_ | ((first | refine WP.region ?_ | refine WP.kAa ?_ | refine WP.ret ?_ | refine WP.exit ?_ | refine WP.skip ?_ | refine WP.kAg 11 (by decide +kernel) (by kernel_rfl) ?_); simp only [go_sem, hge, h01, hnm]) | refine And.intro ?_ ?_ | intro _))
       all_goals first | omega | skip
      |true =>
       have he : decide (kAm ⟨k, n, A, E⟩) = kCy E := kKq ⟨fun q => q.expr hex, fun q => ⟨hk, hap.2.2, hap.1, hap.2.1, hk00, fun _ => hnm, fun h => absurd h01 h, fun _ => q, fun h => by rw [hex] at h; cases h⟩⟩
       rw [he]
       (repeat' (first | refine WP.seq ?_ | refine WP.block ?_ | ((first | refine WP.region ?_ | refine WP.kAa ?_ | refine WP.ret ?_ | refine WP.exit ?_ | refine WP.skip ?_ | refine WP.kAg 11 (by decide +kernel) (by kernel_rfl) ?_); simp only [go_sem, hge, h01, hnm, hh3]) | refine And.intro ?_ ?_ | intro _))
       all_goals first | omega | exact hE | exact hE.2 _ ‹_› | skip
     ·have h0 : ¬ k = 0 := fun e => h01 (.inl e)
      have h1 : ¬ k = 1 := fun e => h01 (.inr e)
      by_cases hne : n = ⟨#[]⟩
      ·have he : decide (kAm ⟨k, n, A, E⟩) = kCy E := kKq ⟨fun q => q.expr hex, fun q => ⟨hk, hap.2.2, hap.1, hap.2.1, hk00, fun h => absurd h h01, fun _ => hne, fun _ => q, fun h => by rw [hex] at h; cases h⟩⟩
       have hneT : (n = ⟨#[]⟩) = True := eq_true hne
       rw [he]
       (repeat' (first | refine WP.seq ?_ | refine WP.block ?_ | ((first | refine WP.region ?_ | refine WP.kAa ?_ | refine WP.ret ?_ | refine WP.exit ?_ | refine WP.skip ?_ | refine WP.kAg 11 (by decide +kernel) (by kernel_rfl) ?_); simp only [go_sem, hge, h0, h1, hneT, hh3]) | refine And.intro ?_ ?_ | intro _))
       all_goals first | omega | exact hE | exact hE.2 _ ‹_› | skip
      ·have hno : decide (kAm ⟨k, n, A, E⟩) = false := decide_eq_false fun q => hne (q.kPu h01)
       rw [hno]
       (repeat' (first | refine WP.seq ?_ | refine WP.block ?_ | ((first | refine WP.region ?_ | refine WP.kAa ?_ | refine WP.ret ?_ | refine WP.exit ?_ | refine WP.skip ?_ | refine WP.kAg 11 (by decide +kernel) (by kernel_rfl) ?_); simp only [go_sem, hge, h0, h1, hne]) | refine And.intro ?_ ?_ | intro _))
       all_goals first | omega | skip
    |false =>
     rw [hex] at hh3
     have hl0 := kUz E
     by_cases h01 : k = 0 ∨ k = 1
     ·cases hnm : kBv n with
      |false =>
       have hno : decide (kAm ⟨k, n, A, E⟩) = false := decide_eq_false fun q => by rw [q.name h01] at hnm; cases hnm
       rw [hno]
       (repeat' (first | refine WP.seq ?_ | refine WP.block ?_ | ((first | refine WP.region ?_ | refine WP.kAa ?_ | refine WP.ret ?_ | refine WP.exit ?_ | refine WP.skip ?_ | refine WP.kAg 11 (by decide +kernel) (by kernel_rfl) ?_); simp only [go_sem, hge, h01, hnm]) | refine And.intro ?_ ?_ | intro _))
       all_goals first | omega | skip
      |true =>
       have he : decide (kAm ⟨k, n, A, E⟩) = decide (E = []) := decide_eq_decide.2 ⟨fun q => q.kFv hex, fun q => ⟨hk, hap.2.2, hap.1, hap.2.1, hk00, fun _ => hnm, fun h => absurd h01 h, fun h => (by rw [hex] at h; cases h), fun _ => q⟩⟩
       rw [he]
       (repeat' (first | refine WP.seq ?_ | refine WP.block ?_ | ((first | refine WP.region ?_ | refine WP.kAa ?_ | refine WP.ret ?_ | refine WP.exit ?_ | refine WP.skip ?_ | refine WP.kAg 11 (by decide +kernel) (by kernel_rfl) ?_); simp only [go_sem, hge, h01, hnm, hh3, hl0]) | refine And.intro ?_ ?_ | intro _))
       all_goals first | omega | exact hE | exact hE.2 _ ‹_› | skip
     ·have h0 : ¬ k = 0 := fun e => h01 (.inl e)
      have h1 : ¬ k = 1 := fun e => h01 (.inr e)
      by_cases hne : n = ⟨#[]⟩
      ·have he : decide (kAm ⟨k, n, A, E⟩) = decide (E = []) := decide_eq_decide.2 ⟨fun q => q.kFv hex, fun q => ⟨hk, hap.2.2, hap.1, hap.2.1, hk00, fun h => absurd h h01, fun _ => hne, fun h => (by rw [hex] at h; cases h), fun _ => q⟩⟩
       have hneT : (n = ⟨#[]⟩) = True := eq_true hne
       rw [he]
       (repeat' (first | refine WP.seq ?_ | refine WP.block ?_ | ((first | refine WP.region ?_ | refine WP.kAa ?_ | refine WP.ret ?_ | refine WP.exit ?_ | refine WP.skip ?_ | refine WP.kAg 11 (by decide +kernel) (by kernel_rfl) ?_); simp only [go_sem, hge, h0, h1, hneT, hh3, hl0]) | refine And.intro ?_ ?_ | intro _))
       all_goals first | omega | exact hE | exact hE.2 _ ‹_› | skip
      ·have hno : decide (kAm ⟨k, n, A, E⟩) = false := decide_eq_false fun q => hne (q.kPu h01)
       rw [hno]
       (repeat' (first | refine WP.seq ?_ | refine WP.block ?_ | ((first | refine WP.region ?_ | refine WP.kAa ?_ | refine WP.ret ?_ | refine WP.exit ?_ | refine WP.skip ?_ | refine WP.kAg 11 (by decide +kernel) (by kernel_rfl) ?_); simp only [go_sem, hge, h0, h1, hne]) | refine And.intro ?_ ?_ | intro _))
       all_goals first | omega | skip
  ·have hno : decide (kAm ⟨k, n, A, E⟩) = false := decide_eq_false fun q => by have := q.few; simp only at this; omega
   have hl' : (4 : Int) < A.length := by omega
   rw [hno]
   (repeat' (first | refine WP.seq ?_ | refine WP.block ?_ | ((first | refine WP.region ?_ | refine WP.kAa ?_ | refine WP.ret ?_ | refine WP.exit ?_ | refine WP.skip ?_ | refine WP.kAg 11 (by decide +kernel) (by kernel_rfl) ?_); simp only [go_sem, hk0, hk7, hl']) | refine And.intro ?_ ?_ | intro _))
   all_goals first | omega | skip
 ·have hno : decide (kAm ⟨k, n, A, E⟩) = false := decide_eq_false fun q => hk q.kind
  have hb : (decide (0 ≤ k) && decide (k ≤ 7)) = false := by simp; omega
  rw [hno]
  (repeat' (first | refine WP.seq ?_ | refine WP.block ?_ | ((first | refine WP.region ?_ | refine WP.kAa ?_ | refine WP.ret ?_ | refine WP.exit ?_ | refine WP.skip ?_ | refine WP.kAg 11 (by decide +kernel) (by kernel_rfl) ?_); simp only [go_sem, hb]) | refine And.intro ?_ ?_ | intro _))
  all_goals first | omega | skip
end
end Go.Proofs.YtdhkhapbldkkdaaGreatDoor

