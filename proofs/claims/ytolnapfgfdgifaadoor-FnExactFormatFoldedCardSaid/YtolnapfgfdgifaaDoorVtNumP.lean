/-
  DERIVED. Decimal numbers in plain Lean.
-/
import Derived.Test.YtolnapfgfdgifaaDoorVtMk
namespace Go.Proofs.YtolnapfgfdgifaaDoor
set_option linter.unusedVariables false
def dig (c : UInt8) : Bool := decide (48 ≤ c.toNat) && decide (c.toNat ≤ 57)
theorem dig_iff {c : UInt8} : dig c = true ↔ 48 ≤ c.toNat ∧ c.toNat ≤ 57 := by simp [dig]
def valL (l : List UInt8) : Nat := l.foldl (fun n c => 10 * n + (c.toNat - 48)) 0
theorem valL_snoc (l : List UInt8) (c : UInt8) : valL (l ++ [c]) = 10 * valL l + (c.toNat - 48) := by simp [valL]
theorem ofNat_dig {c : UInt8} (h : dig c = true) : UInt8.ofNat (48 + (c.toNat - 48)) = c := by
  have := dig_iff.1 h
  rw [show 48 + (c.toNat - 48) = c.toNat by omega]
  exact UInt8.ofNat_toNat
theorem valL_lt : ∀ (n : Nat) (l : List UInt8), l.length = n → l.all dig = true → valL l < 10 ^ n
  | 0, l, h, _ => by have := List.eq_nil_of_length_eq_zero h; subst this; simp [valL]
  | n + 1, l, h, hd => by
    have hne : l ≠ [] := by intro e; subst e; simp at h
    have e := (List.dropLast_concat_getLast hne).symm
    rw [e] at hd ⊢
    rw [List.all_append, Bool.and_eq_true] at hd
    have ih := valL_lt n l.dropLast (by simp [h]) hd.1
    have hc : dig (l.getLast hne) = true := by simpa using hd.2
    have := dig_iff.1 hc
    rw [valL_snoc, Nat.pow_succ]
    omega
theorem decB_valL : ∀ (n : Nat) (l : List UInt8), l.length = n + 1 → l.all dig = true → l.head? ≠ some 48 → decB (valL l) = l ∧ 0 < valL l
  | 0, l, h, hd, hh => by
    match l, h with
    | [c], _ =>
      have hc : dig c = true := by simpa using hd
      have h1 := dig_iff.1 hc
      have hne : c.toNat ≠ 48 := by
        intro e
        apply hh
        simp only [List.head?_cons, Option.some.injEq]
        exact UInt8.toNat_inj.1 e
      have hv : valL [c] = c.toNat - 48 := by simp [valL]
      rw [hv]
      have h0 : 0 < c.toNat - 48 := by omega
      refine ⟨?_, h0⟩
      rw [decB_pos _ h0, show (c.toNat - 48) / 10 = 0 by omega, show (c.toNat - 48) % 10 = c.toNat - 48 by omega, ofNat_dig hc]
      simp [decB]
  | n + 1, l, h, hd, hh => by
    have hne : l ≠ [] := by intro e; subst e; simp at h
    have e := (List.dropLast_concat_getLast hne).symm
    have hlen : l.dropLast.length = n + 1 := by simp [h]
    have hd' := hd
    rw [e, List.all_append, Bool.and_eq_true] at hd'
    have hh' : l.dropLast.head? ≠ some 48 := by
      intro e2
      apply hh
      rw [e, List.head?_append, e2]; rfl
    obtain ⟨i1, i2⟩ := decB_valL n l.dropLast hlen hd'.1 hh'
    have hc : dig (l.getLast hne) = true := by simpa using hd'.2
    have h1 := dig_iff.1 hc
    have hv : valL l = 10 * valL l.dropLast + ((l.getLast hne).toNat - 48) := by
      have := valL_snoc l.dropLast (l.getLast hne)
      rwa [← e] at this
    have hpos : 0 < valL l := by omega
    refine ⟨?_, hpos⟩
    rw [decB_pos _ hpos, show valL l / 10 = valL l.dropLast by omega, show valL l % 10 = (l.getLast hne).toNat - 48 by omega, ofNat_dig hc, i1]
    exact e.symm
/-- the decimal text of a number -/
def fmtL (n : Nat) : List UInt8 := if n = 0 then [48] else decB n
theorem valL_zero_head (l : List UInt8) : valL (48 :: l) = valL l := by simp [valL]
theorem fmtL_valL (l : List UInt8) (hd : l.all dig = true) : fmtL (valL l) = l ↔ (l ≠ [] ∧ ¬ (1 < l.length ∧ l.head? = some 48)) := by
  constructor
  · intro h
    refine ⟨fun e => by subst e; simp [valL, fmtL] at h, fun ⟨h1, h2⟩ => ?_⟩
    match l, h2 with
    | c :: t, h2 =>
      simp only [List.head?_cons, Option.some.injEq] at h2
      subst h2
      simp only [List.all_cons, Bool.and_eq_true] at hd
      have hlt := valL_lt t.length t rfl hd.2
      rw [valL_zero_head] at h
      unfold fmtL at h
      split at h
      · have := congrArg List.length h
        simp only [List.length_cons, List.length_nil] at this h1; omega
      · have h3 := decB_len t.length (valL t) hlt
        rw [h] at h3
        simp only [List.length_cons] at h3
        omega
  · rintro ⟨h1, h2⟩
    by_cases hh : l.head? = some 48
    · match l, hh with
      | c :: t, hh =>
        simp only [List.head?_cons, Option.some.injEq] at hh
        subst hh
        have ht : t = [] := by
          have : t.length = 0 := by
            rcases Nat.eq_zero_or_pos t.length with h | h
            · exact h
            · exact absurd ⟨by simp; omega, rfl⟩ h2
          exact List.eq_nil_of_length_eq_zero this
        subst ht
        simp [valL, fmtL]
    · have hlen : ∃ n, l.length = n + 1 := ⟨l.length - 1, by have := List.length_pos_iff.2 h1; omega⟩
      obtain ⟨n, hn⟩ := hlen
      obtain ⟨a, b⟩ := decB_valL n l hn hd hh
      unfold fmtL
      rw [if_neg (by omega)]; exact a

/-! ## of byte arrays -/
def valN (s : ByteArray) (k : Nat) : Nat := valL (s.data.toList.take k)
theorem valN_zero (s : ByteArray) : valN s 0 = 0 := by simp [valN, valL]
theorem valN_succ (s : ByteArray) (k : Nat) (h : k < s.size) : valN s (k + 1) = 10 * valN s k + (s[k]!.toNat - 48) := by
  unfold valN
  have h' : k < s.data.toList.length := by simpa using h
  rw [List.take_succ_eq_append_getElem h', valL_snoc]
  congr 2
  rw [getElem!_pos s k h]
  rfl
theorem allDig {s : ByteArray} (h : ∀ i, i < s.size → dig s[i]! = true) : s.data.toList.all dig = true := by
  rw [List.all_eq_true]
  intro c hc
  obtain ⟨i, hi, rfl⟩ := List.mem_iff_getElem.1 hc
  have hi' : i < s.size := by simpa using hi
  have := h i hi'
  rw [getElem!_pos s i hi'] at this
  exact this
theorem valN_lt {s : ByteArray} (k : Nat) (hk : k ≤ s.size) (h : ∀ i, i < k → dig s[i]! = true) : valN s k < 10 ^ k := by
  refine valL_lt k _ (by simp; omega) ?_
  rw [List.all_eq_true]
  intro c hc
  obtain ⟨i, hi, rfl⟩ := List.mem_iff_getElem.1 hc
  have hi' : i < k := by simp at hi; omega
  have := h i hi'
  rw [getElem!_pos s i (by omega)] at this
  rw [List.getElem_take]
  exact this
theorem pow_le10 (k : Nat) (h : k ≤ 10) : 10 ^ k ≤ 10000000000 := by
  have : 10 ^ k ≤ 10 ^ 10 := Nat.pow_le_pow_right (by omega) h
  omega
def parseU (s : ByteArray) : Option Nat :=
  if s.size ≠ 0 ∧ s.size ≤ 10 ∧ ¬ (1 < s.size ∧ s[0]! = 48) ∧ s.data.toList.all dig = true ∧ valN s s.size ≤ 1000000000 then some (valN s s.size) else none
theorem valN_all (s : ByteArray) : valN s s.size = valL s.data.toList := by
  unfold valN
  rw [List.take_of_length_le (by simp)]
theorem bts_list (s : ByteArray) : bts s.data.toList = s := by
  unfold bts; simp
theorem bts_inj {a b : List UInt8} (h : bts a = bts b) : a = b := by
  unfold bts at h
  injection h with h
  exact Array.toList_inj.2 h |> fun e => by simpa using e
theorem head_get (s : ByteArray) (h : 0 < s.size) : s.data.toList.head? = some s[0]! := by
  rw [getElem!_pos s 0 h, List.head?_eq_getElem?, List.getElem?_eq_getElem (by simpa using h)]
  rfl
theorem fmt_text {s : ByteArray} (hd : ∀ i, i < s.size → dig s[i]! = true) : bts (fmtL (valN s s.size)) = s ↔ (s.size ≠ 0 ∧ ¬ (1 < s.size ∧ s[0]! = 48)) := by
  have h1 := fmtL_valL s.data.toList (allDig hd)
  rw [← valN_all] at h1
  have e : bts (fmtL (valN s s.size)) = s ↔ fmtL (valN s s.size) = s.data.toList := by
    constructor
    · intro h
      exact bts_inj (by rw [h, bts_list])
    · intro h; rw [h, bts_list]
  rw [e, h1]
  have hsz : s.data.toList.length = s.size := by simp
  constructor
  · rintro ⟨a, b⟩
    have h0 : s.size ≠ 0 := fun e => a (List.eq_nil_of_length_eq_zero (by omega))
    refine ⟨h0, fun ⟨c, d⟩ => b ⟨by omega, by rw [head_get s (by omega), d]⟩⟩
  · rintro ⟨a, b⟩
    refine ⟨fun e => a (by rw [← hsz, e]; rfl), fun ⟨c, d⟩ => b ⟨by omega, ?_⟩⟩
    rw [head_get s (by omega)] at d
    simpa using d
theorem parseU_bad {s : ByteArray} {i : Nat} (h : i < s.size) (hb : dig s[i]! = false) : parseU s = none := by
  unfold parseU
  rw [if_neg]
  rintro ⟨_, _, _, hd, _⟩
  rw [List.all_eq_true] at hd
  have := hd s[i]! (by rw [getElem!_pos s i h]; exact Array.getElem_mem_toList (by exact h))
  rw [this] at hb; cases hb
theorem parseU_ok {s : ByteArray} (hd : ∀ i, i < s.size → dig s[i]! = true) (h1 : s.size ≠ 0) (h2 : s.size ≤ 10) (h3 : ¬ (1 < s.size ∧ s[0]! = 48)) (h4 : valN s s.size ≤ 1000000000) : parseU s = some (valN s s.size) := by
  unfold parseU
  rw [if_pos ⟨h1, h2, h3, allDig hd, h4⟩]
theorem parseU_none {s : ByteArray} (h : s.size = 0 ∨ 10 < s.size ∨ (1 < s.size ∧ s[0]! = 48) ∨ 1000000000 < valN s s.size) : parseU s = none := by
  unfold parseU
  rw [if_neg]
  rintro ⟨a, b, c, d, e⟩
  rcases h with h | h | h | h
  · exact a h
  · omega
  · exact c h
  · omega
end Go.Proofs.YtolnapfgfdgifaaDoor
