/-
  DERIVED. Plain lists: a profile's entries, and a profile of entries.
-/
import Derived.Test.YtolnapfgfdgifaaDoorVpProf
import Derived.Test.YtolnapfgfdgifaaDoorVgEntry
namespace Go.Proofs.YtolnapfgfdgifaaDoor
set_option linter.unusedVariables false
open Go.Pl

def ltE (a b : Entry) : Bool := ltS a.stack b.stack
theorem ltE_strict : Strict ltE := ⟨fun a => ltS_irrefl _, fun a b c h1 h2 => ltS_trans h1 h2⟩
theorem ltE_ne {a b : Entry} (h : a.stack ≠ b.stack) : ltE a b = true ∨ ltE b a = true := by
  cases h1 : ltE a b with
  | true => exact .inl rfl
  | false => exact .inr (ltS_gt h1 h)
/-- entry k, if it counts -/
def entAt (N : List Node) (C : List Int) (k : Nat) : Option Entry := if C.getD k 0 = 0 then none else some ⟨fmtF (stackAt N k), C.getD k 0⟩
def rawE (N : List Node) (C : List Int) (n : Nat) : List Entry := (List.range n).filterMap (entAt N C)
theorem rawE_zero (N : List Node) (C : List Int) : rawE N C 0 = [] := rfl
theorem rawE_succ (N : List Node) (C : List Int) (n : Nat) : rawE N C (n + 1) = rawE N C n ++ (entAt N C n).toList := by
  unfold rawE
  rw [List.range_succ, List.filterMap_append, List.filterMap_cons, List.filterMap_nil]
  cases entAt N C n <;> rfl
theorem rawE_len (N : List Node) (C : List Int) (n : Nat) : (rawE N C n).length ≤ n := by
  have := List.length_filterMap_le (entAt N C) (List.range n)
  simpa [rawE] using this
theorem rawE_mem {N : List Node} {C : List Int} {n : Nat} {x : Entry} (h : x ∈ rawE N C n) : ∃ k, k < n ∧ C.getD k 0 ≠ 0 ∧ x = ⟨fmtF (stackAt N k), C.getD k 0⟩ := by
  unfold rawE at h
  obtain ⟨k, hk, he⟩ := List.mem_filterMap.1 h
  unfold entAt at he
  split at he
  · cases he
  · rename_i h0
    exact ⟨k, by simpa using hk, h0, (Option.some.inj he).symm⟩
/-- no two entries have one stack -/
theorem rawE_apart {N : List Node} (hok : stacksOk N = true) (C : List Int) : ∀ n, n ≤ N.length → (rawE N C n).Pairwise fun a b => a.stack ≠ b.stack
  | 0, _ => List.Pairwise.nil
  | n + 1, hn => by
    rw [rawE_succ, List.pairwise_append]
    refine ⟨rawE_apart hok C n (by omega), ?_, fun a ha b hb => ?_⟩
    · cases entAt N C n <;> simp
    · obtain ⟨k, hk, _, rfl⟩ := rawE_mem ha
      have : b = ⟨fmtF (stackAt N n), C.getD n 0⟩ := by
        unfold entAt at hb
        split at hb
        · simp at hb
        · simpa using hb
      subst this
      intro e
      have h1 := fmtF_inj (stackAt_ok N k) (stackAt_ok N n) (stackAt_ne hok k (by omega)) (stackAt_ne hok n (by omega)) e
      have := stackAt_inj hok (by omega) (by omega) h1
      omega
theorem rawE_pair {N : List Node} (hok : stacksOk N = true) (C : List Int) (n : Nat) (hn : n ≤ N.length) : (rawE N C n).Pairwise fun a b => ltE a b = true ∨ ltE b a = true :=
  (rawE_apart hok C n hn).imp fun h => ltE_ne h
def entriesOf (N : List Node) (C : List Int) : List Entry := if profileOk N C = true then insAll ltE (rawE N C C.length) else []
theorem entriesOf_len (N : List Node) (C : List Int) : (entriesOf N C).length ≤ C.length := by
  unfold entriesOf
  split
  · rw [insAll_len]; exact rawE_len N C C.length
  · simp
/-- what an entry of a profile is -/
theorem entriesOf_mem {N : List Node} {C : List Int} {x : Entry} (h : x ∈ entriesOf N C) : profileOk N C = true ∧ ∃ k : Nat, k < N.length ∧ x.stack = fmtF (stackAt N k) ∧ C[k]? = some x.count ∧ 0 < x.count ∧ x.count ≤ 1000000000000 := by
  unfold entriesOf at h
  split at h
  · rename_i hp
    have hp' := profileOk_iff.1 hp
    obtain ⟨k, hk, h0, rfl⟩ := rawE_mem (insAll_mem.1 h)
    have hg : C.getD k 0 = C[k] := by rw [List.getD_eq_getElem?_getD, List.getElem?_eq_getElem hk]; rfl
    have hc := cntOk_at hp'.2.2 k hk
    have hs := profileOk_sum hp k (by omega)
    simp only [hg] at h0 ⊢
    exact ⟨hp, k, by omega, rfl, List.getElem?_eq_getElem hk, by omega, by omega⟩
  · cases h
theorem entriesOf_size {N : List Node} {C : List Int} {x : Entry} (h : x ∈ entriesOf N C) : x.stack.size ≤ 12 * N.length := by
  obtain ⟨_, k, _, hs, _⟩ := entriesOf_mem h
  have h1 := fmtF_size (stackAt N k)
  have h2 := stackAt_len N k
  rw [hs]
  have := Nat.mul_le_mul_left 12 h2
  omega
/-- .. is read again -/
theorem entriesOf_parse {N : List Node} {C : List Int} {x : Entry} (h : x ∈ entriesOf N C) : ∃ k : Nat, k < N.length ∧ x.stack = fmtF (stackAt N k) ∧ parseF x.stack = some (stackAt N k) ∧ stackAt N k ≠ [] := by
  obtain ⟨hp, k, hk, hs, _⟩ := entriesOf_mem h
  have hok := (profileOk_iff.1 hp).1
  refine ⟨k, hk, hs, ?_, stackAt_ne hok k hk⟩
  rw [hs]
  exact parseF_fmtF (stackAt_ok N k) (stackAt_ne hok k hk)

def profGo : List Entry → List Node × List Int → Option (List Node × List Int)
  | [], s => some s
  | e :: l, s => match parseF e.stack with
    | some f => if (addStack s.1 s.2 f e.count).2 = true then profGo l (addStack s.1 s.2 f e.count).1 else none
    | none => none
def profileOf (L : List Entry) : Option (List Node × List Int) := profGo L ([], [])
theorem profGo_no {e : Entry} {l : List Entry} {s : List Node × List Int} (h : parseF e.stack = none) : profGo (e :: l) s = none := by rw [profGo, h]
theorem profGo_bad {e : Entry} {l : List Entry} {s : List Node × List Int} {f : List Frame} (h : parseF e.stack = some f) (hb : (addStack s.1 s.2 f e.count).2 = false) : profGo (e :: l) s = none := by
  rw [profGo, h]; simp only; rw [hb]; rfl
theorem profGo_ok {e : Entry} {l : List Entry} {s : List Node × List Int} {f : List Frame} (h : parseF e.stack = some f) (hb : (addStack s.1 s.2 f e.count).2 = true) : profGo (e :: l) s = profGo l (addStack s.1 s.2 f e.count).1 := by
  rw [profGo, h]; simp only; rw [if_pos hb]
theorem addStack_ok {N : List Node} {C : List Int} {L : List Frame} {n : Int} (h : (addStack N C L n).2 = true) : profileOk (addStack N C L n).1.1 (addStack N C L n).1.2 = true := by
  unfold addStack at h ⊢
  split
  · rename_i hh; exact hh.2.2.2.2
  · rename_i hh; rw [if_neg hh] at h; cases h
theorem addStack_no {N : List Node} {C : List Int} {L : List Frame} {n : Int} (h : (addStack N C L n).2 = false) : (addStack N C L n).1 = (N, C) := by
  unfold addStack at h ⊢
  split
  · rename_i hh; rw [if_pos hh] at h; cases h
  · rfl
theorem addC_len (C : List Int) (m k : Nat) (n : Int) : (addC C m k n).length = max C.length m := by
  simp [addC]; omega
theorem addStack_len (N : List Node) (C : List Int) (L : List Frame) (n : Int) : (addStack N C L n).1.1.length ≤ N.length + L.length ∧ (addStack N C L n).1.2.length ≤ max C.length (N.length + L.length) := by
  have := intern_len N L
  unfold addStack
  split
  · simp only [addC_len]; omega
  · simp only; omega
theorem addStack_names {B : Nat} {N : List Node} {C : List Int} {L : List Frame} {n : Int} (h : ∀ x ∈ N, x.name.size ≤ B) (hL : ∀ f ∈ L, f.name.size ≤ B) : ∀ x ∈ (addStack N C L n).1.1, x.name.size ≤ B := by
  unfold addStack
  split
  · exact intern_names h hL
  · exact h
end Go.Proofs.YtolnapfgfdgifaaDoor
