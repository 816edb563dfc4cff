/-
  DERIVED. Plain lists: the first place where something holds.
-/
import Derived.Test.YtkikcjomjofhmaaVtI
namespace Go.Proofs.Ytkikcjomjofhmaa
set_option linter.unusedVariables false
def firstIdx {α : Type} (p : α → Bool) (L : List α) : Int := match L.findIdx? p with
  | some i => (i : Int)
  | none => -1
theorem firstIdx_hit {α : Type} {p : α → Bool} {L : List α} {k : Nat} (hk : k < L.length) (h : ∀ i (hi : i < L.length), i < k → p L[i] = false) (hp : p L[k] = true) : firstIdx p L = k := by
  unfold firstIdx
  have : L.findIdx? p = some k := by
    rw [List.findIdx?_eq_some_iff_getElem]
    exact ⟨hk, hp, fun j hj => by simp [h j (by omega) hj]⟩
  rw [this]
theorem firstIdx_none {α : Type} {p : α → Bool} {L : List α} (h : ∀ i (hi : i < L.length), p L[i] = false) : firstIdx p L = -1 := by
  unfold firstIdx
  have : L.findIdx? p = none := by
    rw [List.findIdx?_eq_none_iff]
    intro x hx
    obtain ⟨i, hi, rfl⟩ := List.mem_iff_getElem.1 hx
    exact h i hi
  rw [this]
end Go.Proofs.Ytkikcjomjofhmaa
