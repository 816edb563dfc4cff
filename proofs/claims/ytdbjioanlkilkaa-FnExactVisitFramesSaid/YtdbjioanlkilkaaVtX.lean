/-
  DERIVED. Plain lists: the first place where something holds.
-/
import Derived.Test.YtdbjioanlkilkaaVtI
namespace Go.Proofs.Ytdbjioanlkilkaa
set_option linter.unusedVariables false
def firstIdx {α : Type} (p : α → Bool) (L : List α) : Int := match L.findIdx? p with
  | some i => (i : Int)
  | none => -1
theorem firstIdx_hit {α : Type} {p : α → Bool} {L : List α} {k : Nat} (hk : k < L.length) (h : ∀ i (hi : i < L.length), i < k → p L[i] = false) (hp : p L[k] = true) : firstIdx p L = k := by
  unfold firstIdx
  have : L.findIdx? p = some k := by
    rw [List.findIdx?_eq_some_iff_getElem]
    exact ⟨hk, hp, fun j hj => by simp [h j (by omega) hj]⟩
  rw [this]
theorem firstIdx_none {α : Type} {p : α → Bool} {L : List α} (h : ∀ i (hi : i < L.length), p L[i] = false) : firstIdx p L = -1 := by
  unfold firstIdx
  have : L.findIdx? p = none := by
    rw [List.findIdx?_eq_none_iff]
    intro x hx
    obtain ⟨i, hi, rfl⟩ := List.mem_iff_getElem.1 hx
    exact h i hi
  rw [this]

/-- what is left of a measure behind a list of sizes -/
def szGo : List Nat → Int → Int
  | [], r => r
  | n :: l, r => if r - n < 0 then -1 else szGo l (r - n)
theorem szGo_drop (L : List Nat) (k : Nat) (r : Int) (h : k < L.length) : szGo (L.drop k) r = if r - (L[k] : Int) < 0 then -1 else szGo (L.drop (k + 1)) (r - (L[k] : Int)) := by
  rw [List.drop_eq_getElem_cons h]; rfl
theorem szGo_ok : ∀ (L : List Nat) (r : Int), 0 ≤ r → 0 ≤ szGo L r → ∀ n ∈ L, (n : Int) ≤ r
  | [], _, _, _, n, hn => by cases hn
  | m :: l, r, h0, h, n, hn => by
    unfold szGo at h
    split at h
    · omega
    · rename_i h2
      rcases List.mem_cons.1 hn with rfl | hn
      · omega
      · have := szGo_ok l (r - m) (by omega) h n hn
        omega
/-! what a function value has captured -/
open Go.Vc in
def capS (args : List SV) (i : Nat) : ByteArray := match args[i]? with
  | some (.rptr _ [[.v (.string s)]] _ _) => s
  | some (.fn _ [.rptr _ [[.v (.string s)]] _ _]) => s
  | _ => ⟨#[]⟩
open Go.Vc in
def capI (args : List SV) (i : Nat) : Int := match args[i]? with
  | some (.rptr _ [[.v (.int .i64 n)]] _ _) => n
  | some (.fn _ [.rptr _ [[.v (.int .i64 n)]] _ _]) => n
  | _ => 0
end Go.Proofs.Ytdbjioanlkilkaa
