/-
  DERIVED. TreeOk in plain Lean: what holds of each node, and the sums of the nodes below.
-/
import Derived.Test.YtkikcjomjofhmaaVtTree
namespace Go.Proofs.Ytkikcjomjofhmaa
set_option linter.unusedVariables false

def nodeOk (k : Nat) (x : TreeNode) : Bool := decide (-1 ≤ x.parent) && decide (x.parent ≤ (k : Int) - 1) && nameOk x.name && decide (0 ≤ x.self) && decide (x.self ≤ 1000000000000) && decide (0 ≤ x.total) && decide (x.total ≤ 1000000000000)
/-- of the first i nodes, the totals of those below node k -/
def below (L : List TreeNode) (k : Int) (i : Nat) : Int := ((L.take i).map fun x => if x.parent = k then x.total else 0).sum
def nodesOk (L : List TreeNode) : Prop := ∀ i (h : i < L.length), nodeOk i L[i] = true
def sumsOk (L : List TreeNode) : Prop := ∀ k (h : k < L.length), L[k].self + below L k L.length = L[k].total
instance (L : List TreeNode) : Decidable (nodesOk L) := by unfold nodesOk; infer_instance
instance (L : List TreeNode) : Decidable (sumsOk L) := by unfold sumsOk; infer_instance
def treeOk (L : List TreeNode) : Bool := decide (nodesOk L) && decide (sumsOk L)

theorem below_zero (L : List TreeNode) (k : Int) : below L k 0 = 0 := by simp [below]
theorem below_succ (L : List TreeNode) (k : Int) (i : Nat) (h : i < L.length) : below L k (i + 1) = below L k i + if L[i].parent = k then L[i].total else 0 := by
  unfold below
  rw [List.take_succ_eq_append_getElem h, List.map_append, List.sum_append]
  congr 1
  rw [List.map_cons, List.map_nil, List.sum_cons, List.sum_nil, Int.add_zero]
theorem nodeOk_iff {k : Nat} {x : TreeNode} : nodeOk k x = true ↔ -1 ≤ x.parent ∧ x.parent ≤ (k : Int) - 1 ∧ nameOk x.name = true ∧ 0 ≤ x.self ∧ x.self ≤ 1000000000000 ∧ 0 ≤ x.total ∧ x.total ≤ 1000000000000 := by
  simp [nodeOk, and_assoc]
theorem below_bound {L : List TreeNode} (k : Int) : ∀ i, i ≤ L.length → (∀ j (h : j < L.length), j < i → nodeOk j L[j] = true) → 0 ≤ below L k i ∧ below L k i ≤ 1000000000000 * (i : Int)
  | 0, _, _ => by rw [below_zero]; simp
  | i + 1, hi, h => by
    have ih := below_bound k i (by omega) (fun j hj hji => h j hj (by omega))
    have hn := nodeOk_iff.1 (h i (by omega) (by omega))
    rw [below_succ L k i (by omega)]
    split <;> omega
theorem below_early {L : List TreeNode} (k : Nat) : ∀ i, i ≤ L.length → i ≤ k + 1 → (∀ j (h : j < L.length), j < i → nodeOk j L[j] = true) → below L k i = 0
  | 0, _, _, _ => below_zero _ _
  | i + 1, hi, hk, h => by
    have ih := below_early k i (by omega) (by omega) (fun j hj hji => h j hj (by omega))
    have hn := nodeOk_iff.1 (h i (by omega) (by omega))
    rw [below_succ L k i (by omega), ih, if_neg (by omega)]; rfl
theorem treeOk_node {L : List TreeNode} {k : Nat} (h : k < L.length) (hb : nodeOk k L[k] = false) : treeOk L = false := by
  have : ¬ nodesOk L := fun hn => by rw [hn k h] at hb; cases hb
  simp [treeOk, this]
theorem treeOk_sum {L : List TreeNode} {k : Nat} (h : k < L.length) (hb : L[k].self + below L k L.length ≠ L[k].total) : treeOk L = false := by
  have : ¬ sumsOk L := fun hn => hb (hn k h)
  simp [treeOk, this]
theorem treeOk_all {L : List TreeNode} (h1 : nodesOk L) (h2 : sumsOk L) : treeOk L = true := by simp [treeOk, h1, h2]

/-- the program's list of sums, when i nodes are behind -/
def sumsAt (L : List TreeNode) (i : Nat) : List Int := (List.range L.length).map fun m => (if h : m < L.length then (if m < i then L[m].self else 0) else 0) + below L m i
theorem sumsAt_len (L : List TreeNode) (i : Nat) : (sumsAt L i).length = L.length := by simp [sumsAt]
theorem sumsAt_get (L : List TreeNode) (i m : Nat) (h : m < (sumsAt L i).length) : (sumsAt L i)[m] = (if m < i then L[m]'(by rw [sumsAt_len] at h; exact h) |>.self else 0) + below L m i := by
  have h' : m < L.length := by rw [sumsAt_len] at h; exact h
  simp [sumsAt, h']

/-- .. when node i's own count is added too -/
def sumsMid (L : List TreeNode) (i : Nat) : List Int := (List.range L.length).map fun m => (if h : m < L.length then (if m < i + 1 then L[m].self else 0) else 0) + below L m i
theorem sumsMid_len (L : List TreeNode) (i : Nat) : (sumsMid L i).length = L.length := by simp [sumsMid]
theorem sumsAt_zero (L : List TreeNode) : sumsAt L 0 = List.replicate L.length 0 := by
  apply List.ext_getElem
  · simp [sumsAt]
  · intro m h1 h2
    simp [sumsAt, below_zero]
theorem sumsMid_set (L : List TreeNode) (i : Nat) (h : i < L.length) : (sumsAt L i).set i ((sumsAt L i)[i]'(by rw [sumsAt_len]; exact h) + L[i].self) = sumsMid L i := by
  apply List.ext_getElem
  · simp [sumsAt, sumsMid]
  · intro m h1 h2
    have hm : m < L.length := by simpa [sumsMid] using h2
    rw [List.getElem_set]
    split
    · rename_i e
      subst e
      simp [sumsAt, sumsMid, h, Int.add_comm]
    · rename_i e
      by_cases hlt : m < i
      · simp [sumsAt, sumsMid, hm, hlt, show m < i + 1 by omega]
      · simp [sumsAt, sumsMid, hm, hlt, show ¬ m < i + 1 by omega]
theorem sumsMid_root (L : List TreeNode) (i : Nat) (h : i < L.length) (hp : L[i].parent < 0) : sumsMid L i = sumsAt L (i + 1) := by
  apply List.ext_getElem
  · simp [sumsAt, sumsMid]
  · intro m h1 h2
    have hm : m < L.length := by simpa [sumsMid] using h1
    simp only [sumsAt, sumsMid, List.getElem_map, List.getElem_range]
    rw [below_succ L m i h, if_neg (by omega), Int.add_zero]
theorem sumsMid_child (L : List TreeNode) (i q : Nat) (h : i < L.length) (hq : q < L.length) (hp : L[i].parent = q) : (sumsMid L i).set q ((sumsMid L i)[q]'(by rw [sumsMid_len]; exact hq) + L[i].total) = sumsAt L (i + 1) := by
  apply List.ext_getElem
  · simp [sumsAt, sumsMid]
  · intro m h1 h2
    have hm : m < L.length := by simpa [sumsAt] using h2
    rw [List.getElem_set]
    split
    · rename_i e
      subst e
      simp only [sumsAt, sumsMid, List.getElem_map, List.getElem_range]
      rw [below_succ L q i h, if_pos hp, Int.add_assoc]
    · rename_i e
      simp only [sumsAt, sumsMid, List.getElem_map, List.getElem_range]
      rw [below_succ L m i h, if_neg (by omega), Int.add_zero]
end Go.Proofs.Ytkikcjomjofhmaa
