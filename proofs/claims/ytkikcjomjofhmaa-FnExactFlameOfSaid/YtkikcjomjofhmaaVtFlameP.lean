/-
  DERIVED. The flame of a tree in plain Lean.
-/
import Derived.Test.YtkikcjomjofhmaaVtTotal
import Derived.Test.YtkikcjomjofhmaaVgBox
namespace Go.Proofs.Ytkikcjomjofhmaa
set_option linter.unusedVariables false
/-- n of total, of a width -/
def scl (w t n : Int) : Int := if t = 0 then 0 else (n * w).tdiv t
def boxAt (w t : Int) (k : Nat) (d a n : Int) : Box := ⟨k, d, scl w t a, scl w t (a + n) - scl w t a⟩
/-- where the next root begins; where the next node below each node begins; the boxes: when k nodes are behind -/
def flSt (L : List TreeNode) (w t : Int) : Nat → Int × List Int × List Box
  | 0 => (0, List.replicate L.length 0, [])
  | k + 1 => match L[k]? with
    | some x => if x.parent < 0 then ((flSt L w t k).1 + x.total, (flSt L w t k).2.1.set k (flSt L w t k).1, (flSt L w t k).2.2 ++ [boxAt w t k 0 (flSt L w t k).1 x.total])
      else ((flSt L w t k).1, ((flSt L w t k).2.1.set x.parent.toNat ((flSt L w t k).2.1.getD x.parent.toNat 0 + x.total)).set k ((flSt L w t k).2.1.getD x.parent.toNat 0),
        (flSt L w t k).2.2 ++ [boxAt w t k (((flSt L w t k).2.2.getD x.parent.toNat ⟨0, 0, 0, 0⟩).depth + 1) ((flSt L w t k).2.1.getD x.parent.toNat 0) x.total])
    | none => flSt L w t k
def flameOf (L : List TreeNode) (w : Int) : List Box := if treeOk L = true ∧ 1 ≤ w ∧ w ≤ 10000 then (flSt L w (treeTotal L) L.length).2.2 else []
theorem flSt_root (L : List TreeNode) (w t : Int) (k : Nat) (h : k < L.length) (hp : L[k].parent < 0) :
    flSt L w t (k + 1) = ((flSt L w t k).1 + L[k].total, (flSt L w t k).2.1.set k (flSt L w t k).1, (flSt L w t k).2.2 ++ [boxAt w t k 0 (flSt L w t k).1 L[k].total]) := by
  rw [flSt, List.getElem?_eq_getElem h]
  simp only [if_pos hp]
theorem flSt_child (L : List TreeNode) (w t : Int) (k q : Nat) (h : k < L.length) (hp : L[k].parent = q) :
    flSt L w t (k + 1) = ((flSt L w t k).1, ((flSt L w t k).2.1.set q ((flSt L w t k).2.1.getD q 0 + L[k].total)).set k ((flSt L w t k).2.1.getD q 0),
        (flSt L w t k).2.2 ++ [boxAt w t k (((flSt L w t k).2.2.getD q ⟨0, 0, 0, 0⟩).depth + 1) ((flSt L w t k).2.1.getD q 0) L[k].total]) := by
  rw [flSt, List.getElem?_eq_getElem h]
  simp only [if_neg (show ¬ L[k].parent < 0 by omega)]
  have e : L[k].parent.toNat = q := by omega
  rw [e]
structure FlInv (L : List TreeNode) (w t : Int) (k : Nat) : Prop where
  len1 : (flSt L w t k).2.1.length = L.length
  len2 : (flSt L w t k).2.2.length = k
  top : (flSt L w t k).1 = below L (-1) k
  pos : ∃ A : Nat → Int, ∀ j (hj : j < L.length), j < k → 0 ≤ A j ∧ A j + L[j].total ≤ below L (-1) L.length ∧ (flSt L w t k).2.1.getD j 0 = A j + below L j k
  dep : ∀ j, j < k → 0 ≤ ((flSt L w t k).2.2.getD j ⟨0, 0, 0, 0⟩).depth ∧ ((flSt L w t k).2.2.getD j ⟨0, 0, 0, 0⟩).depth ≤ j
theorem below_mono {L : List TreeNode} (hok : treeOk L = true) (p : Int) : ∀ i k, k + i ≤ L.length → below L p k ≤ below L p (k + i)
  | 0, k, _ => Int.le_refl _
  | i + 1, k, h => by
    have ih := below_mono hok p i k (by omega)
    have hn := nodeOk_iff.1 (treeOk_nodes hok (k + i) (by omega))
    rw [← Nat.add_assoc, below_succ L p (k + i) (by omega)]
    split <;> omega
theorem below_le {L : List TreeNode} (hok : treeOk L = true) (p : Int) (k : Nat) (h : k ≤ L.length) : below L p k ≤ below L p L.length := by
  have := below_mono hok p (L.length - k) k (by omega)
  rwa [show k + (L.length - k) = L.length by omega] at this
theorem getD_set_ne {α : Type} (l : List α) (i j : Nat) (a d : α) (h : i ≠ j) : (l.set i a).getD j d = l.getD j d := by
  rw [List.getD_eq_getElem?_getD, List.getD_eq_getElem?_getD, List.getElem?_set_ne h]
theorem getD_set_eq {α : Type} (l : List α) (i : Nat) (a d : α) (h : i < l.length) : (l.set i a).getD i d = a := by
  rw [List.getD_eq_getElem?_getD, List.getElem?_set_self h]; rfl
theorem treeOk_sums {L : List TreeNode} (h : treeOk L = true) (k : Nat) (hk : k < L.length) : L[k].self + below L k L.length = L[k].total := by
  unfold treeOk at h
  rw [Bool.and_eq_true, decide_eq_true_eq, decide_eq_true_eq] at h
  exact h.2 k hk
theorem below_self {L : List TreeNode} (hok : treeOk L = true) (k : Nat) (h : k < L.length) : below L k (k + 1) = 0 :=
  below_early k (k + 1) (by omega) (Nat.le_refl _) (fun j hj _ => treeOk_nodes hok j hj)
theorem flInv {L : List TreeNode} (hok : treeOk L = true) (w t : Int) : ∀ k, k ≤ L.length → FlInv L w t k
  | 0, _ => ⟨by simp [flSt], by simp [flSt], by simp [flSt, below_zero], ⟨fun _ => 0, fun j hj h => by omega⟩, fun j h => by omega⟩
  | k + 1, hk => by
    have ih := flInv hok w t k (by omega)
    have hlt : k < L.length := by omega
    have hn := nodeOk_iff.1 (treeOk_nodes hok k hlt)
    obtain ⟨A, hA⟩ := ih.pos
    have hbk := below_self hok k hlt
    rcases Int.lt_or_le L[k].parent 0 with hp | hp
    · have e := flSt_root L w t k hlt hp
      have hb := below_succ L (-1) k hlt
      rw [if_pos (by omega)] at hb
      have hle := below_le hok (-1) (k + 1) (by omega)
      have hge := (below_bound (L := L) (-1) k (by omega) (fun j hj _ => treeOk_nodes hok j hj)).1
      refine ⟨by rw [e]; simp [ih.len1], by rw [e]; simp [ih.len2], by rw [e, hb, ← ih.top], ⟨fun j => if j = k then below L (-1) k else A j, fun j hj hjk => ?_⟩, fun j hjk => ?_⟩
      · by_cases hje : j = k
        · subst hje
          simp only [if_true, e]
          rw [getD_set_eq _ _ _ _ (by rw [ih.len1]; exact hj), ih.top, hbk]
          omega
        · simp only [if_neg hje, e]
          rw [getD_set_ne _ _ _ _ _ (Ne.symm hje), below_succ L j k hlt, if_neg (by omega)]
          have := hA j hj (by omega)
          omega
      · rw [e]
        simp only
        by_cases hje : j = k
        · subst hje
          rw [List.getD_eq_getElem?_getD, List.getElem?_append_right (by rw [ih.len2]; exact Nat.le_refl _), ih.len2, Nat.sub_self]
          simp [boxAt]
        · rw [List.getD_eq_getElem?_getD, List.getElem?_append_left (by rw [ih.len2]; omega), ← List.getD_eq_getElem?_getD]
          exact ih.dep j (by omega)
    · obtain ⟨q, hq⟩ := Int.eq_ofNat_of_zero_le hp
      have hqk : q < k := by omega
      have e := flSt_child L w t k q hlt hq
      have hqA := hA q (by omega) hqk
      have hb := below_succ L (-1) k hlt
      rw [if_neg (by omega), Int.add_zero] at hb
      have hbq := below_succ L q k hlt
      rw [if_pos hq] at hbq
      have hle := below_le hok q (k + 1) (by omega)
      have hsq := treeOk_sums hok q (by omega)
      have hnq := nodeOk_iff.1 (treeOk_nodes hok q (by omega))
      have hge := (below_bound (L := L) q k (by omega) (fun j hj _ => treeOk_nodes hok j hj)).1
      refine ⟨by rw [e]; simp [ih.len1], by rw [e]; simp [ih.len2], by rw [e, hb, ← ih.top], ⟨fun j => if j = k then A q + below L q k else A j, fun j hj hjk => ?_⟩, fun j hjk => ?_⟩
      · by_cases hje : j = k
        · subst hje
          simp only [if_true, e]
          rw [getD_set_eq _ _ _ _ (by rw [List.length_set, ih.len1]; exact hj), hqA.2.2, hbk]
          omega
        · simp only [if_neg hje, e]
          rw [getD_set_ne _ _ _ _ _ (Ne.symm hje)]
          by_cases hjq : j = q
          · subst hjq
            rw [getD_set_eq _ _ _ _ (by rw [ih.len1]; exact hj), hqA.2.2, hbq]
            omega
          · rw [getD_set_ne _ _ _ _ _ (Ne.symm hjq), below_succ L j k hlt, if_neg (by omega)]
            have := hA j hj (by omega)
            omega
      · rw [e]
        simp only
        by_cases hje : j = k
        · subst hje
          rw [List.getD_eq_getElem?_getD, List.getElem?_append_right (by rw [ih.len2]; exact Nat.le_refl _), ih.len2, Nat.sub_self]
          have := ih.dep q hqk
          simp only [List.getElem?_cons_zero, Option.getD_some, boxAt]
          omega
        · rw [List.getD_eq_getElem?_getD, List.getElem?_append_left (by rw [ih.len2]; omega), ← List.getD_eq_getElem?_getD]
          exact ih.dep j (by omega)
/-- what the walk needs to know of a node's place -/
theorem flPlace {L : List TreeNode} (hok : treeOk L = true) (w t : Int) (k : Nat) (hk : k ≤ L.length) (q : Nat) (hq : q < k) :
    0 ≤ (flSt L w t k).2.1.getD q 0 ∧ (flSt L w t k).2.1.getD q 0 ≤ below L (-1) L.length := by
  obtain ⟨A, hA⟩ := (flInv hok w t k hk).pos
  have h1 := hA q (by omega) hq
  have h2 := below_le hok q k hk
  have h3 := treeOk_sums hok q (by omega)
  have h4 := nodeOk_iff.1 (treeOk_nodes hok q (by omega))
  have h5 := (below_bound (L := L) q k hk (fun j hj _ => treeOk_nodes hok j hj)).1
  omega
theorem flPlace2 {L : List TreeNode} (hok : treeOk L = true) (w t : Int) (k : Nat) (hk : k < L.length) (q : Nat) (hq : q < k) (hp : L[k].parent = q) :
    (flSt L w t k).2.1.getD q 0 + L[k].total ≤ below L (-1) L.length := by
  obtain ⟨A, hA⟩ := (flInv hok w t k (by omega)).pos
  have h1 := hA q (by omega) hq
  have h2 := below_le hok q (k + 1) (by omega)
  rw [below_succ L q k hk, if_pos hp] at h2
  have h3 := treeOk_sums hok q (by omega)
  have h4 := nodeOk_iff.1 (treeOk_nodes hok q (by omega))
  omega
theorem treeTotal_nonneg {L : List TreeNode} (hok : treeOk L = true) : 0 ≤ treeTotal L ∧ treeTotal L ≤ 1000000000000 ∧ (treeTotal L = 0 ∨ treeTotal L = below L (-1) L.length) := by
  have h := (below_bound (L := L) (-1) L.length (Nat.le_refl _) (fun j hj _ => treeOk_nodes hok j hj)).1
  unfold treeTotal
  rw [if_pos hok]
  split <;> omega
end Go.Proofs.Ytkikcjomjofhmaa
