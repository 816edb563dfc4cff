/-
  DERIVED. Several texts of ours in one: VpFlame, VtFlame, VtFlamesL.
-/
import Derived.Test.YtdbjioanlkilkaaVa0
import Derived.Test.YtdbjioanlkilkaaVa1
import Derived.Test.YtdbjioanlkilkaaVa2
import Derived.Test.YtdbjioanlkilkaaVa3
import Derived.Test.YtdbjioanlkilkaaVa4
import Derived.Test.YtdbjioanlkilkaaVa5
import Derived.Test.YtdbjioanlkilkaaVa6
import Derived.Test.YtdbjioanlkilkaaVa7
import Derived.Test.YtdbjioanlkilkaaVa8
import Derived.Test.YtdbjioanlkilkaaVa9
import Derived.Test.YtdbjioanlkilkaaVa10
set_option linter.unusedSimpArgs false
set_option linter.unusedVariables false
/-
  DERIVED. The flame of a tree in order: boxes lie inside those of their callers, do not overlap, and fill the width.
-/
namespace Go.Proofs.Ytdbjioanlkilkaa
set_option linter.unusedVariables false
set_option linter.unusedSimpArgs false
open Go.Pl
/-- where node k begins, and how deep -/
def plA (L : List TreeNode) (w t : Int) (k : Nat) : Int := match L[k]? with
  | some x => if x.parent < 0 then (flSt L w t k).1 else (flSt L w t k).2.1.getD x.parent.toNat 0
  | none => 0
def plD (L : List TreeNode) (w t : Int) (k : Nat) : Int := match L[k]? with
  | some x => if x.parent < 0 then 0 else ((flSt L w t k).2.2.getD x.parent.toNat ⟨0, 0, 0, 0⟩).depth + 1
  | none => 0
theorem plA_root {L : List TreeNode} {w t : Int} {k : Nat} (h : k < L.length) (hp : L[k].parent < 0) : plA L w t k = (flSt L w t k).1 := by
  unfold plA; rw [List.getElem?_eq_getElem h]; simp only [if_pos hp]
theorem plA_child {L : List TreeNode} {w t : Int} {k q : Nat} (h : k < L.length) (hp : L[k].parent = q) : plA L w t k = (flSt L w t k).2.1.getD q 0 := by
  unfold plA; rw [List.getElem?_eq_getElem h]; simp only [if_neg (show ¬ L[k].parent < 0 by omega)]; rw [show L[k].parent.toNat = q by omega]
theorem plD_root {L : List TreeNode} {w t : Int} {k : Nat} (h : k < L.length) (hp : L[k].parent < 0) : plD L w t k = 0 := by
  unfold plD; rw [List.getElem?_eq_getElem h]; simp only [if_pos hp]
theorem plD_child {L : List TreeNode} {w t : Int} {k q : Nat} (h : k < L.length) (hp : L[k].parent = q) : plD L w t k = ((flSt L w t k).2.2.getD q ⟨0, 0, 0, 0⟩).depth + 1 := by
  unfold plD; rw [List.getElem?_eq_getElem h]; simp only [if_neg (show ¬ L[k].parent < 0 by omega)]; rw [show L[k].parent.toNat = q by omega]
theorem fl_next {L : List TreeNode} {w t : Int} {k : Nat} (h : k < L.length) : (flSt L w t (k + 1)).2.2 = (flSt L w t k).2.2 ++ [boxAt w t k (plD L w t k) (plA L w t k) L[k].total] := by
  rcases Int.lt_or_le L[k].parent 0 with hp | hp
  · rw [flSt_root L w t k h hp, plA_root h hp, plD_root h hp]
  · have hq : L[k].parent = (L[k].parent.toNat : Int) := (Int.toNat_of_nonneg hp).symm
    rw [flSt_child L w t k _ h hq, plA_child h hq, plD_child h hq]
/-- what the lists hold when k nodes are behind -/
structure Fl2 (L : List TreeNode) (w t : Int) (k : Nat) : Prop where
  pos : ∀ j, j < k → (flSt L w t k).2.1.getD j 0 = plA L w t j + below L j k
  box : ∀ j (hj : j < L.length), j < k → (flSt L w t k).2.2.getD j ⟨0, 0, 0, 0⟩ = boxAt w t j (plD L w t j) (plA L w t j) L[j].total
theorem fl2 {L : List TreeNode} (hok : treeOk L = true) (w t : Int) : ∀ k, k ≤ L.length → Fl2 L w t k
  | 0, _ => ⟨fun j h => by omega, fun j _ h => by omega⟩
  | k + 1, hk => by
    have ih := fl2 hok w t k (by omega)
    have hlt : k < L.length := by omega
    have hn := nodeOk_iff.1 (treeOk_nodes hok k hlt)
    have hbk := below_self hok k hlt
    have fi := flInv hok w t k (by omega)
    refine ⟨fun j hj => ?_, fun j hjl hj => ?_⟩
    · rcases Int.lt_or_le L[k].parent 0 with hp | hp
      · have e := flSt_root L w t k hlt hp
        rw [e]
        simp only
        by_cases hje : j = k
        · subst hje
          rw [getD_set_eq _ _ _ _ (by rw [fi.len1]; exact hlt), plA_root hlt hp, hbk]; omega
        · rw [getD_set_ne _ _ _ _ _ (Ne.symm hje), ih.pos j (by omega), below_succ L j k hlt, if_neg (by omega)]; omega
      · have hq : L[k].parent = (L[k].parent.toNat : Int) := (Int.toNat_of_nonneg hp).symm
        generalize L[k].parent.toNat = q at hq
        have e := flSt_child L w t k q hlt hq
        rw [e]
        simp only
        by_cases hje : j = k
        · subst hje
          rw [getD_set_eq _ _ _ _ (by rw [List.length_set, fi.len1]; exact hlt), plA_child hlt hq, hbk]; omega
        · rw [getD_set_ne _ _ _ _ _ (Ne.symm hje), below_succ L j k hlt]
          by_cases hjq : j = q
          · subst hjq
            rw [getD_set_eq _ _ _ _ (by rw [fi.len1]; omega), ih.pos j (by omega), if_pos hq]; omega
          · rw [getD_set_ne _ _ _ _ _ (Ne.symm hjq), ih.pos j (by omega), if_neg (by omega)]; omega
    · rw [fl_next hlt]
      by_cases hje : j = k
      · subst hje
        rw [List.getD_eq_getElem?_getD, List.getElem?_append_right (by rw [fi.len2]; exact Nat.le_refl _), fi.len2, Nat.sub_self]; rfl
      · rw [List.getD_eq_getElem?_getD, List.getElem?_append_left (by rw [fi.len2]; omega), ← List.getD_eq_getElem?_getD]
        exact ih.box j hjl (by omega)
section
variable {L : List TreeNode} (hok : treeOk L = true) (w t : Int)
include hok
theorem pl_root {k : Nat} (h : k < L.length) (hp : L[k].parent < 0) : plA L w t k = below L (-1) k ∧ plD L w t k = 0 :=
  ⟨by rw [plA_root h hp, (flInv hok w t k (by omega)).top], plD_root h hp⟩
theorem pl_child {k q : Nat} (h : k < L.length) (hp : L[k].parent = q) : ∃ hq : q < k, plA L w t k = plA L w t q + below L q k ∧ plD L w t k = plD L w t q + 1 := by
  have hn := nodeOk_iff.1 (treeOk_nodes hok k h)
  have hq : q < k := by omega
  have f2 := fl2 hok w t k (by omega)
  refine ⟨hq, by rw [plA_child h hp, f2.pos q hq], ?_⟩
  rw [plD_child h hp, f2.box q (by omega) hq]; rfl
/-- a node's part lies within its caller's -/
theorem pl_in {k q : Nat} (h : k < L.length) (hp : L[k].parent = q) : plA L w t q ≤ plA L w t k ∧ plA L w t k + L[k].total ≤ plA L w t q + (L[q]'(by have := (pl_child hok w t h hp).1; omega)).total := by
  obtain ⟨hq, e, _⟩ := pl_child hok w t h hp
  have h1 := (below_bound (L := L) q k (by omega) (fun j hj _ => treeOk_nodes hok j hj)).1
  have h2 := below_le hok q (k + 1) (by omega)
  rw [below_succ L q k h, if_pos hp] at h2
  have h3 := treeOk_sums hok q (by omega)
  have h4 := nodeOk_iff.1 (treeOk_nodes hok q (by omega))
  omega
theorem pl_top : ∀ (n k : Nat) (h : k < L.length), k ≤ n → 0 ≤ plA L w t k ∧ plA L w t k + L[k].total ≤ below L (-1) L.length ∧ 0 ≤ plD L w t k ∧ plD L w t k ≤ k
  | n, k, h, hkn => by
    have hn := nodeOk_iff.1 (treeOk_nodes hok k h)
    rcases Int.lt_or_le L[k].parent 0 with hp | hp
    · obtain ⟨e1, e2⟩ := pl_root hok w t h hp
      have h1 := (below_bound (L := L) (-1) k (by omega) (fun j hj _ => treeOk_nodes hok j hj)).1
      have h2 := below_le hok (-1) (k + 1) (by omega)
      rw [below_succ L (-1) k h, if_pos (by omega)] at h2
      omega
    · obtain ⟨q, hq⟩ : ∃ q : Nat, L[k].parent = q := ⟨_, (Int.toNat_of_nonneg hp).symm⟩
      obtain ⟨hqk, e1, e2⟩ := pl_child hok w t h hq
      have h1 := pl_in hok w t h hq
      cases n with
      | zero => omega
      | succ n =>
        have h2 := pl_top n q (by omega) (by omega)
        omega
/-- between a node and its caller all lie deeper than the caller -/
theorem pl_deep (hpre : preO L) {k q : Nat} (h : k < L.length) (hp : L[k].parent = q) : ∀ (n j : Nat), j ≤ n → q < j → j < k → plD L w t q < plD L w t j
  | n, j, hjn, hqj, hjk => by
    have h1 := hpre j k (by omega) h hjk (by omega)
    obtain ⟨r, hr⟩ : ∃ r : Nat, (L[j]'(by omega)).parent = r := ⟨(L[j]'(by omega)).parent.toNat, by omega⟩
    obtain ⟨hrj, e1, e2⟩ := pl_child hok w t (by omega) hr
    by_cases he : r = q
    · subst he; omega
    · cases n with
      | zero => omega
      | succ n =>
        have := pl_deep hpre h hp n r (by omega) (by omega) (by omega)
        omega
/-- of the same depth: in order -/
theorem pl_order (hpre : preO L) : ∀ (n i k : Nat) (hi : i < L.length) (hk : k < L.length), k ≤ n → i < k → plD L w t i = plD L w t k → plA L w t i + L[i].total ≤ plA L w t k
  | n, i, k, hi, hk, hkn, hik, hd => by
    have ni := nodeOk_iff.1 (treeOk_nodes hok i hi)
    have nk := nodeOk_iff.1 (treeOk_nodes hok k hk)
    have ti := pl_top hok w t i i hi (Nat.le_refl _)
    have tk := pl_top hok w t k k hk (Nat.le_refl _)
    rcases Int.lt_or_le L[k].parent 0 with hp | hp
    · obtain ⟨e1, e2⟩ := pl_root hok w t hk hp
      rcases Int.lt_or_le L[i].parent 0 with hpi | hpi
      · obtain ⟨e3, e4⟩ := pl_root hok w t hi hpi
        have h1 := below_mono hok (-1) (k - (i + 1)) (i + 1) (by omega)
        rw [show i + 1 + (k - (i + 1)) = k by omega, below_succ L (-1) i hi, if_pos (by omega)] at h1
        omega
      · obtain ⟨q, hq⟩ : ∃ q : Nat, L[i].parent = q := ⟨_, (Int.toNat_of_nonneg hpi).symm⟩
        obtain ⟨hqi, e3, e4⟩ := pl_child hok w t hi hq
        have := pl_top hok w t q q (by omega) (Nat.le_refl _)
        omega
    · obtain ⟨q, hq⟩ : ∃ q : Nat, L[k].parent = q := ⟨_, (Int.toNat_of_nonneg hp).symm⟩
      obtain ⟨hqk, e1, e2⟩ := pl_child hok w t hk hq
      have tq := pl_top hok w t q q (by omega) (Nat.le_refl _)
      rcases Int.lt_or_le L[i].parent 0 with hpi | hpi
      · obtain ⟨e3, e4⟩ := pl_root hok w t hi hpi
        omega
      · obtain ⟨r, hr⟩ : ∃ r : Nat, L[i].parent = r := ⟨_, (Int.toNat_of_nonneg hpi).symm⟩
        obtain ⟨hri, e3, e4⟩ := pl_child hok w t hi hr
        have hin := pl_in hok w t hi hr
        by_cases hrq : r = q
        · subst hrq
          have h1 := below_mono hok r (k - (i + 1)) (i + 1) (by omega)
          rw [show i + 1 + (k - (i + 1)) = k by omega, below_succ L r i hi, if_pos hr] at h1
          omega
        · have hlt : r < q := by
            rcases Nat.lt_or_ge r q with h | h
            · exact h
            · exfalso
              have := pl_deep hok w t hpre hk hq r r (Nat.le_refl _) (by omega) (by omega)
              omega
          cases n with
          | zero => omega
          | succ n =>
            have h1 := pl_order hpre n r q (by omega) (by omega) (by omega) hlt (by omega)
            have h2 := (below_bound (L := L) q k (by omega) (fun j hj _ => treeOk_nodes hok j hj)).1
            omega
end
/-! ## scaled -/
theorem scl_mono {w t a b : Int} (hw : 0 ≤ w) (ht : 0 ≤ t) (ha : 0 ≤ a) (h : a ≤ b) : scl w t a ≤ scl w t b := by
  unfold scl
  split
  · omega
  · have h1 : 0 ≤ a * w := Int.mul_nonneg ha hw
    have h2 : a * w ≤ b * w := Int.mul_le_mul_of_nonneg_right h hw
    rw [Int.tdiv_eq_ediv_of_nonneg h1, Int.tdiv_eq_ediv_of_nonneg (by omega)]
    exact Int.ediv_le_ediv (by omega) h2
theorem scl_zero (w t : Int) : scl w t 0 = 0 := by unfold scl; split <;> simp
theorem scl_all {w t : Int} (ht : 0 < t) : scl w t t = w := by
  unfold scl
  rw [if_neg (by omega), Int.mul_comm]
  exact Int.mul_tdiv_cancel w (by omega)
/-- what is known of the boxes of a flame -/
theorem flame_boxes {L : List TreeNode} (hok : treeOk L = true) (hpre : preO L) {w : Int} (h1 : 1 ≤ w) (h2 : w ≤ 10000) (hT : below L (-1) L.length ≤ 1000000000000) (hl : L.length ≤ 1000000) :
    (flameOf L w).length = L.length ∧ ∀ k (h : k < L.length) (hb : k < (flameOf L w).length), (flameOf L w)[k] = boxAt w (treeTotal L) k (plD L w (treeTotal L) k) (plA L w (treeTotal L) k) L[k].total := by
  have e : flameOf L w = (flSt L w (treeTotal L) L.length).2.2 := by unfold flameOf; rw [if_pos ⟨hok, h1, h2⟩]
  rw [e]
  refine ⟨(flInv hok w (treeTotal L) L.length (Nat.le_refl _)).len2, fun k h hb => ?_⟩
  have := (fl2 hok w (treeTotal L) L.length (Nat.le_refl _)).box k h h
  rw [← this, List.getD_eq_getElem?_getD, List.getElem?_eq_getElem hb]; rfl
section
variable {L : List TreeNode} (hok : treeOk L = true) (hpre : preO L) {w : Int} (h1 : 1 ≤ w) (h2 : w ≤ 10000) (hT : below L (-1) L.length ≤ 1000000000000) (hl : L.length ≤ 1000000)
include hok hpre h1 h2 hT hl
/-- a box of the flame: where it lies -/
theorem flame_at (k : Nat) (h : k < L.length) (hb : k < (flameOf L w).length) :
    (flameOf L w)[k].node = k ∧ (flameOf L w)[k].depth = plD L w (treeTotal L) k ∧ (flameOf L w)[k].x = scl w (treeTotal L) (plA L w (treeTotal L) k) ∧ (flameOf L w)[k].x + (flameOf L w)[k].w = scl w (treeTotal L) (plA L w (treeTotal L) k + L[k].total) := by
  have e := (flame_boxes hok hpre h1 h2 hT hl).2 k h hb
  rw [e]
  refine ⟨rfl, rfl, rfl, ?_⟩
  show scl w (treeTotal L) (plA L w (treeTotal L) k) + (scl w (treeTotal L) (plA L w (treeTotal L) k + L[k].total) - scl w (treeTotal L) (plA L w (treeTotal L) k)) = _
  omega
theorem flame_bounds (k : Nat) (h : k < L.length) (hb : k < (flameOf L w).length) :
    0 ≤ (flameOf L w)[k].x ∧ 0 ≤ (flameOf L w)[k].w ∧ (flameOf L w)[k].x + (flameOf L w)[k].w ≤ w ∧ 0 ≤ (flameOf L w)[k].depth ∧ (flameOf L w)[k].depth ≤ k := by
  obtain ⟨e1, e2, e3, e4⟩ := flame_at hok hpre h1 h2 hT hl k h hb
  obtain ⟨g1, g2, g3, g4⟩ := pl_top hok w (treeTotal L) k k h (Nat.le_refl _)
  have hn := nodeOk_iff.1 (treeOk_nodes hok k h)
  have t0 := treeTotal_nonneg hok
  have m1 := scl_mono (w := w) (t := treeTotal L) (by omega) t0.1 (Int.le_refl 0) g1
  have m2 := scl_mono (w := w) (t := treeTotal L) (b := plA L w (treeTotal L) k + L[k].total) (by omega) t0.1 g1 (by omega)
  have m3 := scl_mono (w := w) (t := treeTotal L) (a := plA L w (treeTotal L) k + L[k].total) (b := below L (-1) L.length) (by omega) t0.1 (by omega) g2
  rw [scl_zero] at m1
  have m4 : scl w (treeTotal L) (below L (-1) L.length) ≤ w := by
    by_cases ht : treeTotal L = 0
    · unfold scl; rw [if_pos ht]; omega
    · rw [show below L (-1) L.length = treeTotal L by omega, scl_all (by omega)]; omega
  omega
theorem flame_order (i k : Nat) (hi : i < L.length) (hk : k < L.length) (bi : i < (flameOf L w).length) (bk : k < (flameOf L w).length) (hik : i < k) (hd : (flameOf L w)[i].depth = (flameOf L w)[k].depth) :
    (flameOf L w)[i].x + (flameOf L w)[i].w ≤ (flameOf L w)[k].x := by
  obtain ⟨_, a2, _, a4⟩ := flame_at hok hpre h1 h2 hT hl i hi bi
  obtain ⟨_, b2, b3, _⟩ := flame_at hok hpre h1 h2 hT hl k hk bk
  have t0 := treeTotal_nonneg hok
  have g := pl_top hok w (treeTotal L) i i hi (Nat.le_refl _)
  have hn := nodeOk_iff.1 (treeOk_nodes hok i hi)
  have o := pl_order hok w (treeTotal L) hpre k i k hi hk (Nat.le_refl _) hik (by rw [← a2, ← b2]; exact hd)
  have := scl_mono (w := w) (t := treeTotal L) (a := plA L w (treeTotal L) i + L[i].total) (by omega) t0.1 (by omega) o
  omega
theorem flame_good : boxesIn L (flameOf L w) = true := by
  have hlen := (flame_boxes hok hpre h1 h2 hT hl).1
  refine boxesIn_all hok hlen fun k h => ?_
  have hb : k < (flameOf L w).length := by omega
  rw [boxGood_iff h hlen]
  obtain ⟨e1, e2, e3, e4⟩ := flame_at hok hpre h1 h2 hT hl k h hb
  obtain ⟨g1, g2, g3, g4, g5⟩ := flame_bounds hok hpre h1 h2 hT hl k h hb
  refine ⟨boxFine_iff.2 ⟨e1, g1, by omega, g2, by omega, g4, by omega⟩, ?_, fun i hi => ?_⟩
  · rcases Int.lt_or_le L[k].parent 0 with hp | hp
    · exact .inl hp
    · right
      obtain ⟨q, hq⟩ : ∃ q : Nat, L[k].parent = q := ⟨_, (Int.toNat_of_nonneg hp).symm⟩
      obtain ⟨hqk, a1, a2⟩ := pl_child hok w (treeTotal L) h hq
      have hin := pl_in hok w (treeTotal L) h hq
      have hbq : q < (flameOf L w).length := by omega
      obtain ⟨f1, f2, f3, f4⟩ := flame_at hok hpre h1 h2 hT hl q (by omega) hbq
      rw [show L[k].parent.toNat = q by omega, getD_get _ q _ hbq]
      have t0 := treeTotal_nonneg hok
      have gq := pl_top hok w (treeTotal L) q q (by omega) (Nat.le_refl _)
      have gk := pl_top hok w (treeTotal L) k k h (Nat.le_refl _)
      have hn := nodeOk_iff.1 (treeOk_nodes hok k h)
      have m1 := scl_mono (w := w) (t := treeTotal L) (by omega) t0.1 gq.1 hin.1
      have m2 := scl_mono (w := w) (t := treeTotal L) (a := plA L w (treeTotal L) k + L[k].total) (by omega) t0.1 (by omega) hin.2
      exact boxIn_iff.2 ⟨by omega, by omega, by omega⟩
  · have hbi : i < (flameOf L w).length := by omega
    have hno : ¬ boxOver (flameOf L w)[i] (flameOf L w)[k] = true := fun hc => by
      obtain ⟨c1, c2⟩ := boxOver_iff.1 hc
      have := flame_order hok hpre h1 h2 hT hl i k (by omega) h hbi hb hi c1
      omega
    exact Bool.eq_false_iff.2 hno
/-- what stands at a box's left end is the box -/
theorem flame_hit (k : Nat) (h : k < L.length) (hb : k < (flameOf L w).length) (hw : 0 < (flameOf L w)[k].w) : firstIdx (boxHit (flameOf L w)[k].depth (flameOf L w)[k].x) (flameOf L w) = k := by
  obtain ⟨g1, g2, g3, g4, g5⟩ := flame_bounds hok hpre h1 h2 hT hl k h hb
  have hlen := (flame_boxes hok hpre h1 h2 hT hl).1
  refine firstIdx_hit hb (fun i hi hik => ?_) ?_
  · have hno : ¬ boxHit (flameOf L w)[k].depth (flameOf L w)[k].x (flameOf L w)[i] = true := fun hc => by
      simp only [boxHit, Bool.and_eq_true, decide_eq_true_eq] at hc
      have := flame_order hok hpre h1 h2 hT hl i k (by omega) h hi hb hik hc.1.1.1.1
      omega
    exact Bool.eq_false_iff.2 hno
  · unfold boxHit
    rw [Bool.and_eq_true, Bool.and_eq_true, Bool.and_eq_true, Bool.and_eq_true, Bool.and_eq_true, Bool.and_eq_true]
    exact ⟨⟨⟨⟨decide_eq_true rfl, decide_eq_true g1, decide_eq_true (by omega)⟩, decide_eq_true g2, decide_eq_true (by omega)⟩, decide_eq_true (Int.le_refl _)⟩, decide_eq_true (by omega)⟩
/-- the widths at the top, when k boxes are behind -/
def topW (B : List Box) (k : Nat) : Int := ((B.take k).map fun b => if b.depth = 0 then b.w else 0).sum
omit hok hpre h1 h2 hT hl in
theorem topW_succ {B : List Box} {k : Nat} (h : k < B.length) : topW B (k + 1) = topW B k + (if B[k].depth = 0 then B[k].w else 0) := by
  unfold topW
  rw [List.take_succ_eq_append_getElem h, List.map_append, List.sum_append]
  simp
theorem flame_sum : ∀ k, k ≤ L.length → topW (flameOf L w) k = scl w (treeTotal L) (below L (-1) k)
  | 0, _ => by rw [below_zero, scl_zero]; rfl
  | k + 1, hk => by
    have hlen := (flame_boxes hok hpre h1 h2 hT hl).1
    have h : k < L.length := by omega
    have hb : k < (flameOf L w).length := by omega
    have ih := flame_sum k (by omega)
    obtain ⟨e1, e2, e3, e4⟩ := flame_at hok hpre h1 h2 hT hl k h hb
    have hn := nodeOk_iff.1 (treeOk_nodes hok k h)
    rw [topW_succ hb, ih, below_succ L (-1) k h]
    rcases Int.lt_or_le L[k].parent 0 with hp | hp
    · obtain ⟨a1, a2⟩ := pl_root hok w (treeTotal L) h hp
      rw [if_pos (by omega), if_pos (by omega)]
      rw [a1] at e3 e4
      omega
    · obtain ⟨q, hq⟩ : ∃ q : Nat, L[k].parent = q := ⟨_, (Int.toNat_of_nonneg hp).symm⟩
      obtain ⟨hqk, a1, a2⟩ := pl_child hok w (treeTotal L) h hq
      have := pl_top hok w (treeTotal L) q q (by omega) (Nat.le_refl _)
      rw [if_neg (by omega), if_neg (by omega)]
      simp
theorem flame_fill (hpos : L ≠ [] → 0 < below L (-1) L.length) : topW (flameOf L w) L.length = if L = [] then 0 else w := by
  rw [flame_sum hok hpre h1 h2 hT hl L.length (Nat.le_refl _)]
  by_cases he : L = []
  · subst he; rw [if_pos rfl]; exact scl_zero _ _
  · have hp := hpos he
    have ht : treeTotal L = below L (-1) L.length := by
      unfold treeTotal
      rw [if_pos hok, if_neg (by omega)]
    rw [if_neg he, ht, scl_all hp]
end
end Go.Proofs.Ytdbjioanlkilkaa

namespace Go.Proofs.Ytdbjioanlkilkaa
open Go.Vc
attribute [local go_sem] St.runR St.runW St.stepV offV St.step St.stepU St.stepG mkCond guardB St.prK St.pr St.prLen St.eff St.callE St.callD St.callF St.callL aI aB aS aR aC St.isM St.argL Ctr.pure Ctr.lend Ctr.move Ctr.isL Ctr.wri pur len lentBy St.lentV St.lent1 nthS argsR restOf obsR pairs swapL unObs backL St.resL erL SV.ren1 SV.up SV.up2 Ob.up St.fzL cellIds partIds St.intoRow SV.ownId St.fz SV.fz1 St.prep St.mvL St.mv SV.re1 rnOk St.prEq vals eqCells scEq Value.kd St.prStr St.prCut cutR St.bnd St.prMin St.bld isShift outL retL outJ oR oC St.ev St.get St.put St.new St.kill SV.kill SV.kill1 Ob.kill St.app St.wrt St.rowsOf St.res St.killL lk er argsL SV.strip SV.need SV.share SV.share1 SV.owns SV.owns1 SV.owns2 SV.good SV.good1 SV.rok SV.rok1 SV.rok2 SV.isV SV.isV2 nodupN SV.cells SV.one SV.pur Ob.pb partsIn rowsIn splice cellsAt dstOk scal2 scal1 thenK blockK retK outK outs okC okL okA okT nilC nilL nilA nilT keepC keepL keepA keepT St.runG St.dltK St.least St.clean St.final St.hide offK badS badO SV.refs SV.leaf SV.leaf2 Ob.refs dlOk fpAt Go.Vc.cover tups SV.ofAgg St.out outC subL St.has rng wr Value.oneCell' Option.isSome_some Option.isSome_none List.nil_append Bool.false_eq_true List.map_cons List.map_nil List.all_cons List.all_nil List.length_cons List.length_nil List.drop_zero List.drop_succ_cons List.take_succ_cons List.take_zero List.drop_nil List.take_nil List.getElem?_cons_zero List.getElem?_cons_succ List.getElem?_nil List.cons_append List.nil_append List.append_nil List.append_assoc List.flatMap_cons List.flatMap_nil List.contains_cons List.contains_nil List.set_cons_zero List.set_cons_succ List.getElem?_toArray Option.getD_some Option.getD_none Option.map_some Option.map_none Option.bind_some Option.some.injEq Prod.mk.injEq if_true if_false true_and and_true and_self and_false false_and Bool.and_false Bool.false_and Bool.or_true Bool.true_or Bool.or_false Bool.false_or ne_eq not_true_eq_false not_false_eq_true decide_true decide_false List.mem_cons List.not_mem_nil List.filter_cons List.filter_nil List.any_cons List.any_nil List.isEmpty_nil List.isEmpty_cons Option.getD_none or_false false_or true_or or_true forall_eq_or_imp forall_eq reduceCtorEq exists_eq exists_eq' exists_eq_left' exists_eq_left exists_eq_right exists_eq_right' imp_self implies_true Bool.and_true Bool.true_and Bool.and_self beq_self_eq_true List.replicate_succ List.replicate_zero forall_const false_implies pickB_or pickB_and beqT beqF Int.toNat_natCast List.length_map List.length_replicate ge_iff_le gt_iff_lt decide_eq_true_eq decide_eq_false_iff_not Bool.and_eq_true Bool.or_eq_true Bool.not_eq_true' Bool.not_eq_false' condG List.toList_toArray Bool.or_eq_false_iff Bool.and_eq_false_iff Int.not_lt Int.not_le beq_iff_eq beq_eq_false_iff_ne bne_iff_ne bne_eq_false_iff_eq ne_eq Bool.not_true Bool.not_false exists_and_left
section
open Go.Vc
set_option linter.unusedSimpArgs false
set_option linter.unusedVariables false
set_option maxHeartbeats 1000000
set_option maxRecDepth 10000
attribute [local irreducible] Go.Vc.WP
attribute [local go_sem] cx0_t cx0_c
def kScale : Ctr := pur (fun args => (aI args 0, capI args 1, capI args 2)) (fun x => [.v (.int .i64 x.1), .rptr 1 [[.v (.int .i64 x.2.1)]] 0 0, .rptr 1 [[.v (.int .i64 x.2.2)]] 0 0])
  (fun x => x.2.1 = 0 ∨ (0 < x.2.1 ∧ 0 ≤ x.1 ∧ x.1 ≤ 1000000000000 ∧ 1 ≤ x.2.2 ∧ x.2.2 ≤ 10000)) (fun _ x => .v (.int .i64 (scl x.2.2 x.2.1 x.1))) (fun _ _ => [])
theorem mul_bound {n w : Int} (h0 : 0 ≤ n) (h1 : n ≤ 1000000000000) (h2 : 1 ≤ w) (h3 : w ≤ 10000) : 0 ≤ n * w ∧ n * w ≤ 10000000000000000 := by
  constructor
  · exact Int.mul_nonneg h0 (by omega)
  · have e1 : n * w ≤ n * 10000 := Int.mul_le_mul_of_nonneg_left h3 h0
    omega
theorem tdiv_bound {m t : Int} (h0 : 0 ≤ m) (h1 : m ≤ 10000000000000000) (ht : 0 < t) : 0 ≤ m.tdiv t ∧ m.tdiv t ≤ 10000000000000000 := by
  constructor
  · exact Int.tdiv_nonneg h0 (by omega)
  · rw [Int.tdiv_eq_ediv_of_nonneg h0]
    exact Int.le_trans (Int.ediv_le_self _ h0) h1
theorem cScale : Cn Try.prog 57 kScale := by
  refine Cn.pur Try.func57 (by kernel_rfl) rfl fun d x hx => ?_
  obtain ⟨n, t, w⟩ := x
  simp only at hx ⊢
  refine Holds.go (c := cx0) Try.func57 rfl Try.results57 Try.ntmps57 (by omega) (by simp) rfl ?_
  intro X0 w0
  have hr : ∀ v : SV, Go.Vc.rowAt [[v]] 0 = [v] := fun v => rfl
  have hz : t ≠ 0 → (0 ≤ n * w ∧ n * w ≤ 10000000000000000) ∧ 0 ≤ (n * w).tdiv t ∧ (n * w).tdiv t ≤ 10000000000000000 := fun ht => by
    have hh : 0 < t ∧ 0 ≤ n ∧ n ≤ 1000000000000 ∧ 1 ≤ w ∧ w ≤ 10000 := by omega
    have h1 := mul_bound hh.2.1 hh.2.2.1 hh.2.2.2.1 hh.2.2.2.2
    exact ⟨h1, tdiv_bound h1.1 h1.2 hh.1⟩
  generalize hnw : n * w = nw at hz
  (repeat' (first | refine WP.seq ?_ | refine WP.block ?_ | ((first | refine WP.region ?_ | refine WP.condW ?_ | refine WP.ret ?_ | refine WP.exit ?_ | refine WP.skip ?_); simp only [go_sem, hr, hnw, tyAll, Nat.reduceAdd, Nat.reduceLT, Nat.reduceLeDiff, Nat.reduceEqDiff, Nat.reduceMul, Nat.reduceSub, Nat.reduceGT, reduceIte, Int.reduceNeg, Int.reduceToNat]) |  refine And.intro ?_ ?_ | intro _))
  all_goals first | omega | skip
  all_goals rename_i h
  all_goals first | (have := hz h; omega) | (unfold scl; rw [if_pos h]) | (unfold scl; rw [if_neg h, hnw])
noncomputable def cxFl : Cx := { P := Try.prog, tys := tys, C := [(54, kTreeOk), (56, kTreeTotal), (55, k60), (71, k60), (57, kScale)], hty := tysOk, hC := COk.cons cTreeOkI (COk.cons cTreeTotalI (COk.cons c60 (COk.cons c58 (COk.cons cScale (COk.nil _))))) }
theorem cxFl_t : cxFl.tys = tys := rfl
theorem cxFl_c : cxFl.C = [(54, kTreeOk), (56, kTreeTotal), (55, k60), (71, k60), (57, kScale)] := rfl
attribute [local go_sem] cxFl_t cxFl_c kTreeOk kTreeTotal k60 kScale
attribute [local go_sem] capI
theorem scl_bound {w t n : Int} (h : t = 0 ∨ (0 < t ∧ 0 ≤ n ∧ n ≤ 1000000000000 ∧ 1 ≤ w ∧ w ≤ 10000)) : 0 ≤ scl w t n ∧ scl w t n ≤ 10000000000000000 := by
  unfold scl
  split
  · omega
  · rcases h with h | ⟨h1, h2, h3, h4, h5⟩
    · contradiction
    · have := mul_bound h2 h3 h4 h5
      exact tdiv_bound this.1 this.2 h1
def kFlameOf : Ctr := pur (fun args => (decTreeNode (aR args 0), aI args 1)) (fun x => [.sl 4 (x.1.map encTreeNode), .v (.int .i64 x.2)]) (fun x => x.1.length ≤ 1048576 ∧ ∀ r ∈ x.1, r.name.size ≤ 1048576) (fun d _ => .own d) (fun d x => [(d, .sl 52 4 ((flameOf x.1 x.2).map encBox))])
theorem cFlameOfI : Cn Try.prog 23 kFlameOf := by
  refine Cn.pur Try.func23 (by kernel_rfl) rfl fun d x hx => ?_
  obtain ⟨L, w⟩ := x
  obtain ⟨hL, hs⟩ := hx
  simp only at hL hs ⊢
  refine Holds.go (c := cxFl) Try.func23 rfl Try.results23 Try.ntmps23 (by omega) (by simp) rfl ?_
  intro X0 w0
  (repeat' (first | refine WP.seq ?_ | refine WP.block ?_ | ((first | refine WP.region ?_ | refine WP.condW ?_ | refine WP.ret ?_ | refine WP.exit ?_ | refine WP.skip ?_); simp only [go_sem, decTreeNode_enc, tyAll, Nat.reduceAdd, Nat.reduceLT, Nat.reduceLeDiff, Nat.reduceEqDiff, Nat.reduceMul, Nat.reduceSub, Nat.reduceGT, reduceIte, Int.reduceNeg, Int.reduceToNat]) | ((first | refine WP.drawW 13 (by decide +kernel) (by kernel_rfl) ?_ | refine WP.drawW 8 (by decide +kernel) (by kernel_rfl) ?_); simp only [go_sem, decTreeNode_enc, tyAll, Nat.reduceAdd, Nat.reduceLT, Nat.reduceLeDiff, Nat.reduceEqDiff, Nat.reduceMul, Nat.reduceSub, Nat.reduceGT, reduceIte, Int.reduceNeg, Int.reduceToNat]) |  refine And.intro ?_ ?_ | intro _))
  all_goals first | omega | exact hs _ ‹_› | skip
  · rename_i h
    exact ⟨_, _, by rw [show flameOf L w = [] from if_neg (fun hc => by rcases h with h | h; · rw [hc.1] at h; cases h
                                                                        · omega)]; rfl⟩
  rename_i hok'
  have hok : treeOk L = true := by simp_all
  have hw : 1 ≤ w ∧ w ≤ 10000 := by omega
  have hf : flameOf L w = (flSt L w (treeTotal L) L.length).2.2 := if_pos ⟨hok, hw⟩
  obtain ⟨ht0, ht1, ht2⟩ := treeTotal_nonneg hok
  generalize htt : treeTotal L = t at *
  have hT := below_bound (L := L) (-1) L.length (Nat.le_refl _) (fun j hj _ => treeOk_nodes hok j hj)
  refine WP.loop (fun k : Nat => ⟨[(6, .fn 57 [.ptr 5 0 0 0, .ptr 3 0 0 0]), (7, .own 26), (8, .own 29), (9, .v (.int .i64 (flSt L w t k).1)), (30, .sl 4 (L.map encTreeNode)), (31, .v (.int .i64 L.length)), (32, .v (.int .i64 k))],
    [(3, .box 3 [.v (.int .i64 w)]), (5, .box 3 [.v (.int .i64 t)]), (26, .sl 52 4 ((flSt L w t k).2.2.map encBox)), (29, .sl 3 1 ((flSt L w t k).2.1.map encI))]⟩) (fun k => k ≤ L.length) (fun k => L.length - k) 0 (by simp) ?_ ?_
  · have e0 : (List.replicate L.length (0 : Int)).map encI = List.replicate L.length [SV.v (.int .i64 0)] := by rw [List.map_replicate]; rfl
    (simp only [go_sem, flSt, e0, tyAll, Nat.reduceAdd, Nat.reduceLT, Nat.reduceLeDiff, Nat.reduceEqDiff, Nat.reduceMul, Nat.reduceSub, Nat.reduceGT, reduceIte, Int.reduceNeg, Int.reduceToNat] <;> (first | rfl | exact ⟨rfl, rfl⟩ | exact ⟨rfl, rfl, rfl⟩ | exact ⟨rfl, rfl, rfl, rfl⟩ | exact ⟨rfl, rfl, rfl, rfl, rfl⟩ | exact ⟨⟨rfl, rfl⟩, rfl⟩ | simp))
  intro k hk
  by_cases hlt : k < L.length
  · have h1 := rowAt_map encTreeNode L k hlt
    have hn := nodeOk_iff.1 (treeOk_nodes hok k hlt)
    have hI := flInv hok w t k hk
    obtain ⟨hl1, hl2, htop, _, hdep⟩ := hI
    have hb1 := below_le hok (-1) (k + 1) (by omega)
    have hb2 := below_succ L (-1) k hlt
    have hb3 := (below_bound (L := L) (-1) k hk (fun j hj _ => treeOk_nodes hok j hj)).1
    rcases Int.lt_or_le L[k].parent 0 with hneg | hpos
    · have e := flSt_root L w t k hlt hneg
      rw [if_pos (by omega)] at hb2
      generalize hS : flSt L w t k = S at *
      obtain ⟨top, nx, out⟩ := S
      simp only at hl1 hl2 htop e
      have s1 := scl_bound (w := w) (t := t) (n := top) (by omega)
      have s2 := scl_bound (w := w) (t := t) (n := top + L[k].total) (by omega)
      have r1 := rowAt_map encI nx k (by omega)
      (repeat' (first | refine WP.seq ?_ | refine WP.block ?_ | ((first | refine WP.region ?_ | refine WP.condW ?_ | refine WP.ret ?_ | refine WP.exit ?_ | refine WP.skip ?_); simp only [go_sem, h1, encTreeNode, encI, hl1, hl2, List.length_set, tyAll, Nat.reduceAdd, Nat.reduceLT, Nat.reduceLeDiff, Nat.reduceEqDiff, Nat.reduceMul, Nat.reduceSub, Nat.reduceGT, reduceIte, Int.reduceNeg, Int.reduceToNat]) | ((first | refine WP.drawW 13 (by decide +kernel) (by kernel_rfl) ?_ | refine WP.drawW 8 (by decide +kernel) (by kernel_rfl) ?_); simp only [go_sem, h1, encTreeNode, encI, hl1, hl2, List.length_set, tyAll, Nat.reduceAdd, Nat.reduceLT, Nat.reduceLeDiff, Nat.reduceEqDiff, Nat.reduceMul, Nat.reduceSub, Nat.reduceGT, reduceIte, Int.reduceNeg, Int.reduceToNat]) |  refine And.intro ?_ ?_ | intro _))
      all_goals first | omega | skip
      refine ⟨k + 1, by omega, by omega, ?_, ?_, ?_⟩
      · rw [e]; (first | rfl | exact ⟨rfl, rfl⟩ | exact ⟨rfl, rfl, rfl⟩ | exact ⟨rfl, rfl, rfl, rfl⟩ | exact ⟨rfl, rfl, rfl, rfl, rfl⟩ | exact ⟨⟨rfl, rfl⟩, rfl⟩ | simp)
      · rw [e]; simp only [List.map_append, List.map_cons, List.map_nil]; rfl
      · rw [e, r1, List.map_set]; rfl
    · obtain ⟨q, hq⟩ := Int.eq_ofNat_of_zero_le hpos
      have hqk : q < k := by omega
      have e := flSt_child L w t k q hlt hq
      have p1 := flPlace hok w t k hk q hqk
      have p2 := flPlace2 hok w t k hlt q hqk hq
      have p3 := hdep q hqk
      generalize hS : flSt L w t k = S at *
      obtain ⟨top, nx, out⟩ := S
      simp only at hl1 hl2 htop e p1 p2 p3
      have hnq : nx[q]'(by omega) = nx.getD q 0 := by rw [List.getD_eq_getElem?_getD, List.getElem?_eq_getElem (by omega)]; rfl
      have hoq : out[q]'(by omega) = out.getD q ⟨0, 0, 0, 0⟩ := by rw [List.getD_eq_getElem?_getD, List.getElem?_eq_getElem (by omega)]; rfl
      have h2 := rowAt_map encI nx q (by omega)
      have h3 := rowAt_map encBox out q (by omega)
      rw [hnq] at h2
      rw [hoq] at h3
      generalize nx.getD q 0 = a at *
      generalize out.getD q ⟨0, 0, 0, 0⟩ = b at *
      have s1 := scl_bound (w := w) (t := t) (n := a) (by omega)
      have s2 := scl_bound (w := w) (t := t) (n := a + L[k].total) (by omega)
      have hset : (List.map encI nx).set q (encI (a + L[k].total)) = List.map encI (nx.set q (a + L[k].total)) := by rw [List.map_set]
      have r2 := rowAt_map encI (nx.set q (a + L[k].total)) k (by simp; omega)
      (repeat' (first | refine WP.seq ?_ | refine WP.block ?_ | ((first | refine WP.region ?_ | refine WP.condW ?_ | refine WP.ret ?_ | refine WP.exit ?_ | refine WP.skip ?_); simp only [go_sem, h1, h2, h3, hq, encTreeNode, encI, encBox, hl1, hl2, List.length_set, tyAll, Nat.reduceAdd, Nat.reduceLT, Nat.reduceLeDiff, Nat.reduceEqDiff, Nat.reduceMul, Nat.reduceSub, Nat.reduceGT, reduceIte, Int.reduceNeg, Int.reduceToNat]) | ((first | refine WP.drawW 13 (by decide +kernel) (by kernel_rfl) ?_ | refine WP.drawW 8 (by decide +kernel) (by kernel_rfl) ?_); simp only [go_sem, h1, h2, h3, hq, encTreeNode, encI, encBox, hl1, hl2, List.length_set, tyAll, Nat.reduceAdd, Nat.reduceLT, Nat.reduceLeDiff, Nat.reduceEqDiff, Nat.reduceMul, Nat.reduceSub, Nat.reduceGT, reduceIte, Int.reduceNeg, Int.reduceToNat]) |  refine And.intro ?_ ?_ | intro _))
      all_goals first | omega | skip
      refine ⟨k + 1, by omega, by omega, ?_, ?_, ?_⟩
      · rw [e]; (first | rfl | exact ⟨rfl, rfl⟩ | exact ⟨rfl, rfl, rfl⟩ | exact ⟨rfl, rfl, rfl, rfl⟩ | exact ⟨rfl, rfl, rfl, rfl, rfl⟩ | exact ⟨⟨rfl, rfl⟩, rfl⟩ | simp)
      · rw [e]; simp only [List.map_append, List.map_cons, List.map_nil]; rfl
      · show Ob.sl 3 1 (((List.map encI nx).set q (encI (a + L[k].total))).set k (SV.v (Value.int IntKind.i64 a) :: List.drop 1 (Vc.rowAt ((List.map encI nx).set q (encI (a + L[k].total))) k))) = _
        rw [e, hset, r2]; show Ob.sl 3 1 ((List.map encI (nx.set q (a + L[k].total))).set k (encI a)) = Ob.sl 3 1 (List.map encI ((nx.set q (a + L[k].total)).set k a))
        rw [List.map_set (l := nx.set q (a + L[k].total))]
  · have hke : k = L.length := by omega
    subst hke
    (repeat' (first | refine WP.seq ?_ | refine WP.block ?_ | ((first | refine WP.region ?_ | refine WP.condW ?_ | refine WP.ret ?_ | refine WP.exit ?_ | refine WP.skip ?_); simp only [go_sem, tyAll, Nat.reduceAdd, Nat.reduceLT, Nat.reduceLeDiff, Nat.reduceEqDiff, Nat.reduceMul, Nat.reduceSub, Nat.reduceGT, reduceIte, Int.reduceNeg, Int.reduceToNat]) | ((first | refine WP.drawW 13 (by decide +kernel) (by kernel_rfl) ?_ | refine WP.drawW 8 (by decide +kernel) (by kernel_rfl) ?_); simp only [go_sem, tyAll, Nat.reduceAdd, Nat.reduceLT, Nat.reduceLeDiff, Nat.reduceEqDiff, Nat.reduceMul, Nat.reduceSub, Nat.reduceGT, reduceIte, Int.reduceNeg, Int.reduceToNat]) |  refine And.intro ?_ ?_ | intro _))
    all_goals first | omega | skip
    rw [hf]
end
section
open Go.Vc
set_option linter.unusedSimpArgs false
set_option linter.unusedVariables false
set_option maxHeartbeats 1000000
set_option maxRecDepth 10000
attribute [local irreducible] Go.Vc.WP
attribute [local go_sem] cx0_t cx0_c
open Go.Pl
attribute [local go_sem] isV_Node isV_It isV_Entry decNode_enc decFrame_enc oneFrame_enc stkA oneFrame_ab oneNode_abc decI_enc prA encI_inj decU_enc isV_TreeNode isV_Box decTreeNode_enc decBox_enc
theorem allV_TreeNode (L : List TreeNode) : allV (L.map encTreeNode) := allV_map (fun x c hc => by
  simp only [encTreeNode, List.mem_cons, List.not_mem_nil, or_false] at hc
  rcases hc with rfl | rfl | rfl | rfl <;> exact ⟨_, rfl⟩) L
theorem allV_Box (L : List Box) : allV (L.map encBox) := allV_map (fun x c hc => by
  simp only [encBox, List.mem_cons, List.not_mem_nil, or_false] at hc
  rcases hc with rfl | rfl | rfl | rfl <;> exact ⟨_, rfl⟩) L
def kTreeZ : Ctr := pur (fun args => prA args 0) (fun x => [.agg [.sl 3 (x.1.map encNode), .sl 1 (x.2.map encI)]]) preT (fun _ x => .sl 4 ((treeOf x.1 x.2).map encTreeNode)) (fun _ _ => [])
theorem cTreeZS : Cn Try.prog 21 kTreeZ := Cn.frozen (fun x => allV_TreeNode _) cTreeS
def kFlameZ : Ctr := pur (fun args => (decTreeNode (aR args 0), aI args 1)) (fun x => [.sl 4 (x.1.map encTreeNode), .v (.int .i64 x.2)]) (fun x => x.1.length ≤ 1048576 ∧ ∀ r ∈ x.1, r.name.size ≤ 1048576) (fun _ x => .sl 4 ((flameOf x.1 x.2).map encBox)) (fun _ _ => [])
theorem cFlameZI : Cn Try.prog 23 kFlameZ := Cn.frozen (fun x => allV_Box _) cFlameOfI
/-- what is known of a drawn profile's tree -/
structure DTree (L : List TreeNode) : Prop where
  ok : treeOk L = true
  pre : preO L
  len : L.length ≤ 1000
  pos : ∀ x ∈ L, 1 ≤ x.total
  top : totB L (-1) ≤ 1000000000000
  nms : ∀ x ∈ L, x.name.size ≤ 1048576
theorem drp_tree {P : List Node × List Int} (h : DrP P 7) : DTree (treeOf P.1 P.2) := by
  obtain ⟨N, C⟩ := P
  have hl := drp_lens h
  have hlen := entriesOf_len N C
  have hen := h.ents
  simp only at hl hen ⊢
  have hS1 : nmsOk (ncP N C) := fun x hx => by
    obtain ⟨e, he, rfl⟩ := List.mem_map.1 hx
    obtain ⟨_, k, _, _, _, g, _⟩ := entriesOf_mem he
    obtain ⟨_, _, g2, _, _⟩ := ent_frs he
    refine ⟨by simp only; omega, fun a ha => ?_⟩
    obtain ⟨f, hf, rfl⟩ := List.mem_map.1 ha
    exact (frOk_iff.1 (List.all_eq_true.1 g2 f hf)).1
  have hS2 : ∀ x ∈ ncP N C, x.1.length ≤ 4 := fun x hx => by
    obtain ⟨e, he, rfl⟩ := List.mem_map.1 hx
    show (namesE e).length ≤ 4
    unfold namesE; rw [List.length_map]; exact (hen e he).len
  have hS3 : ∀ x ∈ ncP N C, x.1.length ≤ N.length := fun x hx => by
    obtain ⟨e, he, rfl⟩ := List.mem_map.1 hx
    show (namesE e).length ≤ N.length
    obtain ⟨_, _, _, g, _⟩ := ent_frs he
    unfold namesE; rw [List.length_map]; exact g
  have hS4 : sumC (ncP N C) ≤ 1000000000000 := by
    have g1 := sumE_entries N C
    have g2 := totalOf_bound N C
    have : sumC (ncP N C) = sumE (entriesOf N C) := by unfold sumC ncP sumE; rw [List.map_map]; rfl
    omega
  obtain ⟨t1, t2, t3, t4⟩ := tree_ok hS1 hS3 hS4
  have t5 := tree_pre hS1 hS3 hS4
  have t6 := grow_len N.length [] (-1) 0 (ncP N C)
  have t7 : wtN 0 (ncP N C) ≤ 4 * (ncP N C).length := by
    have := sum_le_mul (A := (ncP N C).map fun x => x.1.length - 0) (m := 4) (fun y hy => by
      obtain ⟨x, hx, rfl⟩ := List.mem_map.1 hy
      exact hS2 x hx)
    rw [List.length_map] at this
    exact this
  have t8 : (ncP N C).length = (entriesOf N C).length := by unfold ncP; rw [List.length_map]
  have t9 : sumC (longC 0 (ncP N C)) ≤ sumC (ncP N C) := sumC_filter _ fun x hx => by have := (hS1 x hx).1; omega
  refine ⟨t1, t5, ?_, t3, ?_, fun x hx => ?_⟩
  · show (growP N.length [] (-1) 0 (ncP N C)).length ≤ 1000
    simp only [List.length_nil] at t6
    omega
  · show totB (growP N.length [] (-1) 0 (ncP N C)) (-1) ≤ _
    rw [t2]; omega
  · obtain ⟨i, hi, rfl⟩ := List.mem_iff_getElem.1 hx
    have g1 := nodeOk_iff.1 (treeOk_nodes t1 i hi)
    have : (treeOf N C)[i].name.size ≤ 8 := (nameOk_letters g1.2.2.1).2.2
    omega
theorem topW_bd {B : List Box} (h : ∀ k (hk : k < B.length), 0 ≤ B[k].w ∧ B[k].w ≤ 10000) : ∀ k, k ≤ B.length → 0 ≤ topW B k ∧ topW B k ≤ 10000 * k
  | 0, _ => by unfold topW; simp
  | k + 1, hk => by
    have ih := topW_bd h k (by omega)
    have h1 := h k (by omega)
    rw [topW_succ (show k < B.length by omega)]
    split <;> omega
section
noncomputable def cxLFlames : Cx := { P := Try.prog, tys := tys, C := [(19, kBig), (22, kAt), (20, kDrawZ), (21, kTreeZ), (23, kFlameZ), (24, kBoxAt), (25, kInside)], hty := tysOk, hC := COk.cons cBig (COk.cons cAt (COk.cons cDrawZ (COk.cons cTreeZS (COk.cons cFlameZI (COk.cons cBoxAtI (COk.cons cInsideI (COk.nil _))))))) }
theorem cxLFlames_t : cxLFlames.tys = tys := rfl
theorem cxLFlames_c : cxLFlames.C = [(19, kBig), (22, kAt), (20, kDrawZ), (21, kTreeZ), (23, kFlameZ), (24, kBoxAt), (25, kInside)] := rfl
attribute [local go_sem] cxLFlames_t cxLFlames_c kBig kAt kDrawZ kTreeZ kFlameZ kBoxAt kInside
theorem lawFlames (b : List Int) (hb : b.length ≤ maxLen) (hz : ∀ z ∈ b, IntKind.u8.min ≤ z ∧ z ≤ IntKind.u8.max) : Holds Try.prog 4 [.sl 1 (b.map encU)] (.v (.bool true)) [] := by
  have hm : maxLen = 9223372036854775807 := rfl
  have hz' : ∀ z ∈ b, 0 ≤ z ∧ z ≤ 255 := fun z h => hz z h
  refine Holds.go (c := cxLFlames) Try.func4 rfl Try.results4 Try.ntmps4 (by omega) (by simp) rfl ?_
  intro X0 w0
  by_cases hbig : 1048576 < (b.length : Int)
  · (repeat' (first | refine WP.seq ?_ | refine WP.block ?_ | ((first | refine WP.region ?_ | refine WP.condW ?_ | refine WP.ret ?_ | refine WP.exit ?_ | refine WP.skip ?_); simp only [go_sem, hbig, tyAll, Nat.reduceAdd, Nat.reduceLT, Nat.reduceLeDiff, Nat.reduceEqDiff, Nat.reduceMul, Nat.reduceSub, Nat.reduceGT, reduceIte, Int.reduceNeg, Int.reduceToNat]) |  refine And.intro ?_ ?_ | intro _))
    all_goals first | omega | skip
    all_goals trace_state
  have hb1 : b.length ≤ 1048576 := by omega
  have hdr := drA_ok hb1 hz'
  have hnm := drp_names hdr
  obtain ⟨hl1, hl2⟩ := drp_lens hdr
  have hw1 : (drA b).1.length ≤ 1048576 := by omega
  have hw2 : (drA b).2.length ≤ 1048576 := by omega
  have hnm' : ∀ n ∈ (drA b).1, n.name.size ≤ 1048576 := fun n hn => Nat.le_trans (hnm n hn) (by omega)
  have hT := drp_tree hdr
  have a0 := atV_bd hz' 0
  have a1 := atV_bd hz' 1
  have am : 0 ≤ atV b 0 * atV b 1 ∧ atV b 0 * atV b 1 ≤ 255 * 255 := ⟨Int.mul_nonneg a0.1 a1.1, Int.mul_le_mul a0.2 a1.2 a1.1 (by omega)⟩
  have aq : 0 ≤ (atV b 0 * atV b 1).tmod 10000 ∧ (atV b 0 * atV b 1).tmod 10000 < 10000 := ⟨Int.tmod_nonneg _ am.1, Int.tmod_lt_of_pos _ (by omega)⟩
  obtain ⟨L, hL⟩ : ∃ L, treeOf (drA b).1 (drA b).2 = L := ⟨_, rfl⟩
  rw [hL] at hT
  obtain ⟨w, hw⟩ : ∃ w, 1 + (atV b 0 * atV b 1).tmod 10000 = w := ⟨_, rfl⟩
  have w1 : 1 ≤ w := by omega
  have w2 : w ≤ 10000 := by omega
  have hb' : below L (-1) L.length ≤ 1000000000000 := by rw [below_all]; exact hT.top
  have hll : L.length ≤ 1000000 := by have := hT.len; omega
  obtain ⟨B, hB⟩ : ∃ B, flameOf L w = B := ⟨_, rfl⟩
  have f1 : B.length = L.length := by rw [← hB]; exact (flame_boxes hT.ok hT.pre w1 w2 hb' hll).1
  have f2 : ∀ k (h : k < B.length), 0 ≤ B[k].x ∧ 0 ≤ B[k].w ∧ B[k].x + B[k].w ≤ w ∧ 0 ≤ B[k].depth ∧ B[k].depth ≤ k := by
    subst hB; exact fun k h => flame_bounds hT.ok hT.pre w1 w2 hb' hll k (by omega) h
  have f3 : ∀ k (h : k < B.length), 0 < B[k].w → firstIdx (boxHit B[k].depth B[k].x) B = k := by
    subst hB; exact fun k h hp => flame_hit hT.ok hT.pre w1 w2 hb' hll k (by omega) h hp
  have f4 : boxesIn L B = true := by subst hB; exact flame_good hT.ok hT.pre w1 w2 hb' hll
  have f5 : topW B B.length = if L = [] then 0 else w := by
    rw [f1]; subst hB
    refine flame_fill hT.ok hT.pre w1 w2 hb' hll fun hne => ?_
    rw [below_all]
    obtain ⟨x, R, rfl⟩ := List.exists_cons_of_ne_nil hne
    have g1 := hT.pos x List.mem_cons_self
    have g2 := nodeOk_iff.1 (treeOk_nodes hT.ok 0 (by simp))
    have g3 : x.parent = -1 := by
      have := g2
      simp only [List.getElem_cons_zero] at this
      omega
    rw [totB_cons, if_pos g3]
    have key : ∀ Q : List TreeNode, (∀ y ∈ Q, 1 ≤ y.total) → 0 ≤ totB Q (-1) := by
      intro Q
      induction Q with
      | nil => intro _; exact Int.le_refl _
      | cons y Q ih =>
        intro h
        have h1 := h y List.mem_cons_self
        have h2 := ih fun z hz => h z (List.mem_cons_of_mem _ hz)
        rw [totB_cons]
        split <;> omega
    have g4 := key R fun y hy => hT.pos y (List.mem_cons_of_mem _ hy)
    omega
  have f6 := topW_bd (B := B) (fun k hk => by have := f2 k hk; omega)
  have hTn := hT.nms
  have hTl := hT.len
  (repeat' (first | refine WP.seq ?_ | refine WP.block ?_ | ((first | refine WP.region ?_ | refine WP.condW ?_ | refine WP.ret ?_ | refine WP.exit ?_ | refine WP.skip ?_); simp only [go_sem, hbig, hL, hw, hB, tyAll, Nat.reduceAdd, Nat.reduceLT, Nat.reduceLeDiff, Nat.reduceEqDiff, Nat.reduceMul, Nat.reduceSub, Nat.reduceGT, reduceIte, Int.reduceNeg, Int.reduceToNat]) |  refine And.intro ?_ ?_ | intro _))
  all_goals first | omega | exact (hz' _ ‹_›).1 | exact (hz' _ ‹_›).2 | exact hnm' _ ‹_› | exact hTn _ ‹_› | skip
  refine WP.loop (fun k : Nat => ⟨[(5, .sl 4 (L.map encTreeNode)), (6, .v (.int .i64 w)), (7, .sl 4 (B.map encBox)), (8, .v (.int .i64 (topW B k))), (9, .v (.int .i64 k))], []⟩)
    (fun k => k ≤ B.length) (fun k => B.length - k) 0 (by simp) ?_ ?_
  · have h0 : topW B 0 = 0 := rfl
    (simp only [go_sem, h0, tyAll, Nat.reduceAdd, Nat.reduceLT, Nat.reduceLeDiff, Nat.reduceEqDiff, Nat.reduceMul, Nat.reduceSub, Nat.reduceGT, reduceIte, Int.reduceNeg, Int.reduceToNat] <;> (first | rfl | exact ⟨rfl, rfl⟩ | exact ⟨rfl, rfl, rfl⟩ | exact ⟨rfl, rfl, rfl, rfl⟩ | exact ⟨rfl, rfl, rfl, rfl, rfl⟩ | exact ⟨⟨rfl, rfl⟩, rfl⟩ | simp))
  intro k hk
  have gk := f6 k hk
  by_cases hlt : k < B.length
  · have hli : (k : Int) < B.length := by omega
    have h1 := rowAt_map encBox B k hlt
    obtain ⟨b1, b2, b3, b4, b5⟩ := f2 k hlt
    have g3 := f3 k hlt
    have gk1 := f6 (k + 1) (by omega)
    have hsu := topW_succ hlt
    have x1 : ¬ B[k].x < 0 := by omega
    have x2 : ¬ B[k].w < 0 := by omega
    have x3 : ¬ w < B[k].x + B[k].w := by omega
    have go : ∀ hp : (if B[k].depth = 0 then B[k].w else 0) = topW B (k + 1) - topW B k, True := fun _ => trivial
    by_cases hd : B[k].depth = 0
    · rw [if_pos hd] at hsu
      by_cases hp : 0 < B[k].w
      · have g4 := g3 hp
        rw [hd] at g4
        (repeat' (first | refine WP.seq ?_ | refine WP.block ?_ | ((first | refine WP.region ?_ | refine WP.condW ?_ | refine WP.ret ?_ | refine WP.exit ?_ | refine WP.skip ?_); simp only [go_sem, hli, h1, encBox, x1, x2, x3, hd, hp, g4, tyAll, Nat.reduceAdd, Nat.reduceLT, Nat.reduceLeDiff, Nat.reduceEqDiff, Nat.reduceMul, Nat.reduceSub, Nat.reduceGT, reduceIte, Int.reduceNeg, Int.reduceToNat]) |  refine And.intro ?_ ?_ | intro _))
        all_goals first | omega | exact ⟨k + 1, by omega, by omega, by rw [hsu]; (first | rfl | exact ⟨rfl, rfl⟩ | exact ⟨rfl, rfl, rfl⟩ | exact ⟨rfl, rfl, rfl, rfl⟩ | exact ⟨rfl, rfl, rfl, rfl, rfl⟩ | exact ⟨⟨rfl, rfl⟩, rfl⟩ | simp)⟩ | skip
        all_goals trace_state
      · (repeat' (first | refine WP.seq ?_ | refine WP.block ?_ | ((first | refine WP.region ?_ | refine WP.condW ?_ | refine WP.ret ?_ | refine WP.exit ?_ | refine WP.skip ?_); simp only [go_sem, hli, h1, encBox, x1, x2, x3, hd, hp, tyAll, Nat.reduceAdd, Nat.reduceLT, Nat.reduceLeDiff, Nat.reduceEqDiff, Nat.reduceMul, Nat.reduceSub, Nat.reduceGT, reduceIte, Int.reduceNeg, Int.reduceToNat]) |  refine And.intro ?_ ?_ | intro _))
        all_goals first | omega | exact ⟨k + 1, by omega, by omega, by rw [hsu]; (first | rfl | exact ⟨rfl, rfl⟩ | exact ⟨rfl, rfl, rfl⟩ | exact ⟨rfl, rfl, rfl, rfl⟩ | exact ⟨rfl, rfl, rfl, rfl, rfl⟩ | exact ⟨⟨rfl, rfl⟩, rfl⟩ | simp)⟩ | skip
        all_goals trace_state
    · rw [if_neg hd, Int.add_zero] at hsu
      by_cases hp : 0 < B[k].w
      · have g4 := g3 hp
        (repeat' (first | refine WP.seq ?_ | refine WP.block ?_ | ((first | refine WP.region ?_ | refine WP.condW ?_ | refine WP.ret ?_ | refine WP.exit ?_ | refine WP.skip ?_); simp only [go_sem, hli, h1, encBox, x1, x2, x3, hd, hp, g4, tyAll, Nat.reduceAdd, Nat.reduceLT, Nat.reduceLeDiff, Nat.reduceEqDiff, Nat.reduceMul, Nat.reduceSub, Nat.reduceGT, reduceIte, Int.reduceNeg, Int.reduceToNat]) |  refine And.intro ?_ ?_ | intro _))
        all_goals first | omega | exact ⟨k + 1, by omega, by omega, by rw [hsu]; (first | rfl | exact ⟨rfl, rfl⟩ | exact ⟨rfl, rfl, rfl⟩ | exact ⟨rfl, rfl, rfl, rfl⟩ | exact ⟨rfl, rfl, rfl, rfl, rfl⟩ | exact ⟨⟨rfl, rfl⟩, rfl⟩ | simp)⟩ | skip
        all_goals trace_state
      · (repeat' (first | refine WP.seq ?_ | refine WP.block ?_ | ((first | refine WP.region ?_ | refine WP.condW ?_ | refine WP.ret ?_ | refine WP.exit ?_ | refine WP.skip ?_); simp only [go_sem, hli, h1, encBox, x1, x2, x3, hd, hp, tyAll, Nat.reduceAdd, Nat.reduceLT, Nat.reduceLeDiff, Nat.reduceEqDiff, Nat.reduceMul, Nat.reduceSub, Nat.reduceGT, reduceIte, Int.reduceNeg, Int.reduceToNat]) |  refine And.intro ?_ ?_ | intro _))
        all_goals first | omega | exact ⟨k + 1, by omega, by omega, by rw [hsu]; (first | rfl | exact ⟨rfl, rfl⟩ | exact ⟨rfl, rfl, rfl⟩ | exact ⟨rfl, rfl, rfl, rfl⟩ | exact ⟨rfl, rfl, rfl, rfl, rfl⟩ | exact ⟨⟨rfl, rfl⟩, rfl⟩ | simp)⟩ | skip
        all_goals trace_state
  · have hge : ¬ (k : Int) < B.length := by omega
    obtain rfl : k = B.length := by omega
    by_cases he : L = []
    · rw [if_pos he] at f5
      rw [f5]
      subst he
      have hdn : decTreeNode [] = [] := rfl
      have hwz : ¬ (0 : Int) = w := by omega
      (repeat' (first | refine WP.seq ?_ | refine WP.block ?_ | ((first | refine WP.region ?_ | refine WP.condW ?_ | refine WP.ret ?_ | refine WP.exit ?_ | refine WP.skip ?_); simp only [go_sem, hge, f4, hdn, hwz, tyAll, Nat.reduceAdd, Nat.reduceLT, Nat.reduceLeDiff, Nat.reduceEqDiff, Nat.reduceMul, Nat.reduceSub, Nat.reduceGT, reduceIte, Int.reduceNeg, Int.reduceToNat]) |  refine And.intro ?_ ?_ | intro _))
      all_goals first | omega | exact hTn _ ‹_› | rfl | simp | skip
      all_goals trace_state
    · rw [if_neg he] at f5
      rw [f5]
      (repeat' (first | refine WP.seq ?_ | refine WP.block ?_ | ((first | refine WP.region ?_ | refine WP.condW ?_ | refine WP.ret ?_ | refine WP.exit ?_ | refine WP.skip ?_); simp only [go_sem, hge, f4, tyAll, Nat.reduceAdd, Nat.reduceLT, Nat.reduceLeDiff, Nat.reduceEqDiff, Nat.reduceMul, Nat.reduceSub, Nat.reduceGT, reduceIte, Int.reduceNeg, Int.reduceToNat]) |  refine And.intro ?_ ?_ | intro _))
      all_goals first | omega | exact hTn _ ‹_› | rfl | skip
      all_goals trace_state
end
end
end Go.Proofs.Ytdbjioanlkilkaa
