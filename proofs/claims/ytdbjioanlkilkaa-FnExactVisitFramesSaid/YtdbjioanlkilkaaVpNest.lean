/-
  DERIVED. Marks of lists whose elements take several numbers each.
-/
import Derived.Test.YtdbjioanlkilkaaVtX
namespace Go.Proofs.Ytdbjioanlkilkaa
open Go.Vc
section
variable {α : Type} (cnt : α → Nat) (mrk : Int → α → α)
def cntA (L : List α) : Nat := (L.map cnt).sum
def mkA : Int → List α → List α
  | _, [] => []
  | k, x :: L => mrk k x :: mkA (k + (cnt x : Int)) L
def hfA (k : Int) (L : List α) (i : Nat) : List α := mkA cnt mrk k (L.take i) ++ L.drop i
variable {cnt mrk}
theorem mkA_len : ∀ (L : List α) (k : Int), (mkA cnt mrk k L).length = L.length
  | [], _ => rfl
  | x :: L, k => by simp [mkA, mkA_len L]
theorem mkA_app : ∀ (L M : List α) (k : Int), mkA cnt mrk k (L ++ M) = mkA cnt mrk k L ++ mkA cnt mrk (k + (cntA cnt L : Int)) M
  | [], M, k => by simp [mkA, cntA]
  | x :: L, M, k => by
    rw [List.cons_append, mkA, mkA, mkA_app L M, List.cons_append]
    congr 2
    simp only [cntA, List.map_cons, List.sum_cons]
    congr 1
    omega
theorem cntA_take (L : List α) (i : Nat) (h : i < L.length) : cntA cnt (L.take (i + 1)) = cntA cnt (L.take i) + cnt L[i] := by
  unfold cntA
  rw [List.take_succ_eq_append_getElem h, List.map_append, List.sum_append]
  simp
theorem cntA_le (L : List α) (m : Nat) (h : ∀ x ∈ L, cnt x ≤ m) : cntA cnt L ≤ L.length * m := by
  induction L with
  | nil => simp [cntA]
  | cons x L ih =>
    have h1 := h x List.mem_cons_self
    have h2 := ih fun y hy => h y (List.mem_cons_of_mem _ hy)
    simp only [cntA, List.map_cons, List.sum_cons, List.length_cons, Nat.add_mul] at h2 ⊢
    omega
theorem cntA_take_le (L : List α) (i : Nat) : cntA cnt (L.take i) ≤ cntA cnt L := by
  have := List.take_append_drop i L
  have h2 : cntA cnt L = cntA cnt (L.take i) + cntA cnt (L.drop i) := by
    unfold cntA
    rw [← List.sum_append, ← List.map_append, this]
  omega
theorem hfA_zero (L : List α) (k : Int) : hfA cnt mrk k L 0 = L := by simp [hfA, mkA]
theorem hfA_len (L : List α) (k : Int) (i : Nat) (h : i ≤ L.length) : (hfA cnt mrk k L i).length = L.length := by simp [hfA, mkA_len]; omega
theorem hfA_get (L : List α) (k : Int) (i : Nat) (h : i < L.length) : (hfA cnt mrk k L i)[i]? = some L[i] := by
  unfold hfA
  rw [List.getElem?_append_right (by simp [mkA_len]; omega)]
  simp [mkA_len, Nat.min_eq_left (Nat.le_of_lt h)]
theorem hfA_row {en : α → List SV} (L : List α) (k : Int) (i : Nat) (h : i < L.length) : Go.Vc.rowAt ((hfA cnt mrk k L i).map en) i = en L[i] := by
  unfold Go.Vc.rowAt
  rw [List.getElem?_map, hfA_get L k i h]; rfl
theorem hfA_set {en : α → List SV} (L : List α) (k : Int) (i : Nat) (h : i < L.length) : ((hfA cnt mrk k L i).map en).set i (en (mrk (k + (cntA cnt (L.take i) : Int)) L[i])) = (hfA cnt mrk k L (i + 1)).map en := by
  rw [← List.map_set]
  congr 1
  unfold hfA
  have hl : (mkA cnt mrk k (L.take i)).length = i := by rw [mkA_len, List.length_take]; omega
  rw [List.set_append, if_neg (by omega), hl, Nat.sub_self, List.drop_eq_getElem_cons h, List.set_cons_zero, List.take_succ_eq_append_getElem h, mkA_app, List.append_assoc]
  rfl
theorem hfA_all (L : List α) (k : Int) : hfA cnt mrk k L L.length = mkA cnt mrk k L := by simp [hfA]
theorem mkA_get : ∀ (L : List α) (k : Int) (i : Nat) (h : i < L.length), (mkA cnt mrk k L)[i]'(by rw [mkA_len]; exact h) = mrk (k + (cntA cnt (L.take i) : Int)) L[i]
  | x :: L, k, 0, _ => by simp [mkA, cntA]
  | x :: L, k, i + 1, h => by
    simp only [mkA, List.getElem_cons_succ, List.take_succ_cons]
    rw [mkA_get L _ i (by simpa using h)]
    congr 1
    simp only [cntA, List.map_cons, List.sum_cons]
    omega
end
end Go.Proofs.Ytdbjioanlkilkaa
