/-
  DERIVED. slices.Reverse at []string, as a contract of a list that is lent.
-/
import Derived.Test.YtkikcjomjofhmaaVtMark
import Derived.Test.YtkikcjomjofhmaaVcU
import Derived.Test.YtkikcjomjofhmaaVsLayR
namespace Go.Proofs.Ytkikcjomjofhmaa
open Go.Vc
set_option linter.unusedVariables false
def krevS : Ctr := len [0] [] (fun args obs => decS (oR obs 1000000)) (fun x => [.own 1000000]) (fun x => [(1000000, .sl 9 1 (x.map encS))]) (fun x => x.length ≤ 2097152)
  (fun _ x => .tup []) (fun _ _ => []) (fun x => [(1000000, .sl 9 1 (x.reverse.map encS))])
theorem vrowsS (L : List ByteArray) : vrows (L.map fun b => [Value.string b]) = L.map encS := by
  unfold vrows
  rw [List.map_map]; rfl
theorem grow_none (w : World) : Go.Sort.grow w #[] = w := by
  unfold Go.Sort.grow
  simp
theorem crevS : Cn Try.prog 75 krevS := by
  refine Cn.len Try.func75 (by kernel_rfl) rfl fun d x hd hx => ?_
  have hb : ∀ b : ByteArray, Go.Proofs.encStr b.data.toList = .string b := fun b => by simp [Go.Proofs.encStr]
  have h := HoldsL.cells (P := Try.prog) (f := 75) (e := 9) (s := 1) (rows := x.map fun b => [Value.string b]) (rows' := x.reverse.map fun b => [Value.string b]) (rest := [])
    (fun r hr => by obtain ⟨b, _, rfl⟩ := List.mem_map.1 hr; rfl) (by simp) (fun r hr => by obtain ⟨b, _, rfl⟩ := List.mem_map.1 hr; rfl)
    (fun r hr u hu => by obtain ⟨b, _, rfl⟩ := List.mem_map.1 hr; simp only [List.mem_cons, List.not_mem_nil, or_false] at hu; subst hu; rfl)
    (fun hn w us hl ha => by
      have : us = [] := List.eq_nil_of_length_eq_zero (by simpa using hl)
      subst this
      exact (Any.slices_Reverse_string_empty Try.l217 none 0 w).mono fun en w' ⟨he, hw⟩ => ⟨he, by rw [hw]; exact Go.RowKit.Below.refl _ _⟩)
    (fun c hc => by simp at hc)
    (fun w b cap cur us hG hh hrc hcm hsz hcell hl ha => by
      have : us = [] := List.eq_nil_of_length_eq_zero (by simpa using hl)
      subst this
      have hsz1 : cur.size = cap := by omega
      have hrc1 : x.length ≤ cap := by simpa using hrc
      have hH : Go.Sort.Holds Go.Proofs.encStr w b 0 (x.map fun b => b.data.toList).toArray := holds_cells hh (fun j hj => by
        have hj1 : j < x.length := by simpa using hj
        have h2 := (hcell j 0 [Value.string x[j]] (.string x[j]) (by rw [List.getElem?_map, List.getElem?_eq_getElem hj1]; rfl) rfl).1
        have e : (List.map (fun b : ByteArray => b.data.toList) x).toArray[j]! = x[j].data.toList := by
          rw [getElem!_pos (List.map (fun b : ByteArray => b.data.toList) x).toArray j hj]; simp
        rw [e, hb]
        simpa using h2)
      have hs := Any.slices_Reverse_string Try.l217 b 0 cap (x.map fun b => b.data.toList) w hH (by rw [List.length_map]; omega)
      rw [List.length_map] at hs
      rw [List.length_map]
      refine hs.mono fun en w' ⟨he, n, hw⟩ => ⟨he, ?_⟩
      have hup := upd_putRow (w := w) (b := b) (e := 9) (cur := cur) Go.Proofs.encStr n (x.map fun b => b.data.toList).reverse.toArray #[] hh (by simp; omega)
      rw [grow_none, ← hw] at hup
      refine ⟨_, hup.1, fun i k r u hr hu => ?_⟩
      rw [List.getElem?_map] at hr
      cases hx : x.reverse[i]? with
      | none => rw [hx] at hr; cases hr
      | some y =>
        rw [hx] at hr
        simp only [Option.map_some, Option.some.injEq] at hr
        subst hr
        have hi : i < x.reverse.length := (List.getElem?_eq_some_iff.1 hx).1
        have hy : x.reverse[i] = y := (List.getElem?_eq_some_iff.1 hx).2
        match k, hu with
        | 0, hu =>
          simp only [List.getElem?_cons_zero, Option.some.injEq] at hu
          subst hu
          have hi2 : i < (List.map (fun b : ByteArray => b.data.toList) x).reverse.toArray.size := by simpa using hi
          have h3 := hup.2 i hi2
          have e : (List.map (fun b : ByteArray => b.data.toList) x).reverse.toArray[i]! = y.data.toList := by
            rw [getElem!_pos (List.map (fun b : ByteArray => b.data.toList) x).reverse.toArray i hi2, ← hy]
            simp
          rw [Nat.mul_one, Nat.add_zero, h3, e, hb]
        | k + 1, hu => simp at hu)
  rw [vrowsS, vrowsS] at h
  exact h
end Go.Proofs.Ytkikcjomjofhmaa
