/-
  DERIVED. What is read of a struct, field by field, stands for what its fields stand for.
-/
import Derived.Test.YtdbjioanlkilkaaVcR
import Derived.Deep.Strs
import Derived.Lib.SmallJoins
namespace Go.Vc
open Go.RowKit Go.WideShapes Go.ChangeShapes Go.Deep
set_option linter.unusedVariables false
section
variable {H : Type} {enc : TypeId × Value → H} {P : Program} {w : World}
theorem Cells.append {r1 r2 : List SV} {c1 c2 : List Value} (h1 : Cells w r1 c1) (h2 : Cells w r2 c2) : Cells w (r1 ++ r2) (c1 ++ c2) := by
  refine ⟨by rw [List.length_append, List.length_append, h1.1, h2.1], fun k c u hc hu => ?_⟩
  rw [List.getElem?_append] at hc hu
  by_cases hk : k < r1.length
  · rw [if_pos hk] at hc
    rw [if_pos (by rw [← h1.1]; exact hk)] at hu
    exact h1.2 k c u hc hu
  · rw [if_neg hk] at hc
    rw [if_neg (by rw [← h1.1]; exact hk), ← h1.1] at hu
    exact h2.2 _ c u hc hu
theorem Dec.map {t : TypeId} {α β : Type} {e : α → List SV} {wf : α → Prop} {e' : β → List SV} {wf' : β → Prop} (hd : Dec H enc P w t e wf) (g : α → β) (he : ∀ a, e' (g a) = e a) (hw : ∀ a, wf a → wf' (g a)) : Dec H enc P w t e' wf' := by
  intro base sp held n cs y h
  obtain ⟨a, ha, hc⟩ := hd _ _ _ _ _ _ h
  exact ⟨g a, hw a ha, by rw [he]; exact hc⟩
theorem Dec.struct1 {t : TypeId} {f0 : Field} {k0 : Nat} {α : Type} {e : α → List SV} {wf : α → Prop} (ht : P.underlying t = some (.struct #[f0])) (o0 : f0.offset = 0) (h0 : P.cellsOf f0.type = k0) (hC : P.cellsOf t = k0) (hd : Dec H enc P w f0.type e wf) : Dec H enc P w t e wf := by
  intro base sp held n cs y h
  obtain ⟨y0, m, _, hl, g0⟩ := trod_struct1 ht h
  obtain ⟨a, ha, hc⟩ := hd _ _ _ _ _ _ g0
  rw [o0, h0, List.drop_zero, List.take_of_length_le (by omega)] at hc
  exact ⟨a, ha, hc⟩
theorem Dec.struct2 {t : TypeId} {f0 f1 : Field} {k0 k1 : Nat} {α β : Type} {e0 : α → List SV} {w0 : α → Prop} {e1 : β → List SV} {w1 : β → Prop} (ht : P.underlying t = some (.struct #[f0, f1])) (o0 : f0.offset = 0) (h0 : P.cellsOf f0.type = k0) (o1 : f1.offset = k0) (h1 : P.cellsOf f1.type = k1) (hC : P.cellsOf t = k0 + k1)
    (d0 : Dec H enc P w f0.type e0 w0) (d1 : Dec H enc P w f1.type e1 w1) : Dec H enc P w t (fun x : α × β => e0 x.1 ++ e1 x.2) (fun x => w0 x.1 ∧ w1 x.2) := by
  intro base sp held n cs y h
  obtain ⟨y0, y1, m, _, hl, g0, g1⟩ := trod_struct2 ht h
  obtain ⟨a, ha, hc⟩ := d0 _ _ _ _ _ _ g0
  obtain ⟨b, hb, hd⟩ := d1 _ _ _ _ _ _ g1
  rw [o0, h0, List.drop_zero] at hc
  rw [o1, h1, List.take_of_length_le (by rw [List.length_drop]; omega)] at hd
  refine ⟨(a, b), ⟨ha, hb⟩, ?_⟩
  have := hc.append hd
  rwa [List.take_append_drop] at this
theorem Dec.struct3 {t : TypeId} {f0 f1 f2 : Field} {k0 k1 k2 : Nat} {α β γ : Type} {e0 : α → List SV} {w0 : α → Prop} {e1 : β → List SV} {w1 : β → Prop} {e2 : γ → List SV} {w2 : γ → Prop} (ht : P.underlying t = some (.struct #[f0, f1, f2])) (o0 : f0.offset = 0) (h0 : P.cellsOf f0.type = k0) (o1 : f1.offset = k0) (h1 : P.cellsOf f1.type = k1) (o2 : f2.offset = k0 + k1) (h2 : P.cellsOf f2.type = k2) (hC : P.cellsOf t = k0 + k1 + k2)
    (d0 : Dec H enc P w f0.type e0 w0) (d1 : Dec H enc P w f1.type e1 w1) (d2 : Dec H enc P w f2.type e2 w2) : Dec H enc P w t (fun x : α × β × γ => e0 x.1 ++ (e1 x.2.1 ++ e2 x.2.2)) (fun x => w0 x.1 ∧ w1 x.2.1 ∧ w2 x.2.2) := by
  intro base sp held n cs y h
  obtain ⟨y0, y1, y2, m, _, hl, g0, g1, g2⟩ := trod_struct3 ht h
  obtain ⟨a, ha, hc⟩ := d0 _ _ _ _ _ _ g0
  obtain ⟨b, hb, hd⟩ := d1 _ _ _ _ _ _ g1
  obtain ⟨c, hc', he⟩ := d2 _ _ _ _ _ _ g2
  rw [o0, h0, List.drop_zero] at hc
  rw [o1, h1] at hd
  rw [o2, h2, List.take_of_length_le (by rw [List.length_drop]; omega), ← List.drop_drop] at he
  refine ⟨(a, b, c), ⟨ha, hb, hc'⟩, ?_⟩
  have := hc.append (hd.append he)
  rwa [List.take_append_drop, List.take_append_drop] at this
end
end Go.Vc
