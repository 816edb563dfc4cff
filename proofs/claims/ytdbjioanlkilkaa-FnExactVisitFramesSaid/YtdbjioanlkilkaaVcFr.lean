/-
  DERIVED. What a call hands back as its own, taken as what may only be read: whatever its shape.
-/
import Derived.Test.YtdbjioanlkilkaaVcFz
namespace Go.Vc
set_option linter.unusedVariables false
def fz1m (robs : List (Nat × Ob)) : SV → SV
  | .own id => match lk id robs with
    | some (.sl _ s rows) => .sl s rows
    | _ => .junk
  | .v x => .v x
  | .sl s rows => .sl s rows
  | _ => .junk
theorem Holds.frz {P : Program} {f : FuncId} {args : List SV} {res : SV} {robs : List (Nat × Ob)} (h : Holds P f args res robs) (hv : ∀ id e s rows, lk id robs = some (.sl e s rows) → allV rows) : Holds P f args (res.up (fz1m robs)) [] := by
  intro w X vs hG hX hl ha
  refine (h w X vs hG hX hl ha).mono fun en w' ⟨v, β, he, hb, hβ, hR, hO, hn⟩ => ?_
  refine ⟨v, β, he, hb, hβ, ?_, ⟨fun id ob hi => (by cases hi), fun i j oi oj b hi => (by cases hi)⟩, fun id ob b hi => (by cases hi)⟩
  have hS : Same (XX X β robs) w' w' := ⟨Nat.le_refl _, fun _ _ _ => rfl⟩
  refine hR.up fun x u hx => ?_
  cases x with
  | own id =>
    have := hx.own_inv; subst this
    simp only [fz1m]
    split
    · rename_i e s rows hlk
      refine .p ((hO.1 id _ hlk).toSl (fun b hb' hx => ?_) (hv id e s rows hlk))
      have h1 := hn id _ b hlk hb'
      rcases hx with hx | ⟨i, o, hi, _⟩
      · have := hX b hx; omega
      · cases hi
    · exact .junk _
  | v y => have := hx.v_inv; subst this; exact .p (.v _)
  | sl s rows => exact .p (hx.sl_inv.mono hS (fun b _ hx => by
      rcases hx with hx | ⟨i, o, hi, _⟩
      · exact .inl hx
      · cases hi))
  | _ => exact .junk _
theorem Cn.frz {P : Program} {f : FuncId} {X : Type} {dec : List SV → X} {A : X → List SV} {pre : X → Prop} {res : Nat → X → SV} {robs : Nat → X → List (Nat × Ob)} {res' : X → SV}
    (h : Cn P f (Go.Vc.pur dec A pre res robs)) (hv : ∀ d x id e s rows, lk id (robs d x) = some (.sl e s rows) → allV rows) (he : ∀ d x, (res d x).up (fz1m (robs d x)) = res' x) : Cn P f (Go.Vc.pur dec A pre (fun _ x => res' x) (fun _ _ => [])) :=
  ⟨h.call, fun d args ha => (by have := (h.holds d args ha).frz (hv d _); rw [show ((Go.Vc.pur dec A pre res robs).pure d args).2.1 = res d (dec args) from rfl, show ((Go.Vc.pur dec A pre res robs).pure d args).2.2 = robs d (dec args) from rfl, he] at this; exact this), fun _ _ _ h => h.elim⟩
end Go.Vc
