/-
  DERIVED. What is read of stacks and of a profile.
-/
import Derived.Test.YtolnapfgfdgifaaDoorVtPrL
import Derived.Test.YtolnapfgfdgifaaDoorVcY
namespace Go.Proofs.YtolnapfgfdgifaaDoor
open Go.Vc Go.RowKit Go.WideShapes Go.ChangeShapes Go.Deep
section
variable {H : Type} {enc : TypeId × Value → H} {w : World}
def okN (L : List Node) : Prop := L.length ≤ maxLen ∧ ∀ x ∈ L, x.name.size ≤ maxLen
theorem rowNode' : Dec H enc Tryd.prog w 82 encNode (fun x => x.name.size ≤ maxLen) :=
  (Dec.struct2 (k0 := 1) (k1 := 2) Tryd.underlying82 rfl (by kernel_rfl) rfl (by kernel_rfl) (by kernel_rfl) (Dec.int Tryd.underlying3) rowFrame).map (fun x : Int × Frame => (⟨x.1, x.2.name, x.2.line⟩ : Node)) (fun _ => rfl) (fun _ h => h.2.1)
theorem rowStk : Dec H enc Tryd.prog w 24 (fun N : List Node => [.sl 3 (N.map encNode)]) okN :=
  Dec.struct1 (k0 := 1) Tryd.underlying24 rfl (by kernel_rfl) (by kernel_rfl) (Dec.slice (s := 3) Tryd.underlying22 (by kernel_rfl) (by omega) rowNode' (fun _ => rfl))
theorem rowPr : Dec H enc Tryd.prog w 27 (fun x : List Node × List Int => [.sl 3 (x.1.map encNode), .sl 1 (x.2.map encI)]) wfM :=
  (Dec.struct2 (k0 := 1) (k1 := 1) Tryd.underlying27 rfl (by kernel_rfl) rfl (by kernel_rfl) (by kernel_rfl) rowStk
    (Dec.slice (s := 1) Tryd.underlying25 (by kernel_rfl) (by omega) (Dec.int Tryd.underlying3) (fun _ => rfl))).map (fun x : List Node × List Int => x) (fun _ => rfl) (fun _ h => ⟨h.1.1, h.1.2, h.2.1⟩)
end
end Go.Proofs.YtolnapfgfdgifaaDoor
