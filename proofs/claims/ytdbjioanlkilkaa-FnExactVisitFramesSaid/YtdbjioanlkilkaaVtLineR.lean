/-
  DERIVED. What is read of a line.
-/
import Derived.Test.YtdbjioanlkilkaaVtLine
import Derived.Test.YtdbjioanlkilkaaVcYw
namespace Go.Proofs.Ytdbjioanlkilkaa
open Go.Vc Go.ChangeShapes Go.WideShapes Go.ChangeAt Go.RowKit
set_option linter.unusedVariables false
section
variable {H : Type} {enc : TypeId × Value → H} {w : World}
theorem rowStrs : Dec H enc Try.prog w 74 (fun L : List ByteArray => [.sl 1 (L.map encS)]) (fun L => L.length ≤ maxLen ∧ ∀ s ∈ L, s.size ≤ maxLen) :=
  Dec.slice (s := 1) Try.underlying74 (by kernel_rfl) (by omega) (Dec.string Try.underlying9) (fun _ => rfl)
theorem rowToks : Dec H enc Try.prog w 95 (fun L : List Tok => [.sl 3 (L.map encTok)]) (fun L => L.length ≤ maxLen ∧ ∀ s ∈ L, s.name.size ≤ maxLen) :=
  (Dec.slice (s := 3) Try.underlying95 (by kernel_rfl) (by omega) rowTok (fun _ => rfl)).map (fun x : List Tok => x) (fun _ => rfl) (fun _ h => ⟨h.1, fun s hs => (h.2 s hs).2.2⟩)
theorem rowLine : Dec H enc Try.prog w 97 encLine bigLine :=
  (Dec.struct4 (k0 := 1) (k1 := 1) (k2 := 1) (k3 := 1) Try.underlying97 rfl (by kernel_rfl) rfl (by kernel_rfl) rfl (by kernel_rfl) rfl (by kernel_rfl) (by kernel_rfl) (Dec.int Try.underlying3) (Dec.string Try.underlying9) rowStrs rowToks).map
    (fun x : Int × ByteArray × List ByteArray × List Tok => (⟨x.1, x.2.1, x.2.2.1, x.2.2.2⟩ : Line)) (fun _ => rfl) (fun _ h => ⟨h.2.1, h.2.2.1.1, h.2.2.1.2, h.2.2.2.1, h.2.2.2.2⟩)
end
end Go.Proofs.Ytdbjioanlkilkaa
