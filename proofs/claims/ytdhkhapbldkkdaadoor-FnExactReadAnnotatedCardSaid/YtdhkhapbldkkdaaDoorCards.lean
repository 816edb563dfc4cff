/-
  DERIVED. GIVEN WITH THE SEED: THE CARDS: each row of YtdhkhapbldkkdaaDoorRows.lean that lists a variable, with what it lists TIED to the program's text (the seventh form; the later family's looks); each row that meets fmt, with fmt's text TOLD by the authors' own Lean function (tested against real Go, not proved from fmt's source: count such statements apart). THE CARD IS WHAT COUNTS. Prove the row's statement (the work); the ties are given (YtdhkhapbldkkdaaDoorTie.lean); close each card by the builder's one call (the guide's Derived/Test/ToyasCard.lean, 'card_holds'). Laid BY PROGRAM, IN A SANDBOX (cutbox-door.mjs). By AI agents, Wed Nov 11 2026. No macro, syntax, notation, axiom, sorry.
-/
import Derived.Test.YtdhkhapbldkkdaaDoorRows
import GoSem.ClaimSeven
namespace Go.Proofs.YtdhkhapbldkkdaaDoor
namespace Rows

/-- THE TIED CARD OF 'laws.FnExactReadAnnotated'. -/
def fnExactReadAnnotatedCard : Claim7 := { stood := { row := fnExactReadAnnotatedRow, standIns := [], harness := (true, "8fa3d013a238c350c47b740c72aacc163adab170204c7c51b48588ac85409883"), looks := false }, kinds := [], alts := [], laidByText := true, laidKinds := [.data, .data, .data, .data, .pinned], laidTests := true, laidLooks := .later }
def FnExactReadAnnotatedCardSaid : Prop := Claim7.holds Tryd.pinned (.plain (OpenSpec.ofChange fnExactReadAnnotatedSpec)) fnExactReadAnnotatedCard

/-- THE SECOND FORM's CARD OF 'laws.FnExactReadAnnotated'. -/
def fnExactReadAnnotatedUptoCard : Claim7 := { stood := { row := fnExactReadAnnotatedUptoRow, standIns := [], harness := (true, "8fa3d013a238c350c47b740c72aacc163adab170204c7c51b48588ac85409883"), looks := false }, kinds := [], alts := [], laidByText := true, laidKinds := [.data, .data, .data, .data, .pinned], laidTests := true, laidLooks := .later }
def FnExactReadAnnotatedUptoCardSaid : Prop := Claim7.holds Tryd.pinned (.plain (OpenSpec.upto fnExactReadAnnotatedSpec)) fnExactReadAnnotatedUptoCard
end Rows
end Go.Proofs.YtdhkhapbldkkdaaDoor
