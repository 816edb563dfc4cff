/-
  DERIVED. GIVEN WITH THE SEED: THE CARDS: each row of YtdhkhapbldkkdaaGreatDoorRows.lean that lists a variable, with what it lists TIED to the program's text (the seventh form; the later family's looks); each row that meets fmt, with fmt's text TOLD by the authors' own Lean function (tested against real Go, not proved from fmt's source: count such statements apart). THE CARD IS WHAT COUNTS. Prove the row's statement (the work); the ties are given (YtdhkhapbldkkdaaGreatDoorTie.lean); close each card by the builder's one call (the guide's Derived/Test/ToyasCard.lean, 'card_holds'). Laid BY PROGRAM, IN A SANDBOX (cutbox-door.mjs). By AI agents, Wed Nov 11 2026. No macro, syntax, notation, axiom, sorry.
-/
import Derived.Test.YtdhkhapbldkkdaaGreatDoorRows
import GoSem.ClaimSeven
namespace Go.Proofs.YtdhkhapbldkkdaaGreatDoor
namespace Rows

/-- THE TIED CARD OF 'laws.FnExactAnnotate'. -/
def fnExactAnnotateCard : Claim7 := { stood := { row := fnExactAnnotateRow, standIns := [], harness := (true, "b67c3bb8c526a4f2cf5d2a4f896295a51bbf71571cb4bf073275c5b85ecce799"), looks := false }, kinds := [], alts := [], laidByText := true, laidKinds := [.data, .data, .data, .data, .pinned], laidTests := true, laidLooks := .later }
def FnExactAnnotateCardSaid : Prop := Claim7.holds Tryz.pinned (.plain (OpenSpec.ofChange fnExactAnnotateSpec)) fnExactAnnotateCard

/-- THE TIED CARD OF 'laws.FnAnnotated'. -/
def fnAnnotatedCard : Claim7 := { stood := { row := fnAnnotatedRow, standIns := [], harness := (true, "b67c3bb8c526a4f2cf5d2a4f896295a51bbf71571cb4bf073275c5b85ecce799"), looks := false }, kinds := [], alts := [], laidByText := true, laidKinds := [.data, .data, .data, .data, .pinned], laidTests := true, laidLooks := .later }
def FnAnnotatedCardSaid : Prop := Claim7.holds Tryz.pinned (.plain (OpenSpec.ofChange fnAnnotatedSpec)) fnAnnotatedCard

/-- THE SECOND FORM's CARD OF 'laws.FnExactAnnotate'. -/
def fnExactAnnotateUptoCard : Claim7 := { stood := { row := fnExactAnnotateUptoRow, standIns := [], harness := (true, "b67c3bb8c526a4f2cf5d2a4f896295a51bbf71571cb4bf073275c5b85ecce799"), looks := false }, kinds := [], alts := [], laidByText := true, laidKinds := [.data, .data, .data, .data, .pinned], laidTests := true, laidLooks := .later }
def FnExactAnnotateUptoCardSaid : Prop := Claim7.holds Tryz.pinned (.plain (OpenSpec.upto fnExactAnnotateSpec)) fnExactAnnotateUptoCard

/-- THE SECOND FORM's CARD OF 'laws.FnAnnotated'. -/
def fnAnnotatedUptoCard : Claim7 := { stood := { row := fnAnnotatedUptoRow, standIns := [], harness := (true, "b67c3bb8c526a4f2cf5d2a4f896295a51bbf71571cb4bf073275c5b85ecce799"), looks := false }, kinds := [], alts := [], laidByText := true, laidKinds := [.data, .data, .data, .data, .pinned], laidTests := true, laidLooks := .later }
def FnAnnotatedUptoCardSaid : Prop := Claim7.holds Tryz.pinned (.plain (OpenSpec.upto fnAnnotatedSpec)) fnAnnotatedUptoCard
end Rows
end Go.Proofs.YtdhkhapbldkkdaaGreatDoor
