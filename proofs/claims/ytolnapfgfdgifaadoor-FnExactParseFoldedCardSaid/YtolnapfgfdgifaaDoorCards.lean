/-
  DERIVED. GIVEN WITH THE SEED: THE CARDS: each row of YtolnapfgfdgifaaDoorRows.lean that lists a variable, with what it lists TIED to the program's text (the seventh form; the later family's looks); each row that meets fmt, with fmt's text TOLD by the authors' own Lean function (tested against real Go, not proved from fmt's source: count such statements apart). THE CARD IS WHAT COUNTS. Prove the row's statement (the work); the ties are given (YtolnapfgfdgifaaDoorTie.lean); close each card by the builder's one call (the guide's Derived/Test/ToyasCard.lean, 'card_holds'). Laid BY PROGRAM, IN A SANDBOX (cutbox-door.mjs). By AI agents, Wed Nov 11 2026. No macro, syntax, notation, axiom, sorry.
-/
import Derived.Test.YtolnapfgfdgifaaDoorRows
import GoSem.ClaimSeven
namespace Go.Proofs.YtolnapfgfdgifaaDoor
namespace Rows

/-- THE TIED CARD OF 'laws.FnExactFormatFolded'. -/
def fnExactFormatFoldedCard : Claim7 := { stood := { row := fnExactFormatFoldedRow, standIns := [], harness := (true, "46dd4d481d51c06fa7325fde357beb5821153cf0c278eb13f0d9516b35c492d5"), looks := false }, kinds := [], alts := [], laidByText := true, laidKinds := [.data, .data, .data], laidTests := true, laidLooks := .later }
def FnExactFormatFoldedCardSaid : Prop := Claim7.holds Tryd.pinned (.plain (OpenSpec.ofChange fnExactFormatFoldedSpec)) fnExactFormatFoldedCard

/-- THE TIED CARD OF 'laws.FnExactParseFolded'. -/
def fnExactParseFoldedCard : Claim7 := { stood := { row := fnExactParseFoldedRow, standIns := [], harness := (true, "46dd4d481d51c06fa7325fde357beb5821153cf0c278eb13f0d9516b35c492d5"), looks := false }, kinds := [], alts := [], laidByText := true, laidKinds := [.data, .data, .data, .data, .pinned], laidTests := true, laidLooks := .later }
def FnExactParseFoldedCardSaid : Prop := Claim7.holds Tryd.pinned (.plain (OpenSpec.ofChange fnExactParseFoldedSpec)) fnExactParseFoldedCard

/-- THE SECOND FORM's CARD OF 'laws.FnExactFormatFolded'. -/
def fnExactFormatFoldedUptoCard : Claim7 := { stood := { row := fnExactFormatFoldedUptoRow, standIns := [], harness := (true, "46dd4d481d51c06fa7325fde357beb5821153cf0c278eb13f0d9516b35c492d5"), looks := false }, kinds := [], alts := [], laidByText := true, laidKinds := [.data, .data, .data], laidTests := true, laidLooks := .later }
def FnExactFormatFoldedUptoCardSaid : Prop := Claim7.holds Tryd.pinned (.plain (OpenSpec.upto fnExactFormatFoldedSpec)) fnExactFormatFoldedUptoCard

/-- THE SECOND FORM's CARD OF 'laws.FnExactParseFolded'. -/
def fnExactParseFoldedUptoCard : Claim7 := { stood := { row := fnExactParseFoldedUptoRow, standIns := [], harness := (true, "46dd4d481d51c06fa7325fde357beb5821153cf0c278eb13f0d9516b35c492d5"), looks := false }, kinds := [], alts := [], laidByText := true, laidKinds := [.data, .data, .data, .data, .pinned], laidTests := true, laidLooks := .later }
def FnExactParseFoldedUptoCardSaid : Prop := Claim7.holds Tryd.pinned (.plain (OpenSpec.upto fnExactParseFoldedSpec)) fnExactParseFoldedUptoCard
end Rows
end Go.Proofs.YtolnapfgfdgifaaDoor
