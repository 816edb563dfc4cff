/-
  DERIVED. GIVEN WITH THE SEED: THE CARDS: each row of YtklcphbgaeiegaaGreatDoorRows.lean that lists a variable, with what it lists TIED to the program's text (the seventh form; the later family's looks); each row that meets fmt, with fmt's text TOLD by the authors' own Lean function (tested against real Go, not proved from fmt's source: count such statements apart). THE CARD IS WHAT COUNTS. Prove the row's statement (the work); the ties are given (YtklcphbgaeiegaaGreatDoorTie.lean); close each card by the builder's one call (the guide's Derived/Test/ToyasCard.lean, 'card_holds'). Laid BY PROGRAM, IN A SANDBOX (cutbox-door.mjs). By AI agents, Wed Nov 11 2026. No macro, syntax, notation, axiom, sorry.
-/
import Derived.Test.YtklcphbgaeiegaaGreatDoorRows
import GoSem.ClaimSeven
namespace Go.Proofs.YtklcphbgaeiegaaGreatDoor
namespace Rows

/-- THE TIED CARD OF 'laws.FnTables'. -/
def fnTablesCard : Claim7 := { stood := { row := fnTablesRow, standIns := [], harness := (true, "1f119ca95ad1356d73ded9e6a6a54c81de4d5326489d410c8718cd3990e859ca"), looks := false }, kinds := [], alts := [], laidByText := true, laidKinds := [.data, .data, .data, .data, .pinned], laidTests := true, laidLooks := .later }
def FnTablesCardSaid : Prop := Claim7.holds Tryz.pinned (.plain (OpenSpec.ofChange fnTablesSpec)) fnTablesCard

/-- THE TIED CARD OF 'laws.FnWeights'. -/
def fnWeightsCard : Claim7 := { stood := { row := fnWeightsRow, standIns := [], harness := (true, "1f119ca95ad1356d73ded9e6a6a54c81de4d5326489d410c8718cd3990e859ca"), looks := false }, kinds := [], alts := [], laidByText := true, laidKinds := [.data, .data, .data, .data, .pinned], laidTests := true, laidLooks := .later }
def FnWeightsCardSaid : Prop := Claim7.holds Tryz.pinned (.plain (OpenSpec.ofChange fnWeightsSpec)) fnWeightsCard

/-- THE TIED CARD OF 'laws.FnFoldedText'. -/
def fnFoldedTextCard : Claim7 := { stood := { row := fnFoldedTextRow, standIns := [], harness := (true, "1f119ca95ad1356d73ded9e6a6a54c81de4d5326489d410c8718cd3990e859ca"), looks := false }, kinds := [], alts := [], laidByText := true, laidKinds := [.data, .data, .data, .data, .pinned], laidTests := true, laidLooks := .later }
def FnFoldedTextCardSaid : Prop := Claim7.holds Tryz.pinned (.plain (OpenSpec.ofChange fnFoldedTextSpec)) fnFoldedTextCard

/-- THE TIED CARD OF 'laws.FnCallersCallees'. -/
def fnCallersCalleesCard : Claim7 := { stood := { row := fnCallersCalleesRow, standIns := [], harness := (true, "1f119ca95ad1356d73ded9e6a6a54c81de4d5326489d410c8718cd3990e859ca"), looks := false }, kinds := [], alts := [], laidByText := true, laidKinds := [.data, .data, .data, .data, .pinned], laidTests := true, laidLooks := .later }
def FnCallersCalleesCardSaid : Prop := Claim7.holds Tryz.pinned (.plain (OpenSpec.ofChange fnCallersCalleesSpec)) fnCallersCalleesCard

/-- THE TIED CARD OF 'laws.FnFocused'. -/
def fnFocusedCard : Claim7 := { stood := { row := fnFocusedRow, standIns := [], harness := (true, "1f119ca95ad1356d73ded9e6a6a54c81de4d5326489d410c8718cd3990e859ca"), looks := false }, kinds := [], alts := [], laidByText := true, laidKinds := [.data, .data, .data, .data, .pinned], laidTests := true, laidLooks := .later }
def FnFocusedCardSaid : Prop := Claim7.holds Tryz.pinned (.plain (OpenSpec.ofChange fnFocusedSpec)) fnFocusedCard

/-- THE TIED CARD OF 'laws.FnHidden'. -/
def fnHiddenCard : Claim7 := { stood := { row := fnHiddenRow, standIns := [], harness := (true, "1f119ca95ad1356d73ded9e6a6a54c81de4d5326489d410c8718cd3990e859ca"), looks := false }, kinds := [], alts := [], laidByText := true, laidKinds := [.data, .data, .data, .data, .pinned], laidTests := true, laidLooks := .later }
def FnHiddenCardSaid : Prop := Claim7.holds Tryz.pinned (.plain (OpenSpec.ofChange fnHiddenSpec)) fnHiddenCard

/-- THE TIED CARD OF 'laws.FnExactHideName'. -/
def fnExactHideNameCard : Claim7 := { stood := { row := fnExactHideNameRow, standIns := [], harness := (true, "1f119ca95ad1356d73ded9e6a6a54c81de4d5326489d410c8718cd3990e859ca"), looks := false }, kinds := [], alts := [], laidByText := true, laidKinds := [.data, .data, .data, .data, .pinned], laidTests := true, laidLooks := .later }
def FnExactHideNameCardSaid : Prop := Claim7.holds Tryz.pinned (.plain (OpenSpec.ofChange fnExactHideNameSpec)) fnExactHideNameCard

/-- THE TIED CARD OF 'laws.FnExactFromOn'. -/
def fnExactFromOnCard : Claim7 := { stood := { row := fnExactFromOnRow, standIns := [], harness := (true, "1f119ca95ad1356d73ded9e6a6a54c81de4d5326489d410c8718cd3990e859ca"), looks := false }, kinds := [], alts := [], laidByText := true, laidKinds := [.data, .data, .data, .data, .pinned], laidTests := true, laidLooks := .later }
def FnExactFromOnCardSaid : Prop := Claim7.holds Tryz.pinned (.plain (OpenSpec.ofChange fnExactFromOnSpec)) fnExactFromOnCard

/-- THE TIED CARD OF 'laws.FnExactApplyDiff'. -/
def fnExactApplyDiffCard : Claim7 := { stood := { row := fnExactApplyDiffRow, standIns := [], harness := (true, "1f119ca95ad1356d73ded9e6a6a54c81de4d5326489d410c8718cd3990e859ca"), looks := false }, kinds := [], alts := [], laidByText := true, laidKinds := [.data, .data, .data, .data, .pinned], laidTests := true, laidLooks := .later }
def FnExactApplyDiffCardSaid : Prop := Claim7.holds Tryz.pinned (.plain (OpenSpec.ofChange fnExactApplyDiffSpec)) fnExactApplyDiffCard

/-- THE SECOND FORM's CARD OF 'laws.FnTables'. -/
def fnTablesUptoCard : Claim7 := { stood := { row := fnTablesUptoRow, standIns := [], harness := (true, "1f119ca95ad1356d73ded9e6a6a54c81de4d5326489d410c8718cd3990e859ca"), looks := false }, kinds := [], alts := [], laidByText := true, laidKinds := [.data, .data, .data, .data, .pinned], laidTests := true, laidLooks := .later }
def FnTablesUptoCardSaid : Prop := Claim7.holds Tryz.pinned (.plain (OpenSpec.upto fnTablesSpec)) fnTablesUptoCard

/-- THE SECOND FORM's CARD OF 'laws.FnWeights'. -/
def fnWeightsUptoCard : Claim7 := { stood := { row := fnWeightsUptoRow, standIns := [], harness := (true, "1f119ca95ad1356d73ded9e6a6a54c81de4d5326489d410c8718cd3990e859ca"), looks := false }, kinds := [], alts := [], laidByText := true, laidKinds := [.data, .data, .data, .data, .pinned], laidTests := true, laidLooks := .later }
def FnWeightsUptoCardSaid : Prop := Claim7.holds Tryz.pinned (.plain (OpenSpec.upto fnWeightsSpec)) fnWeightsUptoCard

/-- THE SECOND FORM's CARD OF 'laws.FnFoldedText'. -/
def fnFoldedTextUptoCard : Claim7 := { stood := { row := fnFoldedTextUptoRow, standIns := [], harness := (true, "1f119ca95ad1356d73ded9e6a6a54c81de4d5326489d410c8718cd3990e859ca"), looks := false }, kinds := [], alts := [], laidByText := true, laidKinds := [.data, .data, .data, .data, .pinned], laidTests := true, laidLooks := .later }
def FnFoldedTextUptoCardSaid : Prop := Claim7.holds Tryz.pinned (.plain (OpenSpec.upto fnFoldedTextSpec)) fnFoldedTextUptoCard

/-- THE SECOND FORM's CARD OF 'laws.FnCallersCallees'. -/
def fnCallersCalleesUptoCard : Claim7 := { stood := { row := fnCallersCalleesUptoRow, standIns := [], harness := (true, "1f119ca95ad1356d73ded9e6a6a54c81de4d5326489d410c8718cd3990e859ca"), looks := false }, kinds := [], alts := [], laidByText := true, laidKinds := [.data, .data, .data, .data, .pinned], laidTests := true, laidLooks := .later }
def FnCallersCalleesUptoCardSaid : Prop := Claim7.holds Tryz.pinned (.plain (OpenSpec.upto fnCallersCalleesSpec)) fnCallersCalleesUptoCard

/-- THE SECOND FORM's CARD OF 'laws.FnFocused'. -/
def fnFocusedUptoCard : Claim7 := { stood := { row := fnFocusedUptoRow, standIns := [], harness := (true, "1f119ca95ad1356d73ded9e6a6a54c81de4d5326489d410c8718cd3990e859ca"), looks := false }, kinds := [], alts := [], laidByText := true, laidKinds := [.data, .data, .data, .data, .pinned], laidTests := true, laidLooks := .later }
def FnFocusedUptoCardSaid : Prop := Claim7.holds Tryz.pinned (.plain (OpenSpec.upto fnFocusedSpec)) fnFocusedUptoCard

/-- THE SECOND FORM's CARD OF 'laws.FnHidden'. -/
def fnHiddenUptoCard : Claim7 := { stood := { row := fnHiddenUptoRow, standIns := [], harness := (true, "1f119ca95ad1356d73ded9e6a6a54c81de4d5326489d410c8718cd3990e859ca"), looks := false }, kinds := [], alts := [], laidByText := true, laidKinds := [.data, .data, .data, .data, .pinned], laidTests := true, laidLooks := .later }
def FnHiddenUptoCardSaid : Prop := Claim7.holds Tryz.pinned (.plain (OpenSpec.upto fnHiddenSpec)) fnHiddenUptoCard

/-- THE SECOND FORM's CARD OF 'laws.FnExactHideName'. -/
def fnExactHideNameUptoCard : Claim7 := { stood := { row := fnExactHideNameUptoRow, standIns := [], harness := (true, "1f119ca95ad1356d73ded9e6a6a54c81de4d5326489d410c8718cd3990e859ca"), looks := false }, kinds := [], alts := [], laidByText := true, laidKinds := [.data, .data, .data, .data, .pinned], laidTests := true, laidLooks := .later }
def FnExactHideNameUptoCardSaid : Prop := Claim7.holds Tryz.pinned (.plain (OpenSpec.upto fnExactHideNameSpec)) fnExactHideNameUptoCard

/-- THE SECOND FORM's CARD OF 'laws.FnExactFromOn'. -/
def fnExactFromOnUptoCard : Claim7 := { stood := { row := fnExactFromOnUptoRow, standIns := [], harness := (true, "1f119ca95ad1356d73ded9e6a6a54c81de4d5326489d410c8718cd3990e859ca"), looks := false }, kinds := [], alts := [], laidByText := true, laidKinds := [.data, .data, .data, .data, .pinned], laidTests := true, laidLooks := .later }
def FnExactFromOnUptoCardSaid : Prop := Claim7.holds Tryz.pinned (.plain (OpenSpec.upto fnExactFromOnSpec)) fnExactFromOnUptoCard

/-- THE SECOND FORM's CARD OF 'laws.FnExactApplyDiff'. -/
def fnExactApplyDiffUptoCard : Claim7 := { stood := { row := fnExactApplyDiffUptoRow, standIns := [], harness := (true, "1f119ca95ad1356d73ded9e6a6a54c81de4d5326489d410c8718cd3990e859ca"), looks := false }, kinds := [], alts := [], laidByText := true, laidKinds := [.data, .data, .data, .data, .pinned], laidTests := true, laidLooks := .later }
def FnExactApplyDiffUptoCardSaid : Prop := Claim7.holds Tryz.pinned (.plain (OpenSpec.upto fnExactApplyDiffSpec)) fnExactApplyDiffUptoCard
end Rows
end Go.Proofs.YtklcphbgaeiegaaGreatDoor
