/-
  DERIVED. GIVEN WITH THE SEED: THE CARDS: each row of YtolnapfgfdgifaaGreatDoorRows.lean that lists a variable, with what it lists TIED to the program's text (the seventh form; the later family's looks); each row that meets fmt, with fmt's text TOLD by the authors' own Lean function (tested against real Go, not proved from fmt's source: count such statements apart). THE CARD IS WHAT COUNTS. Prove the row's statement (the work); the ties are given (YtolnapfgfdgifaaGreatDoorTie.lean); close each card by the builder's one call (the guide's Derived/Test/ToyasCard.lean, 'card_holds'). Laid BY PROGRAM, IN A SANDBOX (cutbox-door.mjs). By AI agents, Wed Nov 11 2026. No macro, syntax, notation, axiom, sorry.
-/
import Derived.Test.YtolnapfgfdgifaaGreatDoorRows
import GoSem.ClaimSeven
namespace Go.Proofs.YtolnapfgfdgifaaGreatDoor
namespace Rows

/-- THE TIED CARD OF 'laws.FnExactLineCounts'. -/
def fnExactLineCountsCard : Claim7 := { stood := { row := fnExactLineCountsRow, standIns := [], harness := (true, "e051ed575e27e377384fd056d4b47fc5e8c13197da5475ad3af6eba73ad935a4"), looks := false }, kinds := [], alts := [], laidByText := true, laidKinds := [.data, .data, .data, .data, .pinned], laidTests := true, laidLooks := .later }
def FnExactLineCountsCardSaid : Prop := Claim7.holds Tryz.pinned (.plain (OpenSpec.ofChange fnExactLineCountsSpec)) fnExactLineCountsCard

/-- THE TIED CARD OF 'laws.FnExactShareOf'. -/
def fnExactShareOfCard : Claim7 := { stood := { row := fnExactShareOfRow, standIns := [], harness := (true, "e051ed575e27e377384fd056d4b47fc5e8c13197da5475ad3af6eba73ad935a4"), looks := false }, kinds := [], alts := [], laidByText := true, laidKinds := [.data, .data, .data, .data, .pinned], laidTests := true, laidLooks := .later }
def FnExactShareOfCardSaid : Prop := Claim7.holds Tryz.pinned (.plain (OpenSpec.ofChange fnExactShareOfSpec)) fnExactShareOfCard

/-- THE TIED CARD OF 'laws.FnExactCalleesOf'. -/
def fnExactCalleesOfCard : Claim7 := { stood := { row := fnExactCalleesOfRow, standIns := [], harness := (true, "e051ed575e27e377384fd056d4b47fc5e8c13197da5475ad3af6eba73ad935a4"), looks := false }, kinds := [], alts := [], laidByText := true, laidKinds := [.data, .data, .data, .data, .pinned], laidTests := true, laidLooks := .later }
def FnExactCalleesOfCardSaid : Prop := Claim7.holds Tryz.pinned (.plain (OpenSpec.ofChange fnExactCalleesOfSpec)) fnExactCalleesOfCard

/-- THE TIED CARD OF 'laws.FnExactCallersOf'. -/
def fnExactCallersOfCard : Claim7 := { stood := { row := fnExactCallersOfRow, standIns := [], harness := (true, "e051ed575e27e377384fd056d4b47fc5e8c13197da5475ad3af6eba73ad935a4"), looks := false }, kinds := [], alts := [], laidByText := true, laidKinds := [.data, .data, .data, .data, .pinned], laidTests := true, laidLooks := .later }
def FnExactCallersOfCardSaid : Prop := Claim7.holds Tryz.pinned (.plain (OpenSpec.ofChange fnExactCallersOfSpec)) fnExactCallersOfCard

/-- THE TIED CARD OF 'laws.FnExactTableOf'. -/
def fnExactTableOfCard : Claim7 := { stood := { row := fnExactTableOfRow, standIns := [], harness := (true, "e051ed575e27e377384fd056d4b47fc5e8c13197da5475ad3af6eba73ad935a4"), looks := false }, kinds := [], alts := [], laidByText := true, laidKinds := [.data, .data, .data, .data, .pinned], laidTests := true, laidLooks := .later }
def FnExactTableOfCardSaid : Prop := Claim7.holds Tryz.pinned (.plain (OpenSpec.ofChange fnExactTableOfSpec)) fnExactTableOfCard

/-- THE TIED CARD OF 'laws.FnExactTopFrames'. -/
def fnExactTopFramesCard : Claim7 := { stood := { row := fnExactTopFramesRow, standIns := [], harness := (true, "e051ed575e27e377384fd056d4b47fc5e8c13197da5475ad3af6eba73ad935a4"), looks := false }, kinds := [], alts := [], laidByText := true, laidKinds := [.data, .data, .data, .data, .pinned], laidTests := true, laidLooks := .later }
def FnExactTopFramesCardSaid : Prop := Claim7.holds Tryz.pinned (.plain (OpenSpec.ofChange fnExactTopFramesSpec)) fnExactTopFramesCard

/-- THE TIED CARD OF 'laws.FnExactTicksOf'. -/
def fnExactTicksOfCard : Claim7 := { stood := { row := fnExactTicksOfRow, standIns := [], harness := (true, "e051ed575e27e377384fd056d4b47fc5e8c13197da5475ad3af6eba73ad935a4"), looks := false }, kinds := [], alts := [], laidByText := true, laidKinds := [.data, .data, .data, .data, .pinned], laidTests := true, laidLooks := .later }
def FnExactTicksOfCardSaid : Prop := Claim7.holds Tryz.pinned (.plain (OpenSpec.ofChange fnExactTicksOfSpec)) fnExactTicksOfCard

/-- THE TIED CARD OF 'laws.FnExactFocusOn'. -/
def fnExactFocusOnCard : Claim7 := { stood := { row := fnExactFocusOnRow, standIns := [], harness := (true, "e051ed575e27e377384fd056d4b47fc5e8c13197da5475ad3af6eba73ad935a4"), looks := false }, kinds := [], alts := [], laidByText := true, laidKinds := [.data, .data, .data, .data, .pinned], laidTests := true, laidLooks := .later }
def FnExactFocusOnCardSaid : Prop := Claim7.holds Tryz.pinned (.plain (OpenSpec.ofChange fnExactFocusOnSpec)) fnExactFocusOnCard

/-- THE TIED CARD OF 'laws.FnExactIgnore'. -/
def fnExactIgnoreCard : Claim7 := { stood := { row := fnExactIgnoreRow, standIns := [], harness := (true, "e051ed575e27e377384fd056d4b47fc5e8c13197da5475ad3af6eba73ad935a4"), looks := false }, kinds := [], alts := [], laidByText := true, laidKinds := [.data, .data, .data, .data, .pinned], laidTests := true, laidLooks := .later }
def FnExactIgnoreCardSaid : Prop := Claim7.holds Tryz.pinned (.plain (OpenSpec.ofChange fnExactIgnoreSpec)) fnExactIgnoreCard

/-- THE SECOND FORM's CARD OF 'laws.FnExactLineCounts'. -/
def fnExactLineCountsUptoCard : Claim7 := { stood := { row := fnExactLineCountsUptoRow, standIns := [], harness := (true, "e051ed575e27e377384fd056d4b47fc5e8c13197da5475ad3af6eba73ad935a4"), looks := false }, kinds := [], alts := [], laidByText := true, laidKinds := [.data, .data, .data, .data, .pinned], laidTests := true, laidLooks := .later }
def FnExactLineCountsUptoCardSaid : Prop := Claim7.holds Tryz.pinned (.plain (OpenSpec.upto fnExactLineCountsSpec)) fnExactLineCountsUptoCard

/-- THE SECOND FORM's CARD OF 'laws.FnExactShareOf'. -/
def fnExactShareOfUptoCard : Claim7 := { stood := { row := fnExactShareOfUptoRow, standIns := [], harness := (true, "e051ed575e27e377384fd056d4b47fc5e8c13197da5475ad3af6eba73ad935a4"), looks := false }, kinds := [], alts := [], laidByText := true, laidKinds := [.data, .data, .data, .data, .pinned], laidTests := true, laidLooks := .later }
def FnExactShareOfUptoCardSaid : Prop := Claim7.holds Tryz.pinned (.plain (OpenSpec.upto fnExactShareOfSpec)) fnExactShareOfUptoCard

/-- THE SECOND FORM's CARD OF 'laws.FnExactCalleesOf'. -/
def fnExactCalleesOfUptoCard : Claim7 := { stood := { row := fnExactCalleesOfUptoRow, standIns := [], harness := (true, "e051ed575e27e377384fd056d4b47fc5e8c13197da5475ad3af6eba73ad935a4"), looks := false }, kinds := [], alts := [], laidByText := true, laidKinds := [.data, .data, .data, .data, .pinned], laidTests := true, laidLooks := .later }
def FnExactCalleesOfUptoCardSaid : Prop := Claim7.holds Tryz.pinned (.plain (OpenSpec.upto fnExactCalleesOfSpec)) fnExactCalleesOfUptoCard

/-- THE SECOND FORM's CARD OF 'laws.FnExactCallersOf'. -/
def fnExactCallersOfUptoCard : Claim7 := { stood := { row := fnExactCallersOfUptoRow, standIns := [], harness := (true, "e051ed575e27e377384fd056d4b47fc5e8c13197da5475ad3af6eba73ad935a4"), looks := false }, kinds := [], alts := [], laidByText := true, laidKinds := [.data, .data, .data, .data, .pinned], laidTests := true, laidLooks := .later }
def FnExactCallersOfUptoCardSaid : Prop := Claim7.holds Tryz.pinned (.plain (OpenSpec.upto fnExactCallersOfSpec)) fnExactCallersOfUptoCard

/-- THE SECOND FORM's CARD OF 'laws.FnExactTableOf'. -/
def fnExactTableOfUptoCard : Claim7 := { stood := { row := fnExactTableOfUptoRow, standIns := [], harness := (true, "e051ed575e27e377384fd056d4b47fc5e8c13197da5475ad3af6eba73ad935a4"), looks := false }, kinds := [], alts := [], laidByText := true, laidKinds := [.data, .data, .data, .data, .pinned], laidTests := true, laidLooks := .later }
def FnExactTableOfUptoCardSaid : Prop := Claim7.holds Tryz.pinned (.plain (OpenSpec.upto fnExactTableOfSpec)) fnExactTableOfUptoCard

/-- THE SECOND FORM's CARD OF 'laws.FnExactTopFrames'. -/
def fnExactTopFramesUptoCard : Claim7 := { stood := { row := fnExactTopFramesUptoRow, standIns := [], harness := (true, "e051ed575e27e377384fd056d4b47fc5e8c13197da5475ad3af6eba73ad935a4"), looks := false }, kinds := [], alts := [], laidByText := true, laidKinds := [.data, .data, .data, .data, .pinned], laidTests := true, laidLooks := .later }
def FnExactTopFramesUptoCardSaid : Prop := Claim7.holds Tryz.pinned (.plain (OpenSpec.upto fnExactTopFramesSpec)) fnExactTopFramesUptoCard

/-- THE SECOND FORM's CARD OF 'laws.FnExactTicksOf'. -/
def fnExactTicksOfUptoCard : Claim7 := { stood := { row := fnExactTicksOfUptoRow, standIns := [], harness := (true, "e051ed575e27e377384fd056d4b47fc5e8c13197da5475ad3af6eba73ad935a4"), looks := false }, kinds := [], alts := [], laidByText := true, laidKinds := [.data, .data, .data, .data, .pinned], laidTests := true, laidLooks := .later }
def FnExactTicksOfUptoCardSaid : Prop := Claim7.holds Tryz.pinned (.plain (OpenSpec.upto fnExactTicksOfSpec)) fnExactTicksOfUptoCard

/-- THE SECOND FORM's CARD OF 'laws.FnExactFocusOn'. -/
def fnExactFocusOnUptoCard : Claim7 := { stood := { row := fnExactFocusOnUptoRow, standIns := [], harness := (true, "e051ed575e27e377384fd056d4b47fc5e8c13197da5475ad3af6eba73ad935a4"), looks := false }, kinds := [], alts := [], laidByText := true, laidKinds := [.data, .data, .data, .data, .pinned], laidTests := true, laidLooks := .later }
def FnExactFocusOnUptoCardSaid : Prop := Claim7.holds Tryz.pinned (.plain (OpenSpec.upto fnExactFocusOnSpec)) fnExactFocusOnUptoCard

/-- THE SECOND FORM's CARD OF 'laws.FnExactIgnore'. -/
def fnExactIgnoreUptoCard : Claim7 := { stood := { row := fnExactIgnoreUptoRow, standIns := [], harness := (true, "e051ed575e27e377384fd056d4b47fc5e8c13197da5475ad3af6eba73ad935a4"), looks := false }, kinds := [], alts := [], laidByText := true, laidKinds := [.data, .data, .data, .data, .pinned], laidTests := true, laidLooks := .later }
def FnExactIgnoreUptoCardSaid : Prop := Claim7.holds Tryz.pinned (.plain (OpenSpec.upto fnExactIgnoreSpec)) fnExactIgnoreUptoCard
end Rows
end Go.Proofs.YtolnapfgfdgifaaGreatDoor
