/-
  DERIVED. GIVEN WITH THE SEED: THE CARDS: each row of YtfgdaioblgfipaaDoorRows.lean that lists a variable, with what it lists TIED to the program's text (the seventh form; the later family's looks); each row that meets fmt, with fmt's text TOLD by the authors' own Lean function (tested against real Go, not proved from fmt's source: count such statements apart). THE CARD IS WHAT COUNTS. Prove the row's statement (the work); the ties are given (YtfgdaioblgfipaaDoorTie.lean); close each card by the builder's one call (the guide's Derived/Test/ToyasCard.lean, 'card_holds'). Laid BY PROGRAM, IN A SANDBOX (cutbox-door.mjs). By AI agents, Wed Nov 11 2026. No macro, syntax, notation, axiom, sorry.
-/
import Derived.Test.YtfgdaioblgfipaaDoorRows
import GoSem.ClaimSeven
namespace Go.Proofs.YtfgdaioblgfipaaDoor
namespace Rows

/-- THE TIED CARD OF 'laws.FnUpdateOk'. -/
def fnUpdateOkCard : Claim7 := { stood := { row := fnUpdateOkRow, standIns := [], harness := (true, "0725604e53844b0c7481a3f6fab860b102f57ad35b4aae88798bd782110e6eed"), looks := true }, kinds := [], alts := [], laidByText := true, laidKinds := [.data, .data, .data], laidTests := true, laidLooks := .later }
def FnUpdateOkCardSaid : Prop := Claim7.holds Tryd.pinned (.plain (OpenSpec.ofChange fnUpdateOkSpec)) fnUpdateOkCard

/-- THE TIED CARD OF 'laws.FnTreeSize'. -/
def fnTreeSizeCard : Claim7 := { stood := { row := fnTreeSizeRow, standIns := [], harness := (true, "0725604e53844b0c7481a3f6fab860b102f57ad35b4aae88798bd782110e6eed"), looks := true }, kinds := [], alts := [], laidByText := true, laidKinds := [.data, .data, .data, .sentinel, .sentinel], laidTests := true, laidLooks := .later }
def FnTreeSizeCardSaid : Prop := Claim7.holds Tryd.pinned (.plain (OpenSpec.ofChange fnTreeSizeSpec)) fnTreeSizeCard

/-- THE TIED CARD OF 'laws.FnTextOf'. -/
def fnTextOfCard : Claim7 := { stood := { row := fnTextOfRow, standIns := [], harness := (true, "0725604e53844b0c7481a3f6fab860b102f57ad35b4aae88798bd782110e6eed"), looks := true }, kinds := [], alts := [], laidByText := true, laidKinds := [.data, .data, .data, .sentinel, .sentinel], laidTests := true, laidLooks := .later }
def FnTextOfCardSaid : Prop := Claim7.holds Tryd.pinned (.plain (OpenSpec.ofChange fnTextOfSpec)) fnTextOfCard

/-- THE TIED CARD OF 'laws.FnExactFormValue'. -/
def fnExactFormValueCard : Claim7 := { stood := { row := fnExactFormValueRow, standIns := [], harness := (true, "0725604e53844b0c7481a3f6fab860b102f57ad35b4aae88798bd782110e6eed"), looks := true }, kinds := [], alts := [], laidByText := true, laidKinds := [.data, .data, .data], laidTests := true, laidLooks := .later }
def FnExactFormValueCardSaid : Prop := Claim7.holds Tryd.pinned (.plain (OpenSpec.ofChange fnExactFormValueSpec)) fnExactFormValueCard

/-- THE TIED CARD OF 'laws.FnUpdateHas'. -/
def fnUpdateHasCard : Claim7 := { stood := { row := fnUpdateHasRow, standIns := [], harness := (true, "0725604e53844b0c7481a3f6fab860b102f57ad35b4aae88798bd782110e6eed"), looks := true }, kinds := [], alts := [], laidByText := true, laidKinds := [.data, .data, .data], laidTests := true, laidLooks := .later }
def FnUpdateHasCardSaid : Prop := Claim7.holds Tryd.pinned (.plain (OpenSpec.ofChange fnUpdateHasSpec)) fnUpdateHasCard

/-- THE TIED CARD OF 'laws.FnTreeText'. -/
def fnTreeTextCard : Claim7 := { stood := { row := fnTreeTextRow, standIns := [], harness := (true, "0725604e53844b0c7481a3f6fab860b102f57ad35b4aae88798bd782110e6eed"), looks := true }, kinds := [], alts := [], laidByText := true, laidKinds := [.data, .data, .data, .sentinel, .sentinel], laidTests := true, laidLooks := .later }
def FnTreeTextCardSaid : Prop := Claim7.holds Tryd.pinned (.plain (OpenSpec.ofChange fnTreeTextSpec)) fnTreeTextCard

/-- THE SECOND FORM's CARD OF 'laws.FnUpdateOk'. -/
def fnUpdateOkUptoCard : Claim7 := { stood := { row := fnUpdateOkUptoRow, standIns := [], harness := (true, "0725604e53844b0c7481a3f6fab860b102f57ad35b4aae88798bd782110e6eed"), looks := true }, kinds := [], alts := [], laidByText := true, laidKinds := [.data, .data, .data], laidTests := true, laidLooks := .later }
def FnUpdateOkUptoCardSaid : Prop := Claim7.holds Tryd.pinned (.plain (OpenSpec.upto fnUpdateOkSpec)) fnUpdateOkUptoCard

/-- THE SECOND FORM's CARD OF 'laws.FnTreeSize'. -/
def fnTreeSizeUptoCard : Claim7 := { stood := { row := fnTreeSizeUptoRow, standIns := [], harness := (true, "0725604e53844b0c7481a3f6fab860b102f57ad35b4aae88798bd782110e6eed"), looks := true }, kinds := [], alts := [], laidByText := true, laidKinds := [.data, .data, .data, .sentinel, .sentinel], laidTests := true, laidLooks := .later }
def FnTreeSizeUptoCardSaid : Prop := Claim7.holds Tryd.pinned (.plain (OpenSpec.upto fnTreeSizeSpec)) fnTreeSizeUptoCard

/-- THE SECOND FORM's CARD OF 'laws.FnTextOf'. -/
def fnTextOfUptoCard : Claim7 := { stood := { row := fnTextOfUptoRow, standIns := [], harness := (true, "0725604e53844b0c7481a3f6fab860b102f57ad35b4aae88798bd782110e6eed"), looks := true }, kinds := [], alts := [], laidByText := true, laidKinds := [.data, .data, .data, .sentinel, .sentinel], laidTests := true, laidLooks := .later }
def FnTextOfUptoCardSaid : Prop := Claim7.holds Tryd.pinned (.plain (OpenSpec.upto fnTextOfSpec)) fnTextOfUptoCard

/-- THE SECOND FORM's CARD OF 'laws.FnExactFormValue'. -/
def fnExactFormValueUptoCard : Claim7 := { stood := { row := fnExactFormValueUptoRow, standIns := [], harness := (true, "0725604e53844b0c7481a3f6fab860b102f57ad35b4aae88798bd782110e6eed"), looks := true }, kinds := [], alts := [], laidByText := true, laidKinds := [.data, .data, .data], laidTests := true, laidLooks := .later }
def FnExactFormValueUptoCardSaid : Prop := Claim7.holds Tryd.pinned (.plain (OpenSpec.upto fnExactFormValueSpec)) fnExactFormValueUptoCard

/-- THE SECOND FORM's CARD OF 'laws.FnUpdateHas'. -/
def fnUpdateHasUptoCard : Claim7 := { stood := { row := fnUpdateHasUptoRow, standIns := [], harness := (true, "0725604e53844b0c7481a3f6fab860b102f57ad35b4aae88798bd782110e6eed"), looks := true }, kinds := [], alts := [], laidByText := true, laidKinds := [.data, .data, .data], laidTests := true, laidLooks := .later }
def FnUpdateHasUptoCardSaid : Prop := Claim7.holds Tryd.pinned (.plain (OpenSpec.upto fnUpdateHasSpec)) fnUpdateHasUptoCard

/-- THE SECOND FORM's CARD OF 'laws.FnTreeText'. -/
def fnTreeTextUptoCard : Claim7 := { stood := { row := fnTreeTextUptoRow, standIns := [], harness := (true, "0725604e53844b0c7481a3f6fab860b102f57ad35b4aae88798bd782110e6eed"), looks := true }, kinds := [], alts := [], laidByText := true, laidKinds := [.data, .data, .data, .sentinel, .sentinel], laidTests := true, laidLooks := .later }
def FnTreeTextUptoCardSaid : Prop := Claim7.holds Tryd.pinned (.plain (OpenSpec.upto fnTreeTextSpec)) fnTreeTextUptoCard
end Rows
end Go.Proofs.YtfgdaioblgfipaaDoor
