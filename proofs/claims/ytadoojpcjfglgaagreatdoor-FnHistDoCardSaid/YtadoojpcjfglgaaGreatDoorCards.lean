/-
  DERIVED. GIVEN WITH THE SEED: THE CARDS: each row of YtadoojpcjfglgaaGreatDoorRows.lean that lists a variable, with what it lists TIED to the program's text (the seventh form; the later family's looks); each row that meets fmt, with fmt's text TOLD by the authors' own Lean function (tested against real Go, not proved from fmt's source: count such statements apart). THE CARD IS WHAT COUNTS. Prove the row's statement (the work); the ties are given (YtadoojpcjfglgaaGreatDoorTie.lean); close each card by the builder's one call (the guide's Derived/Test/ToyasCard.lean, 'card_holds'). Laid BY PROGRAM, IN A SANDBOX (cutbox-door.mjs). By AI agents, Wed Nov 11 2026. No macro, syntax, notation, axiom, sorry.
-/
import Derived.Test.YtadoojpcjfglgaaGreatDoorRows
import GoSem.ClaimSeven
namespace Go.Proofs.YtadoojpcjfglgaaGreatDoor
namespace Rows

/-- THE TIED CARD OF 'laws.FnLineShow'. -/
def fnLineShowCard : Claim7 := { stood := { row := fnLineShowRow, standIns := [], harness := (true, "cacdd51334c156fb61e9d210ae81f2deb3b5a37e771067b7ef3ac0930b74451a"), looks := false }, kinds := [], alts := [], laidByText := true, laidKinds := [.data, .data, .data], laidTests := true, laidLooks := .later }
def FnLineShowCardSaid : Prop := Claim7.holds Tryz.pinned (.plain (OpenSpec.ofChange fnLineShowSpec)) fnLineShowCard

/-- THE TIED CARD OF 'laws.FnLineRest'. -/
def fnLineRestCard : Claim7 := { stood := { row := fnLineRestRow, standIns := [], harness := (true, "cacdd51334c156fb61e9d210ae81f2deb3b5a37e771067b7ef3ac0930b74451a"), looks := false }, kinds := [], alts := [], laidByText := true, laidKinds := [.data, .data, .data], laidTests := true, laidLooks := .later }
def FnLineRestCardSaid : Prop := Claim7.holds Tryz.pinned (.plain (OpenSpec.ofChange fnLineRestSpec)) fnLineRestCard

/-- THE TIED CARD OF 'laws.FnExactLineShow'. -/
def fnExactLineShowCard : Claim7 := { stood := { row := fnExactLineShowRow, standIns := [], harness := (true, "cacdd51334c156fb61e9d210ae81f2deb3b5a37e771067b7ef3ac0930b74451a"), looks := false }, kinds := [], alts := [], laidByText := true, laidKinds := [.data, .data, .data], laidTests := true, laidLooks := .later }
def FnExactLineShowCardSaid : Prop := Claim7.holds Tryz.pinned (.plain (OpenSpec.ofChange fnExactLineShowSpec)) fnExactLineShowCard

/-- THE TIED CARD OF 'laws.FnExactStoreRun'. -/
def fnExactStoreRunCard : Claim7 := { stood := { row := fnExactStoreRunRow, standIns := [], harness := (true, "cacdd51334c156fb61e9d210ae81f2deb3b5a37e771067b7ef3ac0930b74451a"), looks := false }, kinds := [], alts := [], laidByText := true, laidKinds := [.data, .data, .data], laidTests := true, laidLooks := .later }
def FnExactStoreRunCardSaid : Prop := Claim7.holds Tryz.pinned (.plain (OpenSpec.ofChange fnExactStoreRunSpec)) fnExactStoreRunCard

/-- THE TIED CARD OF 'laws.FnHistOk'. -/
def fnHistOkCard : Claim7 := { stood := { row := fnHistOkRow, standIns := [], harness := (true, "cacdd51334c156fb61e9d210ae81f2deb3b5a37e771067b7ef3ac0930b74451a"), looks := false }, kinds := [], alts := [], laidByText := true, laidKinds := [.data, .data, .data], laidTests := true, laidLooks := .later }
def FnHistOkCardSaid : Prop := Claim7.holds Tryz.pinned (.plain (OpenSpec.ofChange fnHistOkSpec)) fnHistOkCard

/-- THE TIED CARD OF 'laws.FnHistDo'. -/
def fnHistDoCard : Claim7 := { stood := { row := fnHistDoRow, standIns := [], harness := (true, "cacdd51334c156fb61e9d210ae81f2deb3b5a37e771067b7ef3ac0930b74451a"), looks := false }, kinds := [], alts := [], laidByText := true, laidKinds := [.data, .data, .data], laidTests := true, laidLooks := .later }
def FnHistDoCardSaid : Prop := Claim7.holds Tryz.pinned (.plain (OpenSpec.ofChange fnHistDoSpec)) fnHistDoCard

/-- THE SECOND FORM's CARD OF 'laws.FnLineShow'. -/
def fnLineShowUptoCard : Claim7 := { stood := { row := fnLineShowUptoRow, standIns := [], harness := (true, "cacdd51334c156fb61e9d210ae81f2deb3b5a37e771067b7ef3ac0930b74451a"), looks := false }, kinds := [], alts := [], laidByText := true, laidKinds := [.data, .data, .data], laidTests := true, laidLooks := .later }
def FnLineShowUptoCardSaid : Prop := Claim7.holds Tryz.pinned (.plain (OpenSpec.upto fnLineShowSpec)) fnLineShowUptoCard

/-- THE SECOND FORM's CARD OF 'laws.FnLineRest'. -/
def fnLineRestUptoCard : Claim7 := { stood := { row := fnLineRestUptoRow, standIns := [], harness := (true, "cacdd51334c156fb61e9d210ae81f2deb3b5a37e771067b7ef3ac0930b74451a"), looks := false }, kinds := [], alts := [], laidByText := true, laidKinds := [.data, .data, .data], laidTests := true, laidLooks := .later }
def FnLineRestUptoCardSaid : Prop := Claim7.holds Tryz.pinned (.plain (OpenSpec.upto fnLineRestSpec)) fnLineRestUptoCard

/-- THE SECOND FORM's CARD OF 'laws.FnExactLineShow'. -/
def fnExactLineShowUptoCard : Claim7 := { stood := { row := fnExactLineShowUptoRow, standIns := [], harness := (true, "cacdd51334c156fb61e9d210ae81f2deb3b5a37e771067b7ef3ac0930b74451a"), looks := false }, kinds := [], alts := [], laidByText := true, laidKinds := [.data, .data, .data], laidTests := true, laidLooks := .later }
def FnExactLineShowUptoCardSaid : Prop := Claim7.holds Tryz.pinned (.plain (OpenSpec.upto fnExactLineShowSpec)) fnExactLineShowUptoCard

/-- THE SECOND FORM's CARD OF 'laws.FnExactStoreRun'. -/
def fnExactStoreRunUptoCard : Claim7 := { stood := { row := fnExactStoreRunUptoRow, standIns := [], harness := (true, "cacdd51334c156fb61e9d210ae81f2deb3b5a37e771067b7ef3ac0930b74451a"), looks := false }, kinds := [], alts := [], laidByText := true, laidKinds := [.data, .data, .data], laidTests := true, laidLooks := .later }
def FnExactStoreRunUptoCardSaid : Prop := Claim7.holds Tryz.pinned (.plain (OpenSpec.upto fnExactStoreRunSpec)) fnExactStoreRunUptoCard

/-- THE SECOND FORM's CARD OF 'laws.FnHistOk'. -/
def fnHistOkUptoCard : Claim7 := { stood := { row := fnHistOkUptoRow, standIns := [], harness := (true, "cacdd51334c156fb61e9d210ae81f2deb3b5a37e771067b7ef3ac0930b74451a"), looks := false }, kinds := [], alts := [], laidByText := true, laidKinds := [.data, .data, .data], laidTests := true, laidLooks := .later }
def FnHistOkUptoCardSaid : Prop := Claim7.holds Tryz.pinned (.plain (OpenSpec.upto fnHistOkSpec)) fnHistOkUptoCard

/-- THE SECOND FORM's CARD OF 'laws.FnHistDo'. -/
def fnHistDoUptoCard : Claim7 := { stood := { row := fnHistDoUptoRow, standIns := [], harness := (true, "cacdd51334c156fb61e9d210ae81f2deb3b5a37e771067b7ef3ac0930b74451a"), looks := false }, kinds := [], alts := [], laidByText := true, laidKinds := [.data, .data, .data], laidTests := true, laidLooks := .later }
def FnHistDoUptoCardSaid : Prop := Claim7.holds Tryz.pinned (.plain (OpenSpec.upto fnHistDoSpec)) fnHistDoUptoCard
end Rows
end Go.Proofs.YtadoojpcjfglgaaGreatDoor
