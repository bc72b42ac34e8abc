/-
  DERIVED. GIVEN WITH THE SEED: THE CARDS: each row of YtadoojpcjfglgaaDoorRows.lean that lists a variable, with what it lists TIED to the program's text (the seventh form; the later family's looks); each row that meets fmt, with fmt's text TOLD by the authors' own Lean function (tested against real Go, not proved from fmt's source: count such statements apart). THE CARD IS WHAT COUNTS. Prove the row's statement (the work); the ties are given (YtadoojpcjfglgaaDoorTie.lean); close each card by the builder's one call (the guide's Derived/Test/ToyasCard.lean, 'card_holds'). Laid BY PROGRAM, IN A SANDBOX (cutbox-door.mjs). By AI agents, Wed Nov 11 2026. No macro, syntax, notation, axiom, sorry.
-/
import Derived.Test.YtadoojpcjfglgaaDoorRows
import GoSem.ClaimSeven
namespace Go.Proofs.YtadoojpcjfglgaaDoor
namespace Rows

/-- THE TIED CARD OF 'laws.FnTopLanes'. -/
def fnTopLanesCard : Claim7 := { stood := { row := fnTopLanesRow, standIns := [], harness := (true, "8d819acd1f731890a271b7434878fdc48e3c9b77fdcfd8232e36b7423f4fbf0d"), looks := false }, kinds := [], alts := [], laidByText := true, laidKinds := [.data, .data, .data], laidTests := true, laidLooks := .later }
def FnTopLanesCardSaid : Prop := Claim7.holds Tryd.pinned (.plain (OpenSpec.ofChange fnTopLanesSpec)) fnTopLanesCard

/-- THE TIED CARD OF 'laws.FnStoreRun'. -/
def fnStoreRunCard : Claim7 := { stood := { row := fnStoreRunRow, standIns := [], harness := (true, "8d819acd1f731890a271b7434878fdc48e3c9b77fdcfd8232e36b7423f4fbf0d"), looks := false }, kinds := [], alts := [], laidByText := true, laidKinds := [.data, .data, .data], laidTests := true, laidLooks := .later }
def FnStoreRunCardSaid : Prop := Claim7.holds Tryd.pinned (.plain (OpenSpec.ofChange fnStoreRunSpec)) fnStoreRunCard

/-- THE TIED CARD OF 'laws.FnLineOk'. -/
def fnLineOkCard : Claim7 := { stood := { row := fnLineOkRow, standIns := [], harness := (true, "8d819acd1f731890a271b7434878fdc48e3c9b77fdcfd8232e36b7423f4fbf0d"), looks := false }, kinds := [], alts := [], laidByText := true, laidKinds := [.data, .data, .data], laidTests := true, laidLooks := .later }
def FnLineOkCardSaid : Prop := Claim7.holds Tryd.pinned (.plain (OpenSpec.ofChange fnLineOkSpec)) fnLineOkCard

/-- THE TIED CARD OF 'laws.FnLineWants'. -/
def fnLineWantsCard : Claim7 := { stood := { row := fnLineWantsRow, standIns := [], harness := (true, "8d819acd1f731890a271b7434878fdc48e3c9b77fdcfd8232e36b7423f4fbf0d"), looks := false }, kinds := [], alts := [], laidByText := true, laidKinds := [.data, .data, .data], laidTests := true, laidLooks := .later }
def FnLineWantsCardSaid : Prop := Claim7.holds Tryd.pinned (.plain (OpenSpec.ofChange fnLineWantsSpec)) fnLineWantsCard

/-- THE TIED CARD OF 'laws.FnFormValue'. -/
def fnFormValueCard : Claim7 := { stood := { row := fnFormValueRow, standIns := [], harness := (true, "8d819acd1f731890a271b7434878fdc48e3c9b77fdcfd8232e36b7423f4fbf0d"), looks := false }, kinds := [], alts := [], laidByText := true, laidKinds := [.data, .data, .data], laidTests := true, laidLooks := .later }
def FnFormValueCardSaid : Prop := Claim7.holds Tryd.pinned (.plain (OpenSpec.ofChange fnFormValueSpec)) fnFormValueCard

/-- THE SECOND FORM's CARD OF 'laws.FnTopLanes'. -/
def fnTopLanesUptoCard : Claim7 := { stood := { row := fnTopLanesUptoRow, standIns := [], harness := (true, "8d819acd1f731890a271b7434878fdc48e3c9b77fdcfd8232e36b7423f4fbf0d"), looks := false }, kinds := [], alts := [], laidByText := true, laidKinds := [.data, .data, .data], laidTests := true, laidLooks := .later }
def FnTopLanesUptoCardSaid : Prop := Claim7.holds Tryd.pinned (.plain (OpenSpec.upto fnTopLanesSpec)) fnTopLanesUptoCard

/-- THE SECOND FORM's CARD OF 'laws.FnStoreRun'. -/
def fnStoreRunUptoCard : Claim7 := { stood := { row := fnStoreRunUptoRow, standIns := [], harness := (true, "8d819acd1f731890a271b7434878fdc48e3c9b77fdcfd8232e36b7423f4fbf0d"), looks := false }, kinds := [], alts := [], laidByText := true, laidKinds := [.data, .data, .data], laidTests := true, laidLooks := .later }
def FnStoreRunUptoCardSaid : Prop := Claim7.holds Tryd.pinned (.plain (OpenSpec.upto fnStoreRunSpec)) fnStoreRunUptoCard

/-- THE SECOND FORM's CARD OF 'laws.FnLineOk'. -/
def fnLineOkUptoCard : Claim7 := { stood := { row := fnLineOkUptoRow, standIns := [], harness := (true, "8d819acd1f731890a271b7434878fdc48e3c9b77fdcfd8232e36b7423f4fbf0d"), looks := false }, kinds := [], alts := [], laidByText := true, laidKinds := [.data, .data, .data], laidTests := true, laidLooks := .later }
def FnLineOkUptoCardSaid : Prop := Claim7.holds Tryd.pinned (.plain (OpenSpec.upto fnLineOkSpec)) fnLineOkUptoCard

/-- THE SECOND FORM's CARD OF 'laws.FnLineWants'. -/
def fnLineWantsUptoCard : Claim7 := { stood := { row := fnLineWantsUptoRow, standIns := [], harness := (true, "8d819acd1f731890a271b7434878fdc48e3c9b77fdcfd8232e36b7423f4fbf0d"), looks := false }, kinds := [], alts := [], laidByText := true, laidKinds := [.data, .data, .data], laidTests := true, laidLooks := .later }
def FnLineWantsUptoCardSaid : Prop := Claim7.holds Tryd.pinned (.plain (OpenSpec.upto fnLineWantsSpec)) fnLineWantsUptoCard

/-- THE SECOND FORM's CARD OF 'laws.FnFormValue'. -/
def fnFormValueUptoCard : Claim7 := { stood := { row := fnFormValueUptoRow, standIns := [], harness := (true, "8d819acd1f731890a271b7434878fdc48e3c9b77fdcfd8232e36b7423f4fbf0d"), looks := false }, kinds := [], alts := [], laidByText := true, laidKinds := [.data, .data, .data], laidTests := true, laidLooks := .later }
def FnFormValueUptoCardSaid : Prop := Claim7.holds Tryd.pinned (.plain (OpenSpec.upto fnFormValueSpec)) fnFormValueUptoCard
end Rows
end Go.Proofs.YtadoojpcjfglgaaDoor
