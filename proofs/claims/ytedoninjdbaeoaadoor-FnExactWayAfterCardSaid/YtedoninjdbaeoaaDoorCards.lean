/-
  DERIVED. GIVEN WITH THE SEED: THE CARDS: each row of YtedoninjdbaeoaaDoorRows.lean that lists a variable, with what it lists TIED to the program's text (the seventh form; the later family's looks); each row that meets fmt, with fmt's text TOLD by the authors' own Lean function (tested against real Go, not proved from fmt's source: count such statements apart). THE CARD IS WHAT COUNTS. Prove the row's statement (the work); the ties are given (YtedoninjdbaeoaaDoorTie.lean); close each card by the builder's one call (the guide's Derived/Test/ToyasCard.lean, 'card_holds'). Laid BY PROGRAM, IN A SANDBOX (cutbox-door.mjs). By AI agents, Wed Nov 11 2026. No macro, syntax, notation, axiom, sorry.
-/
import Derived.Test.YtedoninjdbaeoaaDoorRows
import GoSem.ClaimSeven
namespace Go.Proofs.YtedoninjdbaeoaaDoor
namespace Rows

/-- THE TIED CARD OF 'laws.FnExactPartWay'. -/
def fnExactPartWayCard : Claim7 := { stood := { row := fnExactPartWayRow, standIns := [], harness := (true, "1a0d088f5318b322effb4c0b6892ef33cd04512d228f5e741c6728eca46d9b80"), looks := true }, kinds := [], alts := [], laidByText := true, laidKinds := [.data, .data, .data, .sentinel, .sentinel], laidTests := true, laidLooks := .later }
def FnExactPartWayCardSaid : Prop := Claim7.holds Tryd.pinned (.plain (OpenSpec.ofChange fnExactPartWaySpec)) fnExactPartWayCard

/-- THE TIED CARD OF 'laws.FnExactTreeAt'. -/
def fnExactTreeAtCard : Claim7 := { stood := { row := fnExactTreeAtRow, standIns := [], harness := (true, "1a0d088f5318b322effb4c0b6892ef33cd04512d228f5e741c6728eca46d9b80"), looks := true }, kinds := [], alts := [], laidByText := true, laidKinds := [.data, .data, .data, .sentinel, .sentinel], laidTests := true, laidLooks := .later }
def FnExactTreeAtCardSaid : Prop := Claim7.holds Tryd.pinned (.plain (OpenSpec.ofChange fnExactTreeAtSpec)) fnExactTreeAtCard

/-- THE TIED CARD OF 'laws.FnExactWayAfter'. -/
def fnExactWayAfterCard : Claim7 := { stood := { row := fnExactWayAfterRow, standIns := [], harness := (true, "1a0d088f5318b322effb4c0b6892ef33cd04512d228f5e741c6728eca46d9b80"), looks := true }, kinds := [], alts := [], laidByText := true, laidKinds := [.data, .data, .data, .sentinel, .sentinel], laidTests := true, laidLooks := .later }
def FnExactWayAfterCardSaid : Prop := Claim7.holds Tryd.pinned (.plain (OpenSpec.ofChange fnExactWayAfterSpec)) fnExactWayAfterCard

/-- THE SECOND FORM's CARD OF 'laws.FnExactPartWay'. -/
def fnExactPartWayUptoCard : Claim7 := { stood := { row := fnExactPartWayUptoRow, standIns := [], harness := (true, "1a0d088f5318b322effb4c0b6892ef33cd04512d228f5e741c6728eca46d9b80"), looks := true }, kinds := [], alts := [], laidByText := true, laidKinds := [.data, .data, .data, .sentinel, .sentinel], laidTests := true, laidLooks := .later }
def FnExactPartWayUptoCardSaid : Prop := Claim7.holds Tryd.pinned (.plain (OpenSpec.upto fnExactPartWaySpec)) fnExactPartWayUptoCard

/-- THE SECOND FORM's CARD OF 'laws.FnExactTreeAt'. -/
def fnExactTreeAtUptoCard : Claim7 := { stood := { row := fnExactTreeAtUptoRow, standIns := [], harness := (true, "1a0d088f5318b322effb4c0b6892ef33cd04512d228f5e741c6728eca46d9b80"), looks := true }, kinds := [], alts := [], laidByText := true, laidKinds := [.data, .data, .data, .sentinel, .sentinel], laidTests := true, laidLooks := .later }
def FnExactTreeAtUptoCardSaid : Prop := Claim7.holds Tryd.pinned (.plain (OpenSpec.upto fnExactTreeAtSpec)) fnExactTreeAtUptoCard

/-- THE SECOND FORM's CARD OF 'laws.FnExactWayAfter'. -/
def fnExactWayAfterUptoCard : Claim7 := { stood := { row := fnExactWayAfterUptoRow, standIns := [], harness := (true, "1a0d088f5318b322effb4c0b6892ef33cd04512d228f5e741c6728eca46d9b80"), looks := true }, kinds := [], alts := [], laidByText := true, laidKinds := [.data, .data, .data, .sentinel, .sentinel], laidTests := true, laidLooks := .later }
def FnExactWayAfterUptoCardSaid : Prop := Claim7.holds Tryd.pinned (.plain (OpenSpec.upto fnExactWayAfterSpec)) fnExactWayAfterUptoCard
end Rows
end Go.Proofs.YtedoninjdbaeoaaDoor
