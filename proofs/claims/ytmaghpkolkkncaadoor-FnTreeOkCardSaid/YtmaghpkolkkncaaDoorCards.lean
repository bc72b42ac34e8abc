/-
  DERIVED. GIVEN WITH THE SEED: THE CARDS: each row of YtmaghpkolkkncaaDoorRows.lean that lists a variable, with what it lists TIED to the program's text (the seventh form; the later family's looks); each row that meets fmt, with fmt's text TOLD by the authors' own Lean function (tested against real Go, not proved from fmt's source: count such statements apart). THE CARD IS WHAT COUNTS. Prove the row's statement (the work); the ties are given (YtmaghpkolkkncaaDoorTie.lean); close each card by the builder's one call (the guide's Derived/Test/ToyasCard.lean, 'card_holds'). Laid BY PROGRAM, IN A SANDBOX (cutbox-door.mjs). By AI agents, Wed Nov 11 2026. No macro, syntax, notation, axiom, sorry.
-/
import Derived.Test.YtmaghpkolkkncaaDoorRows
import GoSem.ClaimSeven
namespace Go.Proofs.YtmaghpkolkkncaaDoor
namespace Rows

/-- THE TIED CARD OF 'laws.FnTreeText'. -/
def fnTreeTextCard : Claim7 := { stood := { row := fnTreeTextRow, standIns := [], harness := (true, "633140422ee5f6564311b069be4a3cc0a541715833ad66d68ca499f0b8925b8f"), looks := true }, kinds := [], alts := [], laidByText := true, laidKinds := [.data, .data, .data, .sentinel, .sentinel], laidTests := true, laidLooks := .later }
def FnTreeTextCardSaid : Prop := Claim7.holds Tryd.pinned (.plain (OpenSpec.ofChange fnTreeTextSpec)) fnTreeTextCard

/-- THE TIED CARD OF 'laws.FnExactTreeOk'. -/
def fnExactTreeOkCard : Claim7 := { stood := { row := fnExactTreeOkRow, standIns := [], harness := (true, "633140422ee5f6564311b069be4a3cc0a541715833ad66d68ca499f0b8925b8f"), looks := true }, kinds := [], alts := [], laidByText := true, laidKinds := [.data, .data, .data, .sentinel, .sentinel], laidTests := true, laidLooks := .later }
def FnExactTreeOkCardSaid : Prop := Claim7.holds Tryd.pinned (.plain (OpenSpec.ofChange fnExactTreeOkSpec)) fnExactTreeOkCard

/-- THE TIED CARD OF 'laws.FnExactTreeSize'. -/
def fnExactTreeSizeCard : Claim7 := { stood := { row := fnExactTreeSizeRow, standIns := [], harness := (true, "633140422ee5f6564311b069be4a3cc0a541715833ad66d68ca499f0b8925b8f"), looks := true }, kinds := [], alts := [], laidByText := true, laidKinds := [.data, .data, .data, .sentinel, .sentinel], laidTests := true, laidLooks := .later }
def FnExactTreeSizeCardSaid : Prop := Claim7.holds Tryd.pinned (.plain (OpenSpec.ofChange fnExactTreeSizeSpec)) fnExactTreeSizeCard

/-- THE TIED CARD OF 'laws.FnTreeAt'. -/
def fnTreeAtCard : Claim7 := { stood := { row := fnTreeAtRow, standIns := [], harness := (true, "633140422ee5f6564311b069be4a3cc0a541715833ad66d68ca499f0b8925b8f"), looks := true }, kinds := [], alts := [], laidByText := true, laidKinds := [.data, .data, .data, .sentinel, .sentinel], laidTests := true, laidLooks := .later }
def FnTreeAtCardSaid : Prop := Claim7.holds Tryd.pinned (.plain (OpenSpec.ofChange fnTreeAtSpec)) fnTreeAtCard

/-- THE TIED CARD OF 'laws.FnPartWay'. -/
def fnPartWayCard : Claim7 := { stood := { row := fnPartWayRow, standIns := [], harness := (true, "633140422ee5f6564311b069be4a3cc0a541715833ad66d68ca499f0b8925b8f"), looks := true }, kinds := [], alts := [], laidByText := true, laidKinds := [.data, .data, .data, .sentinel, .sentinel], laidTests := true, laidLooks := .later }
def FnPartWayCardSaid : Prop := Claim7.holds Tryd.pinned (.plain (OpenSpec.ofChange fnPartWaySpec)) fnPartWayCard

/-- THE TIED CARD OF 'laws.FnExactTextOf'. -/
def fnExactTextOfCard : Claim7 := { stood := { row := fnExactTextOfRow, standIns := [], harness := (true, "633140422ee5f6564311b069be4a3cc0a541715833ad66d68ca499f0b8925b8f"), looks := true }, kinds := [], alts := [], laidByText := true, laidKinds := [.data, .data, .data, .sentinel, .sentinel], laidTests := true, laidLooks := .later }
def FnExactTextOfCardSaid : Prop := Claim7.holds Tryd.pinned (.plain (OpenSpec.ofChange fnExactTextOfSpec)) fnExactTextOfCard

/-- THE TIED CARD OF 'laws.FnPartNumber'. -/
def fnPartNumberCard : Claim7 := { stood := { row := fnPartNumberRow, standIns := [], harness := (true, "633140422ee5f6564311b069be4a3cc0a541715833ad66d68ca499f0b8925b8f"), looks := true }, kinds := [], alts := [], laidByText := true, laidKinds := [.data, .data, .data, .sentinel, .sentinel], laidTests := true, laidLooks := .later }
def FnPartNumberCardSaid : Prop := Claim7.holds Tryd.pinned (.plain (OpenSpec.ofChange fnPartNumberSpec)) fnPartNumberCard

/-- THE TIED CARD OF 'laws.FnExactTreeText'. -/
def fnExactTreeTextCard : Claim7 := { stood := { row := fnExactTreeTextRow, standIns := [], harness := (true, "633140422ee5f6564311b069be4a3cc0a541715833ad66d68ca499f0b8925b8f"), looks := true }, kinds := [], alts := [], laidByText := true, laidKinds := [.data, .data, .data, .sentinel, .sentinel], laidTests := true, laidLooks := .later }
def FnExactTreeTextCardSaid : Prop := Claim7.holds Tryd.pinned (.plain (OpenSpec.ofChange fnExactTreeTextSpec)) fnExactTreeTextCard

/-- THE TIED CARD OF 'laws.FnExactPartNumber'. -/
def fnExactPartNumberCard : Claim7 := { stood := { row := fnExactPartNumberRow, standIns := [], harness := (true, "633140422ee5f6564311b069be4a3cc0a541715833ad66d68ca499f0b8925b8f"), looks := true }, kinds := [], alts := [], laidByText := true, laidKinds := [.data, .data, .data, .sentinel, .sentinel], laidTests := true, laidLooks := .later }
def FnExactPartNumberCardSaid : Prop := Claim7.holds Tryd.pinned (.plain (OpenSpec.ofChange fnExactPartNumberSpec)) fnExactPartNumberCard

/-- THE TIED CARD OF 'laws.FnTreeOk'. -/
def fnTreeOkCard : Claim7 := { stood := { row := fnTreeOkRow, standIns := [], harness := (true, "633140422ee5f6564311b069be4a3cc0a541715833ad66d68ca499f0b8925b8f"), looks := true }, kinds := [], alts := [], laidByText := true, laidKinds := [.data, .data, .data, .sentinel, .sentinel], laidTests := true, laidLooks := .later }
def FnTreeOkCardSaid : Prop := Claim7.holds Tryd.pinned (.plain (OpenSpec.ofChange fnTreeOkSpec)) fnTreeOkCard

/-- THE SECOND FORM's CARD OF 'laws.FnTreeText'. -/
def fnTreeTextUptoCard : Claim7 := { stood := { row := fnTreeTextUptoRow, standIns := [], harness := (true, "633140422ee5f6564311b069be4a3cc0a541715833ad66d68ca499f0b8925b8f"), looks := true }, kinds := [], alts := [], laidByText := true, laidKinds := [.data, .data, .data, .sentinel, .sentinel], laidTests := true, laidLooks := .later }
def FnTreeTextUptoCardSaid : Prop := Claim7.holds Tryd.pinned (.plain (OpenSpec.upto fnTreeTextSpec)) fnTreeTextUptoCard

/-- THE SECOND FORM's CARD OF 'laws.FnExactTreeOk'. -/
def fnExactTreeOkUptoCard : Claim7 := { stood := { row := fnExactTreeOkUptoRow, standIns := [], harness := (true, "633140422ee5f6564311b069be4a3cc0a541715833ad66d68ca499f0b8925b8f"), looks := true }, kinds := [], alts := [], laidByText := true, laidKinds := [.data, .data, .data, .sentinel, .sentinel], laidTests := true, laidLooks := .later }
def FnExactTreeOkUptoCardSaid : Prop := Claim7.holds Tryd.pinned (.plain (OpenSpec.upto fnExactTreeOkSpec)) fnExactTreeOkUptoCard

/-- THE SECOND FORM's CARD OF 'laws.FnExactTreeSize'. -/
def fnExactTreeSizeUptoCard : Claim7 := { stood := { row := fnExactTreeSizeUptoRow, standIns := [], harness := (true, "633140422ee5f6564311b069be4a3cc0a541715833ad66d68ca499f0b8925b8f"), looks := true }, kinds := [], alts := [], laidByText := true, laidKinds := [.data, .data, .data, .sentinel, .sentinel], laidTests := true, laidLooks := .later }
def FnExactTreeSizeUptoCardSaid : Prop := Claim7.holds Tryd.pinned (.plain (OpenSpec.upto fnExactTreeSizeSpec)) fnExactTreeSizeUptoCard

/-- THE SECOND FORM's CARD OF 'laws.FnTreeAt'. -/
def fnTreeAtUptoCard : Claim7 := { stood := { row := fnTreeAtUptoRow, standIns := [], harness := (true, "633140422ee5f6564311b069be4a3cc0a541715833ad66d68ca499f0b8925b8f"), looks := true }, kinds := [], alts := [], laidByText := true, laidKinds := [.data, .data, .data, .sentinel, .sentinel], laidTests := true, laidLooks := .later }
def FnTreeAtUptoCardSaid : Prop := Claim7.holds Tryd.pinned (.plain (OpenSpec.upto fnTreeAtSpec)) fnTreeAtUptoCard

/-- THE SECOND FORM's CARD OF 'laws.FnPartWay'. -/
def fnPartWayUptoCard : Claim7 := { stood := { row := fnPartWayUptoRow, standIns := [], harness := (true, "633140422ee5f6564311b069be4a3cc0a541715833ad66d68ca499f0b8925b8f"), looks := true }, kinds := [], alts := [], laidByText := true, laidKinds := [.data, .data, .data, .sentinel, .sentinel], laidTests := true, laidLooks := .later }
def FnPartWayUptoCardSaid : Prop := Claim7.holds Tryd.pinned (.plain (OpenSpec.upto fnPartWaySpec)) fnPartWayUptoCard

/-- THE SECOND FORM's CARD OF 'laws.FnExactTextOf'. -/
def fnExactTextOfUptoCard : Claim7 := { stood := { row := fnExactTextOfUptoRow, standIns := [], harness := (true, "633140422ee5f6564311b069be4a3cc0a541715833ad66d68ca499f0b8925b8f"), looks := true }, kinds := [], alts := [], laidByText := true, laidKinds := [.data, .data, .data, .sentinel, .sentinel], laidTests := true, laidLooks := .later }
def FnExactTextOfUptoCardSaid : Prop := Claim7.holds Tryd.pinned (.plain (OpenSpec.upto fnExactTextOfSpec)) fnExactTextOfUptoCard

/-- THE SECOND FORM's CARD OF 'laws.FnPartNumber'. -/
def fnPartNumberUptoCard : Claim7 := { stood := { row := fnPartNumberUptoRow, standIns := [], harness := (true, "633140422ee5f6564311b069be4a3cc0a541715833ad66d68ca499f0b8925b8f"), looks := true }, kinds := [], alts := [], laidByText := true, laidKinds := [.data, .data, .data, .sentinel, .sentinel], laidTests := true, laidLooks := .later }
def FnPartNumberUptoCardSaid : Prop := Claim7.holds Tryd.pinned (.plain (OpenSpec.upto fnPartNumberSpec)) fnPartNumberUptoCard

/-- THE SECOND FORM's CARD OF 'laws.FnExactTreeText'. -/
def fnExactTreeTextUptoCard : Claim7 := { stood := { row := fnExactTreeTextUptoRow, standIns := [], harness := (true, "633140422ee5f6564311b069be4a3cc0a541715833ad66d68ca499f0b8925b8f"), looks := true }, kinds := [], alts := [], laidByText := true, laidKinds := [.data, .data, .data, .sentinel, .sentinel], laidTests := true, laidLooks := .later }
def FnExactTreeTextUptoCardSaid : Prop := Claim7.holds Tryd.pinned (.plain (OpenSpec.upto fnExactTreeTextSpec)) fnExactTreeTextUptoCard

/-- THE SECOND FORM's CARD OF 'laws.FnExactPartNumber'. -/
def fnExactPartNumberUptoCard : Claim7 := { stood := { row := fnExactPartNumberUptoRow, standIns := [], harness := (true, "633140422ee5f6564311b069be4a3cc0a541715833ad66d68ca499f0b8925b8f"), looks := true }, kinds := [], alts := [], laidByText := true, laidKinds := [.data, .data, .data, .sentinel, .sentinel], laidTests := true, laidLooks := .later }
def FnExactPartNumberUptoCardSaid : Prop := Claim7.holds Tryd.pinned (.plain (OpenSpec.upto fnExactPartNumberSpec)) fnExactPartNumberUptoCard

/-- THE SECOND FORM's CARD OF 'laws.FnTreeOk'. -/
def fnTreeOkUptoCard : Claim7 := { stood := { row := fnTreeOkUptoRow, standIns := [], harness := (true, "633140422ee5f6564311b069be4a3cc0a541715833ad66d68ca499f0b8925b8f"), looks := true }, kinds := [], alts := [], laidByText := true, laidKinds := [.data, .data, .data, .sentinel, .sentinel], laidTests := true, laidLooks := .later }
def FnTreeOkUptoCardSaid : Prop := Claim7.holds Tryd.pinned (.plain (OpenSpec.upto fnTreeOkSpec)) fnTreeOkUptoCard
end Rows
end Go.Proofs.YtmaghpkolkkncaaDoor
