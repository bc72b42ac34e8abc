/-
  DERIVED. GIVEN WITH THE SEED: THE CARDS: each row of YtilggcjneaecmaaDoorRows.lean that lists a variable, with what it lists TIED to the program's text (the seventh form; the later family's looks); each row that meets fmt, with fmt's text TOLD by the authors' own Lean function (tested against real Go, not proved from fmt's source: count such statements apart). THE CARD IS WHAT COUNTS. Prove the row's statement (the work); the ties are given (YtilggcjneaecmaaDoorTie.lean); close each card by the builder's one call (the guide's Derived/Test/ToyasCard.lean, 'card_holds'). Laid BY PROGRAM, IN A SANDBOX (cutbox-door.mjs). By AI agents, Wed Nov 11 2026. No macro, syntax, notation, axiom, sorry.
-/
import Derived.Test.YtilggcjneaecmaaDoorRows
import GoSem.ClaimSeven
namespace Go.Proofs.YtilggcjneaecmaaDoor
namespace Rows

/-- THE TIED CARD OF 'laws.FnExactBoxHigh'. -/
def fnExactBoxHighCard : Claim7 := { stood := { row := fnExactBoxHighRow, standIns := [], harness := (true, "ea29712dda0b268b386b43199d54a791f24d59abfc91d2493826bcad00b90b95"), looks := true }, kinds := [], alts := [], laidByText := true, laidKinds := [.data, .data, .data, .sentinel, .sentinel], laidTests := true, laidLooks := .later }
def FnExactBoxHighCardSaid : Prop := Claim7.holds Tryd.pinned (.plain (OpenSpec.ofChange fnExactBoxHighSpec)) fnExactBoxHighCard

/-- THE SECOND FORM's CARD OF 'laws.FnExactBoxHigh'. -/
def fnExactBoxHighUptoCard : Claim7 := { stood := { row := fnExactBoxHighUptoRow, standIns := [], harness := (true, "ea29712dda0b268b386b43199d54a791f24d59abfc91d2493826bcad00b90b95"), looks := true }, kinds := [], alts := [], laidByText := true, laidKinds := [.data, .data, .data, .sentinel, .sentinel], laidTests := true, laidLooks := .later }
def FnExactBoxHighUptoCardSaid : Prop := Claim7.holds Tryd.pinned (.plain (OpenSpec.upto fnExactBoxHighSpec)) fnExactBoxHighUptoCard
end Rows
end Go.Proofs.YtilggcjneaecmaaDoor
