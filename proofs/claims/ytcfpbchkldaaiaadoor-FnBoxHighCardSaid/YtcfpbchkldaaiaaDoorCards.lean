/-
  DERIVED. GIVEN WITH THE SEED: THE CARDS: each row of YtcfpbchkldaaiaaDoorRows.lean that lists a variable, with what it lists TIED to the program's text (the seventh form; the later family's looks); each row that meets fmt, with fmt's text TOLD by the authors' own Lean function (tested against real Go, not proved from fmt's source: count such statements apart). THE CARD IS WHAT COUNTS. Prove the row's statement (the work); the ties are given (YtcfpbchkldaaiaaDoorTie.lean); close each card by the builder's one call (the guide's Derived/Test/ToyasCard.lean, 'card_holds'). Laid BY PROGRAM, IN A SANDBOX (cutbox-door.mjs). By AI agents, Wed Nov 11 2026. No macro, syntax, notation, axiom, sorry.
-/
import Derived.Test.YtcfpbchkldaaiaaDoorRows
import GoSem.ClaimSeven
namespace Go.Proofs.YtcfpbchkldaaiaaDoor
namespace Rows

/-- THE TIED CARD OF 'laws.FnBoxHigh'. -/
def fnBoxHighCard : Claim7 := { stood := { row := fnBoxHighRow, standIns := [], harness := (true, "a1859a931934842c3b671c850897707c49b73bc8100d2a465c67cd9781b6ef4c"), looks := true }, kinds := [], alts := [], laidByText := true, laidKinds := [.data, .data, .data, .sentinel, .sentinel], laidTests := true, laidLooks := .later }
def FnBoxHighCardSaid : Prop := Claim7.holds Tryd.pinned (.plain (OpenSpec.ofChange fnBoxHighSpec)) fnBoxHighCard

/-- THE SECOND FORM's CARD OF 'laws.FnBoxHigh'. -/
def fnBoxHighUptoCard : Claim7 := { stood := { row := fnBoxHighUptoRow, standIns := [], harness := (true, "a1859a931934842c3b671c850897707c49b73bc8100d2a465c67cd9781b6ef4c"), looks := true }, kinds := [], alts := [], laidByText := true, laidKinds := [.data, .data, .data, .sentinel, .sentinel], laidTests := true, laidLooks := .later }
def FnBoxHighUptoCardSaid : Prop := Claim7.holds Tryd.pinned (.plain (OpenSpec.upto fnBoxHighSpec)) fnBoxHighUptoCard
end Rows
end Go.Proofs.YtcfpbchkldaaiaaDoor
