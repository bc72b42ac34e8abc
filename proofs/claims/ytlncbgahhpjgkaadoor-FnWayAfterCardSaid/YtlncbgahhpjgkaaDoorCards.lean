/-
  DERIVED. GIVEN WITH THE SEED: THE CARDS: each row of YtlncbgahhpjgkaaDoorRows.lean that lists a variable, with what it lists TIED to the program's text (the seventh form; the later family's looks); each row that meets fmt, with fmt's text TOLD by the authors' own Lean function (tested against real Go, not proved from fmt's source: count such statements apart). THE CARD IS WHAT COUNTS. Prove the row's statement (the work); the ties are given (YtlncbgahhpjgkaaDoorTie.lean); close each card by the builder's one call (the guide's Derived/Test/ToyasCard.lean, 'card_holds'). Laid BY PROGRAM, IN A SANDBOX (cutbox-door.mjs). By AI agents, Wed Nov 11 2026. No macro, syntax, notation, axiom, sorry.
-/
import Derived.Test.YtlncbgahhpjgkaaDoorRows
import GoSem.ClaimSeven
namespace Go.Proofs.YtlncbgahhpjgkaaDoor
namespace Rows

/-- THE TIED CARD OF 'laws.FnWayAfter'. -/
def fnWayAfterCard : Claim7 := { stood := { row := fnWayAfterRow, standIns := [], harness := (true, "b11720061cc45aacba82fc4732cec24cbf9e54f0bb347d947f4d512cba1284d4"), looks := true }, kinds := [], alts := [], laidByText := true, laidKinds := [.data, .data, .data, .sentinel, .sentinel], laidTests := true, laidLooks := .later }
def FnWayAfterCardSaid : Prop := Claim7.holds Tryd.pinned (.plain (OpenSpec.ofChange fnWayAfterSpec)) fnWayAfterCard

/-- THE SECOND FORM's CARD OF 'laws.FnWayAfter'. -/
def fnWayAfterUptoCard : Claim7 := { stood := { row := fnWayAfterUptoRow, standIns := [], harness := (true, "b11720061cc45aacba82fc4732cec24cbf9e54f0bb347d947f4d512cba1284d4"), looks := true }, kinds := [], alts := [], laidByText := true, laidKinds := [.data, .data, .data, .sentinel, .sentinel], laidTests := true, laidLooks := .later }
def FnWayAfterUptoCardSaid : Prop := Claim7.holds Tryd.pinned (.plain (OpenSpec.upto fnWayAfterSpec)) fnWayAfterUptoCard
end Rows
end Go.Proofs.YtlncbgahhpjgkaaDoor
