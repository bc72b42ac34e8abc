/-
  DERIVED. GIVEN WITH THE SEED: THE CARDS: each row of YtafaffmjaknljaaDoorRows.lean that lists a variable, with what it lists TIED to the program's text (the seventh form; the later family's looks); each row that meets fmt, with fmt's text TOLD by the authors' own Lean function (tested against real Go, not proved from fmt's source: count such statements apart). THE CARD IS WHAT COUNTS. Prove the row's statement (the work); the ties are given (YtafaffmjaknljaaDoorTie.lean); close each card by the builder's one call (the guide's Derived/Test/ToyasCard.lean, 'card_holds'). Laid BY PROGRAM, IN A SANDBOX (cutbox-door.mjs). By AI agents, Wed Nov 11 2026. No macro, syntax, notation, axiom, sorry.
-/
import Derived.Test.YtafaffmjaknljaaDoorRows
import GoSem.ClaimSeven
namespace Go.Proofs.YtafaffmjaknljaaDoor
namespace Rows

/-- THE TIED CARD OF 'laws.FnExactOutline'. -/
def fnExactOutlineCard : Claim7 := { stood := { row := fnExactOutlineRow, standIns := [], harness := (true, "81a4466b35ba42d7641b04f6b5b1b5ef90a08dc183ea8c57b8758117d8a24824"), looks := true }, kinds := [], alts := [], laidByText := true, laidKinds := [.data, .data, .data, .sentinel, .sentinel], laidTests := true, laidLooks := .later }
def FnExactOutlineCardSaid : Prop := Claim7.holds Tryd.pinned (.plain (OpenSpec.ofChange fnExactOutlineSpec)) fnExactOutlineCard

/-- THE SECOND FORM's CARD OF 'laws.FnExactOutline'. -/
def fnExactOutlineUptoCard : Claim7 := { stood := { row := fnExactOutlineUptoRow, standIns := [], harness := (true, "81a4466b35ba42d7641b04f6b5b1b5ef90a08dc183ea8c57b8758117d8a24824"), looks := true }, kinds := [], alts := [], laidByText := true, laidKinds := [.data, .data, .data, .sentinel, .sentinel], laidTests := true, laidLooks := .later }
def FnExactOutlineUptoCardSaid : Prop := Claim7.holds Tryd.pinned (.plain (OpenSpec.upto fnExactOutlineSpec)) fnExactOutlineUptoCard
end Rows
end Go.Proofs.YtafaffmjaknljaaDoor
