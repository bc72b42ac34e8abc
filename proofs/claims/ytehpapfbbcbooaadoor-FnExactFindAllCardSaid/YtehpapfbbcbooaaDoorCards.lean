/-
  DERIVED. GIVEN WITH THE SEED: THE CARDS: each row of YtehpapfbbcbooaaDoorRows.lean that lists a variable, with what it lists TIED to the program's text (the seventh form; the later family's looks); each row that meets fmt, with fmt's text TOLD by the authors' own Lean function (tested against real Go, not proved from fmt's source: count such statements apart). THE CARD IS WHAT COUNTS. Prove the row's statement (the work); the ties are given (YtehpapfbbcbooaaDoorTie.lean); close each card by the builder's one call (the guide's Derived/Test/ToyasCard.lean, 'card_holds'). Laid BY PROGRAM, IN A SANDBOX (cutbox-door.mjs). By AI agents, Wed Nov 11 2026. No macro, syntax, notation, axiom, sorry.
-/
import Derived.Test.YtehpapfbbcbooaaDoorRows
import GoSem.ClaimSeven
namespace Go.Proofs.YtehpapfbbcbooaaDoor
namespace Rows

/-- THE TIED CARD OF 'laws.FnExactFindAll'. -/
def fnExactFindAllCard : Claim7 := { stood := { row := fnExactFindAllRow, standIns := [], harness := (true, "365fa0b7f4de1235416aa2a8c11d7c19f388e53f886f3ec233d8856cc17209ef"), looks := true }, kinds := [], alts := [], laidByText := true, laidKinds := [.data, .data, .data, .sentinel, .sentinel], laidTests := true, laidLooks := .later }
def FnExactFindAllCardSaid : Prop := Claim7.holds Tryd.pinned (.plain (OpenSpec.ofChange fnExactFindAllSpec)) fnExactFindAllCard

/-- THE SECOND FORM's CARD OF 'laws.FnExactFindAll'. -/
def fnExactFindAllUptoCard : Claim7 := { stood := { row := fnExactFindAllUptoRow, standIns := [], harness := (true, "365fa0b7f4de1235416aa2a8c11d7c19f388e53f886f3ec233d8856cc17209ef"), looks := true }, kinds := [], alts := [], laidByText := true, laidKinds := [.data, .data, .data, .sentinel, .sentinel], laidTests := true, laidLooks := .later }
def FnExactFindAllUptoCardSaid : Prop := Claim7.holds Tryd.pinned (.plain (OpenSpec.upto fnExactFindAllSpec)) fnExactFindAllUptoCard
end Rows
end Go.Proofs.YtehpapfbbcbooaaDoor
