/-
  DERIVED. GIVEN WITH THE SEED: THE CARDS: each row of YtndpmjhfflpbpaaDoorRows.lean that lists a variable, with what it lists TIED to the program's text (the seventh form; the later family's looks); each row that meets fmt, with fmt's text TOLD by the authors' own Lean function (tested against real Go, not proved from fmt's source: count such statements apart). THE CARD IS WHAT COUNTS. Prove the row's statement (the work); the ties are given (YtndpmjhfflpbpaaDoorTie.lean); close each card by the builder's one call (the guide's Derived/Test/ToyasCard.lean, 'card_holds'). Laid BY PROGRAM, IN A SANDBOX (cutbox-door.mjs). By AI agents, Wed Nov 11 2026. No macro, syntax, notation, axiom, sorry.
-/
import Derived.Test.YtndpmjhfflpbpaaDoorRows
import GoSem.ClaimSeven
namespace Go.Proofs.YtndpmjhfflpbpaaDoor
namespace Rows

/-- THE TIED CARD OF 'laws.FnBoxesOf'. -/
def fnBoxesOfCard : Claim7 := { stood := { row := fnBoxesOfRow, standIns := [], harness := (true, "678c10caccdcddc90021f0853c979405e18a69c3ca4c22584238d3693b8333f7"), looks := true }, kinds := [], alts := [], laidByText := true, laidKinds := [.data, .data, .data, .sentinel, .sentinel], laidTests := true, laidLooks := .later }
def FnBoxesOfCardSaid : Prop := Claim7.holds Tryd.pinned (.plain (OpenSpec.ofChange fnBoxesOfSpec)) fnBoxesOfCard

/-- THE SECOND FORM's CARD OF 'laws.FnBoxesOf'. -/
def fnBoxesOfUptoCard : Claim7 := { stood := { row := fnBoxesOfUptoRow, standIns := [], harness := (true, "678c10caccdcddc90021f0853c979405e18a69c3ca4c22584238d3693b8333f7"), looks := true }, kinds := [], alts := [], laidByText := true, laidKinds := [.data, .data, .data, .sentinel, .sentinel], laidTests := true, laidLooks := .later }
def FnBoxesOfUptoCardSaid : Prop := Claim7.holds Tryd.pinned (.plain (OpenSpec.upto fnBoxesOfSpec)) fnBoxesOfUptoCard
end Rows
end Go.Proofs.YtndpmjhfflpbpaaDoor
