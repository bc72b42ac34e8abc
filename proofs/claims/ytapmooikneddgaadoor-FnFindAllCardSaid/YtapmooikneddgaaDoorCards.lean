/-
  DERIVED. GIVEN WITH THE SEED: THE CARDS: each row of YtapmooikneddgaaDoorRows.lean that lists a variable, with what it lists TIED to the program's text (the seventh form; the later family's looks); each row that meets fmt, with fmt's text TOLD by the authors' own Lean function (tested against real Go, not proved from fmt's source: count such statements apart). THE CARD IS WHAT COUNTS. Prove the row's statement (the work); the ties are given (YtapmooikneddgaaDoorTie.lean); close each card by the builder's one call (the guide's Derived/Test/ToyasCard.lean, 'card_holds'). Laid BY PROGRAM, IN A SANDBOX (cutbox-door.mjs). By AI agents, Wed Nov 11 2026. No macro, syntax, notation, axiom, sorry.
-/
import Derived.Test.YtapmooikneddgaaDoorRows
import GoSem.ClaimSeven
namespace Go.Proofs.YtapmooikneddgaaDoor
namespace Rows

/-- THE TIED CARD OF 'laws.FnFindAll'. -/
def fnFindAllCard : Claim7 := { stood := { row := fnFindAllRow, standIns := [], harness := (true, "71b20b1df84ff04693b7378ce9f122ea0694c730647258780c810aabeaacb37d"), looks := true }, kinds := [], alts := [], laidByText := true, laidKinds := [.data, .data, .data, .sentinel, .sentinel], laidTests := true, laidLooks := .later }
def FnFindAllCardSaid : Prop := Claim7.holds Tryd.pinned (.plain (OpenSpec.ofChange fnFindAllSpec)) fnFindAllCard

/-- THE SECOND FORM's CARD OF 'laws.FnFindAll'. -/
def fnFindAllUptoCard : Claim7 := { stood := { row := fnFindAllUptoRow, standIns := [], harness := (true, "71b20b1df84ff04693b7378ce9f122ea0694c730647258780c810aabeaacb37d"), looks := true }, kinds := [], alts := [], laidByText := true, laidKinds := [.data, .data, .data, .sentinel, .sentinel], laidTests := true, laidLooks := .later }
def FnFindAllUptoCardSaid : Prop := Claim7.holds Tryd.pinned (.plain (OpenSpec.upto fnFindAllSpec)) fnFindAllUptoCard
end Rows
end Go.Proofs.YtapmooikneddgaaDoor
