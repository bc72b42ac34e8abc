/-
  DERIVED. GIVEN WITH THE SEED: THE CARDS: each row of YtnfjcakkolmbbaaDoorRows.lean that lists a variable, with what it lists TIED to the program's text (the seventh form; the later family's looks); each row that meets fmt, with fmt's text TOLD by the authors' own Lean function (tested against real Go, not proved from fmt's source: count such statements apart). THE CARD IS WHAT COUNTS. Prove the row's statement (the work); the ties are given (YtnfjcakkolmbbaaDoorTie.lean); close each card by the builder's one call (the guide's Derived/Test/ToyasCard.lean, 'card_holds'). Laid BY PROGRAM, IN A SANDBOX (cutbox-door.mjs). By AI agents, Wed Nov 11 2026. No macro, syntax, notation, axiom, sorry.
-/
import Derived.Test.YtnfjcakkolmbbaaDoorRows
import GoSem.ClaimSeven
namespace Go.Proofs.YtnfjcakkolmbbaaDoor
namespace Rows

/-- THE TIED CARD OF 'laws.FnLooksAll'. -/
def fnLooksAllCard : Claim7 := { stood := { row := fnLooksAllRow, standIns := [], harness := (true, "3b4378714076758a0f7e44a9c183185fd38b1f7478f7d8d4527c7828626a3601"), looks := true }, kinds := [], alts := [], laidByText := true, laidKinds := [.data, .data, .data, .sentinel, .sentinel], laidTests := true, laidLooks := .later }
def FnLooksAllCardSaid : Prop := Claim7.holds Tryd.pinned (.plain (OpenSpec.ofChange fnLooksAllSpec)) fnLooksAllCard

/-- THE SECOND FORM's CARD OF 'laws.FnLooksAll'. -/
def fnLooksAllUptoCard : Claim7 := { stood := { row := fnLooksAllUptoRow, standIns := [], harness := (true, "3b4378714076758a0f7e44a9c183185fd38b1f7478f7d8d4527c7828626a3601"), looks := true }, kinds := [], alts := [], laidByText := true, laidKinds := [.data, .data, .data, .sentinel, .sentinel], laidTests := true, laidLooks := .later }
def FnLooksAllUptoCardSaid : Prop := Claim7.holds Tryd.pinned (.plain (OpenSpec.upto fnLooksAllSpec)) fnLooksAllUptoCard
end Rows
end Go.Proofs.YtnfjcakkolmbbaaDoor
