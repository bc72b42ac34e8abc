/-
  DERIVED. GIVEN WITH THE SEED: THE CARDS: each row of YtdmmjggkomhglaaDoorRows.lean that lists a variable, with what it lists TIED to the program's text (the seventh form; the later family's looks); each row that meets fmt, with fmt's text TOLD by the authors' own Lean function (tested against real Go, not proved from fmt's source: count such statements apart). THE CARD IS WHAT COUNTS. Prove the row's statement (the work); the ties are given (YtdmmjggkomhglaaDoorTie.lean); close each card by the builder's one call (the guide's Derived/Test/ToyasCard.lean, 'card_holds'). Laid BY PROGRAM, IN A SANDBOX (cutbox-door.mjs). By AI agents, Wed Nov 11 2026. No macro, syntax, notation, axiom, sorry.
-/
import Derived.Test.YtdmmjggkomhglaaDoorRows
import GoSem.ClaimSeven
namespace Go.Proofs.YtdmmjggkomhglaaDoor
namespace Rows

/-- THE TIED CARD OF 'laws.FnFormValue'. -/
def fnFormValueCard : Claim7 := { stood := { row := fnFormValueRow, standIns := [], harness := (true, "a26952b0efc983eaaad2e67745205df08ca60e1ab22bb5e06f1a2a614b6f0b15"), looks := false }, kinds := [], alts := [], laidByText := true, laidKinds := [.data, .data, .data], laidTests := true, laidLooks := .later }
def FnFormValueCardSaid : Prop := Claim7.holds Tryd.pinned (.plain (OpenSpec.ofChange fnFormValueSpec)) fnFormValueCard

/-- THE SECOND FORM's CARD OF 'laws.FnFormValue'. -/
def fnFormValueUptoCard : Claim7 := { stood := { row := fnFormValueUptoRow, standIns := [], harness := (true, "a26952b0efc983eaaad2e67745205df08ca60e1ab22bb5e06f1a2a614b6f0b15"), looks := false }, kinds := [], alts := [], laidByText := true, laidKinds := [.data, .data, .data], laidTests := true, laidLooks := .later }
def FnFormValueUptoCardSaid : Prop := Claim7.holds Tryd.pinned (.plain (OpenSpec.upto fnFormValueSpec)) fnFormValueUptoCard
end Rows
end Go.Proofs.YtdmmjggkomhglaaDoor
