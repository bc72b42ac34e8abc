/- What holds of this program for the evaluator: its tables and its library functions; no condition. -/
import Derived.Test.YtmaghpkolkkncaaProg
import Derived.Test.YtmaghpkolkkncaaEvG
set_option linter.all false
set_option linter.unusedVariables false
set_option linter.unusedSimpArgs false
/- The seat: its tables, its variables, its library's functions. -/
set_option maxRecDepth 100000
namespace Go.Ev
noncomputable section
open Go.Proofs Go.Shelf
theorem pok1 : cx.ti.all (ti0B Try.prog) = true := by kernel_rfl
theorem pok2 : cx.ti.all (eqB cx Try.prog) = true := by kernel_rfl
theorem pok : Pok cx Try.prog := pok_of xok pok1 pok2
theorem mixed : Try.prog.follows .mixedOrders = true := by kernel_rfl
def gam : Gam := Gam.none
end
end Go.Ev
