/- Each function that the law reaches does what its plain form says; no condition beyond the table of the library. -/
import Derived.Test.YtmaghpkolkkncaaDoorEvT1
set_option linter.all false
set_option linter.unusedVariables false
set_option linter.unusedSimpArgs false
set_option maxRecDepth 100000
set_option maxHeartbeats 0
namespace Go.Ev
noncomputable section
open Go.Proofs
@[reducible] def laws_FnExactTreeText.sg : Sg := { ms := [{ k := (.st 32) }], keep := [false], rs := [{ k := .bool }] }
noncomputable def laws_FnExactTreeText.A : Ann := { dp := fun d => isIn [] d, lp := look [], jn := look [], pins := [], nt := 27 }
noncomputable def laws_FnExactTreeText.phis (N : Nat) : List (Nat × Sm D) := [(16, laws_szTree.sm N), (18, laws_toTree.sm N), (15, spec_TreeText.sm N), (14, impl_TreeText.sm N), (20, laws_eqTree.sm N)]
theorem laws_FnExactTreeText.run (N : Nat) (x : LawsTree × Unit) : runF cx (look (laws_FnExactTreeText.phis N)) laws_FnExactTreeText.A N (bodyOf Tryd.f10) Tryd.f10.results.toList laws_FnExactTreeText.sg x = laws_FnExactTreeText N x.1 := by
  have h : runF cx (look (laws_FnExactTreeText.phis N)) laws_FnExactTreeText.A N (bodyOf Tryd.f10) Tryd.f10.results.toList laws_FnExactTreeText.sg x = laws_FnExactTreeText.B N x.1 := by kernel_rfl
  rw [h]
  try rfl
noncomputable def laws_FnExactTreeText.sm (N : Nat) : Sm D := (⟨laws_FnExactTreeText.sg, fun (x : LawsTree × Unit) => laws_FnExactTreeText N x.1⟩ : Sm D)
theorem laws_FnExactTreeText.sound (N : Nat) : Sound cx Tryd.prog gam 10 (laws_FnExactTreeText.sm N) := fn_sound (A := laws_FnExactTreeText.A) (Φ := (look (laws_FnExactTreeText.phis N))) pok (G := gam) (ΦOk.cons (laws_szTree.sound N) (fnOk_of (f := 16) (by kernel_rfl)) (ΦOk.cons (laws_toTree.sound N) (fnOk_of (f := 18) (by kernel_rfl)) (ΦOk.cons (spec_TreeText.sound N) (fnOk_of (f := 15) (by kernel_rfl)) (ΦOk.cons (impl_TreeText.sound N) (fnOk_of (f := 14) (by kernel_rfl)) (ΦOk.cons (laws_eqTree.sound N) (fnOk_of (f := 20) (by kernel_rfl)) ΦOk.nil))))) mixed N Tryd.func10 (c := (bodyOf Tryd.f10)) (by kernel_rfl) laws_FnExactTreeText.sg (by kernel_rfl) (by kernel_rfl) (by kernel_rfl) (laws_FnExactTreeText.run N)

end
end Go.Ev
