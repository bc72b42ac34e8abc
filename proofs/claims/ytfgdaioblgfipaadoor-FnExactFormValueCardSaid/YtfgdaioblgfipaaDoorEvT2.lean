/- Each function that the law reaches does what its plain form says; no condition beyond the table of the library. -/
import Derived.Test.YtfgdaioblgfipaaDoorEvT1
set_option linter.all false
set_option linter.unusedVariables false
set_option linter.unusedSimpArgs false
set_option maxRecDepth 100000
set_option maxHeartbeats 0
namespace Go.Ev
noncomputable section
open Go.Proofs
@[reducible] def laws_eqEnv.sg : Sg := { ms := [{ k := (.st 54) }, { k := (.st 54) }], keep := [false, false], rs := [{ k := .bool }] }
noncomputable def laws_eqEnv.A : Ann := { dp := fun d => isIn [] d, lp := look [], jn := look [], pins := [], nt := 29 }
noncomputable def laws_eqEnv.phis (N : Nat) : List (Nat × Sm D) := [(68, laws_eqValueS.sm N), (69, laws_eqIntS.sm N)]
theorem laws_eqEnv.run (N : Nat) (x : ImplEnv × ImplEnv × Unit) : runF cx (look (laws_eqEnv.phis N)) laws_eqEnv.A N (bodyOf Tryd.f29) Tryd.f29.results.toList laws_eqEnv.sg x = laws_eqEnv N x.1 x.2.1 := by
  have h : runF cx (look (laws_eqEnv.phis N)) laws_eqEnv.A N (bodyOf Tryd.f29) Tryd.f29.results.toList laws_eqEnv.sg x = laws_eqEnv.B N x.1 x.2.1 := by kernel_rfl
  rw [h]
  try rfl
noncomputable def laws_eqEnv.sm (N : Nat) : Sm D := (⟨laws_eqEnv.sg, fun (x : ImplEnv × ImplEnv × Unit) => laws_eqEnv N x.1 x.2.1⟩ : Sm D)
theorem laws_eqEnv.sound (N : Nat) : Sound cx Tryd.prog gam 29 (laws_eqEnv.sm N) := fn_sound (A := laws_eqEnv.A) (Φ := (look (laws_eqEnv.phis N))) pok (G := gam) (ΦOk.cons (laws_eqValueS.sound N) (fnOk_of (f := 68) (by kernel_rfl)) (ΦOk.cons (laws_eqIntS.sound N) (fnOk_of (f := 69) (by kernel_rfl)) ΦOk.nil)) mixed N Tryd.func29 (c := (bodyOf Tryd.f29)) (by kernel_rfl) laws_eqEnv.sg (by kernel_rfl) (by kernel_rfl) (by kernel_rfl) (laws_eqEnv.run N)

@[reducible] def laws_FnExactFormValue.sg : Sg := { ms := [{ k := (.sl (.st 82)), fl := [none] }, { k := (.st 45) }], keep := [false, false], rs := [{ k := .bool }] }
noncomputable def laws_FnExactFormValue.A : Ann := { dp := fun d => isIn [] d, lp := look [], jn := look [], pins := [], nt := 46 }
noncomputable def laws_FnExactFormValue.phis (N : Nat) : List (Nat × Sm D) := [(21, laws_szStepS.sm N), (22, laws_szEnv.sm N), (24, laws_toStepS.sm N), (25, laws_toEnv.sm N), (23, spec_FormValue.sm N), (26, impl_FormValue.sm N), (27, laws_eqValue.sm N), (28, laws_eqStepS.sm N), (29, laws_eqEnv.sm N)]
theorem laws_FnExactFormValue.run (N : Nat) (x : (List (LawsStep)) × LawsEnv × Unit) : runF cx (look (laws_FnExactFormValue.phis N)) laws_FnExactFormValue.A N (bodyOf Tryd.f6) Tryd.f6.results.toList laws_FnExactFormValue.sg x = laws_FnExactFormValue N x.1 x.2.1 := by
  have h : runF cx (look (laws_FnExactFormValue.phis N)) laws_FnExactFormValue.A N (bodyOf Tryd.f6) Tryd.f6.results.toList laws_FnExactFormValue.sg x = laws_FnExactFormValue.B N x.1 x.2.1 := by kernel_rfl
  rw [h]
  try rfl
noncomputable def laws_FnExactFormValue.sm (N : Nat) : Sm D := (⟨laws_FnExactFormValue.sg, fun (x : (List (LawsStep)) × LawsEnv × Unit) => laws_FnExactFormValue N x.1 x.2.1⟩ : Sm D)
theorem laws_FnExactFormValue.sound (N : Nat) : Sound cx Tryd.prog gam 6 (laws_FnExactFormValue.sm N) := fn_sound (A := laws_FnExactFormValue.A) (Φ := (look (laws_FnExactFormValue.phis N))) pok (G := gam) (ΦOk.cons (laws_szStepS.sound N) (fnOk_of (f := 21) (by kernel_rfl)) (ΦOk.cons (laws_szEnv.sound N) (fnOk_of (f := 22) (by kernel_rfl)) (ΦOk.cons (laws_toStepS.sound N) (fnOk_of (f := 24) (by kernel_rfl)) (ΦOk.cons (laws_toEnv.sound N) (fnOk_of (f := 25) (by kernel_rfl)) (ΦOk.cons (spec_FormValue.sound N) (fnOk_of (f := 23) (by kernel_rfl)) (ΦOk.cons (impl_FormValue.sound N) (fnOk_of (f := 26) (by kernel_rfl)) (ΦOk.cons (laws_eqValue.sound N) (fnOk_of (f := 27) (by kernel_rfl)) (ΦOk.cons (laws_eqStepS.sound N) (fnOk_of (f := 28) (by kernel_rfl)) (ΦOk.cons (laws_eqEnv.sound N) (fnOk_of (f := 29) (by kernel_rfl)) ΦOk.nil))))))))) mixed N Tryd.func6 (c := (bodyOf Tryd.f6)) (by kernel_rfl) laws_FnExactFormValue.sg (by kernel_rfl) (by kernel_rfl) (by kernel_rfl) (laws_FnExactFormValue.run N)

end
end Go.Ev
