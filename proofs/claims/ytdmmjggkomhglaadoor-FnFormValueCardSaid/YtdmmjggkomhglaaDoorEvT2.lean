/- Each function that the law reaches does what its plain form says; no condition beyond the table of the library. -/
import Derived.Test.YtdmmjggkomhglaaDoorEvT1
set_option linter.all false
set_option linter.unusedVariables false
set_option linter.unusedSimpArgs false
set_option maxRecDepth 100000
set_option maxHeartbeats 0
namespace Go.Ev
noncomputable section
open Go.Proofs
@[reducible] def spec_Kept.sg : Sg := { ms := [{ k := (.sl (.st 30)), fl := [none] }, { k := (.sl (.int .i64)), fl := [none] }], keep := [false, false], rs := [{ k := (.sl (.st 30)), fl := [none] }], hold := true }
@[reducible] def spec_Kept.lvJ8 : Lv := { id := 8, slots := [0, 1, 5, 6, 7], ms := [{ k := (.sl (.st 30)), fl := [none] }, { k := (.sl (.int .i64)), fl := [none] }, { k := (.sl (.st 30)), fl := [some (false, 640)] }, { k := (.int .i64) }, { ptr := true, id := 680, t := 31, k := (.st 30), fl := [none, none, none] }] }
@[reducible] def spec_Kept.lvL0 : Lv := { id := 0, slots := [0, 1, 5, 6], ms := [{ k := (.sl (.st 30)), fl := [none] }, { k := (.sl (.int .i64)), fl := [none] }, { k := (.sl (.st 30)), fl := [some (false, 640)] }, { k := (.int .i64) }] }
noncomputable def spec_Kept.A : Ann := { dp := fun d => isIn [] d, lp := look [(0, spec_Kept.lvL0)], jn := look [(8, spec_Kept.lvJ8)], pins := [], nt := 28 }
noncomputable def spec_Kept.phis (N : Nat) : List (Nat × Sm D) := [(24, spec_hasInt.sm N)]
noncomputable def spec_Kept.a0 (N : Nat) (n : Nat) (y : (List (ImplValue)) × (List (Int)) × (List (ImplValue)) × Int × Unit) : Option ((List (ImplValue)) × Unit) := loopAt cx (look (spec_Kept.phis N)) spec_Kept.A N n (encL cx spec_Kept.lvL0.ms y).1 (encL cx spec_Kept.lvL0.ms y).2 (bodyOf Tryd.f9) 0 (Kfin cx spec_Kept.A spec_Kept.sg Tryd.f9.results.toList) [1, 1, 0, 1, 1] []
theorem spec_Kept.r0 (N : Nat) : ∀ (n : Nat) (y : (List (ImplValue)) × (List (Int)) × (List (ImplValue)) × Int × Unit), spec_Kept.a0 N n y = spec_Kept.L0 N n y
  | 0, y => by kernel_rfl
  | n + 1, y => by
    have h : spec_Kept.a0 N (n + 1) y = spec_Kept.B0 N (fun z => spec_Kept.a0 N n z) y := by kernel_rfl
    have e : (fun z => spec_Kept.a0 N n z) = spec_Kept.L0 N n := funext fun z => spec_Kept.r0 N n z
    rw [h]
    try rw [e]
    first | done | rfl
theorem spec_Kept.run (N : Nat) (x : (List (ImplValue)) × (List (Int)) × Unit) : runF cx (look (spec_Kept.phis N)) spec_Kept.A N (bodyOf Tryd.f9) Tryd.f9.results.toList spec_Kept.sg x = spec_Kept N x.1 x.2.1 := by
  have h : runF cx (look (spec_Kept.phis N)) spec_Kept.A N (bodyOf Tryd.f9) Tryd.f9.results.toList spec_Kept.sg x = spec_Kept.B N (fun z => spec_Kept.a0 N N z) x.1 x.2.1 := by kernel_rfl
  have e0 : (fun z => spec_Kept.a0 N N z) = spec_Kept.L0 N N := funext fun z => spec_Kept.r0 N N z
  rw [h, e0]
  try rfl
noncomputable def spec_Kept.sm (N : Nat) : Sm D := (⟨spec_Kept.sg, fun (x : (List (ImplValue)) × (List (Int)) × Unit) => spec_Kept N x.1 x.2.1⟩ : Sm D)
theorem spec_Kept.sound (N : Nat) : Sound cx Tryd.prog gam 9 (spec_Kept.sm N) := fn_sound (A := spec_Kept.A) (Φ := (look (spec_Kept.phis N))) pok (G := gam) (ΦOk.cons (spec_hasInt.sound N) (fnOk_of (f := 24) (by kernel_rfl)) ΦOk.nil) mixed N Tryd.func9 (c := (bodyOf Tryd.f9)) (by kernel_rfl) spec_Kept.sg (by kernel_rfl) (by kernel_rfl) (by kernel_rfl) (spec_Kept.run N)

@[reducible] def laws_FnFormValue.sg : Sg := { ms := [{ k := (.sl (.int .u8)), fl := [none] }], keep := [false], rs := [{ k := .bool }] }
noncomputable def laws_FnFormValue.A : Ann := { dp := fun d => isIn [] d, lp := look [], jn := look [], pins := [], nt := 75 }
noncomputable def laws_FnFormValue.phis (N : Nat) : List (Nat × Sm D) := [(4, spec_DrawFormValue.sm N), (5, impl_FormValue.sm N), (6, spec_FormValue.sm N), (7, impl_FormOk.sm N), (8, spec_EnvOk.sm N), (10, impl_FormNeeds.sm N), (9, spec_Kept.sm N), (11, impl_ValOk.sm N)]
theorem laws_FnFormValue.run (N : Nat) (x : (List (Int)) × Unit) : runF cx (look (laws_FnFormValue.phis N)) laws_FnFormValue.A N (bodyOf Tryd.f3) Tryd.f3.results.toList laws_FnFormValue.sg x = laws_FnFormValue N x.1 := by
  have h : runF cx (look (laws_FnFormValue.phis N)) laws_FnFormValue.A N (bodyOf Tryd.f3) Tryd.f3.results.toList laws_FnFormValue.sg x = laws_FnFormValue.B N x.1 := by kernel_rfl
  rw [h]
  try rfl
noncomputable def laws_FnFormValue.sm (N : Nat) : Sm D := (⟨laws_FnFormValue.sg, fun (x : (List (Int)) × Unit) => laws_FnFormValue N x.1⟩ : Sm D)
theorem laws_FnFormValue.sound (N : Nat) : Sound cx Tryd.prog gam 3 (laws_FnFormValue.sm N) := fn_sound (A := laws_FnFormValue.A) (Φ := (look (laws_FnFormValue.phis N))) pok (G := gam) (ΦOk.cons (spec_DrawFormValue.sound N) (fnOk_of (f := 4) (by kernel_rfl)) (ΦOk.cons (impl_FormValue.sound N) (fnOk_of (f := 5) (by kernel_rfl)) (ΦOk.cons (spec_FormValue.sound N) (fnOk_of (f := 6) (by kernel_rfl)) (ΦOk.cons (impl_FormOk.sound N) (fnOk_of (f := 7) (by kernel_rfl)) (ΦOk.cons (spec_EnvOk.sound N) (fnOk_of (f := 8) (by kernel_rfl)) (ΦOk.cons (impl_FormNeeds.sound N) (fnOk_of (f := 10) (by kernel_rfl)) (ΦOk.cons (spec_Kept.sound N) (fnOk_of (f := 9) (by kernel_rfl)) (ΦOk.cons (impl_ValOk.sound N) (fnOk_of (f := 11) (by kernel_rfl)) ΦOk.nil)))))))) mixed N Tryd.func3 (c := (bodyOf Tryd.f3)) (by kernel_rfl) laws_FnFormValue.sg (by kernel_rfl) (by kernel_rfl) (by kernel_rfl) (laws_FnFormValue.run N)

end
end Go.Ev
