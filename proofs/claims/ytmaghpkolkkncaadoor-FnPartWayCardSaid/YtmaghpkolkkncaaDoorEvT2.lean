/- Each function that the law reaches does what its plain form says; no condition beyond the table of the library. -/
import Derived.Test.YtmaghpkolkkncaaDoorEvT1
set_option linter.all false
set_option linter.unusedVariables false
set_option linter.unusedSimpArgs false
set_option maxRecDepth 100000
set_option maxHeartbeats 0
namespace Go.Ev
noncomputable section
open Go.Proofs
@[reducible] def spec_SameInts.sg : Sg := { ms := [{ k := (.sl (.int .i64)), fl := [none] }, { k := (.sl (.int .i64)), fl := [none] }], keep := [false, false], rs := [{ k := .bool }] }
@[reducible] def spec_SameInts.lvL0 : Lv := { id := 0, slots := [0, 1, 5], ms := [{ k := (.sl (.int .i64)), fl := [none] }, { k := (.sl (.int .i64)), fl := [none] }, { k := (.int .i64) }] }
noncomputable def spec_SameInts.A : Ann := { dp := fun d => isIn [] d, lp := look [(0, spec_SameInts.lvL0)], jn := look [], pins := [], nt := 26 }
noncomputable def spec_SameInts.phis (N : Nat) : List (Nat × Sm D) := []
noncomputable def spec_SameInts.a0 (N : Nat) (n : Nat) (y : (List (Int)) × (List (Int)) × Int × Unit) : Option (Bool × Unit) := loopAt cx (look (spec_SameInts.phis N)) spec_SameInts.A N n (encL cx spec_SameInts.lvL0.ms y).1 (encL cx spec_SameInts.lvL0.ms y).2 (bodyOf Tryd.f30) 0 (Kfin cx spec_SameInts.A spec_SameInts.sg Tryd.f30.results.toList) [1, 1, 0, 1, 1] []
theorem spec_SameInts.r0 (N : Nat) : ∀ (n : Nat) (y : (List (Int)) × (List (Int)) × Int × Unit), spec_SameInts.a0 N n y = spec_SameInts.L0 N n y
  | 0, y => by kernel_rfl
  | n + 1, y => by
    have h : spec_SameInts.a0 N (n + 1) y = spec_SameInts.B0 N (fun z => spec_SameInts.a0 N n z) y := by kernel_rfl
    have e : (fun z => spec_SameInts.a0 N n z) = spec_SameInts.L0 N n := funext fun z => spec_SameInts.r0 N n z
    rw [h]
    try rw [e]
    first | done | rfl
theorem spec_SameInts.run (N : Nat) (x : (List (Int)) × (List (Int)) × Unit) : runF cx (look (spec_SameInts.phis N)) spec_SameInts.A N (bodyOf Tryd.f30) Tryd.f30.results.toList spec_SameInts.sg x = spec_SameInts N x.1 x.2.1 := by
  have h : runF cx (look (spec_SameInts.phis N)) spec_SameInts.A N (bodyOf Tryd.f30) Tryd.f30.results.toList spec_SameInts.sg x = spec_SameInts.B N (fun z => spec_SameInts.a0 N N z) x.1 x.2.1 := by kernel_rfl
  have e0 : (fun z => spec_SameInts.a0 N N z) = spec_SameInts.L0 N N := funext fun z => spec_SameInts.r0 N N z
  rw [h, e0]
  try rfl
noncomputable def spec_SameInts.sm (N : Nat) : Sm D := (⟨spec_SameInts.sg, fun (x : (List (Int)) × (List (Int)) × Unit) => spec_SameInts N x.1 x.2.1⟩ : Sm D)
theorem spec_SameInts.sound (N : Nat) : Sound cx Tryd.prog gam 30 (spec_SameInts.sm N) := fn_sound (A := spec_SameInts.A) (Φ := (look (spec_SameInts.phis N))) pok (G := gam) ΦOk.nil mixed N Tryd.func30 (c := (bodyOf Tryd.f30)) (by kernel_rfl) spec_SameInts.sg (by kernel_rfl) (by kernel_rfl) (by kernel_rfl) (spec_SameInts.run N)

@[reducible] def laws_FnPartWay.sg : Sg := { ms := [{ k := (.sl (.int .u8)), fl := [none] }], keep := [false], rs := [{ k := .bool }] }
noncomputable def laws_FnPartWay.A : Ann := { dp := fun d => isIn [] d, lp := look [], jn := look [], pins := [], nt := 60 }
noncomputable def laws_FnPartWay.phis (N : Nat) : List (Nat × Sm D) := [(27, spec_DrawPartWay.sm N), (28, impl_PartWay.sm N), (29, spec_PartWay.sm N), (30, spec_SameInts.sm N), (24, impl_TreeAt.sm N)]
theorem laws_FnPartWay.run (N : Nat) (x : (List (Int)) × Unit) : runF cx (look (laws_FnPartWay.phis N)) laws_FnPartWay.A N (bodyOf Tryd.f7) Tryd.f7.results.toList laws_FnPartWay.sg x = laws_FnPartWay N x.1 := by
  have h : runF cx (look (laws_FnPartWay.phis N)) laws_FnPartWay.A N (bodyOf Tryd.f7) Tryd.f7.results.toList laws_FnPartWay.sg x = laws_FnPartWay.B N x.1 := by kernel_rfl
  rw [h]
  try rfl
noncomputable def laws_FnPartWay.sm (N : Nat) : Sm D := (⟨laws_FnPartWay.sg, fun (x : (List (Int)) × Unit) => laws_FnPartWay N x.1⟩ : Sm D)
theorem laws_FnPartWay.sound (N : Nat) : Sound cx Tryd.prog gam 7 (laws_FnPartWay.sm N) := fn_sound (A := laws_FnPartWay.A) (Φ := (look (laws_FnPartWay.phis N))) pok (G := gam) (ΦOk.cons (spec_DrawPartWay.sound N) (fnOk_of (f := 27) (by kernel_rfl)) (ΦOk.cons (impl_PartWay.sound N) (fnOk_of (f := 28) (by kernel_rfl)) (ΦOk.cons (spec_PartWay.sound N) (fnOk_of (f := 29) (by kernel_rfl)) (ΦOk.cons (spec_SameInts.sound N) (fnOk_of (f := 30) (by kernel_rfl)) (ΦOk.cons (impl_TreeAt.sound N) (fnOk_of (f := 24) (by kernel_rfl)) ΦOk.nil))))) mixed N Tryd.func7 (c := (bodyOf Tryd.f7)) (by kernel_rfl) laws_FnPartWay.sg (by kernel_rfl) (by kernel_rfl) (by kernel_rfl) (laws_FnPartWay.run N)

end
end Go.Ev
