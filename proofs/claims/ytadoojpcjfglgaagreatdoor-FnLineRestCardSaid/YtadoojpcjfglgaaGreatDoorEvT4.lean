/- Each function that the law reaches does what its plain form says; no condition beyond the table of the library. -/
import Derived.Test.YtadoojpcjfglgaaGreatDoorEvT3
set_option linter.all false
set_option linter.unusedVariables false
set_option linter.unusedSimpArgs false
set_option maxRecDepth 100000
set_option maxHeartbeats 0
namespace Go.Ev
noncomputable section
open Go.Proofs
@[reducible] def spec_SameUpdates.sg : Sg := { ms := [{ k := (.sl (.st 100)), fl := [none] }, { k := (.sl (.st 100)), fl := [none] }], keep := [false, false], rs := [{ k := .bool }] }
@[reducible] def spec_SameUpdates.lvL0 : Lv := { id := 0, slots := [0, 1, 5], ms := [{ k := (.sl (.st 100)), fl := [none] }, { k := (.sl (.st 100)), fl := [none] }, { k := (.int .i64) }] }
noncomputable def spec_SameUpdates.A : Ann := { dp := fun d => isIn [] d, lp := look [(0, spec_SameUpdates.lvL0)], jn := look [], pins := [], nt := 27 }
noncomputable def spec_SameUpdates.phis (N : Nat) : List (Nat × Sm D) := [(105, spec_sameUpdate.sm N)]
noncomputable def spec_SameUpdates.a0 (N : Nat) (n : Nat) (y : (List (ImplUpdate)) × (List (ImplUpdate)) × Int × Unit) : Option (Bool × Unit) := loopAt cx (look (spec_SameUpdates.phis N)) spec_SameUpdates.A N n (encL cx spec_SameUpdates.lvL0.ms y).1 (encL cx spec_SameUpdates.lvL0.ms y).2 (bodyOf Tryz.f60) 0 (Kfin cx spec_SameUpdates.A spec_SameUpdates.sg Tryz.f60.results.toList) [1, 1, 0, 1, 1] []
theorem spec_SameUpdates.r0 (N : Nat) : ∀ (n : Nat) (y : (List (ImplUpdate)) × (List (ImplUpdate)) × Int × Unit), spec_SameUpdates.a0 N n y = spec_SameUpdates.L0 N n y
  | 0, y => by kernel_rfl
  | n + 1, y => by
    have h : spec_SameUpdates.a0 N (n + 1) y = spec_SameUpdates.B0 N (fun z => spec_SameUpdates.a0 N n z) y := by kernel_rfl
    have e : (fun z => spec_SameUpdates.a0 N n z) = spec_SameUpdates.L0 N n := funext fun z => spec_SameUpdates.r0 N n z
    rw [h]
    try rw [e]
    first | done | rfl
theorem spec_SameUpdates.run (N : Nat) (x : (List (ImplUpdate)) × (List (ImplUpdate)) × Unit) : runF cx (look (spec_SameUpdates.phis N)) spec_SameUpdates.A N (bodyOf Tryz.f60) Tryz.f60.results.toList spec_SameUpdates.sg x = spec_SameUpdates N x.1 x.2.1 := by
  have h : runF cx (look (spec_SameUpdates.phis N)) spec_SameUpdates.A N (bodyOf Tryz.f60) Tryz.f60.results.toList spec_SameUpdates.sg x = spec_SameUpdates.B N (fun z => spec_SameUpdates.a0 N N z) x.1 x.2.1 := by kernel_rfl
  have e0 : (fun z => spec_SameUpdates.a0 N N z) = spec_SameUpdates.L0 N N := funext fun z => spec_SameUpdates.r0 N N z
  rw [h, e0]
  try rfl
noncomputable def spec_SameUpdates.sm (N : Nat) : Sm D := (⟨spec_SameUpdates.sg, fun (x : (List (ImplUpdate)) × (List (ImplUpdate)) × Unit) => spec_SameUpdates N x.1 x.2.1⟩ : Sm D)
theorem spec_SameUpdates.sound (N : Nat) : Sound cx Tryz.prog gam 60 (spec_SameUpdates.sm N) := fn_sound (A := spec_SameUpdates.A) (Φ := (look (spec_SameUpdates.phis N))) pok (G := gam) (ΦOk.cons (spec_sameUpdate.sound N) (fnOk_of (f := 105) (by kernel_rfl)) ΦOk.nil) mixed N Tryz.func60 (c := (bodyOf Tryz.f60)) (by kernel_rfl) spec_SameUpdates.sg (by kernel_rfl) (by kernel_rfl) (by kernel_rfl) (spec_SameUpdates.run N)

@[reducible] def spec_SameLine.sg : Sg := { ms := [{ k := (.st 25) }, { k := (.st 25) }], keep := [false, false], rs := [{ k := .bool }] }
noncomputable def spec_SameLine.A : Ann := { dp := fun d => isIn [] d, lp := look [], jn := look [], pins := [], nt := 17 }
noncomputable def spec_SameLine.phis (N : Nat) : List (Nat × Sm D) := [(53, spec_sameStore.sm N), (60, spec_SameUpdates.sm N)]
theorem spec_SameLine.run (N : Nat) (x : ImplLine × ImplLine × Unit) : runF cx (look (spec_SameLine.phis N)) spec_SameLine.A N (bodyOf Tryz.f18) Tryz.f18.results.toList spec_SameLine.sg x = spec_SameLine N x.1 x.2.1 := by
  have h : runF cx (look (spec_SameLine.phis N)) spec_SameLine.A N (bodyOf Tryz.f18) Tryz.f18.results.toList spec_SameLine.sg x = spec_SameLine.B N x.1 x.2.1 := by kernel_rfl
  rw [h]
  try rfl
noncomputable def spec_SameLine.sm (N : Nat) : Sm D := (⟨spec_SameLine.sg, fun (x : ImplLine × ImplLine × Unit) => spec_SameLine N x.1 x.2.1⟩ : Sm D)
theorem spec_SameLine.sound (N : Nat) : Sound cx Tryz.prog gam 18 (spec_SameLine.sm N) := fn_sound (A := spec_SameLine.A) (Φ := (look (spec_SameLine.phis N))) pok (G := gam) (ΦOk.cons (spec_sameStore.sound N) (fnOk_of (f := 53) (by kernel_rfl)) (ΦOk.cons (spec_SameUpdates.sound N) (fnOk_of (f := 60) (by kernel_rfl)) ΦOk.nil)) mixed N Tryz.func18 (c := (bodyOf Tryz.f18)) (by kernel_rfl) spec_SameLine.sg (by kernel_rfl) (by kernel_rfl) (by kernel_rfl) (spec_SameLine.run N)

@[reducible] def laws_FnLineRest.sg : Sg := { ms := [{ k := (.sl (.int .u8)), fl := [none] }], keep := [false], rs := [{ k := .bool }] }
noncomputable def laws_FnLineRest.A : Ann := { dp := fun d => isIn [] d, lp := look [], jn := look [], pins := [], nt := 50 }
noncomputable def laws_FnLineRest.phis (N : Nat) : List (Nat × Sm D) := [(16, spec_DrawLineRest.sm N), (15, impl_LineRest.sm N), (17, spec_LineRest.sm N), (18, spec_SameLine.sm N), (13, impl_LineOk.sm N), (10, impl_LineShow.sm N), (12, spec_SameStore.sm N)]
theorem laws_FnLineRest.run (N : Nat) (x : (List (Int)) × Unit) : runF cx (look (laws_FnLineRest.phis N)) laws_FnLineRest.A N (bodyOf Tryz.f4) Tryz.f4.results.toList laws_FnLineRest.sg x = laws_FnLineRest N x.1 := by
  have h : runF cx (look (laws_FnLineRest.phis N)) laws_FnLineRest.A N (bodyOf Tryz.f4) Tryz.f4.results.toList laws_FnLineRest.sg x = laws_FnLineRest.B N x.1 := by kernel_rfl
  rw [h]
  try rfl
noncomputable def laws_FnLineRest.sm (N : Nat) : Sm D := (⟨laws_FnLineRest.sg, fun (x : (List (Int)) × Unit) => laws_FnLineRest N x.1⟩ : Sm D)
theorem laws_FnLineRest.sound (N : Nat) : Sound cx Tryz.prog gam 4 (laws_FnLineRest.sm N) := fn_sound (A := laws_FnLineRest.A) (Φ := (look (laws_FnLineRest.phis N))) pok (G := gam) (ΦOk.cons (spec_DrawLineRest.sound N) (fnOk_of (f := 16) (by kernel_rfl)) (ΦOk.cons (impl_LineRest.sound N) (fnOk_of (f := 15) (by kernel_rfl)) (ΦOk.cons (spec_LineRest.sound N) (fnOk_of (f := 17) (by kernel_rfl)) (ΦOk.cons (spec_SameLine.sound N) (fnOk_of (f := 18) (by kernel_rfl)) (ΦOk.cons (impl_LineOk.sound N) (fnOk_of (f := 13) (by kernel_rfl)) (ΦOk.cons (impl_LineShow.sound N) (fnOk_of (f := 10) (by kernel_rfl)) (ΦOk.cons (spec_SameStore.sound N) (fnOk_of (f := 12) (by kernel_rfl)) ΦOk.nil))))))) mixed N Tryz.func4 (c := (bodyOf Tryz.f4)) (by kernel_rfl) laws_FnLineRest.sg (by kernel_rfl) (by kernel_rfl) (by kernel_rfl) (laws_FnLineRest.run N)

end
end Go.Ev
