/- Each function that the law reaches does what its plain form says; no condition beyond the table of the library. -/
import Derived.Test.YtadoojpcjfglgaaGreatDoorEvT2
set_option linter.all false
set_option linter.unusedVariables false
set_option linter.unusedSimpArgs false
set_option maxRecDepth 100000
set_option maxHeartbeats 0
namespace Go.Ev
noncomputable section
open Go.Proofs
@[reducible] def spec_sameValues.sg : Sg := { ms := [{ k := (.sl (.st 127)), fl := [none] }, { k := (.sl (.st 127)), fl := [none] }], keep := [false, false], rs := [{ k := .bool }] }
@[reducible] def spec_sameValues.lvL0 : Lv := { id := 0, slots := [0, 1, 5], ms := [{ k := (.sl (.st 127)), fl := [none] }, { k := (.sl (.st 127)), fl := [none] }, { k := (.int .i64) }] }
noncomputable def spec_sameValues.A : Ann := { dp := fun d => isIn [] d, lp := look [(0, spec_sameValues.lvL0)], jn := look [], pins := [], nt := 26 }
noncomputable def spec_sameValues.phis (N : Nat) : List (Nat × Sm D) := []
noncomputable def spec_sameValues.a0 (N : Nat) (n : Nat) (y : (List (ImplValue)) × (List (ImplValue)) × Int × Unit) : Option (Bool × Unit) := loopAt cx (look (spec_sameValues.phis N)) spec_sameValues.A N n (encL cx spec_sameValues.lvL0.ms y).1 (encL cx spec_sameValues.lvL0.ms y).2 (bodyOf Tryz.f99) 0 (Kfin cx spec_sameValues.A spec_sameValues.sg Tryz.f99.results.toList) [1, 1, 0, 1, 1] []
theorem spec_sameValues.r0 (N : Nat) : ∀ (n : Nat) (y : (List (ImplValue)) × (List (ImplValue)) × Int × Unit), spec_sameValues.a0 N n y = spec_sameValues.L0 N n y
  | 0, y => by kernel_rfl
  | n + 1, y => by
    have h : spec_sameValues.a0 N (n + 1) y = spec_sameValues.B0 N (fun z => spec_sameValues.a0 N n z) y := by kernel_rfl
    have e : (fun z => spec_sameValues.a0 N n z) = spec_sameValues.L0 N n := funext fun z => spec_sameValues.r0 N n z
    rw [h]
    try rw [e]
    first | done | rfl
theorem spec_sameValues.run (N : Nat) (x : (List (ImplValue)) × (List (ImplValue)) × Unit) : runF cx (look (spec_sameValues.phis N)) spec_sameValues.A N (bodyOf Tryz.f99) Tryz.f99.results.toList spec_sameValues.sg x = spec_sameValues N x.1 x.2.1 := by
  have h : runF cx (look (spec_sameValues.phis N)) spec_sameValues.A N (bodyOf Tryz.f99) Tryz.f99.results.toList spec_sameValues.sg x = spec_sameValues.B N (fun z => spec_sameValues.a0 N N z) x.1 x.2.1 := by kernel_rfl
  have e0 : (fun z => spec_sameValues.a0 N N z) = spec_sameValues.L0 N N := funext fun z => spec_sameValues.r0 N N z
  rw [h, e0]
  try rfl
noncomputable def spec_sameValues.sm (N : Nat) : Sm D := (⟨spec_sameValues.sg, fun (x : (List (ImplValue)) × (List (ImplValue)) × Unit) => spec_sameValues N x.1 x.2.1⟩ : Sm D)
theorem spec_sameValues.sound (N : Nat) : Sound cx Tryz.prog gam 99 (spec_sameValues.sm N) := fn_sound (A := spec_sameValues.A) (Φ := (look (spec_sameValues.phis N))) pok (G := gam) ΦOk.nil mixed N Tryz.func99 (c := (bodyOf Tryz.f99)) (by kernel_rfl) spec_sameValues.sg (by kernel_rfl) (by kernel_rfl) (by kernel_rfl) (spec_sameValues.run N)

@[reducible] def spec_sameStore.sg : Sg := { ms := [{ k := (.sl (.st 80)), fl := [none] }, { k := (.sl (.st 80)), fl := [none] }], keep := [false, false], rs := [{ k := .bool }] }
@[reducible] def spec_sameStore.lvL0 : Lv := { id := 0, slots := [0, 1, 5], ms := [{ k := (.sl (.st 80)), fl := [none] }, { k := (.sl (.st 80)), fl := [none] }, { k := (.int .i64) }] }
noncomputable def spec_sameStore.A : Ann := { dp := fun d => isIn [] d, lp := look [(0, spec_sameStore.lvL0)], jn := look [], pins := [], nt := 43 }
noncomputable def spec_sameStore.phis (N : Nat) : List (Nat × Sm D) := [(98, spec_comparePlaces.sm N), (99, spec_sameValues.sm N)]
noncomputable def spec_sameStore.a0 (N : Nat) (n : Nat) (y : (List (ImplCell)) × (List (ImplCell)) × Int × Unit) : Option (Bool × Unit) := loopAt cx (look (spec_sameStore.phis N)) spec_sameStore.A N n (encL cx spec_sameStore.lvL0.ms y).1 (encL cx spec_sameStore.lvL0.ms y).2 (bodyOf Tryz.f53) 0 (Kfin cx spec_sameStore.A spec_sameStore.sg Tryz.f53.results.toList) [1, 1, 0, 1, 1] []
theorem spec_sameStore.r0 (N : Nat) : ∀ (n : Nat) (y : (List (ImplCell)) × (List (ImplCell)) × Int × Unit), spec_sameStore.a0 N n y = spec_sameStore.L0 N n y
  | 0, y => by kernel_rfl
  | n + 1, y => by
    have h : spec_sameStore.a0 N (n + 1) y = spec_sameStore.B0 N (fun z => spec_sameStore.a0 N n z) y := by kernel_rfl
    have e : (fun z => spec_sameStore.a0 N n z) = spec_sameStore.L0 N n := funext fun z => spec_sameStore.r0 N n z
    rw [h]
    try rw [e]
    first | done | rfl
theorem spec_sameStore.run (N : Nat) (x : (List (ImplCell)) × (List (ImplCell)) × Unit) : runF cx (look (spec_sameStore.phis N)) spec_sameStore.A N (bodyOf Tryz.f53) Tryz.f53.results.toList spec_sameStore.sg x = spec_sameStore N x.1 x.2.1 := by
  have h : runF cx (look (spec_sameStore.phis N)) spec_sameStore.A N (bodyOf Tryz.f53) Tryz.f53.results.toList spec_sameStore.sg x = spec_sameStore.B N (fun z => spec_sameStore.a0 N N z) x.1 x.2.1 := by kernel_rfl
  have e0 : (fun z => spec_sameStore.a0 N N z) = spec_sameStore.L0 N N := funext fun z => spec_sameStore.r0 N N z
  rw [h, e0]
  try rfl
noncomputable def spec_sameStore.sm (N : Nat) : Sm D := (⟨spec_sameStore.sg, fun (x : (List (ImplCell)) × (List (ImplCell)) × Unit) => spec_sameStore N x.1 x.2.1⟩ : Sm D)
theorem spec_sameStore.sound (N : Nat) : Sound cx Tryz.prog gam 53 (spec_sameStore.sm N) := fn_sound (A := spec_sameStore.A) (Φ := (look (spec_sameStore.phis N))) pok (G := gam) (ΦOk.cons (spec_comparePlaces.sound N) (fnOk_of (f := 98) (by kernel_rfl)) (ΦOk.cons (spec_sameValues.sound N) (fnOk_of (f := 99) (by kernel_rfl)) ΦOk.nil)) mixed N Tryz.func53 (c := (bodyOf Tryz.f53)) (by kernel_rfl) spec_sameStore.sg (by kernel_rfl) (by kernel_rfl) (by kernel_rfl) (spec_sameStore.run N)

@[reducible] def spec_SameStore.sg : Sg := { ms := [{ k := (.sl (.st 80)), fl := [none] }, { k := (.sl (.st 80)), fl := [none] }], keep := [false, false], rs := [{ k := .bool }] }
noncomputable def spec_SameStore.A : Ann := { dp := fun d => isIn [] d, lp := look [], jn := look [], pins := [], nt := 8 }
noncomputable def spec_SameStore.phis (N : Nat) : List (Nat × Sm D) := [(53, spec_sameStore.sm N)]
theorem spec_SameStore.run (N : Nat) (x : (List (ImplCell)) × (List (ImplCell)) × Unit) : runF cx (look (spec_SameStore.phis N)) spec_SameStore.A N (bodyOf Tryz.f12) Tryz.f12.results.toList spec_SameStore.sg x = spec_SameStore N x.1 x.2.1 := by
  have h : runF cx (look (spec_SameStore.phis N)) spec_SameStore.A N (bodyOf Tryz.f12) Tryz.f12.results.toList spec_SameStore.sg x = spec_SameStore.B N x.1 x.2.1 := by kernel_rfl
  rw [h]
  try rfl
noncomputable def spec_SameStore.sm (N : Nat) : Sm D := (⟨spec_SameStore.sg, fun (x : (List (ImplCell)) × (List (ImplCell)) × Unit) => spec_SameStore N x.1 x.2.1⟩ : Sm D)
theorem spec_SameStore.sound (N : Nat) : Sound cx Tryz.prog gam 12 (spec_SameStore.sm N) := fn_sound (A := spec_SameStore.A) (Φ := (look (spec_SameStore.phis N))) pok (G := gam) (ΦOk.cons (spec_sameStore.sound N) (fnOk_of (f := 53) (by kernel_rfl)) ΦOk.nil) mixed N Tryz.func12 (c := (bodyOf Tryz.f12)) (by kernel_rfl) spec_SameStore.sg (by kernel_rfl) (by kernel_rfl) (by kernel_rfl) (spec_SameStore.run N)

@[reducible] def spec_storeRun.sg : Sg := { ms := [{ k := (.sl (.st 80)), fl := [none] }, { k := (.sl (.st 100)), fl := [none] }], keep := [false, false], rs := [{ k := (.sl (.st 80)), fl := [none] }], hold := true }
@[reducible] def spec_storeRun.lvL0 : Lv := { id := 0, slots := [0, 1, 5], ms := [{ k := (.sl (.st 80)), fl := [none] }, { k := (.sl (.st 100)), fl := [none] }, { k := (.int .i64) }] }
noncomputable def spec_storeRun.A : Ann := { dp := fun d => isIn [] d, lp := look [(0, spec_storeRun.lvL0)], jn := look [], pins := [], nt := 19 }
noncomputable def spec_storeRun.phis (N : Nat) : List (Nat × Sm D) := [(114, spec_storeUpdated.sm N)]
noncomputable def spec_storeRun.a0 (N : Nat) (n : Nat) (y : (List (ImplCell)) × (List (ImplUpdate)) × Int × Unit) : Option ((List (ImplCell)) × Unit) := loopAt cx (look (spec_storeRun.phis N)) spec_storeRun.A N n (encL cx spec_storeRun.lvL0.ms y).1 (encL cx spec_storeRun.lvL0.ms y).2 (bodyOf Tryz.f70) 0 (Kfin cx spec_storeRun.A spec_storeRun.sg Tryz.f70.results.toList) [1, 0, 1, 1] []
theorem spec_storeRun.r0 (N : Nat) : ∀ (n : Nat) (y : (List (ImplCell)) × (List (ImplUpdate)) × Int × Unit), spec_storeRun.a0 N n y = spec_storeRun.L0 N n y
  | 0, y => by kernel_rfl
  | n + 1, y => by
    have h : spec_storeRun.a0 N (n + 1) y = spec_storeRun.B0 N (fun z => spec_storeRun.a0 N n z) y := by kernel_rfl
    have e : (fun z => spec_storeRun.a0 N n z) = spec_storeRun.L0 N n := funext fun z => spec_storeRun.r0 N n z
    rw [h]
    try rw [e]
    first | done | rfl
theorem spec_storeRun.run (N : Nat) (x : (List (ImplCell)) × (List (ImplUpdate)) × Unit) : runF cx (look (spec_storeRun.phis N)) spec_storeRun.A N (bodyOf Tryz.f70) Tryz.f70.results.toList spec_storeRun.sg x = spec_storeRun N x.1 x.2.1 := by
  have h : runF cx (look (spec_storeRun.phis N)) spec_storeRun.A N (bodyOf Tryz.f70) Tryz.f70.results.toList spec_storeRun.sg x = spec_storeRun.B N (fun z => spec_storeRun.a0 N N z) x.1 x.2.1 := by kernel_rfl
  have e0 : (fun z => spec_storeRun.a0 N N z) = spec_storeRun.L0 N N := funext fun z => spec_storeRun.r0 N N z
  rw [h, e0]
  try rfl
noncomputable def spec_storeRun.sm (N : Nat) : Sm D := (⟨spec_storeRun.sg, fun (x : (List (ImplCell)) × (List (ImplUpdate)) × Unit) => spec_storeRun N x.1 x.2.1⟩ : Sm D)
theorem spec_storeRun.sound (N : Nat) : Sound cx Tryz.prog gam 70 (spec_storeRun.sm N) := fn_sound (A := spec_storeRun.A) (Φ := (look (spec_storeRun.phis N))) pok (G := gam) (ΦOk.cons (spec_storeUpdated.sound N) (fnOk_of (f := 114) (by kernel_rfl)) ΦOk.nil) mixed N Tryz.func70 (c := (bodyOf Tryz.f70)) (by kernel_rfl) spec_storeRun.sg (by kernel_rfl) (by kernel_rfl) (by kernel_rfl) (spec_storeRun.run N)

@[reducible] def impl_storeRun.sg : Sg := { ms := [{ k := (.sl (.st 80)), fl := [none] }, { k := (.sl (.st 100)), fl := [none] }], keep := [false, false], rs := [{ k := (.sl (.st 80)), fl := [some (true, 411)] }] }
@[reducible] def impl_storeRun.lvL0 : Lv := { id := 0, slots := [5, 10, 11, 12], ms := [{ k := (.sl (.st 80)), fl := [some (true, 600)] }, { k := (.sl (.st 100)), fl := [none] }, { k := (.int .i64) }, { k := (.int .i64) }] }
noncomputable def impl_storeRun.A : Ann := { dp := fun _ => true, lp := look [(0, impl_storeRun.lvL0)], jn := look [], pins := [], nt := 21 }
noncomputable def impl_storeRun.phis (N : Nat) : List (Nat × Sm D) := [(93, impl_storeCopy.sm N), (95, impl_storeDo.sm N)]
noncomputable def impl_storeRun.a0 (N : Nat) (n : Nat) (y : (List (ImplCell)) × (List (ImplUpdate)) × Int × Int × Unit) : Option ((List (ImplCell)) × Unit) := loopAt cx (look (impl_storeRun.phis N)) impl_storeRun.A N n (encL cx impl_storeRun.lvL0.ms y).1 (encL cx impl_storeRun.lvL0.ms y).2 (bodyOf Tryz.f73) 0 (Kfin cx impl_storeRun.A impl_storeRun.sg Tryz.f73.results.toList) [1, 1, 0, 1, 1] []
theorem impl_storeRun.r0 (N : Nat) : ∀ (n : Nat) (y : (List (ImplCell)) × (List (ImplUpdate)) × Int × Int × Unit), impl_storeRun.a0 N n y = impl_storeRun.L0 N n y
  | 0, y => by kernel_rfl
  | n + 1, y => by
    have h : impl_storeRun.a0 N (n + 1) y = impl_storeRun.B0 N (fun z => impl_storeRun.a0 N n z) y := by kernel_rfl
    have e : (fun z => impl_storeRun.a0 N n z) = impl_storeRun.L0 N n := funext fun z => impl_storeRun.r0 N n z
    rw [h]
    try rw [e]
    first | done | rfl
theorem impl_storeRun.run (N : Nat) (x : (List (ImplCell)) × (List (ImplUpdate)) × Unit) : runF cx (look (impl_storeRun.phis N)) impl_storeRun.A N (bodyOf Tryz.f73) Tryz.f73.results.toList impl_storeRun.sg x = impl_storeRun N x.1 x.2.1 := by
  have h : runF cx (look (impl_storeRun.phis N)) impl_storeRun.A N (bodyOf Tryz.f73) Tryz.f73.results.toList impl_storeRun.sg x = impl_storeRun.B N (fun z => impl_storeRun.a0 N N z) x.1 x.2.1 := by kernel_rfl
  have e0 : (fun z => impl_storeRun.a0 N N z) = impl_storeRun.L0 N N := funext fun z => impl_storeRun.r0 N N z
  rw [h, e0]
  try rfl
noncomputable def impl_storeRun.sm (N : Nat) : Sm D := (⟨impl_storeRun.sg, fun (x : (List (ImplCell)) × (List (ImplUpdate)) × Unit) => impl_storeRun N x.1 x.2.1⟩ : Sm D)
theorem impl_storeRun.sound (N : Nat) : Sound cx Tryz.prog gam 73 (impl_storeRun.sm N) := fn_sound (A := impl_storeRun.A) (Φ := (look (impl_storeRun.phis N))) pok (G := gam) (ΦOk.cons (impl_storeCopy.sound N) (fnOk_of (f := 93) (by kernel_rfl)) (ΦOk.cons (impl_storeDo.sound N) (fnOk_of (f := 95) (by kernel_rfl)) ΦOk.nil)) mixed N Tryz.func73 (c := (bodyOf Tryz.f73)) (by kernel_rfl) impl_storeRun.sg (by kernel_rfl) (by kernel_rfl) (by kernel_rfl) (impl_storeRun.run N)

@[reducible] def spec_validStores.sg : Sg := { ms := [{ k := (.sl (.sl (.st 80))), fl := [none] }], keep := [false], rs := [{ k := .bool }] }
@[reducible] def spec_validStores.lvL0 : Lv := { id := 0, slots := [0, 3], ms := [{ k := (.sl (.sl (.st 80))), fl := [none] }, { k := (.int .i64) }] }
noncomputable def spec_validStores.A : Ann := { dp := fun d => isIn [] d, lp := look [(0, spec_validStores.lvL0)], jn := look [], pins := [], nt := 19 }
noncomputable def spec_validStores.phis (N : Nat) : List (Nat × Sm D) := [(68, spec_validStore.sm N)]
noncomputable def spec_validStores.a0 (N : Nat) (n : Nat) (y : (List (List (ImplCell))) × Int × Unit) : Option (Bool × Unit) := loopAt cx (look (spec_validStores.phis N)) spec_validStores.A N n (encL cx spec_validStores.lvL0.ms y).1 (encL cx spec_validStores.lvL0.ms y).2 (bodyOf Tryz.f120) 0 (Kfin cx spec_validStores.A spec_validStores.sg Tryz.f120.results.toList) [1, 1, 0, 1, 1] []
theorem spec_validStores.r0 (N : Nat) : ∀ (n : Nat) (y : (List (List (ImplCell))) × Int × Unit), spec_validStores.a0 N n y = spec_validStores.L0 N n y
  | 0, y => by kernel_rfl
  | n + 1, y => by
    have h : spec_validStores.a0 N (n + 1) y = spec_validStores.B0 N (fun z => spec_validStores.a0 N n z) y := by kernel_rfl
    have e : (fun z => spec_validStores.a0 N n z) = spec_validStores.L0 N n := funext fun z => spec_validStores.r0 N n z
    rw [h]
    try rw [e]
    first | done | rfl
theorem spec_validStores.run (N : Nat) (x : (List (List (ImplCell))) × Unit) : runF cx (look (spec_validStores.phis N)) spec_validStores.A N (bodyOf Tryz.f120) Tryz.f120.results.toList spec_validStores.sg x = spec_validStores N x.1 := by
  have h : runF cx (look (spec_validStores.phis N)) spec_validStores.A N (bodyOf Tryz.f120) Tryz.f120.results.toList spec_validStores.sg x = spec_validStores.B N (fun z => spec_validStores.a0 N N z) x.1 := by kernel_rfl
  have e0 : (fun z => spec_validStores.a0 N N z) = spec_validStores.L0 N N := funext fun z => spec_validStores.r0 N N z
  rw [h, e0]
  try rfl
noncomputable def spec_validStores.sm (N : Nat) : Sm D := (⟨spec_validStores.sg, fun (x : (List (List (ImplCell))) × Unit) => spec_validStores N x.1⟩ : Sm D)
theorem spec_validStores.sound (N : Nat) : Sound cx Tryz.prog gam 120 (spec_validStores.sm N) := fn_sound (A := spec_validStores.A) (Φ := (look (spec_validStores.phis N))) pok (G := gam) (ΦOk.cons (spec_validStore.sound N) (fnOk_of (f := 68) (by kernel_rfl)) ΦOk.nil) mixed N Tryz.func120 (c := (bodyOf Tryz.f120)) (by kernel_rfl) spec_validStores.sg (by kernel_rfl) (by kernel_rfl) (by kernel_rfl) (spec_validStores.run N)

@[reducible] def spec_validHist.sg : Sg := { ms := [{ k := (.st 54) }], keep := [false], rs := [{ k := .bool }] }
noncomputable def spec_validHist.A : Ann := { dp := fun d => isIn [] d, lp := look [], jn := look [], pins := [], nt := 26 }
noncomputable def spec_validHist.phis (N : Nat) : List (Nat × Sm D) := [(68, spec_validStore.sm N), (120, spec_validStores.sm N)]
theorem spec_validHist.run (N : Nat) (x : ImplHist × Unit) : runF cx (look (spec_validHist.phis N)) spec_validHist.A N (bodyOf Tryz.f77) Tryz.f77.results.toList spec_validHist.sg x = spec_validHist N x.1 := by
  have h : runF cx (look (spec_validHist.phis N)) spec_validHist.A N (bodyOf Tryz.f77) Tryz.f77.results.toList spec_validHist.sg x = spec_validHist.B N x.1 := by kernel_rfl
  rw [h]
  try rfl
noncomputable def spec_validHist.sm (N : Nat) : Sm D := (⟨spec_validHist.sg, fun (x : ImplHist × Unit) => spec_validHist N x.1⟩ : Sm D)
theorem spec_validHist.sound (N : Nat) : Sound cx Tryz.prog gam 77 (spec_validHist.sm N) := fn_sound (A := spec_validHist.A) (Φ := (look (spec_validHist.phis N))) pok (G := gam) (ΦOk.cons (spec_validStore.sound N) (fnOk_of (f := 68) (by kernel_rfl)) (ΦOk.cons (spec_validStores.sound N) (fnOk_of (f := 120) (by kernel_rfl)) ΦOk.nil)) mixed N Tryz.func77 (c := (bodyOf Tryz.f77)) (by kernel_rfl) spec_validHist.sg (by kernel_rfl) (by kernel_rfl) (by kernel_rfl) (spec_validHist.run N)

@[reducible] def spec_copyStores.sg : Sg := { ms := [{ k := (.sl (.sl (.st 80))), fl := [none] }], keep := [false], rs := [{ k := (.sl (.sl (.st 80))), fl := [some (false, 411)] }], hold := true }
@[reducible] def spec_copyStores.lvL0 : Lv := { id := 0, slots := [0, 3, 4], ms := [{ k := (.sl (.sl (.st 80))), fl := [none] }, { k := (.sl (.sl (.st 80))), fl := [some (false, 620)] }, { k := (.int .i64) }] }
noncomputable def spec_copyStores.A : Ann := { dp := fun d => isIn [] d, lp := look [(0, spec_copyStores.lvL0)], jn := look [], pins := [], nt := 21 }
noncomputable def spec_copyStores.phis (N : Nat) : List (Nat × Sm D) := [(51, spec_copyStore.sm N)]
noncomputable def spec_copyStores.a0 (N : Nat) (n : Nat) (y : (List (List (ImplCell))) × (List (List (ImplCell))) × Int × Unit) : Option ((List (List (ImplCell))) × Unit) := loopAt cx (look (spec_copyStores.phis N)) spec_copyStores.A N n (encL cx spec_copyStores.lvL0.ms y).1 (encL cx spec_copyStores.lvL0.ms y).2 (bodyOf Tryz.f87) 0 (Kfin cx spec_copyStores.A spec_copyStores.sg Tryz.f87.results.toList) [1, 1, 0, 1, 1] []
theorem spec_copyStores.r0 (N : Nat) : ∀ (n : Nat) (y : (List (List (ImplCell))) × (List (List (ImplCell))) × Int × Unit), spec_copyStores.a0 N n y = spec_copyStores.L0 N n y
  | 0, y => by kernel_rfl
  | n + 1, y => by
    have h : spec_copyStores.a0 N (n + 1) y = spec_copyStores.B0 N (fun z => spec_copyStores.a0 N n z) y := by kernel_rfl
    have e : (fun z => spec_copyStores.a0 N n z) = spec_copyStores.L0 N n := funext fun z => spec_copyStores.r0 N n z
    rw [h]
    try rw [e]
    first | done | rfl
theorem spec_copyStores.run (N : Nat) (x : (List (List (ImplCell))) × Unit) : runF cx (look (spec_copyStores.phis N)) spec_copyStores.A N (bodyOf Tryz.f87) Tryz.f87.results.toList spec_copyStores.sg x = spec_copyStores N x.1 := by
  have h : runF cx (look (spec_copyStores.phis N)) spec_copyStores.A N (bodyOf Tryz.f87) Tryz.f87.results.toList spec_copyStores.sg x = spec_copyStores.B N (fun z => spec_copyStores.a0 N N z) x.1 := by kernel_rfl
  have e0 : (fun z => spec_copyStores.a0 N N z) = spec_copyStores.L0 N N := funext fun z => spec_copyStores.r0 N N z
  rw [h, e0]
  try rfl
noncomputable def spec_copyStores.sm (N : Nat) : Sm D := (⟨spec_copyStores.sg, fun (x : (List (List (ImplCell))) × Unit) => spec_copyStores N x.1⟩ : Sm D)
theorem spec_copyStores.sound (N : Nat) : Sound cx Tryz.prog gam 87 (spec_copyStores.sm N) := fn_sound (A := spec_copyStores.A) (Φ := (look (spec_copyStores.phis N))) pok (G := gam) (ΦOk.cons (spec_copyStore.sound N) (fnOk_of (f := 51) (by kernel_rfl)) ΦOk.nil) mixed N Tryz.func87 (c := (bodyOf Tryz.f87)) (by kernel_rfl) spec_copyStores.sg (by kernel_rfl) (by kernel_rfl) (by kernel_rfl) (spec_copyStores.run N)

@[reducible] def spec_copyHist.sg : Sg := { ms := [{ k := (.st 54) }], keep := [false], rs := [{ k := (.st 54), fl := [none, some (false, 412), some (false, 413)] }], hold := true }
noncomputable def spec_copyHist.A : Ann := { dp := fun d => isIn [] d, lp := look [], jn := look [], pins := [], nt := 13 }
noncomputable def spec_copyHist.phis (N : Nat) : List (Nat × Sm D) := [(51, spec_copyStore.sm N), (87, spec_copyStores.sm N)]
theorem spec_copyHist.run (N : Nat) (x : ImplHist × Unit) : runF cx (look (spec_copyHist.phis N)) spec_copyHist.A N (bodyOf Tryz.f86) Tryz.f86.results.toList spec_copyHist.sg x = spec_copyHist N x.1 := by
  have h : runF cx (look (spec_copyHist.phis N)) spec_copyHist.A N (bodyOf Tryz.f86) Tryz.f86.results.toList spec_copyHist.sg x = spec_copyHist.B N x.1 := by kernel_rfl
  rw [h]
  try rfl
noncomputable def spec_copyHist.sm (N : Nat) : Sm D := (⟨spec_copyHist.sg, fun (x : ImplHist × Unit) => spec_copyHist N x.1⟩ : Sm D)
theorem spec_copyHist.sound (N : Nat) : Sound cx Tryz.prog gam 86 (spec_copyHist.sm N) := fn_sound (A := spec_copyHist.A) (Φ := (look (spec_copyHist.phis N))) pok (G := gam) (ΦOk.cons (spec_copyStore.sound N) (fnOk_of (f := 51) (by kernel_rfl)) (ΦOk.cons (spec_copyStores.sound N) (fnOk_of (f := 87) (by kernel_rfl)) ΦOk.nil)) mixed N Tryz.func86 (c := (bodyOf Tryz.f86)) (by kernel_rfl) spec_copyHist.sg (by kernel_rfl) (by kernel_rfl) (by kernel_rfl) (spec_copyHist.run N)

@[reducible] def spec_HistDo.sg : Sg := { ms := [{ k := (.st 54) }, { k := (.sl (.st 100)), fl := [none] }], keep := [false, false], rs := [{ k := (.st 54), fl := [none, some (false, 412), some (false, 413)] }], hold := true }
@[reducible] def spec_HistDo.lvJ9 : Lv := { id := 9, slots := [4, 5, 6], ms := [{ ptr := true, id := 600, t := 55, k := (.st 54), fl := [some (false, 601), some (false, 602), some (false, 603)] }, { k := (.sl (.st 80)), fl := [some (false, 620)] }, { k := (.sl (.sl (.st 80))), fl := [none] }] }
noncomputable def spec_HistDo.A : Ann := { dp := fun d => isIn [] d, lp := look [], jn := look [(9, spec_HistDo.lvJ9)], pins := [], nt := 44 }
noncomputable def spec_HistDo.phis (N : Nat) : List (Nat × Sm D) := [(77, spec_validHist.sm N), (69, spec_validUpdates.sm N), (70, spec_storeRun.sm N), (51, spec_copyStore.sm N), (53, spec_sameStore.sm N), (86, spec_copyHist.sm N), (87, spec_copyStores.sm N)]
theorem spec_HistDo.run (N : Nat) (x : ImplHist × (List (ImplUpdate)) × Unit) : runF cx (look (spec_HistDo.phis N)) spec_HistDo.A N (bodyOf Tryz.f40) Tryz.f40.results.toList spec_HistDo.sg x = spec_HistDo N x.1 x.2.1 := by
  have h : runF cx (look (spec_HistDo.phis N)) spec_HistDo.A N (bodyOf Tryz.f40) Tryz.f40.results.toList spec_HistDo.sg x = spec_HistDo.B N x.1 x.2.1 := by kernel_rfl
  rw [h]
  try rfl
noncomputable def spec_HistDo.sm (N : Nat) : Sm D := (⟨spec_HistDo.sg, fun (x : ImplHist × (List (ImplUpdate)) × Unit) => spec_HistDo N x.1 x.2.1⟩ : Sm D)
theorem spec_HistDo.sound (N : Nat) : Sound cx Tryz.prog gam 40 (spec_HistDo.sm N) := fn_sound (A := spec_HistDo.A) (Φ := (look (spec_HistDo.phis N))) pok (G := gam) (ΦOk.cons (spec_validHist.sound N) (fnOk_of (f := 77) (by kernel_rfl)) (ΦOk.cons (spec_validUpdates.sound N) (fnOk_of (f := 69) (by kernel_rfl)) (ΦOk.cons (spec_storeRun.sound N) (fnOk_of (f := 70) (by kernel_rfl)) (ΦOk.cons (spec_copyStore.sound N) (fnOk_of (f := 51) (by kernel_rfl)) (ΦOk.cons (spec_sameStore.sound N) (fnOk_of (f := 53) (by kernel_rfl)) (ΦOk.cons (spec_copyHist.sound N) (fnOk_of (f := 86) (by kernel_rfl)) (ΦOk.cons (spec_copyStores.sound N) (fnOk_of (f := 87) (by kernel_rfl)) ΦOk.nil))))))) mixed N Tryz.func40 (c := (bodyOf Tryz.f40)) (by kernel_rfl) spec_HistDo.sg (by kernel_rfl) (by kernel_rfl) (by kernel_rfl) (spec_HistDo.run N)

@[reducible] def spec_HistUndo.sg : Sg := { ms := [{ k := (.st 54) }], keep := [false], rs := [{ k := (.st 54), fl := [none, some (false, 412), some (false, 413)] }, { k := .bool }], hold := true }
noncomputable def spec_HistUndo.A : Ann := { dp := fun d => isIn [] d, lp := look [], jn := look [], pins := [], nt := 39 }
noncomputable def spec_HistUndo.phis (N : Nat) : List (Nat × Sm D) := [(77, spec_validHist.sm N), (51, spec_copyStore.sm N), (87, spec_copyStores.sm N)]
theorem spec_HistUndo.run (N : Nat) (x : ImplHist × Unit) : runF cx (look (spec_HistUndo.phis N)) spec_HistUndo.A N (bodyOf Tryz.f78) Tryz.f78.results.toList spec_HistUndo.sg x = spec_HistUndo N x.1 := by
  have h : runF cx (look (spec_HistUndo.phis N)) spec_HistUndo.A N (bodyOf Tryz.f78) Tryz.f78.results.toList spec_HistUndo.sg x = spec_HistUndo.B N x.1 := by kernel_rfl
  rw [h]
  try rfl
noncomputable def spec_HistUndo.sm (N : Nat) : Sm D := (⟨spec_HistUndo.sg, fun (x : ImplHist × Unit) => spec_HistUndo N x.1⟩ : Sm D)
theorem spec_HistUndo.sound (N : Nat) : Sound cx Tryz.prog gam 78 (spec_HistUndo.sm N) := fn_sound (A := spec_HistUndo.A) (Φ := (look (spec_HistUndo.phis N))) pok (G := gam) (ΦOk.cons (spec_validHist.sound N) (fnOk_of (f := 77) (by kernel_rfl)) (ΦOk.cons (spec_copyStore.sound N) (fnOk_of (f := 51) (by kernel_rfl)) (ΦOk.cons (spec_copyStores.sound N) (fnOk_of (f := 87) (by kernel_rfl)) ΦOk.nil))) mixed N Tryz.func78 (c := (bodyOf Tryz.f78)) (by kernel_rfl) spec_HistUndo.sg (by kernel_rfl) (by kernel_rfl) (by kernel_rfl) (spec_HistUndo.run N)

@[reducible] def spec_HistRedo.sg : Sg := { ms := [{ k := (.st 54) }], keep := [false], rs := [{ k := (.st 54), fl := [none, some (false, 412), some (false, 413)] }, { k := .bool }], hold := true }
noncomputable def spec_HistRedo.A : Ann := { dp := fun d => isIn [] d, lp := look [], jn := look [], pins := [], nt := 39 }
noncomputable def spec_HistRedo.phis (N : Nat) : List (Nat × Sm D) := [(77, spec_validHist.sm N), (51, spec_copyStore.sm N), (87, spec_copyStores.sm N)]
theorem spec_HistRedo.run (N : Nat) (x : ImplHist × Unit) : runF cx (look (spec_HistRedo.phis N)) spec_HistRedo.A N (bodyOf Tryz.f79) Tryz.f79.results.toList spec_HistRedo.sg x = spec_HistRedo N x.1 := by
  have h : runF cx (look (spec_HistRedo.phis N)) spec_HistRedo.A N (bodyOf Tryz.f79) Tryz.f79.results.toList spec_HistRedo.sg x = spec_HistRedo.B N x.1 := by kernel_rfl
  rw [h]
  try rfl
noncomputable def spec_HistRedo.sm (N : Nat) : Sm D := (⟨spec_HistRedo.sg, fun (x : ImplHist × Unit) => spec_HistRedo N x.1⟩ : Sm D)
theorem spec_HistRedo.sound (N : Nat) : Sound cx Tryz.prog gam 79 (spec_HistRedo.sm N) := fn_sound (A := spec_HistRedo.A) (Φ := (look (spec_HistRedo.phis N))) pok (G := gam) (ΦOk.cons (spec_validHist.sound N) (fnOk_of (f := 77) (by kernel_rfl)) (ΦOk.cons (spec_copyStore.sound N) (fnOk_of (f := 51) (by kernel_rfl)) (ΦOk.cons (spec_copyStores.sound N) (fnOk_of (f := 87) (by kernel_rfl)) ΦOk.nil))) mixed N Tryz.func79 (c := (bodyOf Tryz.f79)) (by kernel_rfl) spec_HistRedo.sg (by kernel_rfl) (by kernel_rfl) (by kernel_rfl) (spec_HistRedo.run N)

@[reducible] def impl_storesOk.sg : Sg := { ms := [{ k := (.sl (.sl (.st 80))), fl := [none] }], keep := [false], rs := [{ k := .bool }] }
@[reducible] def impl_storesOk.lvL0 : Lv := { id := 0, slots := [5, 6, 7], ms := [{ k := (.sl (.sl (.st 80))), fl := [none] }, { k := (.int .i64) }, { k := (.int .i64) }] }
noncomputable def impl_storesOk.A : Ann := { dp := fun d => isIn [] d, lp := look [(0, impl_storesOk.lvL0)], jn := look [], pins := [], nt := 15 }
noncomputable def impl_storesOk.phis (N : Nat) : List (Nat × Sm D) := [(14, impl_StoreOk.sm N)]
noncomputable def impl_storesOk.a0 (N : Nat) (n : Nat) (y : (List (List (ImplCell))) × Int × Int × Unit) : Option (Bool × Unit) := loopAt cx (look (impl_storesOk.phis N)) impl_storesOk.A N n (encL cx impl_storesOk.lvL0.ms y).1 (encL cx impl_storesOk.lvL0.ms y).2 (bodyOf Tryz.f81) 0 (Kfin cx impl_storesOk.A impl_storesOk.sg Tryz.f81.results.toList) [1, 0, 1, 1] []
theorem impl_storesOk.r0 (N : Nat) : ∀ (n : Nat) (y : (List (List (ImplCell))) × Int × Int × Unit), impl_storesOk.a0 N n y = impl_storesOk.L0 N n y
  | 0, y => by kernel_rfl
  | n + 1, y => by
    have h : impl_storesOk.a0 N (n + 1) y = impl_storesOk.B0 N (fun z => impl_storesOk.a0 N n z) y := by kernel_rfl
    have e : (fun z => impl_storesOk.a0 N n z) = impl_storesOk.L0 N n := funext fun z => impl_storesOk.r0 N n z
    rw [h]
    try rw [e]
    first | done | rfl
theorem impl_storesOk.run (N : Nat) (x : (List (List (ImplCell))) × Unit) : runF cx (look (impl_storesOk.phis N)) impl_storesOk.A N (bodyOf Tryz.f81) Tryz.f81.results.toList impl_storesOk.sg x = impl_storesOk N x.1 := by
  have h : runF cx (look (impl_storesOk.phis N)) impl_storesOk.A N (bodyOf Tryz.f81) Tryz.f81.results.toList impl_storesOk.sg x = impl_storesOk.B N (fun z => impl_storesOk.a0 N N z) x.1 := by kernel_rfl
  have e0 : (fun z => impl_storesOk.a0 N N z) = impl_storesOk.L0 N N := funext fun z => impl_storesOk.r0 N N z
  rw [h, e0]
  try rfl
noncomputable def impl_storesOk.sm (N : Nat) : Sm D := (⟨impl_storesOk.sg, fun (x : (List (List (ImplCell))) × Unit) => impl_storesOk N x.1⟩ : Sm D)
theorem impl_storesOk.sound (N : Nat) : Sound cx Tryz.prog gam 81 (impl_storesOk.sm N) := fn_sound (A := impl_storesOk.A) (Φ := (look (impl_storesOk.phis N))) pok (G := gam) (ΦOk.cons (impl_StoreOk.sound N) (fnOk_of (f := 14) (by kernel_rfl)) ΦOk.nil) mixed N Tryz.func81 (c := (bodyOf Tryz.f81)) (by kernel_rfl) impl_storesOk.sg (by kernel_rfl) (by kernel_rfl) (by kernel_rfl) (impl_storesOk.run N)

@[reducible] def impl_HistOk.sg : Sg := { ms := [{ k := (.st 54) }], keep := [false], rs := [{ k := .bool }] }
noncomputable def impl_HistOk.A : Ann := { dp := fun d => isIn [] d, lp := look [], jn := look [], pins := [], nt := 26 }
noncomputable def impl_HistOk.phis (N : Nat) : List (Nat × Sm D) := [(14, impl_StoreOk.sm N), (81, impl_storesOk.sm N)]
theorem impl_HistOk.run (N : Nat) (x : ImplHist × Unit) : runF cx (look (impl_HistOk.phis N)) impl_HistOk.A N (bodyOf Tryz.f35) Tryz.f35.results.toList impl_HistOk.sg x = impl_HistOk N x.1 := by
  have h : runF cx (look (impl_HistOk.phis N)) impl_HistOk.A N (bodyOf Tryz.f35) Tryz.f35.results.toList impl_HistOk.sg x = impl_HistOk.B N x.1 := by kernel_rfl
  rw [h]
  try rfl
noncomputable def impl_HistOk.sm (N : Nat) : Sm D := (⟨impl_HistOk.sg, fun (x : ImplHist × Unit) => impl_HistOk N x.1⟩ : Sm D)
theorem impl_HistOk.sound (N : Nat) : Sound cx Tryz.prog gam 35 (impl_HistOk.sm N) := fn_sound (A := impl_HistOk.A) (Φ := (look (impl_HistOk.phis N))) pok (G := gam) (ΦOk.cons (impl_StoreOk.sound N) (fnOk_of (f := 14) (by kernel_rfl)) (ΦOk.cons (impl_storesOk.sound N) (fnOk_of (f := 81) (by kernel_rfl)) ΦOk.nil)) mixed N Tryz.func35 (c := (bodyOf Tryz.f35)) (by kernel_rfl) impl_HistOk.sg (by kernel_rfl) (by kernel_rfl) (by kernel_rfl) (impl_HistOk.run N)

@[reducible] def impl_storesCopy.sg : Sg := { ms := [{ k := (.sl (.sl (.st 80))), fl := [none] }], keep := [false], rs := [{ k := (.sl (.sl (.st 80))), fl := [some (false, 411)] }], hold := true }
@[reducible] def impl_storesCopy.lvL0 : Lv := { id := 0, slots := [3, 6, 7, 8], ms := [{ k := (.sl (.sl (.st 80))), fl := [some (false, 600)] }, { k := (.sl (.sl (.st 80))), fl := [none] }, { k := (.int .i64) }, { k := (.int .i64) }] }
noncomputable def impl_storesCopy.A : Ann := { dp := fun d => isIn [] d, lp := look [(0, impl_storesCopy.lvL0)], jn := look [], pins := [], nt := 19 }
noncomputable def impl_storesCopy.phis (N : Nat) : List (Nat × Sm D) := [(93, impl_storeCopy.sm N)]
noncomputable def impl_storesCopy.a0 (N : Nat) (n : Nat) (y : (List (List (ImplCell))) × (List (List (ImplCell))) × Int × Int × Unit) : Option ((List (List (ImplCell))) × Unit) := loopAt cx (look (impl_storesCopy.phis N)) impl_storesCopy.A N n (encL cx impl_storesCopy.lvL0.ms y).1 (encL cx impl_storesCopy.lvL0.ms y).2 (bodyOf Tryz.f85) 0 (Kfin cx impl_storesCopy.A impl_storesCopy.sg Tryz.f85.results.toList) [1, 1, 0, 1, 1] []
theorem impl_storesCopy.r0 (N : Nat) : ∀ (n : Nat) (y : (List (List (ImplCell))) × (List (List (ImplCell))) × Int × Int × Unit), impl_storesCopy.a0 N n y = impl_storesCopy.L0 N n y
  | 0, y => by kernel_rfl
  | n + 1, y => by
    have h : impl_storesCopy.a0 N (n + 1) y = impl_storesCopy.B0 N (fun z => impl_storesCopy.a0 N n z) y := by kernel_rfl
    have e : (fun z => impl_storesCopy.a0 N n z) = impl_storesCopy.L0 N n := funext fun z => impl_storesCopy.r0 N n z
    rw [h]
    try rw [e]
    first | done | rfl
theorem impl_storesCopy.run (N : Nat) (x : (List (List (ImplCell))) × Unit) : runF cx (look (impl_storesCopy.phis N)) impl_storesCopy.A N (bodyOf Tryz.f85) Tryz.f85.results.toList impl_storesCopy.sg x = impl_storesCopy N x.1 := by
  have h : runF cx (look (impl_storesCopy.phis N)) impl_storesCopy.A N (bodyOf Tryz.f85) Tryz.f85.results.toList impl_storesCopy.sg x = impl_storesCopy.B N (fun z => impl_storesCopy.a0 N N z) x.1 := by kernel_rfl
  have e0 : (fun z => impl_storesCopy.a0 N N z) = impl_storesCopy.L0 N N := funext fun z => impl_storesCopy.r0 N N z
  rw [h, e0]
  try rfl
noncomputable def impl_storesCopy.sm (N : Nat) : Sm D := (⟨impl_storesCopy.sg, fun (x : (List (List (ImplCell))) × Unit) => impl_storesCopy N x.1⟩ : Sm D)
theorem impl_storesCopy.sound (N : Nat) : Sound cx Tryz.prog gam 85 (impl_storesCopy.sm N) := fn_sound (A := impl_storesCopy.A) (Φ := (look (impl_storesCopy.phis N))) pok (G := gam) (ΦOk.cons (impl_storeCopy.sound N) (fnOk_of (f := 93) (by kernel_rfl)) ΦOk.nil) mixed N Tryz.func85 (c := (bodyOf Tryz.f85)) (by kernel_rfl) impl_storesCopy.sg (by kernel_rfl) (by kernel_rfl) (by kernel_rfl) (impl_storesCopy.run N)

@[reducible] def impl_histCopy.sg : Sg := { ms := [{ k := (.st 54) }], keep := [false], rs := [{ k := (.st 54), fl := [none, some (false, 412), some (false, 413)] }], hold := true }
noncomputable def impl_histCopy.A : Ann := { dp := fun d => isIn [] d, lp := look [], jn := look [], pins := [], nt := 13 }
noncomputable def impl_histCopy.phis (N : Nat) : List (Nat × Sm D) := [(93, impl_storeCopy.sm N), (85, impl_storesCopy.sm N)]
theorem impl_histCopy.run (N : Nat) (x : ImplHist × Unit) : runF cx (look (impl_histCopy.phis N)) impl_histCopy.A N (bodyOf Tryz.f83) Tryz.f83.results.toList impl_histCopy.sg x = impl_histCopy N x.1 := by
  have h : runF cx (look (impl_histCopy.phis N)) impl_histCopy.A N (bodyOf Tryz.f83) Tryz.f83.results.toList impl_histCopy.sg x = impl_histCopy.B N x.1 := by kernel_rfl
  rw [h]
  try rfl
noncomputable def impl_histCopy.sm (N : Nat) : Sm D := (⟨impl_histCopy.sg, fun (x : ImplHist × Unit) => impl_histCopy N x.1⟩ : Sm D)
theorem impl_histCopy.sound (N : Nat) : Sound cx Tryz.prog gam 83 (impl_histCopy.sm N) := fn_sound (A := impl_histCopy.A) (Φ := (look (impl_histCopy.phis N))) pok (G := gam) (ΦOk.cons (impl_storeCopy.sound N) (fnOk_of (f := 93) (by kernel_rfl)) (ΦOk.cons (impl_storesCopy.sound N) (fnOk_of (f := 85) (by kernel_rfl)) ΦOk.nil)) mixed N Tryz.func83 (c := (bodyOf Tryz.f83)) (by kernel_rfl) impl_histCopy.sg (by kernel_rfl) (by kernel_rfl) (by kernel_rfl) (impl_histCopy.run N)

@[reducible] def impl_valsSame.sg : Sg := { ms := [{ k := (.sl (.st 127)), fl := [none] }, { k := (.sl (.st 127)), fl := [none] }], keep := [false, false], rs := [{ k := .bool }] }
@[reducible] def impl_valsSame.lvL0 : Lv := { id := 0, slots := [0, 1, 12, 13], ms := [{ k := (.sl (.st 127)), fl := [none] }, { k := (.sl (.st 127)), fl := [none] }, { k := (.int .i64) }, { k := (.int .i64) }] }
noncomputable def impl_valsSame.A : Ann := { dp := fun d => isIn [] d, lp := look [(0, impl_valsSame.lvL0)], jn := look [], pins := [], nt := 26 }
noncomputable def impl_valsSame.phis (N : Nat) : List (Nat × Sm D) := []
noncomputable def impl_valsSame.a0 (N : Nat) (n : Nat) (y : (List (ImplValue)) × (List (ImplValue)) × Int × Int × Unit) : Option (Bool × Unit) := loopAt cx (look (impl_valsSame.phis N)) impl_valsSame.A N n (encL cx impl_valsSame.lvL0.ms y).1 (encL cx impl_valsSame.lvL0.ms y).2 (bodyOf Tryz.f121) 0 (Kfin cx impl_valsSame.A impl_valsSame.sg Tryz.f121.results.toList) [1, 1, 0, 1, 1] []
theorem impl_valsSame.r0 (N : Nat) : ∀ (n : Nat) (y : (List (ImplValue)) × (List (ImplValue)) × Int × Int × Unit), impl_valsSame.a0 N n y = impl_valsSame.L0 N n y
  | 0, y => by kernel_rfl
  | n + 1, y => by
    have h : impl_valsSame.a0 N (n + 1) y = impl_valsSame.B0 N (fun z => impl_valsSame.a0 N n z) y := by kernel_rfl
    have e : (fun z => impl_valsSame.a0 N n z) = impl_valsSame.L0 N n := funext fun z => impl_valsSame.r0 N n z
    rw [h]
    try rw [e]
    first | done | rfl
theorem impl_valsSame.run (N : Nat) (x : (List (ImplValue)) × (List (ImplValue)) × Unit) : runF cx (look (impl_valsSame.phis N)) impl_valsSame.A N (bodyOf Tryz.f121) Tryz.f121.results.toList impl_valsSame.sg x = impl_valsSame N x.1 x.2.1 := by
  have h : runF cx (look (impl_valsSame.phis N)) impl_valsSame.A N (bodyOf Tryz.f121) Tryz.f121.results.toList impl_valsSame.sg x = impl_valsSame.B N (fun z => impl_valsSame.a0 N N z) x.1 x.2.1 := by kernel_rfl
  have e0 : (fun z => impl_valsSame.a0 N N z) = impl_valsSame.L0 N N := funext fun z => impl_valsSame.r0 N N z
  rw [h, e0]
  try rfl
noncomputable def impl_valsSame.sm (N : Nat) : Sm D := (⟨impl_valsSame.sg, fun (x : (List (ImplValue)) × (List (ImplValue)) × Unit) => impl_valsSame N x.1 x.2.1⟩ : Sm D)
theorem impl_valsSame.sound (N : Nat) : Sound cx Tryz.prog gam 121 (impl_valsSame.sm N) := fn_sound (A := impl_valsSame.A) (Φ := (look (impl_valsSame.phis N))) pok (G := gam) ΦOk.nil mixed N Tryz.func121 (c := (bodyOf Tryz.f121)) (by kernel_rfl) impl_valsSame.sg (by kernel_rfl) (by kernel_rfl) (by kernel_rfl) (impl_valsSame.run N)

@[reducible] def impl_storeSame.sg : Sg := { ms := [{ k := (.sl (.st 80)), fl := [none] }, { k := (.sl (.st 80)), fl := [none] }], keep := [false, false], rs := [{ k := .bool }] }
@[reducible] def impl_storeSame.lvL0 : Lv := { id := 0, slots := [0, 1, 12, 13], ms := [{ k := (.sl (.st 80)), fl := [none] }, { k := (.sl (.st 80)), fl := [none] }, { k := (.int .i64) }, { k := (.int .i64) }] }
noncomputable def impl_storeSame.A : Ann := { dp := fun d => isIn [] d, lp := look [(0, impl_storeSame.lvL0)], jn := look [], pins := [], nt := 43 }
noncomputable def impl_storeSame.phis (N : Nat) : List (Nat × Sm D) := [(57, impl_placeCmp.sm N), (121, impl_valsSame.sm N)]
noncomputable def impl_storeSame.a0 (N : Nat) (n : Nat) (y : (List (ImplCell)) × (List (ImplCell)) × Int × Int × Unit) : Option (Bool × Unit) := loopAt cx (look (impl_storeSame.phis N)) impl_storeSame.A N n (encL cx impl_storeSame.lvL0.ms y).1 (encL cx impl_storeSame.lvL0.ms y).2 (bodyOf Tryz.f84) 0 (Kfin cx impl_storeSame.A impl_storeSame.sg Tryz.f84.results.toList) [1, 1, 0, 1, 1] []
theorem impl_storeSame.r0 (N : Nat) : ∀ (n : Nat) (y : (List (ImplCell)) × (List (ImplCell)) × Int × Int × Unit), impl_storeSame.a0 N n y = impl_storeSame.L0 N n y
  | 0, y => by kernel_rfl
  | n + 1, y => by
    have h : impl_storeSame.a0 N (n + 1) y = impl_storeSame.B0 N (fun z => impl_storeSame.a0 N n z) y := by kernel_rfl
    have e : (fun z => impl_storeSame.a0 N n z) = impl_storeSame.L0 N n := funext fun z => impl_storeSame.r0 N n z
    rw [h]
    try rw [e]
    first | done | rfl
theorem impl_storeSame.run (N : Nat) (x : (List (ImplCell)) × (List (ImplCell)) × Unit) : runF cx (look (impl_storeSame.phis N)) impl_storeSame.A N (bodyOf Tryz.f84) Tryz.f84.results.toList impl_storeSame.sg x = impl_storeSame N x.1 x.2.1 := by
  have h : runF cx (look (impl_storeSame.phis N)) impl_storeSame.A N (bodyOf Tryz.f84) Tryz.f84.results.toList impl_storeSame.sg x = impl_storeSame.B N (fun z => impl_storeSame.a0 N N z) x.1 x.2.1 := by kernel_rfl
  have e0 : (fun z => impl_storeSame.a0 N N z) = impl_storeSame.L0 N N := funext fun z => impl_storeSame.r0 N N z
  rw [h, e0]
  try rfl
noncomputable def impl_storeSame.sm (N : Nat) : Sm D := (⟨impl_storeSame.sg, fun (x : (List (ImplCell)) × (List (ImplCell)) × Unit) => impl_storeSame N x.1 x.2.1⟩ : Sm D)
theorem impl_storeSame.sound (N : Nat) : Sound cx Tryz.prog gam 84 (impl_storeSame.sm N) := fn_sound (A := impl_storeSame.A) (Φ := (look (impl_storeSame.phis N))) pok (G := gam) (ΦOk.cons (impl_placeCmp.sound N) (fnOk_of (f := 57) (by kernel_rfl)) (ΦOk.cons (impl_valsSame.sound N) (fnOk_of (f := 121) (by kernel_rfl)) ΦOk.nil)) mixed N Tryz.func84 (c := (bodyOf Tryz.f84)) (by kernel_rfl) impl_storeSame.sg (by kernel_rfl) (by kernel_rfl) (by kernel_rfl) (impl_storeSame.run N)

@[reducible] def impl_HistDo.sg : Sg := { ms := [{ k := (.st 54) }, { k := (.sl (.st 100)), fl := [none] }], keep := [false, false], rs := [{ k := (.st 54) }], hold := true }
noncomputable def impl_HistDo.A : Ann := { dp := fun d => isIn [] d, lp := look [], jn := look [], pins := [], nt := 48 }
noncomputable def impl_HistDo.phis (N : Nat) : List (Nat × Sm D) := [(35, impl_HistOk.sm N), (54, impl_updatesOk.sm N), (83, impl_histCopy.sm N), (73, impl_storeRun.sm N), (84, impl_storeSame.sm N), (85, impl_storesCopy.sm N)]
theorem impl_HistDo.run (N : Nat) (x : ImplHist × (List (ImplUpdate)) × Unit) : runF cx (look (impl_HistDo.phis N)) impl_HistDo.A N (bodyOf Tryz.f38) Tryz.f38.results.toList impl_HistDo.sg x = impl_HistDo N x.1 x.2.1 := by
  have h : runF cx (look (impl_HistDo.phis N)) impl_HistDo.A N (bodyOf Tryz.f38) Tryz.f38.results.toList impl_HistDo.sg x = impl_HistDo.B N x.1 x.2.1 := by kernel_rfl
  rw [h]
  try rfl
noncomputable def impl_HistDo.sm (N : Nat) : Sm D := (⟨impl_HistDo.sg, fun (x : ImplHist × (List (ImplUpdate)) × Unit) => impl_HistDo N x.1 x.2.1⟩ : Sm D)
theorem impl_HistDo.sound (N : Nat) : Sound cx Tryz.prog gam 38 (impl_HistDo.sm N) := fn_sound (A := impl_HistDo.A) (Φ := (look (impl_HistDo.phis N))) pok (G := gam) (ΦOk.cons (impl_HistOk.sound N) (fnOk_of (f := 35) (by kernel_rfl)) (ΦOk.cons (impl_updatesOk.sound N) (fnOk_of (f := 54) (by kernel_rfl)) (ΦOk.cons (impl_histCopy.sound N) (fnOk_of (f := 83) (by kernel_rfl)) (ΦOk.cons (impl_storeRun.sound N) (fnOk_of (f := 73) (by kernel_rfl)) (ΦOk.cons (impl_storeSame.sound N) (fnOk_of (f := 84) (by kernel_rfl)) (ΦOk.cons (impl_storesCopy.sound N) (fnOk_of (f := 85) (by kernel_rfl)) ΦOk.nil)))))) mixed N Tryz.func38 (c := (bodyOf Tryz.f38)) (by kernel_rfl) impl_HistDo.sg (by kernel_rfl) (by kernel_rfl) (by kernel_rfl) (impl_HistDo.run N)

@[reducible] def spec_SameStores.sg : Sg := { ms := [{ k := (.sl (.sl (.st 80))), fl := [none] }, { k := (.sl (.sl (.st 80))), fl := [none] }], keep := [false, false], rs := [{ k := .bool }] }
@[reducible] def spec_SameStores.lvL0 : Lv := { id := 0, slots := [0, 1, 5], ms := [{ k := (.sl (.sl (.st 80))), fl := [none] }, { k := (.sl (.sl (.st 80))), fl := [none] }, { k := (.int .i64) }] }
noncomputable def spec_SameStores.A : Ann := { dp := fun d => isIn [] d, lp := look [(0, spec_SameStores.lvL0)], jn := look [], pins := [], nt := 27 }
noncomputable def spec_SameStores.phis (N : Nat) : List (Nat × Sm D) := [(53, spec_sameStore.sm N)]
noncomputable def spec_SameStores.a0 (N : Nat) (n : Nat) (y : (List (List (ImplCell))) × (List (List (ImplCell))) × Int × Unit) : Option (Bool × Unit) := loopAt cx (look (spec_SameStores.phis N)) spec_SameStores.A N n (encL cx spec_SameStores.lvL0.ms y).1 (encL cx spec_SameStores.lvL0.ms y).2 (bodyOf Tryz.f82) 0 (Kfin cx spec_SameStores.A spec_SameStores.sg Tryz.f82.results.toList) [1, 1, 0, 1, 1] []
theorem spec_SameStores.r0 (N : Nat) : ∀ (n : Nat) (y : (List (List (ImplCell))) × (List (List (ImplCell))) × Int × Unit), spec_SameStores.a0 N n y = spec_SameStores.L0 N n y
  | 0, y => by kernel_rfl
  | n + 1, y => by
    have h : spec_SameStores.a0 N (n + 1) y = spec_SameStores.B0 N (fun z => spec_SameStores.a0 N n z) y := by kernel_rfl
    have e : (fun z => spec_SameStores.a0 N n z) = spec_SameStores.L0 N n := funext fun z => spec_SameStores.r0 N n z
    rw [h]
    try rw [e]
    first | done | rfl
theorem spec_SameStores.run (N : Nat) (x : (List (List (ImplCell))) × (List (List (ImplCell))) × Unit) : runF cx (look (spec_SameStores.phis N)) spec_SameStores.A N (bodyOf Tryz.f82) Tryz.f82.results.toList spec_SameStores.sg x = spec_SameStores N x.1 x.2.1 := by
  have h : runF cx (look (spec_SameStores.phis N)) spec_SameStores.A N (bodyOf Tryz.f82) Tryz.f82.results.toList spec_SameStores.sg x = spec_SameStores.B N (fun z => spec_SameStores.a0 N N z) x.1 x.2.1 := by kernel_rfl
  have e0 : (fun z => spec_SameStores.a0 N N z) = spec_SameStores.L0 N N := funext fun z => spec_SameStores.r0 N N z
  rw [h, e0]
  try rfl
noncomputable def spec_SameStores.sm (N : Nat) : Sm D := (⟨spec_SameStores.sg, fun (x : (List (List (ImplCell))) × (List (List (ImplCell))) × Unit) => spec_SameStores N x.1 x.2.1⟩ : Sm D)
theorem spec_SameStores.sound (N : Nat) : Sound cx Tryz.prog gam 82 (spec_SameStores.sm N) := fn_sound (A := spec_SameStores.A) (Φ := (look (spec_SameStores.phis N))) pok (G := gam) (ΦOk.cons (spec_sameStore.sound N) (fnOk_of (f := 53) (by kernel_rfl)) ΦOk.nil) mixed N Tryz.func82 (c := (bodyOf Tryz.f82)) (by kernel_rfl) spec_SameStores.sg (by kernel_rfl) (by kernel_rfl) (by kernel_rfl) (spec_SameStores.run N)

end
end Go.Ev
