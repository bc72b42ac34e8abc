/- Each function that the law reaches does what its plain form says; no condition beyond the table of the library. -/
import Derived.Test.YtadoojpcjfglgaaGreatDoorEvT3
set_option linter.all false
set_option linter.unusedVariables false
set_option linter.unusedSimpArgs false
set_option maxRecDepth 100000
set_option maxHeartbeats 0
namespace Go.Ev
noncomputable section
open Go.Proofs
@[reducible] def laws_heldCellS.sg : Sg := { ms := [{ k := (.sl (.st 80)), fl := [none] }, { k := (.int .i64) }], keep := [false, false], rs := [{ k := (.int .i64) }] }
@[reducible] def laws_heldCellS.lvL0 : Lv := { id := 0, slots := [0, 1, 5], ms := [{ k := (.sl (.st 80)), fl := [none] }, { k := (.int .i64) }, { k := (.int .i64) }] }
noncomputable def laws_heldCellS.A : Ann := { dp := fun d => isIn [] d, lp := look [(0, laws_heldCellS.lvL0)], jn := look [], pins := [], nt := 31 }
noncomputable def laws_heldCellS.phis (N : Nat) : List (Nat × Sm D) := [(64, laws_heldSlotS.sm N), (65, laws_heldValueS.sm N)]
noncomputable def laws_heldCellS.a0 (N : Nat) (n : Nat) (y : (List (ImplCell)) × Int × Int × Unit) : Option (Int × Unit) := loopAt cx (look (laws_heldCellS.phis N)) laws_heldCellS.A N n (encL cx laws_heldCellS.lvL0.ms y).1 (encL cx laws_heldCellS.lvL0.ms y).2 (bodyOf Tryz.f25) 0 (Kfin cx laws_heldCellS.A laws_heldCellS.sg Tryz.f25.results.toList) [1, 0, 1, 1] []
theorem laws_heldCellS.r0 (N : Nat) : ∀ (n : Nat) (y : (List (ImplCell)) × Int × Int × Unit), laws_heldCellS.a0 N n y = laws_heldCellS.L0 N n y
  | 0, y => by kernel_rfl
  | n + 1, y => by
    have h : laws_heldCellS.a0 N (n + 1) y = laws_heldCellS.B0 N (fun z => laws_heldCellS.a0 N n z) y := by kernel_rfl
    have e : (fun z => laws_heldCellS.a0 N n z) = laws_heldCellS.L0 N n := funext fun z => laws_heldCellS.r0 N n z
    rw [h]
    try rw [e]
    first | done | rfl
theorem laws_heldCellS.run (N : Nat) (x : (List (ImplCell)) × Int × Unit) : runF cx (look (laws_heldCellS.phis N)) laws_heldCellS.A N (bodyOf Tryz.f25) Tryz.f25.results.toList laws_heldCellS.sg x = laws_heldCellS N x.1 x.2.1 := by
  have h : runF cx (look (laws_heldCellS.phis N)) laws_heldCellS.A N (bodyOf Tryz.f25) Tryz.f25.results.toList laws_heldCellS.sg x = laws_heldCellS.B N (fun z => laws_heldCellS.a0 N N z) x.1 x.2.1 := by kernel_rfl
  have e0 : (fun z => laws_heldCellS.a0 N N z) = laws_heldCellS.L0 N N := funext fun z => laws_heldCellS.r0 N N z
  rw [h, e0]
  try rfl
noncomputable def laws_heldCellS.sm (N : Nat) : Sm D := (⟨laws_heldCellS.sg, fun (x : (List (ImplCell)) × Int × Unit) => laws_heldCellS N x.1 x.2.1⟩ : Sm D)
theorem laws_heldCellS.sound (N : Nat) : Sound cx Tryz.prog gam 25 (laws_heldCellS.sm N) := fn_sound (A := laws_heldCellS.A) (Φ := (look (laws_heldCellS.phis N))) pok (G := gam) (ΦOk.cons (laws_heldSlotS.sound N) (fnOk_of (f := 64) (by kernel_rfl)) (ΦOk.cons (laws_heldValueS.sound N) (fnOk_of (f := 65) (by kernel_rfl)) ΦOk.nil)) mixed N Tryz.func25 (c := (bodyOf Tryz.f25)) (by kernel_rfl) laws_heldCellS.sg (by kernel_rfl) (by kernel_rfl) (by kernel_rfl) (laws_heldCellS.run N)

@[reducible] def spec_storeRun.sg : Sg := { ms := [{ k := (.sl (.st 80)), fl := [none] }, { k := (.sl (.st 100)), fl := [none] }], keep := [false, false], rs := [{ k := (.sl (.st 80)), fl := [none] }], hold := true }
@[reducible] def spec_storeRun.lvL0 : Lv := { id := 0, slots := [0, 1, 5], ms := [{ k := (.sl (.st 80)), fl := [none] }, { k := (.sl (.st 100)), fl := [none] }, { k := (.int .i64) }] }
noncomputable def spec_storeRun.A : Ann := { dp := fun d => isIn [] d, lp := look [(0, spec_storeRun.lvL0)], jn := look [], pins := [], nt := 19 }
noncomputable def spec_storeRun.phis (N : Nat) : List (Nat × Sm D) := [(114, spec_storeUpdated.sm N)]
noncomputable def spec_storeRun.a0 (N : Nat) (n : Nat) (y : (List (ImplCell)) × (List (ImplUpdate)) × Int × Unit) : Option ((List (ImplCell)) × Unit) := loopAt cx (look (spec_storeRun.phis N)) spec_storeRun.A N n (encL cx spec_storeRun.lvL0.ms y).1 (encL cx spec_storeRun.lvL0.ms y).2 (bodyOf Tryz.f70) 0 (Kfin cx spec_storeRun.A spec_storeRun.sg Tryz.f70.results.toList) [1, 0, 1, 1] []
theorem spec_storeRun.r0 (N : Nat) : ∀ (n : Nat) (y : (List (ImplCell)) × (List (ImplUpdate)) × Int × Unit), spec_storeRun.a0 N n y = spec_storeRun.L0 N n y
  | 0, y => by kernel_rfl
  | n + 1, y => by
    have h : spec_storeRun.a0 N (n + 1) y = spec_storeRun.B0 N (fun z => spec_storeRun.a0 N n z) y := by kernel_rfl
    have e : (fun z => spec_storeRun.a0 N n z) = spec_storeRun.L0 N n := funext fun z => spec_storeRun.r0 N n z
    rw [h]
    try rw [e]
    first | done | rfl
theorem spec_storeRun.run (N : Nat) (x : (List (ImplCell)) × (List (ImplUpdate)) × Unit) : runF cx (look (spec_storeRun.phis N)) spec_storeRun.A N (bodyOf Tryz.f70) Tryz.f70.results.toList spec_storeRun.sg x = spec_storeRun N x.1 x.2.1 := by
  have h : runF cx (look (spec_storeRun.phis N)) spec_storeRun.A N (bodyOf Tryz.f70) Tryz.f70.results.toList spec_storeRun.sg x = spec_storeRun.B N (fun z => spec_storeRun.a0 N N z) x.1 x.2.1 := by kernel_rfl
  have e0 : (fun z => spec_storeRun.a0 N N z) = spec_storeRun.L0 N N := funext fun z => spec_storeRun.r0 N N z
  rw [h, e0]
  try rfl
noncomputable def spec_storeRun.sm (N : Nat) : Sm D := (⟨spec_storeRun.sg, fun (x : (List (ImplCell)) × (List (ImplUpdate)) × Unit) => spec_storeRun N x.1 x.2.1⟩ : Sm D)
theorem spec_storeRun.sound (N : Nat) : Sound cx Tryz.prog gam 70 (spec_storeRun.sm N) := fn_sound (A := spec_storeRun.A) (Φ := (look (spec_storeRun.phis N))) pok (G := gam) (ΦOk.cons (spec_storeUpdated.sound N) (fnOk_of (f := 114) (by kernel_rfl)) ΦOk.nil) mixed N Tryz.func70 (c := (bodyOf Tryz.f70)) (by kernel_rfl) spec_storeRun.sg (by kernel_rfl) (by kernel_rfl) (by kernel_rfl) (spec_storeRun.run N)

@[reducible] def spec_StoreRun.sg : Sg := { ms := [{ k := (.sl (.st 80)), fl := [none] }, { k := (.sl (.st 100)), fl := [none] }], keep := [false, false], rs := [{ k := (.sl (.st 80)), fl := [none] }], hold := true }
noncomputable def spec_StoreRun.A : Ann := { dp := fun d => isIn [] d, lp := look [], jn := look [], pins := [], nt := 17 }
noncomputable def spec_StoreRun.phis (N : Nat) : List (Nat × Sm D) := [(68, spec_validStore.sm N), (69, spec_validUpdates.sm N), (70, spec_storeRun.sm N), (51, spec_copyStore.sm N)]
theorem spec_StoreRun.run (N : Nat) (x : (List (ImplCell)) × (List (ImplUpdate)) × Unit) : runF cx (look (spec_StoreRun.phis N)) spec_StoreRun.A N (bodyOf Tryz.f28) Tryz.f28.results.toList spec_StoreRun.sg x = spec_StoreRun N x.1 x.2.1 := by
  have h : runF cx (look (spec_StoreRun.phis N)) spec_StoreRun.A N (bodyOf Tryz.f28) Tryz.f28.results.toList spec_StoreRun.sg x = spec_StoreRun.B N x.1 x.2.1 := by kernel_rfl
  rw [h]
  try rfl
noncomputable def spec_StoreRun.sm (N : Nat) : Sm D := (⟨spec_StoreRun.sg, fun (x : (List (ImplCell)) × (List (ImplUpdate)) × Unit) => spec_StoreRun N x.1 x.2.1⟩ : Sm D)
theorem spec_StoreRun.sound (N : Nat) : Sound cx Tryz.prog gam 28 (spec_StoreRun.sm N) := fn_sound (A := spec_StoreRun.A) (Φ := (look (spec_StoreRun.phis N))) pok (G := gam) (ΦOk.cons (spec_validStore.sound N) (fnOk_of (f := 68) (by kernel_rfl)) (ΦOk.cons (spec_validUpdates.sound N) (fnOk_of (f := 69) (by kernel_rfl)) (ΦOk.cons (spec_storeRun.sound N) (fnOk_of (f := 70) (by kernel_rfl)) (ΦOk.cons (spec_copyStore.sound N) (fnOk_of (f := 51) (by kernel_rfl)) ΦOk.nil)))) mixed N Tryz.func28 (c := (bodyOf Tryz.f28)) (by kernel_rfl) spec_StoreRun.sg (by kernel_rfl) (by kernel_rfl) (by kernel_rfl) (spec_StoreRun.run N)

@[reducible] def impl_storeRun.sg : Sg := { ms := [{ k := (.sl (.st 80)), fl := [none] }, { k := (.sl (.st 100)), fl := [none] }], keep := [false, false], rs := [{ k := (.sl (.st 80)), fl := [some (true, 411)] }] }
@[reducible] def impl_storeRun.lvL0 : Lv := { id := 0, slots := [5, 10, 11, 12], ms := [{ k := (.sl (.st 80)), fl := [some (true, 600)] }, { k := (.sl (.st 100)), fl := [none] }, { k := (.int .i64) }, { k := (.int .i64) }] }
noncomputable def impl_storeRun.A : Ann := { dp := fun _ => true, lp := look [(0, impl_storeRun.lvL0)], jn := look [], pins := [], nt := 21 }
noncomputable def impl_storeRun.phis (N : Nat) : List (Nat × Sm D) := [(93, impl_storeCopy.sm N), (95, impl_storeDo.sm N)]
noncomputable def impl_storeRun.a0 (N : Nat) (n : Nat) (y : (List (ImplCell)) × (List (ImplUpdate)) × Int × Int × Unit) : Option ((List (ImplCell)) × Unit) := loopAt cx (look (impl_storeRun.phis N)) impl_storeRun.A N n (encL cx impl_storeRun.lvL0.ms y).1 (encL cx impl_storeRun.lvL0.ms y).2 (bodyOf Tryz.f73) 0 (Kfin cx impl_storeRun.A impl_storeRun.sg Tryz.f73.results.toList) [1, 1, 0, 1, 1] []
theorem impl_storeRun.r0 (N : Nat) : ∀ (n : Nat) (y : (List (ImplCell)) × (List (ImplUpdate)) × Int × Int × Unit), impl_storeRun.a0 N n y = impl_storeRun.L0 N n y
  | 0, y => by kernel_rfl
  | n + 1, y => by
    have h : impl_storeRun.a0 N (n + 1) y = impl_storeRun.B0 N (fun z => impl_storeRun.a0 N n z) y := by kernel_rfl
    have e : (fun z => impl_storeRun.a0 N n z) = impl_storeRun.L0 N n := funext fun z => impl_storeRun.r0 N n z
    rw [h]
    try rw [e]
    first | done | rfl
theorem impl_storeRun.run (N : Nat) (x : (List (ImplCell)) × (List (ImplUpdate)) × Unit) : runF cx (look (impl_storeRun.phis N)) impl_storeRun.A N (bodyOf Tryz.f73) Tryz.f73.results.toList impl_storeRun.sg x = impl_storeRun N x.1 x.2.1 := by
  have h : runF cx (look (impl_storeRun.phis N)) impl_storeRun.A N (bodyOf Tryz.f73) Tryz.f73.results.toList impl_storeRun.sg x = impl_storeRun.B N (fun z => impl_storeRun.a0 N N z) x.1 x.2.1 := by kernel_rfl
  have e0 : (fun z => impl_storeRun.a0 N N z) = impl_storeRun.L0 N N := funext fun z => impl_storeRun.r0 N N z
  rw [h, e0]
  try rfl
noncomputable def impl_storeRun.sm (N : Nat) : Sm D := (⟨impl_storeRun.sg, fun (x : (List (ImplCell)) × (List (ImplUpdate)) × Unit) => impl_storeRun N x.1 x.2.1⟩ : Sm D)
theorem impl_storeRun.sound (N : Nat) : Sound cx Tryz.prog gam 73 (impl_storeRun.sm N) := fn_sound (A := impl_storeRun.A) (Φ := (look (impl_storeRun.phis N))) pok (G := gam) (ΦOk.cons (impl_storeCopy.sound N) (fnOk_of (f := 93) (by kernel_rfl)) (ΦOk.cons (impl_storeDo.sound N) (fnOk_of (f := 95) (by kernel_rfl)) ΦOk.nil)) mixed N Tryz.func73 (c := (bodyOf Tryz.f73)) (by kernel_rfl) impl_storeRun.sg (by kernel_rfl) (by kernel_rfl) (by kernel_rfl) (impl_storeRun.run N)

@[reducible] def impl_StoreRun.sg : Sg := { ms := [{ k := (.sl (.st 80)), fl := [none] }, { k := (.sl (.st 100)), fl := [none] }], keep := [false, false], rs := [{ k := (.sl (.st 80)), fl := [some (true, 411)] }] }
noncomputable def impl_StoreRun.A : Ann := { dp := fun d => isIn [] d, lp := look [], jn := look [], pins := [], nt := 21 }
noncomputable def impl_StoreRun.phis (N : Nat) : List (Nat × Sm D) := [(14, impl_StoreOk.sm N), (54, impl_updatesOk.sm N), (73, impl_storeRun.sm N)]
theorem impl_StoreRun.run (N : Nat) (x : (List (ImplCell)) × (List (ImplUpdate)) × Unit) : runF cx (look (impl_StoreRun.phis N)) impl_StoreRun.A N (bodyOf Tryz.f31) Tryz.f31.results.toList impl_StoreRun.sg x = impl_StoreRun N x.1 x.2.1 := by
  have h : runF cx (look (impl_StoreRun.phis N)) impl_StoreRun.A N (bodyOf Tryz.f31) Tryz.f31.results.toList impl_StoreRun.sg x = impl_StoreRun.B N x.1 x.2.1 := by kernel_rfl
  rw [h]
  try rfl
noncomputable def impl_StoreRun.sm (N : Nat) : Sm D := (⟨impl_StoreRun.sg, fun (x : (List (ImplCell)) × (List (ImplUpdate)) × Unit) => impl_StoreRun N x.1 x.2.1⟩ : Sm D)
theorem impl_StoreRun.sound (N : Nat) : Sound cx Tryz.prog gam 31 (impl_StoreRun.sm N) := fn_sound (A := impl_StoreRun.A) (Φ := (look (impl_StoreRun.phis N))) pok (G := gam) (ΦOk.cons (impl_StoreOk.sound N) (fnOk_of (f := 14) (by kernel_rfl)) (ΦOk.cons (impl_updatesOk.sound N) (fnOk_of (f := 54) (by kernel_rfl)) (ΦOk.cons (impl_storeRun.sound N) (fnOk_of (f := 73) (by kernel_rfl)) ΦOk.nil))) mixed N Tryz.func31 (c := (bodyOf Tryz.f31)) (by kernel_rfl) impl_StoreRun.sg (by kernel_rfl) (by kernel_rfl) (by kernel_rfl) (impl_StoreRun.run N)

@[reducible] def laws_FnExactStoreRun.sg : Sg := { ms := [{ k := (.sl (.st 92)), fl := [none] }, { k := (.sl (.st 96)), fl := [none] }], keep := [false, false], rs := [{ k := .bool }] }
noncomputable def laws_FnExactStoreRun.A : Ann := { dp := fun d => isIn [] d, lp := look [], jn := look [], pins := [], nt := 92 }
noncomputable def laws_FnExactStoreRun.phis (N : Nat) : List (Nat × Sm D) := [(26, laws_szCellS.sm N), (27, laws_szUpdateS.sm N), (29, laws_toCellS.sm N), (30, laws_toUpdateS.sm N), (28, spec_StoreRun.sm N), (31, impl_StoreRun.sm N), (21, laws_eqCellS.sm N), (32, laws_eqUpdateS.sm N), (24, laws_markCellS.sm N), (33, laws_markUpdateS.sm N), (25, laws_heldCellS.sm N)]
theorem laws_FnExactStoreRun.run (N : Nat) (x : (List (LawsCell)) × (List (LawsUpdate)) × Unit) : runF cx (look (laws_FnExactStoreRun.phis N)) laws_FnExactStoreRun.A N (bodyOf Tryz.f6) Tryz.f6.results.toList laws_FnExactStoreRun.sg x = laws_FnExactStoreRun N x.1 x.2.1 := by
  have h : runF cx (look (laws_FnExactStoreRun.phis N)) laws_FnExactStoreRun.A N (bodyOf Tryz.f6) Tryz.f6.results.toList laws_FnExactStoreRun.sg x = laws_FnExactStoreRun.B N x.1 x.2.1 := by kernel_rfl
  rw [h]
  try rfl
noncomputable def laws_FnExactStoreRun.sm (N : Nat) : Sm D := (⟨laws_FnExactStoreRun.sg, fun (x : (List (LawsCell)) × (List (LawsUpdate)) × Unit) => laws_FnExactStoreRun N x.1 x.2.1⟩ : Sm D)
theorem laws_FnExactStoreRun.sound (N : Nat) : Sound cx Tryz.prog gam 6 (laws_FnExactStoreRun.sm N) := fn_sound (A := laws_FnExactStoreRun.A) (Φ := (look (laws_FnExactStoreRun.phis N))) pok (G := gam) (ΦOk.cons (laws_szCellS.sound N) (fnOk_of (f := 26) (by kernel_rfl)) (ΦOk.cons (laws_szUpdateS.sound N) (fnOk_of (f := 27) (by kernel_rfl)) (ΦOk.cons (laws_toCellS.sound N) (fnOk_of (f := 29) (by kernel_rfl)) (ΦOk.cons (laws_toUpdateS.sound N) (fnOk_of (f := 30) (by kernel_rfl)) (ΦOk.cons (spec_StoreRun.sound N) (fnOk_of (f := 28) (by kernel_rfl)) (ΦOk.cons (impl_StoreRun.sound N) (fnOk_of (f := 31) (by kernel_rfl)) (ΦOk.cons (laws_eqCellS.sound N) (fnOk_of (f := 21) (by kernel_rfl)) (ΦOk.cons (laws_eqUpdateS.sound N) (fnOk_of (f := 32) (by kernel_rfl)) (ΦOk.cons (laws_markCellS.sound N) (fnOk_of (f := 24) (by kernel_rfl)) (ΦOk.cons (laws_markUpdateS.sound N) (fnOk_of (f := 33) (by kernel_rfl)) (ΦOk.cons (laws_heldCellS.sound N) (fnOk_of (f := 25) (by kernel_rfl)) ΦOk.nil))))))))))) mixed N Tryz.func6 (c := (bodyOf Tryz.f6)) (by kernel_rfl) laws_FnExactStoreRun.sg (by kernel_rfl) (by kernel_rfl) (by kernel_rfl) (laws_FnExactStoreRun.run N)

end
end Go.Ev
