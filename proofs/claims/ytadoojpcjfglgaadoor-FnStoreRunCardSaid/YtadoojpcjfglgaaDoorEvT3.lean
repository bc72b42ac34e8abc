/- Each function that the law reaches does what its plain form says; no condition beyond the table of the library. -/
import Derived.Test.YtadoojpcjfglgaaDoorEvT2
set_option linter.all false
set_option linter.unusedVariables false
set_option linter.unusedSimpArgs false
set_option maxRecDepth 100000
set_option maxHeartbeats 0
namespace Go.Ev
noncomputable section
open Go.Proofs
@[reducible] def spec_source_cells.sg : Sg := { ms := [{ ptr := true, id := 10, t := 98, k := (.st 97) }], keep := [true], rs := [{ k := (.sl (.st 70)), fl := [none] }], hold := true }
@[reducible] def spec_source_cells.lvL0 : Lv := { id := 0, slots := [0, 3, 4], ms := [{ ptr := true, id := 10, t := 98, k := (.st 97), fl := [none, none, none] }, { k := (.sl (.st 70)), fl := [none] }, { k := (.int .i64) }] }
noncomputable def spec_source_cells.A : Ann := { dp := fun d => isIn [] d, lp := look [(0, spec_source_cells.lvL0)], jn := look [], pins := [10], nt := 27 }
noncomputable def spec_source_cells.phis (N : Nat) : List (Nat × Sm D) := [(56, spec_source_pick.sm N), (82, spec_source_slots.sm N), (57, spec_source_goods.sm N), (83, spec_validPlace.sm N), (84, spec_put.sm N)]
noncomputable def spec_source_cells.a0 (N : Nat) (n : Nat) (y : SpecSource × (List (ImplCell)) × Int × Unit) : Option (SpecSource × (List (ImplCell)) × Unit) := loopAt cx (look (spec_source_cells.phis N)) spec_source_cells.A N n (encL cx spec_source_cells.lvL0.ms y).1 (encL cx spec_source_cells.lvL0.ms y).2 (bodyOf Tryd.f45) 0 (Kfin cx spec_source_cells.A spec_source_cells.sg Tryd.f45.results.toList) [1, 1, 0, 1, 1] []
theorem spec_source_cells.r0 (N : Nat) : ∀ (n : Nat) (y : SpecSource × (List (ImplCell)) × Int × Unit), spec_source_cells.a0 N n y = spec_source_cells.L0 N n y
  | 0, y => by kernel_rfl
  | n + 1, y => by
    have h : spec_source_cells.a0 N (n + 1) y = spec_source_cells.B0 N (fun z => spec_source_cells.a0 N n z) y := by kernel_rfl
    have e : (fun z => spec_source_cells.a0 N n z) = spec_source_cells.L0 N n := funext fun z => spec_source_cells.r0 N n z
    rw [h]
    try rw [e]
    first | done | rfl
theorem spec_source_cells.run (N : Nat) (x : SpecSource × Unit) : runF cx (look (spec_source_cells.phis N)) spec_source_cells.A N (bodyOf Tryd.f45) Tryd.f45.results.toList spec_source_cells.sg x = spec_source_cells N x.1 := by
  have h : runF cx (look (spec_source_cells.phis N)) spec_source_cells.A N (bodyOf Tryd.f45) Tryd.f45.results.toList spec_source_cells.sg x = spec_source_cells.B N (fun z => spec_source_cells.a0 N N z) x.1 := by kernel_rfl
  have e0 : (fun z => spec_source_cells.a0 N N z) = spec_source_cells.L0 N N := funext fun z => spec_source_cells.r0 N N z
  rw [h, e0]
  try rfl
noncomputable def spec_source_cells.sm (N : Nat) : Sm D := (⟨spec_source_cells.sg, fun (x : SpecSource × Unit) => spec_source_cells N x.1⟩ : Sm D)
theorem spec_source_cells.sound (N : Nat) : Sound cx Tryd.prog gam 45 (spec_source_cells.sm N) := fn_sound (A := spec_source_cells.A) (Φ := (look (spec_source_cells.phis N))) pok (G := gam) (ΦOk.cons (spec_source_pick.sound N) (fnOk_of (f := 56) (by kernel_rfl)) (ΦOk.cons (spec_source_slots.sound N) (fnOk_of (f := 82) (by kernel_rfl)) (ΦOk.cons (spec_source_goods.sound N) (fnOk_of (f := 57) (by kernel_rfl)) (ΦOk.cons (spec_validPlace.sound N) (fnOk_of (f := 83) (by kernel_rfl)) (ΦOk.cons (spec_put.sound N) (fnOk_of (f := 84) (by kernel_rfl)) ΦOk.nil))))) mixed N Tryd.func45 (c := (bodyOf Tryd.f45)) (by kernel_rfl) spec_source_cells.sg (by kernel_rfl) (by kernel_rfl) (by kernel_rfl) (spec_source_cells.run N)

@[reducible] def spec_source_leaf.sg : Sg := { ms := [{ ptr := true, id := 10, t := 98, k := (.st 97) }, { k := (.int .i64) }, { k := (.int .i64) }, { k := (.int .i64) }], keep := [true, false, false, false], rs := [{ k := (.st 81) }], hold := true }
noncomputable def spec_source_leaf.A : Ann := { dp := fun d => isIn [] d, lp := look [], jn := look [], pins := [10], nt := 44 }
noncomputable def spec_source_leaf.phis (N : Nat) : List (Nat × Sm D) := [(56, spec_source_pick.sm N), (90, spec_source_good.sm N)]
theorem spec_source_leaf.run (N : Nat) (x : SpecSource × Int × Int × Int × Unit) : runF cx (look (spec_source_leaf.phis N)) spec_source_leaf.A N (bodyOf Tryd.f91) Tryd.f91.results.toList spec_source_leaf.sg x = spec_source_leaf N x.1 x.2.1 x.2.2.1 x.2.2.2.1 := by
  have h : runF cx (look (spec_source_leaf.phis N)) spec_source_leaf.A N (bodyOf Tryd.f91) Tryd.f91.results.toList spec_source_leaf.sg x = spec_source_leaf.B N x.1 x.2.1 x.2.2.1 x.2.2.2.1 := by kernel_rfl
  rw [h]
  try rfl
noncomputable def spec_source_leaf.sm (N : Nat) : Sm D := (⟨spec_source_leaf.sg, fun (x : SpecSource × Int × Int × Int × Unit) => spec_source_leaf N x.1 x.2.1 x.2.2.1 x.2.2.2.1⟩ : Sm D)
theorem spec_source_leaf.sound (N : Nat) : Sound cx Tryd.prog gam 91 (spec_source_leaf.sm N) := fn_sound (A := spec_source_leaf.A) (Φ := (look (spec_source_leaf.phis N))) pok (G := gam) (ΦOk.cons (spec_source_pick.sound N) (fnOk_of (f := 56) (by kernel_rfl)) (ΦOk.cons (spec_source_good.sound N) (fnOk_of (f := 90) (by kernel_rfl)) ΦOk.nil)) mixed N Tryd.func91 (c := (bodyOf Tryd.f91)) (by kernel_rfl) spec_source_leaf.sg (by kernel_rfl) (by kernel_rfl) (by kernel_rfl) (spec_source_leaf.run N)

@[reducible] def spec_source_form.sg : Sg := { ms := [{ ptr := true, id := 10, t := 98, k := (.st 97) }, { k := (.int .i64) }, { k := (.int .i64) }, { k := (.int .i64) }, { k := (.int .i64) }], keep := [true, false, false, false, false], rs := [{ k := (.sl (.st 81)), fl := [some (false, 411)] }], hold := true }
noncomputable def spec_source_form.A : Ann := { dp := fun d => isIn [] d, lp := look [], jn := look [], pins := [10], nt := 81 }
noncomputable def spec_source_form.phis (N : Nat) (d : Nat) : List (Nat × Sm D) := [(56, spec_source_pick.sm N), (91, spec_source_leaf.sm N), (58, (⟨spec_source_form.sg, fun (x : SpecSource × Int × Int × Int × Int × Unit) => spec_source_form.R N d x.1 x.2.1 x.2.2.1 x.2.2.2.1 x.2.2.2.2.1⟩ : Sm D))]
theorem spec_source_form.run (N : Nat) (d : Nat) (x : SpecSource × Int × Int × Int × Int × Unit) : runF cx (look (spec_source_form.phis N d)) spec_source_form.A N (bodyOf Tryd.f58) Tryd.f58.results.toList spec_source_form.sg x = spec_source_form.R N (d + 1) x.1 x.2.1 x.2.2.1 x.2.2.2.1 x.2.2.2.2.1 := by
  have h : runF cx (look (spec_source_form.phis N d)) spec_source_form.A N (bodyOf Tryd.f58) Tryd.f58.results.toList spec_source_form.sg x = spec_source_form.B N (spec_source_form.R N d) x.1 x.2.1 x.2.2.1 x.2.2.2.1 x.2.2.2.2.1 := by kernel_rfl
  rw [h]
  try rfl
theorem spec_source_form.step (N : Nat) (d : Nat) (h_spec_source_form : Sound cx Tryd.prog gam 58 (⟨spec_source_form.sg, fun (x : SpecSource × Int × Int × Int × Int × Unit) => spec_source_form.R N d x.1 x.2.1 x.2.2.1 x.2.2.2.1 x.2.2.2.2.1⟩ : Sm D)) : Sound cx Tryd.prog gam 58 (⟨spec_source_form.sg, fun (x : SpecSource × Int × Int × Int × Int × Unit) => spec_source_form.R N (d + 1) x.1 x.2.1 x.2.2.1 x.2.2.2.1 x.2.2.2.2.1⟩ : Sm D) := fn_sound (A := spec_source_form.A) (Φ := (look (spec_source_form.phis N d))) pok (G := gam) (ΦOk.cons (spec_source_pick.sound N) (fnOk_of (f := 56) (by kernel_rfl)) (ΦOk.cons (spec_source_leaf.sound N) (fnOk_of (f := 91) (by kernel_rfl)) (ΦOk.cons h_spec_source_form (fnOk_of (f := 58) (by kernel_rfl)) ΦOk.nil))) mixed N Tryd.func58 (c := (bodyOf Tryd.f58)) (by kernel_rfl) spec_source_form.sg (by kernel_rfl) (by kernel_rfl) (by kernel_rfl) (spec_source_form.run N d)

theorem spec_source_form.scc (N : Nat) : ∀ d, Sound cx Tryd.prog gam 58 (⟨spec_source_form.sg, fun (x : SpecSource × Int × Int × Int × Int × Unit) => spec_source_form.R N d x.1 x.2.1 x.2.2.1 x.2.2.2.1 x.2.2.2.2.1⟩ : Sm D)
  | 0 => none_sound 58 spec_source_form.sg
  | d + 1 => by
    have ih := spec_source_form.scc N d
    exact spec_source_form.step N d ih
noncomputable def spec_source_form.sm (N : Nat) : Sm D := (⟨spec_source_form.sg, fun (x : SpecSource × Int × Int × Int × Int × Unit) => spec_source_form.R N N x.1 x.2.1 x.2.2.1 x.2.2.2.1 x.2.2.2.2.1⟩ : Sm D)
theorem spec_source_form.sound (N : Nat) : Sound cx Tryd.prog gam 58 (spec_source_form.sm N) := (spec_source_form.scc N N)
@[reducible] def spec_source_update.sg : Sg := { ms := [{ ptr := true, id := 10, t := 98, k := (.st 97) }, { k := (.sl (.st 70)), fl := [none] }], keep := [true, false], rs := [{ k := (.st 86) }], hold := true }
@[reducible] def spec_source_update.lvJ8 : Lv := { id := 8, slots := [0, 4, 5, 6], ms := [{ ptr := true, id := 10, t := 98, k := (.st 97), fl := [none, none, none] }, { ptr := true, id := 620, t := 87, k := (.st 86), fl := [some (false, 621), none, some (false, 623), none] }, { ptr := true, id := 640, t := 87, k := (.st 86), fl := [none, none, some (false, 643), none] }, { k := (.int .i64) }] }
noncomputable def spec_source_update.A : Ann := { dp := fun d => isIn [] d, lp := look [], jn := look [(8, spec_source_update.lvJ8)], pins := [10], nt := 56 }
noncomputable def spec_source_update.phis (N : Nat) : List (Nat × Sm D) := [(56, spec_source_pick.sm N), (82, spec_source_slots.sm N), (58, spec_source_form.sm N), (59, spec_source_rarely.sm N), (109, spec_source_one.sm N)]
theorem spec_source_update.run (N : Nat) (x : SpecSource × (List (ImplCell)) × Unit) : runF cx (look (spec_source_update.phis N)) spec_source_update.A N (bodyOf Tryd.f85) Tryd.f85.results.toList spec_source_update.sg x = spec_source_update N x.1 x.2.1 := by
  have h : runF cx (look (spec_source_update.phis N)) spec_source_update.A N (bodyOf Tryd.f85) Tryd.f85.results.toList spec_source_update.sg x = spec_source_update.B N x.1 x.2.1 := by kernel_rfl
  rw [h]
  try rfl
noncomputable def spec_source_update.sm (N : Nat) : Sm D := (⟨spec_source_update.sg, fun (x : SpecSource × (List (ImplCell)) × Unit) => spec_source_update N x.1 x.2.1⟩ : Sm D)
theorem spec_source_update.sound (N : Nat) : Sound cx Tryd.prog gam 85 (spec_source_update.sm N) := fn_sound (A := spec_source_update.A) (Φ := (look (spec_source_update.phis N))) pok (G := gam) (ΦOk.cons (spec_source_pick.sound N) (fnOk_of (f := 56) (by kernel_rfl)) (ΦOk.cons (spec_source_slots.sound N) (fnOk_of (f := 82) (by kernel_rfl)) (ΦOk.cons (spec_source_form.sound N) (fnOk_of (f := 58) (by kernel_rfl)) (ΦOk.cons (spec_source_rarely.sound N) (fnOk_of (f := 59) (by kernel_rfl)) (ΦOk.cons (spec_source_one.sound N) (fnOk_of (f := 109) (by kernel_rfl)) ΦOk.nil))))) mixed N Tryd.func85 (c := (bodyOf Tryd.f85)) (by kernel_rfl) spec_source_update.sg (by kernel_rfl) (by kernel_rfl) (by kernel_rfl) (spec_source_update.run N)

@[reducible] def spec_source_updates.sg : Sg := { ms := [{ ptr := true, id := 10, t := 98, k := (.st 97) }, { k := (.sl (.st 70)), fl := [none] }], keep := [true, false], rs := [{ k := (.sl (.st 86)), fl := [none] }], hold := true }
@[reducible] def spec_source_updates.lvL0 : Lv := { id := 0, slots := [0, 1, 5, 6], ms := [{ ptr := true, id := 10, t := 98, k := (.st 97), fl := [none, none, none] }, { k := (.sl (.st 70)), fl := [none] }, { k := (.sl (.st 86)), fl := [some (false, 640)] }, { k := (.int .i64) }] }
noncomputable def spec_source_updates.A : Ann := { dp := fun d => isIn [] d, lp := look [(0, spec_source_updates.lvL0)], jn := look [], pins := [10], nt := 21 }
noncomputable def spec_source_updates.phis (N : Nat) : List (Nat × Sm D) := [(56, spec_source_pick.sm N), (85, spec_source_update.sm N)]
noncomputable def spec_source_updates.a0 (N : Nat) (n : Nat) (y : SpecSource × (List (ImplCell)) × (List (ImplUpdate)) × Int × Unit) : Option (SpecSource × (List (ImplUpdate)) × Unit) := loopAt cx (look (spec_source_updates.phis N)) spec_source_updates.A N n (encL cx spec_source_updates.lvL0.ms y).1 (encL cx spec_source_updates.lvL0.ms y).2 (bodyOf Tryd.f46) 0 (Kfin cx spec_source_updates.A spec_source_updates.sg Tryd.f46.results.toList) [1, 1, 0, 1, 1] []
theorem spec_source_updates.r0 (N : Nat) : ∀ (n : Nat) (y : SpecSource × (List (ImplCell)) × (List (ImplUpdate)) × Int × Unit), spec_source_updates.a0 N n y = spec_source_updates.L0 N n y
  | 0, y => by kernel_rfl
  | n + 1, y => by
    have h : spec_source_updates.a0 N (n + 1) y = spec_source_updates.B0 N (fun z => spec_source_updates.a0 N n z) y := by kernel_rfl
    have e : (fun z => spec_source_updates.a0 N n z) = spec_source_updates.L0 N n := funext fun z => spec_source_updates.r0 N n z
    rw [h]
    try rw [e]
    first | done | rfl
theorem spec_source_updates.run (N : Nat) (x : SpecSource × (List (ImplCell)) × Unit) : runF cx (look (spec_source_updates.phis N)) spec_source_updates.A N (bodyOf Tryd.f46) Tryd.f46.results.toList spec_source_updates.sg x = spec_source_updates N x.1 x.2.1 := by
  have h : runF cx (look (spec_source_updates.phis N)) spec_source_updates.A N (bodyOf Tryd.f46) Tryd.f46.results.toList spec_source_updates.sg x = spec_source_updates.B N (fun z => spec_source_updates.a0 N N z) x.1 x.2.1 := by kernel_rfl
  have e0 : (fun z => spec_source_updates.a0 N N z) = spec_source_updates.L0 N N := funext fun z => spec_source_updates.r0 N N z
  rw [h, e0]
  try rfl
noncomputable def spec_source_updates.sm (N : Nat) : Sm D := (⟨spec_source_updates.sg, fun (x : SpecSource × (List (ImplCell)) × Unit) => spec_source_updates N x.1 x.2.1⟩ : Sm D)
theorem spec_source_updates.sound (N : Nat) : Sound cx Tryd.prog gam 46 (spec_source_updates.sm N) := fn_sound (A := spec_source_updates.A) (Φ := (look (spec_source_updates.phis N))) pok (G := gam) (ΦOk.cons (spec_source_pick.sound N) (fnOk_of (f := 56) (by kernel_rfl)) (ΦOk.cons (spec_source_update.sound N) (fnOk_of (f := 85) (by kernel_rfl)) ΦOk.nil)) mixed N Tryd.func46 (c := (bodyOf Tryd.f46)) (by kernel_rfl) spec_source_updates.sg (by kernel_rfl) (by kernel_rfl) (by kernel_rfl) (spec_source_updates.run N)

@[reducible] def spec_DrawStoreRun.sg : Sg := { ms := [{ k := (.sl (.int .u8)), fl := [none] }], keep := [false], rs := [{ k := (.sl (.st 70)), fl := [none] }, { k := (.sl (.st 86)), fl := [none] }], hold := true }
noncomputable def spec_DrawStoreRun.A : Ann := { dp := fun d => isIn [] d, lp := look [], jn := look [], pins := [], nt := 14 }
noncomputable def spec_DrawStoreRun.phis (N : Nat) : List (Nat × Sm D) := [(44, spec_newSource.sm N), (45, spec_source_cells.sm N), (46, spec_source_updates.sm N)]
theorem spec_DrawStoreRun.run (N : Nat) (x : (List (Int)) × Unit) : runF cx (look (spec_DrawStoreRun.phis N)) spec_DrawStoreRun.A N (bodyOf Tryd.f17) Tryd.f17.results.toList spec_DrawStoreRun.sg x = spec_DrawStoreRun N x.1 := by
  have h : runF cx (look (spec_DrawStoreRun.phis N)) spec_DrawStoreRun.A N (bodyOf Tryd.f17) Tryd.f17.results.toList spec_DrawStoreRun.sg x = spec_DrawStoreRun.B N x.1 := by kernel_rfl
  rw [h]
  try rfl
noncomputable def spec_DrawStoreRun.sm (N : Nat) : Sm D := (⟨spec_DrawStoreRun.sg, fun (x : (List (Int)) × Unit) => spec_DrawStoreRun N x.1⟩ : Sm D)
theorem spec_DrawStoreRun.sound (N : Nat) : Sound cx Tryd.prog gam 17 (spec_DrawStoreRun.sm N) := fn_sound (A := spec_DrawStoreRun.A) (Φ := (look (spec_DrawStoreRun.phis N))) pok (G := gam) (ΦOk.cons (spec_newSource.sound N) (fnOk_of (f := 44) (by kernel_rfl)) (ΦOk.cons (spec_source_cells.sound N) (fnOk_of (f := 45) (by kernel_rfl)) (ΦOk.cons (spec_source_updates.sound N) (fnOk_of (f := 46) (by kernel_rfl)) ΦOk.nil))) mixed N Tryd.func17 (c := (bodyOf Tryd.f17)) (by kernel_rfl) spec_DrawStoreRun.sg (by kernel_rfl) (by kernel_rfl) (by kernel_rfl) (spec_DrawStoreRun.run N)

@[reducible] def spec_storeRun.sg : Sg := { ms := [{ k := (.sl (.st 70)), fl := [none] }, { k := (.sl (.st 86)), fl := [none] }], keep := [false, false], rs := [{ k := (.sl (.st 70)), fl := [none] }], hold := true }
@[reducible] def spec_storeRun.lvL0 : Lv := { id := 0, slots := [0, 1, 5], ms := [{ k := (.sl (.st 70)), fl := [none] }, { k := (.sl (.st 86)), fl := [none] }, { k := (.int .i64) }] }
noncomputable def spec_storeRun.A : Ann := { dp := fun d => isIn [] d, lp := look [(0, spec_storeRun.lvL0)], jn := look [], pins := [], nt := 19 }
noncomputable def spec_storeRun.phis (N : Nat) : List (Nat × Sm D) := [(88, spec_storeUpdated.sm N)]
noncomputable def spec_storeRun.a0 (N : Nat) (n : Nat) (y : (List (ImplCell)) × (List (ImplUpdate)) × Int × Unit) : Option ((List (ImplCell)) × Unit) := loopAt cx (look (spec_storeRun.phis N)) spec_storeRun.A N n (encL cx spec_storeRun.lvL0.ms y).1 (encL cx spec_storeRun.lvL0.ms y).2 (bodyOf Tryd.f49) 0 (Kfin cx spec_storeRun.A spec_storeRun.sg Tryd.f49.results.toList) [1, 0, 1, 1] []
theorem spec_storeRun.r0 (N : Nat) : ∀ (n : Nat) (y : (List (ImplCell)) × (List (ImplUpdate)) × Int × Unit), spec_storeRun.a0 N n y = spec_storeRun.L0 N n y
  | 0, y => by kernel_rfl
  | n + 1, y => by
    have h : spec_storeRun.a0 N (n + 1) y = spec_storeRun.B0 N (fun z => spec_storeRun.a0 N n z) y := by kernel_rfl
    have e : (fun z => spec_storeRun.a0 N n z) = spec_storeRun.L0 N n := funext fun z => spec_storeRun.r0 N n z
    rw [h]
    try rw [e]
    first | done | rfl
theorem spec_storeRun.run (N : Nat) (x : (List (ImplCell)) × (List (ImplUpdate)) × Unit) : runF cx (look (spec_storeRun.phis N)) spec_storeRun.A N (bodyOf Tryd.f49) Tryd.f49.results.toList spec_storeRun.sg x = spec_storeRun N x.1 x.2.1 := by
  have h : runF cx (look (spec_storeRun.phis N)) spec_storeRun.A N (bodyOf Tryd.f49) Tryd.f49.results.toList spec_storeRun.sg x = spec_storeRun.B N (fun z => spec_storeRun.a0 N N z) x.1 x.2.1 := by kernel_rfl
  have e0 : (fun z => spec_storeRun.a0 N N z) = spec_storeRun.L0 N N := funext fun z => spec_storeRun.r0 N N z
  rw [h, e0]
  try rfl
noncomputable def spec_storeRun.sm (N : Nat) : Sm D := (⟨spec_storeRun.sg, fun (x : (List (ImplCell)) × (List (ImplUpdate)) × Unit) => spec_storeRun N x.1 x.2.1⟩ : Sm D)
theorem spec_storeRun.sound (N : Nat) : Sound cx Tryd.prog gam 49 (spec_storeRun.sm N) := fn_sound (A := spec_storeRun.A) (Φ := (look (spec_storeRun.phis N))) pok (G := gam) (ΦOk.cons (spec_storeUpdated.sound N) (fnOk_of (f := 88) (by kernel_rfl)) ΦOk.nil) mixed N Tryd.func49 (c := (bodyOf Tryd.f49)) (by kernel_rfl) spec_storeRun.sg (by kernel_rfl) (by kernel_rfl) (by kernel_rfl) (spec_storeRun.run N)

@[reducible] def spec_StoreRun.sg : Sg := { ms := [{ k := (.sl (.st 70)), fl := [none] }, { k := (.sl (.st 86)), fl := [none] }], keep := [false, false], rs := [{ k := (.sl (.st 70)), fl := [none] }], hold := true }
noncomputable def spec_StoreRun.A : Ann := { dp := fun d => isIn [] d, lp := look [], jn := look [], pins := [], nt := 17 }
noncomputable def spec_StoreRun.phis (N : Nat) : List (Nat × Sm D) := [(47, spec_validStore.sm N), (48, spec_validUpdates.sm N), (49, spec_storeRun.sm N), (37, spec_copyStore.sm N)]
theorem spec_StoreRun.run (N : Nat) (x : (List (ImplCell)) × (List (ImplUpdate)) × Unit) : runF cx (look (spec_StoreRun.phis N)) spec_StoreRun.A N (bodyOf Tryd.f18) Tryd.f18.results.toList spec_StoreRun.sg x = spec_StoreRun N x.1 x.2.1 := by
  have h : runF cx (look (spec_StoreRun.phis N)) spec_StoreRun.A N (bodyOf Tryd.f18) Tryd.f18.results.toList spec_StoreRun.sg x = spec_StoreRun.B N x.1 x.2.1 := by kernel_rfl
  rw [h]
  try rfl
noncomputable def spec_StoreRun.sm (N : Nat) : Sm D := (⟨spec_StoreRun.sg, fun (x : (List (ImplCell)) × (List (ImplUpdate)) × Unit) => spec_StoreRun N x.1 x.2.1⟩ : Sm D)
theorem spec_StoreRun.sound (N : Nat) : Sound cx Tryd.prog gam 18 (spec_StoreRun.sm N) := fn_sound (A := spec_StoreRun.A) (Φ := (look (spec_StoreRun.phis N))) pok (G := gam) (ΦOk.cons (spec_validStore.sound N) (fnOk_of (f := 47) (by kernel_rfl)) (ΦOk.cons (spec_validUpdates.sound N) (fnOk_of (f := 48) (by kernel_rfl)) (ΦOk.cons (spec_storeRun.sound N) (fnOk_of (f := 49) (by kernel_rfl)) (ΦOk.cons (spec_copyStore.sound N) (fnOk_of (f := 37) (by kernel_rfl)) ΦOk.nil)))) mixed N Tryd.func18 (c := (bodyOf Tryd.f18)) (by kernel_rfl) spec_StoreRun.sg (by kernel_rfl) (by kernel_rfl) (by kernel_rfl) (spec_StoreRun.run N)

@[reducible] def laws_FnStoreRun.sg : Sg := { ms := [{ k := (.sl (.int .u8)), fl := [none] }], keep := [false], rs := [{ k := .bool }] }
noncomputable def laws_FnStoreRun.A : Ann := { dp := fun d => isIn [] d, lp := look [], jn := look [], pins := [], nt := 57 }
noncomputable def laws_FnStoreRun.phis (N : Nat) : List (Nat × Sm D) := [(17, spec_DrawStoreRun.sm N), (16, impl_StoreRun.sm N), (18, spec_StoreRun.sm N), (9, spec_SameStore.sm N), (19, impl_StoreOk.sm N), (11, impl_LineOk.sm N)]
theorem laws_FnStoreRun.run (N : Nat) (x : (List (Int)) × Unit) : runF cx (look (laws_FnStoreRun.phis N)) laws_FnStoreRun.A N (bodyOf Tryd.f4) Tryd.f4.results.toList laws_FnStoreRun.sg x = laws_FnStoreRun N x.1 := by
  have h : runF cx (look (laws_FnStoreRun.phis N)) laws_FnStoreRun.A N (bodyOf Tryd.f4) Tryd.f4.results.toList laws_FnStoreRun.sg x = laws_FnStoreRun.B N x.1 := by kernel_rfl
  rw [h]
  try rfl
noncomputable def laws_FnStoreRun.sm (N : Nat) : Sm D := (⟨laws_FnStoreRun.sg, fun (x : (List (Int)) × Unit) => laws_FnStoreRun N x.1⟩ : Sm D)
theorem laws_FnStoreRun.sound (N : Nat) : Sound cx Tryd.prog gam 4 (laws_FnStoreRun.sm N) := fn_sound (A := laws_FnStoreRun.A) (Φ := (look (laws_FnStoreRun.phis N))) pok (G := gam) (ΦOk.cons (spec_DrawStoreRun.sound N) (fnOk_of (f := 17) (by kernel_rfl)) (ΦOk.cons (impl_StoreRun.sound N) (fnOk_of (f := 16) (by kernel_rfl)) (ΦOk.cons (spec_StoreRun.sound N) (fnOk_of (f := 18) (by kernel_rfl)) (ΦOk.cons (spec_SameStore.sound N) (fnOk_of (f := 9) (by kernel_rfl)) (ΦOk.cons (impl_StoreOk.sound N) (fnOk_of (f := 19) (by kernel_rfl)) (ΦOk.cons (impl_LineOk.sound N) (fnOk_of (f := 11) (by kernel_rfl)) ΦOk.nil)))))) mixed N Tryd.func4 (c := (bodyOf Tryd.f4)) (by kernel_rfl) laws_FnStoreRun.sg (by kernel_rfl) (by kernel_rfl) (by kernel_rfl) (laws_FnStoreRun.run N)

end
end Go.Ev
