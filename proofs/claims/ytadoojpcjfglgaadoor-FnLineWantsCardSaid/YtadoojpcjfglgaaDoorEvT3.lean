/- Each function that the law reaches does what its plain form says; no condition beyond the table of the library. -/
import Derived.Test.YtadoojpcjfglgaaDoorEvT2
set_option linter.all false
set_option linter.unusedVariables false
set_option linter.unusedSimpArgs false
set_option maxRecDepth 100000
set_option maxHeartbeats 0
namespace Go.Ev
noncomputable section
open Go.Proofs
@[reducible] def spec_source_good.sg : Sg := { ms := [{ ptr := true, id := 10, t := 98, k := (.st 97) }], keep := [true], rs := [{ k := (.st 47) }], hold := true }
noncomputable def spec_source_good.A : Ann := { dp := fun d => isIn [] d, lp := look [], jn := look [], pins := [10], nt := 11 }
noncomputable def spec_source_good.phis (N : Nat) : List (Nat × Sm D) := [(113, spec_source_value.sm N), (111, spec_validValue.sm N)]
theorem spec_source_good.run (N : Nat) (x : SpecSource × Unit) : runF cx (look (spec_source_good.phis N)) spec_source_good.A N (bodyOf Tryd.f90) Tryd.f90.results.toList spec_source_good.sg x = spec_source_good N x.1 := by
  have h : runF cx (look (spec_source_good.phis N)) spec_source_good.A N (bodyOf Tryd.f90) Tryd.f90.results.toList spec_source_good.sg x = spec_source_good.B N x.1 := by kernel_rfl
  rw [h]
  try rfl
noncomputable def spec_source_good.sm (N : Nat) : Sm D := (⟨spec_source_good.sg, fun (x : SpecSource × Unit) => spec_source_good N x.1⟩ : Sm D)
theorem spec_source_good.sound (N : Nat) : Sound cx Tryd.prog gam 90 (spec_source_good.sm N) := fn_sound (A := spec_source_good.A) (Φ := (look (spec_source_good.phis N))) pok (G := gam) (ΦOk.cons (spec_source_value.sound N) (fnOk_of (f := 113) (by kernel_rfl)) (ΦOk.cons (spec_validValue.sound N) (fnOk_of (f := 111) (by kernel_rfl)) ΦOk.nil)) mixed N Tryd.func90 (c := (bodyOf Tryd.f90)) (by kernel_rfl) spec_source_good.sg (by kernel_rfl) (by kernel_rfl) (by kernel_rfl) (spec_source_good.run N)

@[reducible] def spec_source_goods.sg : Sg := { ms := [{ ptr := true, id := 10, t := 98, k := (.st 97) }, { k := (.int .i64) }], keep := [true, false], rs := [{ k := (.sl (.st 47)), fl := [none] }], hold := true }
@[reducible] def spec_source_goods.lvL0 : Lv := { id := 0, slots := [0, 1, 5], ms := [{ ptr := true, id := 10, t := 98, k := (.st 97), fl := [none, none, none] }, { k := (.int .i64) }, { k := (.sl (.st 47)), fl := [some (false, 640)] }] }
noncomputable def spec_source_goods.A : Ann := { dp := fun d => isIn [] d, lp := look [(0, spec_source_goods.lvL0)], jn := look [], pins := [10], nt := 17 }
noncomputable def spec_source_goods.phis (N : Nat) : List (Nat × Sm D) := [(90, spec_source_good.sm N)]
noncomputable def spec_source_goods.a0 (N : Nat) (n : Nat) (y : SpecSource × Int × (List (ImplValue)) × Unit) : Option (SpecSource × (List (ImplValue)) × Unit) := loopAt cx (look (spec_source_goods.phis N)) spec_source_goods.A N n (encL cx spec_source_goods.lvL0.ms y).1 (encL cx spec_source_goods.lvL0.ms y).2 (bodyOf Tryd.f57) 0 (Kfin cx spec_source_goods.A spec_source_goods.sg Tryd.f57.results.toList) [1, 1, 0, 1] []
theorem spec_source_goods.r0 (N : Nat) : ∀ (n : Nat) (y : SpecSource × Int × (List (ImplValue)) × Unit), spec_source_goods.a0 N n y = spec_source_goods.L0 N n y
  | 0, y => by kernel_rfl
  | n + 1, y => by
    have h : spec_source_goods.a0 N (n + 1) y = spec_source_goods.B0 N (fun z => spec_source_goods.a0 N n z) y := by kernel_rfl
    have e : (fun z => spec_source_goods.a0 N n z) = spec_source_goods.L0 N n := funext fun z => spec_source_goods.r0 N n z
    rw [h]
    try rw [e]
    first | done | rfl
theorem spec_source_goods.run (N : Nat) (x : SpecSource × Int × Unit) : runF cx (look (spec_source_goods.phis N)) spec_source_goods.A N (bodyOf Tryd.f57) Tryd.f57.results.toList spec_source_goods.sg x = spec_source_goods N x.1 x.2.1 := by
  have h : runF cx (look (spec_source_goods.phis N)) spec_source_goods.A N (bodyOf Tryd.f57) Tryd.f57.results.toList spec_source_goods.sg x = spec_source_goods.B N (fun z => spec_source_goods.a0 N N z) x.1 x.2.1 := by kernel_rfl
  have e0 : (fun z => spec_source_goods.a0 N N z) = spec_source_goods.L0 N N := funext fun z => spec_source_goods.r0 N N z
  rw [h, e0]
  try rfl
noncomputable def spec_source_goods.sm (N : Nat) : Sm D := (⟨spec_source_goods.sg, fun (x : SpecSource × Int × Unit) => spec_source_goods N x.1 x.2.1⟩ : Sm D)
theorem spec_source_goods.sound (N : Nat) : Sound cx Tryd.prog gam 57 (spec_source_goods.sm N) := fn_sound (A := spec_source_goods.A) (Φ := (look (spec_source_goods.phis N))) pok (G := gam) (ΦOk.cons (spec_source_good.sound N) (fnOk_of (f := 90) (by kernel_rfl)) ΦOk.nil) mixed N Tryd.func57 (c := (bodyOf Tryd.f57)) (by kernel_rfl) spec_source_goods.sg (by kernel_rfl) (by kernel_rfl) (by kernel_rfl) (spec_source_goods.run N)

@[reducible] def spec_put.sg : Sg := { ms := [{ k := (.sl (.st 70)), fl := [none] }, { k := (.st 70) }], keep := [false, false], rs := [{ k := (.sl (.st 70)), fl := [none] }], hold := true }
@[reducible] def spec_put.lvJ6 : Lv := { id := 6, slots := [0, 5, 7], ms := [{ k := (.sl (.st 70)), fl := [none] }, { k := (.int .i64) }, { k := (.sl (.st 70)), fl := [some (false, 640)] }] }
noncomputable def spec_put.A : Ann := { dp := fun d => isIn [] d, lp := look [], jn := look [(6, spec_put.lvJ6)], pins := [], nt := 33 }
noncomputable def spec_put.phis (N : Nat) : List (Nat × Sm D) := [(105, spec_cellAt.sm N), (37, spec_copyStore.sm N), (75, spec_copyCell.sm N)]
theorem spec_put.run (N : Nat) (x : (List (ImplCell)) × ImplCell × Unit) : runF cx (look (spec_put.phis N)) spec_put.A N (bodyOf Tryd.f84) Tryd.f84.results.toList spec_put.sg x = spec_put N x.1 x.2.1 := by
  have h : runF cx (look (spec_put.phis N)) spec_put.A N (bodyOf Tryd.f84) Tryd.f84.results.toList spec_put.sg x = spec_put.B N x.1 x.2.1 := by kernel_rfl
  rw [h]
  try rfl
noncomputable def spec_put.sm (N : Nat) : Sm D := (⟨spec_put.sg, fun (x : (List (ImplCell)) × ImplCell × Unit) => spec_put N x.1 x.2.1⟩ : Sm D)
theorem spec_put.sound (N : Nat) : Sound cx Tryd.prog gam 84 (spec_put.sm N) := fn_sound (A := spec_put.A) (Φ := (look (spec_put.phis N))) pok (G := gam) (ΦOk.cons (spec_cellAt.sound N) (fnOk_of (f := 105) (by kernel_rfl)) (ΦOk.cons (spec_copyStore.sound N) (fnOk_of (f := 37) (by kernel_rfl)) (ΦOk.cons (spec_copyCell.sound N) (fnOk_of (f := 75) (by kernel_rfl)) ΦOk.nil))) mixed N Tryd.func84 (c := (bodyOf Tryd.f84)) (by kernel_rfl) spec_put.sg (by kernel_rfl) (by kernel_rfl) (by kernel_rfl) (spec_put.run N)

@[reducible] def spec_source_cells.sg : Sg := { ms := [{ ptr := true, id := 10, t := 98, k := (.st 97) }], keep := [true], rs := [{ k := (.sl (.st 70)), fl := [none] }], hold := true }
@[reducible] def spec_source_cells.lvL0 : Lv := { id := 0, slots := [0, 3, 4], ms := [{ ptr := true, id := 10, t := 98, k := (.st 97), fl := [none, none, none] }, { k := (.sl (.st 70)), fl := [none] }, { k := (.int .i64) }] }
noncomputable def spec_source_cells.A : Ann := { dp := fun d => isIn [] d, lp := look [(0, spec_source_cells.lvL0)], jn := look [], pins := [10], nt := 27 }
noncomputable def spec_source_cells.phis (N : Nat) : List (Nat × Sm D) := [(56, spec_source_pick.sm N), (82, spec_source_slots.sm N), (57, spec_source_goods.sm N), (83, spec_validPlace.sm N), (84, spec_put.sm N)]
noncomputable def spec_source_cells.a0 (N : Nat) (n : Nat) (y : SpecSource × (List (ImplCell)) × Int × Unit) : Option (SpecSource × (List (ImplCell)) × Unit) := loopAt cx (look (spec_source_cells.phis N)) spec_source_cells.A N n (encL cx spec_source_cells.lvL0.ms y).1 (encL cx spec_source_cells.lvL0.ms y).2 (bodyOf Tryd.f45) 0 (Kfin cx spec_source_cells.A spec_source_cells.sg Tryd.f45.results.toList) [1, 1, 0, 1, 1] []
theorem spec_source_cells.r0 (N : Nat) : ∀ (n : Nat) (y : SpecSource × (List (ImplCell)) × Int × Unit), spec_source_cells.a0 N n y = spec_source_cells.L0 N n y
  | 0, y => by kernel_rfl
  | n + 1, y => by
    have h : spec_source_cells.a0 N (n + 1) y = spec_source_cells.B0 N (fun z => spec_source_cells.a0 N n z) y := by kernel_rfl
    have e : (fun z => spec_source_cells.a0 N n z) = spec_source_cells.L0 N n := funext fun z => spec_source_cells.r0 N n z
    rw [h]
    try rw [e]
    first | done | rfl
theorem spec_source_cells.run (N : Nat) (x : SpecSource × Unit) : runF cx (look (spec_source_cells.phis N)) spec_source_cells.A N (bodyOf Tryd.f45) Tryd.f45.results.toList spec_source_cells.sg x = spec_source_cells N x.1 := by
  have h : runF cx (look (spec_source_cells.phis N)) spec_source_cells.A N (bodyOf Tryd.f45) Tryd.f45.results.toList spec_source_cells.sg x = spec_source_cells.B N (fun z => spec_source_cells.a0 N N z) x.1 := by kernel_rfl
  have e0 : (fun z => spec_source_cells.a0 N N z) = spec_source_cells.L0 N N := funext fun z => spec_source_cells.r0 N N z
  rw [h, e0]
  try rfl
noncomputable def spec_source_cells.sm (N : Nat) : Sm D := (⟨spec_source_cells.sg, fun (x : SpecSource × Unit) => spec_source_cells N x.1⟩ : Sm D)
theorem spec_source_cells.sound (N : Nat) : Sound cx Tryd.prog gam 45 (spec_source_cells.sm N) := fn_sound (A := spec_source_cells.A) (Φ := (look (spec_source_cells.phis N))) pok (G := gam) (ΦOk.cons (spec_source_pick.sound N) (fnOk_of (f := 56) (by kernel_rfl)) (ΦOk.cons (spec_source_slots.sound N) (fnOk_of (f := 82) (by kernel_rfl)) (ΦOk.cons (spec_source_goods.sound N) (fnOk_of (f := 57) (by kernel_rfl)) (ΦOk.cons (spec_validPlace.sound N) (fnOk_of (f := 83) (by kernel_rfl)) (ΦOk.cons (spec_put.sound N) (fnOk_of (f := 84) (by kernel_rfl)) ΦOk.nil))))) mixed N Tryd.func45 (c := (bodyOf Tryd.f45)) (by kernel_rfl) spec_source_cells.sg (by kernel_rfl) (by kernel_rfl) (by kernel_rfl) (spec_source_cells.run N)

@[reducible] def spec_source_leaf.sg : Sg := { ms := [{ ptr := true, id := 10, t := 98, k := (.st 97) }, { k := (.int .i64) }, { k := (.int .i64) }, { k := (.int .i64) }], keep := [true, false, false, false], rs := [{ k := (.st 81) }], hold := true }
noncomputable def spec_source_leaf.A : Ann := { dp := fun d => isIn [] d, lp := look [], jn := look [], pins := [10], nt := 44 }
noncomputable def spec_source_leaf.phis (N : Nat) : List (Nat × Sm D) := [(56, spec_source_pick.sm N), (90, spec_source_good.sm N)]
theorem spec_source_leaf.run (N : Nat) (x : SpecSource × Int × Int × Int × Unit) : runF cx (look (spec_source_leaf.phis N)) spec_source_leaf.A N (bodyOf Tryd.f91) Tryd.f91.results.toList spec_source_leaf.sg x = spec_source_leaf N x.1 x.2.1 x.2.2.1 x.2.2.2.1 := by
  have h : runF cx (look (spec_source_leaf.phis N)) spec_source_leaf.A N (bodyOf Tryd.f91) Tryd.f91.results.toList spec_source_leaf.sg x = spec_source_leaf.B N x.1 x.2.1 x.2.2.1 x.2.2.2.1 := by kernel_rfl
  rw [h]
  try rfl
noncomputable def spec_source_leaf.sm (N : Nat) : Sm D := (⟨spec_source_leaf.sg, fun (x : SpecSource × Int × Int × Int × Unit) => spec_source_leaf N x.1 x.2.1 x.2.2.1 x.2.2.2.1⟩ : Sm D)
theorem spec_source_leaf.sound (N : Nat) : Sound cx Tryd.prog gam 91 (spec_source_leaf.sm N) := fn_sound (A := spec_source_leaf.A) (Φ := (look (spec_source_leaf.phis N))) pok (G := gam) (ΦOk.cons (spec_source_pick.sound N) (fnOk_of (f := 56) (by kernel_rfl)) (ΦOk.cons (spec_source_good.sound N) (fnOk_of (f := 90) (by kernel_rfl)) ΦOk.nil)) mixed N Tryd.func91 (c := (bodyOf Tryd.f91)) (by kernel_rfl) spec_source_leaf.sg (by kernel_rfl) (by kernel_rfl) (by kernel_rfl) (spec_source_leaf.run N)

@[reducible] def spec_source_form.sg : Sg := { ms := [{ ptr := true, id := 10, t := 98, k := (.st 97) }, { k := (.int .i64) }, { k := (.int .i64) }, { k := (.int .i64) }, { k := (.int .i64) }], keep := [true, false, false, false, false], rs := [{ k := (.sl (.st 81)), fl := [some (false, 411)] }], hold := true }
noncomputable def spec_source_form.A : Ann := { dp := fun d => isIn [] d, lp := look [], jn := look [], pins := [10], nt := 81 }
noncomputable def spec_source_form.phis (N : Nat) (d : Nat) : List (Nat × Sm D) := [(56, spec_source_pick.sm N), (91, spec_source_leaf.sm N), (58, (⟨spec_source_form.sg, fun (x : SpecSource × Int × Int × Int × Int × Unit) => spec_source_form.R N d x.1 x.2.1 x.2.2.1 x.2.2.2.1 x.2.2.2.2.1⟩ : Sm D))]
theorem spec_source_form.run (N : Nat) (d : Nat) (x : SpecSource × Int × Int × Int × Int × Unit) : runF cx (look (spec_source_form.phis N d)) spec_source_form.A N (bodyOf Tryd.f58) Tryd.f58.results.toList spec_source_form.sg x = spec_source_form.R N (d + 1) x.1 x.2.1 x.2.2.1 x.2.2.2.1 x.2.2.2.2.1 := by
  have h : runF cx (look (spec_source_form.phis N d)) spec_source_form.A N (bodyOf Tryd.f58) Tryd.f58.results.toList spec_source_form.sg x = spec_source_form.B N (spec_source_form.R N d) x.1 x.2.1 x.2.2.1 x.2.2.2.1 x.2.2.2.2.1 := by kernel_rfl
  rw [h]
  try rfl
theorem spec_source_form.step (N : Nat) (d : Nat) (h_spec_source_form : Sound cx Tryd.prog gam 58 (⟨spec_source_form.sg, fun (x : SpecSource × Int × Int × Int × Int × Unit) => spec_source_form.R N d x.1 x.2.1 x.2.2.1 x.2.2.2.1 x.2.2.2.2.1⟩ : Sm D)) : Sound cx Tryd.prog gam 58 (⟨spec_source_form.sg, fun (x : SpecSource × Int × Int × Int × Int × Unit) => spec_source_form.R N (d + 1) x.1 x.2.1 x.2.2.1 x.2.2.2.1 x.2.2.2.2.1⟩ : Sm D) := fn_sound (A := spec_source_form.A) (Φ := (look (spec_source_form.phis N d))) pok (G := gam) (ΦOk.cons (spec_source_pick.sound N) (fnOk_of (f := 56) (by kernel_rfl)) (ΦOk.cons (spec_source_leaf.sound N) (fnOk_of (f := 91) (by kernel_rfl)) (ΦOk.cons h_spec_source_form (fnOk_of (f := 58) (by kernel_rfl)) ΦOk.nil))) mixed N Tryd.func58 (c := (bodyOf Tryd.f58)) (by kernel_rfl) spec_source_form.sg (by kernel_rfl) (by kernel_rfl) (by kernel_rfl) (spec_source_form.run N d)

theorem spec_source_form.scc (N : Nat) : ∀ d, Sound cx Tryd.prog gam 58 (⟨spec_source_form.sg, fun (x : SpecSource × Int × Int × Int × Int × Unit) => spec_source_form.R N d x.1 x.2.1 x.2.2.1 x.2.2.2.1 x.2.2.2.2.1⟩ : Sm D)
  | 0 => none_sound 58 spec_source_form.sg
  | d + 1 => by
    have ih := spec_source_form.scc N d
    exact spec_source_form.step N d ih
noncomputable def spec_source_form.sm (N : Nat) : Sm D := (⟨spec_source_form.sg, fun (x : SpecSource × Int × Int × Int × Int × Unit) => spec_source_form.R N N x.1 x.2.1 x.2.2.1 x.2.2.2.1 x.2.2.2.2.1⟩ : Sm D)
theorem spec_source_form.sound (N : Nat) : Sound cx Tryd.prog gam 58 (spec_source_form.sm N) := (spec_source_form.scc N N)
@[reducible] def spec_source_update.sg : Sg := { ms := [{ ptr := true, id := 10, t := 98, k := (.st 97) }, { k := (.sl (.st 70)), fl := [none] }], keep := [true, false], rs := [{ k := (.st 86) }], hold := true }
@[reducible] def spec_source_update.lvJ8 : Lv := { id := 8, slots := [0, 4, 5, 6], ms := [{ ptr := true, id := 10, t := 98, k := (.st 97), fl := [none, none, none] }, { ptr := true, id := 620, t := 87, k := (.st 86), fl := [some (false, 621), none, some (false, 623), none] }, { ptr := true, id := 640, t := 87, k := (.st 86), fl := [none, none, some (false, 643), none] }, { k := (.int .i64) }] }
noncomputable def spec_source_update.A : Ann := { dp := fun d => isIn [] d, lp := look [], jn := look [(8, spec_source_update.lvJ8)], pins := [10], nt := 56 }
noncomputable def spec_source_update.phis (N : Nat) : List (Nat × Sm D) := [(56, spec_source_pick.sm N), (82, spec_source_slots.sm N), (58, spec_source_form.sm N), (59, spec_source_rarely.sm N), (109, spec_source_one.sm N)]
theorem spec_source_update.run (N : Nat) (x : SpecSource × (List (ImplCell)) × Unit) : runF cx (look (spec_source_update.phis N)) spec_source_update.A N (bodyOf Tryd.f85) Tryd.f85.results.toList spec_source_update.sg x = spec_source_update N x.1 x.2.1 := by
  have h : runF cx (look (spec_source_update.phis N)) spec_source_update.A N (bodyOf Tryd.f85) Tryd.f85.results.toList spec_source_update.sg x = spec_source_update.B N x.1 x.2.1 := by kernel_rfl
  rw [h]
  try rfl
noncomputable def spec_source_update.sm (N : Nat) : Sm D := (⟨spec_source_update.sg, fun (x : SpecSource × (List (ImplCell)) × Unit) => spec_source_update N x.1 x.2.1⟩ : Sm D)
theorem spec_source_update.sound (N : Nat) : Sound cx Tryd.prog gam 85 (spec_source_update.sm N) := fn_sound (A := spec_source_update.A) (Φ := (look (spec_source_update.phis N))) pok (G := gam) (ΦOk.cons (spec_source_pick.sound N) (fnOk_of (f := 56) (by kernel_rfl)) (ΦOk.cons (spec_source_slots.sound N) (fnOk_of (f := 82) (by kernel_rfl)) (ΦOk.cons (spec_source_form.sound N) (fnOk_of (f := 58) (by kernel_rfl)) (ΦOk.cons (spec_source_rarely.sound N) (fnOk_of (f := 59) (by kernel_rfl)) (ΦOk.cons (spec_source_one.sound N) (fnOk_of (f := 109) (by kernel_rfl)) ΦOk.nil))))) mixed N Tryd.func85 (c := (bodyOf Tryd.f85)) (by kernel_rfl) spec_source_update.sg (by kernel_rfl) (by kernel_rfl) (by kernel_rfl) (spec_source_update.run N)

@[reducible] def spec_source_updates.sg : Sg := { ms := [{ ptr := true, id := 10, t := 98, k := (.st 97) }, { k := (.sl (.st 70)), fl := [none] }], keep := [true, false], rs := [{ k := (.sl (.st 86)), fl := [none] }], hold := true }
@[reducible] def spec_source_updates.lvL0 : Lv := { id := 0, slots := [0, 1, 5, 6], ms := [{ ptr := true, id := 10, t := 98, k := (.st 97), fl := [none, none, none] }, { k := (.sl (.st 70)), fl := [none] }, { k := (.sl (.st 86)), fl := [some (false, 640)] }, { k := (.int .i64) }] }
noncomputable def spec_source_updates.A : Ann := { dp := fun d => isIn [] d, lp := look [(0, spec_source_updates.lvL0)], jn := look [], pins := [10], nt := 21 }
noncomputable def spec_source_updates.phis (N : Nat) : List (Nat × Sm D) := [(56, spec_source_pick.sm N), (85, spec_source_update.sm N)]
noncomputable def spec_source_updates.a0 (N : Nat) (n : Nat) (y : SpecSource × (List (ImplCell)) × (List (ImplUpdate)) × Int × Unit) : Option (SpecSource × (List (ImplUpdate)) × Unit) := loopAt cx (look (spec_source_updates.phis N)) spec_source_updates.A N n (encL cx spec_source_updates.lvL0.ms y).1 (encL cx spec_source_updates.lvL0.ms y).2 (bodyOf Tryd.f46) 0 (Kfin cx spec_source_updates.A spec_source_updates.sg Tryd.f46.results.toList) [1, 1, 0, 1, 1] []
theorem spec_source_updates.r0 (N : Nat) : ∀ (n : Nat) (y : SpecSource × (List (ImplCell)) × (List (ImplUpdate)) × Int × Unit), spec_source_updates.a0 N n y = spec_source_updates.L0 N n y
  | 0, y => by kernel_rfl
  | n + 1, y => by
    have h : spec_source_updates.a0 N (n + 1) y = spec_source_updates.B0 N (fun z => spec_source_updates.a0 N n z) y := by kernel_rfl
    have e : (fun z => spec_source_updates.a0 N n z) = spec_source_updates.L0 N n := funext fun z => spec_source_updates.r0 N n z
    rw [h]
    try rw [e]
    first | done | rfl
theorem spec_source_updates.run (N : Nat) (x : SpecSource × (List (ImplCell)) × Unit) : runF cx (look (spec_source_updates.phis N)) spec_source_updates.A N (bodyOf Tryd.f46) Tryd.f46.results.toList spec_source_updates.sg x = spec_source_updates N x.1 x.2.1 := by
  have h : runF cx (look (spec_source_updates.phis N)) spec_source_updates.A N (bodyOf Tryd.f46) Tryd.f46.results.toList spec_source_updates.sg x = spec_source_updates.B N (fun z => spec_source_updates.a0 N N z) x.1 x.2.1 := by kernel_rfl
  have e0 : (fun z => spec_source_updates.a0 N N z) = spec_source_updates.L0 N N := funext fun z => spec_source_updates.r0 N N z
  rw [h, e0]
  try rfl
noncomputable def spec_source_updates.sm (N : Nat) : Sm D := (⟨spec_source_updates.sg, fun (x : SpecSource × (List (ImplCell)) × Unit) => spec_source_updates N x.1 x.2.1⟩ : Sm D)
theorem spec_source_updates.sound (N : Nat) : Sound cx Tryd.prog gam 46 (spec_source_updates.sm N) := fn_sound (A := spec_source_updates.A) (Φ := (look (spec_source_updates.phis N))) pok (G := gam) (ΦOk.cons (spec_source_pick.sound N) (fnOk_of (f := 56) (by kernel_rfl)) (ΦOk.cons (spec_source_update.sound N) (fnOk_of (f := 85) (by kernel_rfl)) ΦOk.nil)) mixed N Tryd.func46 (c := (bodyOf Tryd.f46)) (by kernel_rfl) spec_source_updates.sg (by kernel_rfl) (by kernel_rfl) (by kernel_rfl) (spec_source_updates.run N)

@[reducible] def spec_source_line.sg : Sg := { ms := [{ ptr := true, id := 10, t := 98, k := (.st 97) }, { k := (.sl (.st 70)), fl := [none] }], keep := [true, false], rs := [{ k := (.st 24) }], hold := true }
noncomputable def spec_source_line.A : Ann := { dp := fun d => isIn [] d, lp := look [], jn := look [], pins := [10], nt := 39 }
noncomputable def spec_source_line.phis (N : Nat) : List (Nat × Sm D) := [(37, spec_copyStore.sm N), (46, spec_source_updates.sm N), (56, spec_source_pick.sm N), (35, spec_validLine.sm N), (38, spec_showLine.sm N)]
theorem spec_source_line.run (N : Nat) (x : SpecSource × (List (ImplCell)) × Unit) : runF cx (look (spec_source_line.phis N)) spec_source_line.A N (bodyOf Tryd.f53) Tryd.f53.results.toList spec_source_line.sg x = spec_source_line N x.1 x.2.1 := by
  have h : runF cx (look (spec_source_line.phis N)) spec_source_line.A N (bodyOf Tryd.f53) Tryd.f53.results.toList spec_source_line.sg x = spec_source_line.B N x.1 x.2.1 := by kernel_rfl
  rw [h]
  try rfl
noncomputable def spec_source_line.sm (N : Nat) : Sm D := (⟨spec_source_line.sg, fun (x : SpecSource × (List (ImplCell)) × Unit) => spec_source_line N x.1 x.2.1⟩ : Sm D)
theorem spec_source_line.sound (N : Nat) : Sound cx Tryd.prog gam 53 (spec_source_line.sm N) := fn_sound (A := spec_source_line.A) (Φ := (look (spec_source_line.phis N))) pok (G := gam) (ΦOk.cons (spec_copyStore.sound N) (fnOk_of (f := 37) (by kernel_rfl)) (ΦOk.cons (spec_source_updates.sound N) (fnOk_of (f := 46) (by kernel_rfl)) (ΦOk.cons (spec_source_pick.sound N) (fnOk_of (f := 56) (by kernel_rfl)) (ΦOk.cons (spec_validLine.sound N) (fnOk_of (f := 35) (by kernel_rfl)) (ΦOk.cons (spec_showLine.sound N) (fnOk_of (f := 38) (by kernel_rfl)) ΦOk.nil))))) mixed N Tryd.func53 (c := (bodyOf Tryd.f53)) (by kernel_rfl) spec_source_line.sg (by kernel_rfl) (by kernel_rfl) (by kernel_rfl) (spec_source_line.run N)

@[reducible] def spec_DrawLineWants.sg : Sg := { ms := [{ k := (.sl (.int .u8)), fl := [none] }], keep := [false], rs := [{ k := (.st 24) }], hold := true }
noncomputable def spec_DrawLineWants.A : Ann := { dp := fun d => isIn [] d, lp := look [], jn := look [], pins := [], nt := 10 }
noncomputable def spec_DrawLineWants.phis (N : Nat) : List (Nat × Sm D) := [(44, spec_newSource.sm N), (45, spec_source_cells.sm N), (53, spec_source_line.sm N)]
theorem spec_DrawLineWants.run (N : Nat) (x : (List (Int)) × Unit) : runF cx (look (spec_DrawLineWants.phis N)) spec_DrawLineWants.A N (bodyOf Tryd.f21) Tryd.f21.results.toList spec_DrawLineWants.sg x = spec_DrawLineWants N x.1 := by
  have h : runF cx (look (spec_DrawLineWants.phis N)) spec_DrawLineWants.A N (bodyOf Tryd.f21) Tryd.f21.results.toList spec_DrawLineWants.sg x = spec_DrawLineWants.B N x.1 := by kernel_rfl
  rw [h]
  try rfl
noncomputable def spec_DrawLineWants.sm (N : Nat) : Sm D := (⟨spec_DrawLineWants.sg, fun (x : (List (Int)) × Unit) => spec_DrawLineWants N x.1⟩ : Sm D)
theorem spec_DrawLineWants.sound (N : Nat) : Sound cx Tryd.prog gam 21 (spec_DrawLineWants.sm N) := fn_sound (A := spec_DrawLineWants.A) (Φ := (look (spec_DrawLineWants.phis N))) pok (G := gam) (ΦOk.cons (spec_newSource.sound N) (fnOk_of (f := 44) (by kernel_rfl)) (ΦOk.cons (spec_source_cells.sound N) (fnOk_of (f := 45) (by kernel_rfl)) (ΦOk.cons (spec_source_line.sound N) (fnOk_of (f := 53) (by kernel_rfl)) ΦOk.nil))) mixed N Tryd.func21 (c := (bodyOf Tryd.f21)) (by kernel_rfl) spec_DrawLineWants.sg (by kernel_rfl) (by kernel_rfl) (by kernel_rfl) (spec_DrawLineWants.run N)

@[reducible] def impl_lineWants.sg : Sg := { ms := [{ k := (.st 24) }], keep := [false], rs := [{ k := (.int .i64) }] }
@[reducible] def impl_lineWants.lvL0 : Lv := { id := 0, slots := [3, 7, 8, 9], ms := [{ k := (.int .i64) }, { k := (.sl (.st 86)), fl := [none] }, { k := (.int .i64) }, { k := (.int .i64) }] }
noncomputable def impl_lineWants.A : Ann := { dp := fun d => isIn [] d, lp := look [(0, impl_lineWants.lvL0)], jn := look [], pins := [], nt := 23 }
noncomputable def impl_lineWants.phis (N : Nat) : List (Nat × Sm D) := []
noncomputable def impl_lineWants.a0 (N : Nat) (n : Nat) (y : Int × (List (ImplUpdate)) × Int × Int × Unit) : Option (Int × Unit) := loopAt cx (look (impl_lineWants.phis N)) impl_lineWants.A N n (encL cx impl_lineWants.lvL0.ms y).1 (encL cx impl_lineWants.lvL0.ms y).2 (bodyOf Tryd.f54) 0 (Kfin cx impl_lineWants.A impl_lineWants.sg Tryd.f54.results.toList) [1, 1, 0, 1, 1] []
theorem impl_lineWants.r0 (N : Nat) : ∀ (n : Nat) (y : Int × (List (ImplUpdate)) × Int × Int × Unit), impl_lineWants.a0 N n y = impl_lineWants.L0 N n y
  | 0, y => by kernel_rfl
  | n + 1, y => by
    have h : impl_lineWants.a0 N (n + 1) y = impl_lineWants.B0 N (fun z => impl_lineWants.a0 N n z) y := by kernel_rfl
    have e : (fun z => impl_lineWants.a0 N n z) = impl_lineWants.L0 N n := funext fun z => impl_lineWants.r0 N n z
    rw [h]
    try rw [e]
    first | done | rfl
theorem impl_lineWants.run (N : Nat) (x : ImplLine × Unit) : runF cx (look (impl_lineWants.phis N)) impl_lineWants.A N (bodyOf Tryd.f54) Tryd.f54.results.toList impl_lineWants.sg x = impl_lineWants N x.1 := by
  have h : runF cx (look (impl_lineWants.phis N)) impl_lineWants.A N (bodyOf Tryd.f54) Tryd.f54.results.toList impl_lineWants.sg x = impl_lineWants.B N (fun z => impl_lineWants.a0 N N z) x.1 := by kernel_rfl
  have e0 : (fun z => impl_lineWants.a0 N N z) = impl_lineWants.L0 N N := funext fun z => impl_lineWants.r0 N N z
  rw [h, e0]
  try rfl
noncomputable def impl_lineWants.sm (N : Nat) : Sm D := (⟨impl_lineWants.sg, fun (x : ImplLine × Unit) => impl_lineWants N x.1⟩ : Sm D)
theorem impl_lineWants.sound (N : Nat) : Sound cx Tryd.prog gam 54 (impl_lineWants.sm N) := fn_sound (A := impl_lineWants.A) (Φ := (look (impl_lineWants.phis N))) pok (G := gam) ΦOk.nil mixed N Tryd.func54 (c := (bodyOf Tryd.f54)) (by kernel_rfl) impl_lineWants.sg (by kernel_rfl) (by kernel_rfl) (by kernel_rfl) (impl_lineWants.run N)

@[reducible] def impl_LineWants.sg : Sg := { ms := [{ k := (.st 24) }], keep := [false], rs := [{ k := (.int .i64) }] }
noncomputable def impl_LineWants.A : Ann := { dp := fun d => isIn [] d, lp := look [], jn := look [], pins := [], nt := 8 }
noncomputable def impl_LineWants.phis (N : Nat) : List (Nat × Sm D) := [(11, impl_LineOk.sm N), (54, impl_lineWants.sm N)]
theorem impl_LineWants.run (N : Nat) (x : ImplLine × Unit) : runF cx (look (impl_LineWants.phis N)) impl_LineWants.A N (bodyOf Tryd.f22) Tryd.f22.results.toList impl_LineWants.sg x = impl_LineWants N x.1 := by
  have h : runF cx (look (impl_LineWants.phis N)) impl_LineWants.A N (bodyOf Tryd.f22) Tryd.f22.results.toList impl_LineWants.sg x = impl_LineWants.B N x.1 := by kernel_rfl
  rw [h]
  try rfl
noncomputable def impl_LineWants.sm (N : Nat) : Sm D := (⟨impl_LineWants.sg, fun (x : ImplLine × Unit) => impl_LineWants N x.1⟩ : Sm D)
theorem impl_LineWants.sound (N : Nat) : Sound cx Tryd.prog gam 22 (impl_LineWants.sm N) := fn_sound (A := impl_LineWants.A) (Φ := (look (impl_LineWants.phis N))) pok (G := gam) (ΦOk.cons (impl_LineOk.sound N) (fnOk_of (f := 11) (by kernel_rfl)) (ΦOk.cons (impl_lineWants.sound N) (fnOk_of (f := 54) (by kernel_rfl)) ΦOk.nil)) mixed N Tryd.func22 (c := (bodyOf Tryd.f22)) (by kernel_rfl) impl_LineWants.sg (by kernel_rfl) (by kernel_rfl) (by kernel_rfl) (impl_LineWants.run N)

@[reducible] def spec_wants.sg : Sg := { ms := [{ k := (.sl (.st 86)), fl := [none] }], keep := [false], rs := [{ k := (.int .i64) }] }
@[reducible] def spec_wants.lvL2 : Lv := { id := 2, slots := [0, 3, 4, 5], ms := [{ k := (.sl (.st 86)), fl := [none] }, { k := (.int .i64) }, { k := (.int .i64) }, { k := (.int .i64) }] }
@[reducible] def spec_wants.lvL0 : Lv := { id := 0, slots := [0, 3, 4], ms := [{ k := (.sl (.st 86)), fl := [none] }, { k := (.int .i64) }, { k := (.int .i64) }] }
noncomputable def spec_wants.A : Ann := { dp := fun d => isIn [] d, lp := look [(2, spec_wants.lvL2), (0, spec_wants.lvL0)], jn := look [], pins := [], nt := 34 }
noncomputable def spec_wants.phis (N : Nat) : List (Nat × Sm D) := [(89, spec_inLanes.sm N)]
noncomputable def spec_wants.a2 (N : Nat) (m0 : Nat) (n : Nat) (y : (List (ImplUpdate)) × Int × Int × Int × Unit) : Option (Int × Unit) := loopAt cx (look (spec_wants.phis N)) spec_wants.A N n (encL cx spec_wants.lvL2.ms y).1 (encL cx spec_wants.lvL2.ms y).2 (bodyOf Tryd.f55) 0 (Kfin cx spec_wants.A spec_wants.sg Tryd.f55.results.toList) [1, 1, 0, 1, 1, 1, 1, 0, 1, 1, 1] [m0]
noncomputable def spec_wants.a0 (N : Nat) (n : Nat) (y : (List (ImplUpdate)) × Int × Int × Unit) : Option (Int × Unit) := loopAt cx (look (spec_wants.phis N)) spec_wants.A N n (encL cx spec_wants.lvL0.ms y).1 (encL cx spec_wants.lvL0.ms y).2 (bodyOf Tryd.f55) 0 (Kfin cx spec_wants.A spec_wants.sg Tryd.f55.results.toList) [1, 1, 0, 1, 1] []
theorem spec_wants.r2 (N : Nat) (m0 : Nat) : ∀ (n : Nat) (y : (List (ImplUpdate)) × Int × Int × Int × Unit), spec_wants.a2 N m0 n y = spec_wants.L2 N (fun z => spec_wants.a0 N m0 z) n y
  | 0, y => by kernel_rfl
  | n + 1, y => by
    have h : spec_wants.a2 N m0 (n + 1) y = spec_wants.B2 N (fun z => spec_wants.a0 N m0 z) (fun z => spec_wants.a2 N m0 n z) y := by kernel_rfl
    have e : (fun z => spec_wants.a2 N m0 n z) = spec_wants.L2 N (fun z => spec_wants.a0 N m0 z) n := funext fun z => spec_wants.r2 N m0 n z
    rw [h]
    try rw [e]
    first | done | rfl
theorem spec_wants.r0 (N : Nat) : ∀ (n : Nat) (y : (List (ImplUpdate)) × Int × Int × Unit), spec_wants.a0 N n y = spec_wants.L0 N n y
  | 0, y => by kernel_rfl
  | n + 1, y => by
    have h : spec_wants.a0 N (n + 1) y = spec_wants.B0 N (fun z => spec_wants.a2 N n N z) y := by kernel_rfl
    have e : (fun z => spec_wants.a0 N n z) = spec_wants.L0 N n := funext fun z => spec_wants.r0 N n z
    have e2 : (fun z => spec_wants.a2 N n N z) = spec_wants.L2 N (fun z => spec_wants.a0 N n z) N := funext fun z => spec_wants.r2 N n N z
    rw [h, e2]
    try rw [e]
    first | done | rfl
theorem spec_wants.run (N : Nat) (x : (List (ImplUpdate)) × Unit) : runF cx (look (spec_wants.phis N)) spec_wants.A N (bodyOf Tryd.f55) Tryd.f55.results.toList spec_wants.sg x = spec_wants N x.1 := by
  have h : runF cx (look (spec_wants.phis N)) spec_wants.A N (bodyOf Tryd.f55) Tryd.f55.results.toList spec_wants.sg x = spec_wants.B N (fun z => spec_wants.a0 N N z) x.1 := by kernel_rfl
  have e0 : (fun z => spec_wants.a0 N N z) = spec_wants.L0 N N := funext fun z => spec_wants.r0 N N z
  rw [h, e0]
  try rfl
noncomputable def spec_wants.sm (N : Nat) : Sm D := (⟨spec_wants.sg, fun (x : (List (ImplUpdate)) × Unit) => spec_wants N x.1⟩ : Sm D)
theorem spec_wants.sound (N : Nat) : Sound cx Tryd.prog gam 55 (spec_wants.sm N) := fn_sound (A := spec_wants.A) (Φ := (look (spec_wants.phis N))) pok (G := gam) (ΦOk.cons (spec_inLanes.sound N) (fnOk_of (f := 89) (by kernel_rfl)) ΦOk.nil) mixed N Tryd.func55 (c := (bodyOf Tryd.f55)) (by kernel_rfl) spec_wants.sg (by kernel_rfl) (by kernel_rfl) (by kernel_rfl) (spec_wants.run N)

@[reducible] def spec_LineWants.sg : Sg := { ms := [{ k := (.st 24) }], keep := [false], rs := [{ k := (.int .i64) }] }
noncomputable def spec_LineWants.A : Ann := { dp := fun d => isIn [] d, lp := look [], jn := look [], pins := [], nt := 9 }
noncomputable def spec_LineWants.phis (N : Nat) : List (Nat × Sm D) := [(35, spec_validLine.sm N), (55, spec_wants.sm N)]
theorem spec_LineWants.run (N : Nat) (x : ImplLine × Unit) : runF cx (look (spec_LineWants.phis N)) spec_LineWants.A N (bodyOf Tryd.f23) Tryd.f23.results.toList spec_LineWants.sg x = spec_LineWants N x.1 := by
  have h : runF cx (look (spec_LineWants.phis N)) spec_LineWants.A N (bodyOf Tryd.f23) Tryd.f23.results.toList spec_LineWants.sg x = spec_LineWants.B N x.1 := by kernel_rfl
  rw [h]
  try rfl
noncomputable def spec_LineWants.sm (N : Nat) : Sm D := (⟨spec_LineWants.sg, fun (x : ImplLine × Unit) => spec_LineWants N x.1⟩ : Sm D)
theorem spec_LineWants.sound (N : Nat) : Sound cx Tryd.prog gam 23 (spec_LineWants.sm N) := fn_sound (A := spec_LineWants.A) (Φ := (look (spec_LineWants.phis N))) pok (G := gam) (ΦOk.cons (spec_validLine.sound N) (fnOk_of (f := 35) (by kernel_rfl)) (ΦOk.cons (spec_wants.sound N) (fnOk_of (f := 55) (by kernel_rfl)) ΦOk.nil)) mixed N Tryd.func23 (c := (bodyOf Tryd.f23)) (by kernel_rfl) spec_LineWants.sg (by kernel_rfl) (by kernel_rfl) (by kernel_rfl) (spec_LineWants.run N)

@[reducible] def laws_FnLineWants.sg : Sg := { ms := [{ k := (.sl (.int .u8)), fl := [none] }], keep := [false], rs := [{ k := .bool }] }
noncomputable def laws_FnLineWants.A : Ann := { dp := fun d => isIn [] d, lp := look [], jn := look [], pins := [], nt := 31 }
noncomputable def laws_FnLineWants.phis (N : Nat) : List (Nat × Sm D) := [(21, spec_DrawLineWants.sm N), (22, impl_LineWants.sm N), (23, spec_LineWants.sm N), (13, impl_LineRest.sm N)]
theorem laws_FnLineWants.run (N : Nat) (x : (List (Int)) × Unit) : runF cx (look (laws_FnLineWants.phis N)) laws_FnLineWants.A N (bodyOf Tryd.f6) Tryd.f6.results.toList laws_FnLineWants.sg x = laws_FnLineWants N x.1 := by
  have h : runF cx (look (laws_FnLineWants.phis N)) laws_FnLineWants.A N (bodyOf Tryd.f6) Tryd.f6.results.toList laws_FnLineWants.sg x = laws_FnLineWants.B N x.1 := by kernel_rfl
  rw [h]
  try rfl
noncomputable def laws_FnLineWants.sm (N : Nat) : Sm D := (⟨laws_FnLineWants.sg, fun (x : (List (Int)) × Unit) => laws_FnLineWants N x.1⟩ : Sm D)
theorem laws_FnLineWants.sound (N : Nat) : Sound cx Tryd.prog gam 6 (laws_FnLineWants.sm N) := fn_sound (A := laws_FnLineWants.A) (Φ := (look (laws_FnLineWants.phis N))) pok (G := gam) (ΦOk.cons (spec_DrawLineWants.sound N) (fnOk_of (f := 21) (by kernel_rfl)) (ΦOk.cons (impl_LineWants.sound N) (fnOk_of (f := 22) (by kernel_rfl)) (ΦOk.cons (spec_LineWants.sound N) (fnOk_of (f := 23) (by kernel_rfl)) (ΦOk.cons (impl_LineRest.sound N) (fnOk_of (f := 13) (by kernel_rfl)) ΦOk.nil)))) mixed N Tryd.func6 (c := (bodyOf Tryd.f6)) (by kernel_rfl) laws_FnLineWants.sg (by kernel_rfl) (by kernel_rfl) (by kernel_rfl) (laws_FnLineWants.run N)

end
end Go.Ev
