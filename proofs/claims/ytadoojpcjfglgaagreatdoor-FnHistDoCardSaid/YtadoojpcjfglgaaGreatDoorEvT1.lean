/- Each function that the law reaches does what its plain form says; no condition beyond the table of the library. -/
import Derived.Test.YtadoojpcjfglgaaGreatDoorEvT0
set_option linter.all false
set_option linter.unusedVariables false
set_option linter.unusedSimpArgs false
set_option maxRecDepth 100000
set_option maxHeartbeats 0
namespace Go.Ev
noncomputable section
open Go.Proofs
@[reducible] def spec_source_form.sg : Sg := { ms := [{ ptr := true, id := 10, t := 114, k := (.st 113) }, { k := (.int .i64) }, { k := (.int .i64) }, { k := (.int .i64) }, { k := (.int .i64) }], keep := [true, false, false, false, false], rs := [{ k := (.sl (.st 141)), fl := [some (false, 411)] }], hold := true }
noncomputable def spec_source_form.A : Ann := { dp := fun d => isIn [] d, lp := look [], jn := look [], pins := [10], nt := 81 }
noncomputable def spec_source_form.phis (N : Nat) (d : Nat) : List (Nat × Sm D) := [(46, spec_source_pick.sm N), (157, spec_source_leaf.sm N), (145, (⟨spec_source_form.sg, fun (x : SpecSource × Int × Int × Int × Int × Unit) => spec_source_form.R N d x.1 x.2.1 x.2.2.1 x.2.2.2.1 x.2.2.2.2.1⟩ : Sm D))]
theorem spec_source_form.run (N : Nat) (d : Nat) (x : SpecSource × Int × Int × Int × Int × Unit) : runF cx (look (spec_source_form.phis N d)) spec_source_form.A N (bodyOf Tryz.f145) Tryz.f145.results.toList spec_source_form.sg x = spec_source_form.R N (d + 1) x.1 x.2.1 x.2.2.1 x.2.2.2.1 x.2.2.2.2.1 := by
  have h : runF cx (look (spec_source_form.phis N d)) spec_source_form.A N (bodyOf Tryz.f145) Tryz.f145.results.toList spec_source_form.sg x = spec_source_form.B N (spec_source_form.R N d) x.1 x.2.1 x.2.2.1 x.2.2.2.1 x.2.2.2.2.1 := by kernel_rfl
  rw [h]
  try rfl
theorem spec_source_form.step (N : Nat) (d : Nat) (h_spec_source_form : Sound cx Tryz.prog gam 145 (⟨spec_source_form.sg, fun (x : SpecSource × Int × Int × Int × Int × Unit) => spec_source_form.R N d x.1 x.2.1 x.2.2.1 x.2.2.2.1 x.2.2.2.2.1⟩ : Sm D)) : Sound cx Tryz.prog gam 145 (⟨spec_source_form.sg, fun (x : SpecSource × Int × Int × Int × Int × Unit) => spec_source_form.R N (d + 1) x.1 x.2.1 x.2.2.1 x.2.2.2.1 x.2.2.2.2.1⟩ : Sm D) := fn_sound (A := spec_source_form.A) (Φ := (look (spec_source_form.phis N d))) pok (G := gam) (ΦOk.cons (spec_source_pick.sound N) (fnOk_of (f := 46) (by kernel_rfl)) (ΦOk.cons (spec_source_leaf.sound N) (fnOk_of (f := 157) (by kernel_rfl)) (ΦOk.cons h_spec_source_form (fnOk_of (f := 145) (by kernel_rfl)) ΦOk.nil))) mixed N Tryz.func145 (c := (bodyOf Tryz.f145)) (by kernel_rfl) spec_source_form.sg (by kernel_rfl) (by kernel_rfl) (by kernel_rfl) (spec_source_form.run N d)

theorem spec_source_form.scc (N : Nat) : ∀ d, Sound cx Tryz.prog gam 145 (⟨spec_source_form.sg, fun (x : SpecSource × Int × Int × Int × Int × Unit) => spec_source_form.R N d x.1 x.2.1 x.2.2.1 x.2.2.2.1 x.2.2.2.2.1⟩ : Sm D)
  | 0 => none_sound 145 spec_source_form.sg
  | d + 1 => by
    have ih := spec_source_form.scc N d
    exact spec_source_form.step N d ih
noncomputable def spec_source_form.sm (N : Nat) : Sm D := (⟨spec_source_form.sg, fun (x : SpecSource × Int × Int × Int × Int × Unit) => spec_source_form.R N N x.1 x.2.1 x.2.2.1 x.2.2.2.1 x.2.2.2.2.1⟩ : Sm D)
theorem spec_source_form.sound (N : Nat) : Sound cx Tryz.prog gam 145 (spec_source_form.sm N) := (spec_source_form.scc N N)
@[reducible] def spec_source_update.sg : Sg := { ms := [{ ptr := true, id := 10, t := 114, k := (.st 113) }, { k := (.sl (.st 80)), fl := [none] }], keep := [true, false], rs := [{ k := (.st 100) }], hold := true }
@[reducible] def spec_source_update.lvJ8 : Lv := { id := 8, slots := [0, 4, 5, 6], ms := [{ ptr := true, id := 10, t := 114, k := (.st 113), fl := [none, none, none] }, { ptr := true, id := 620, t := 101, k := (.st 100), fl := [some (false, 621), none, some (false, 623), none] }, { ptr := true, id := 640, t := 101, k := (.st 100), fl := [none, none, some (false, 643), none] }, { k := (.int .i64) }] }
noncomputable def spec_source_update.A : Ann := { dp := fun d => isIn [] d, lp := look [], jn := look [(8, spec_source_update.lvJ8)], pins := [10], nt := 56 }
noncomputable def spec_source_update.phis (N : Nat) : List (Nat × Sm D) := [(46, spec_source_pick.sm N), (89, spec_source_slots.sm N), (145, spec_source_form.sm N), (80, spec_source_rarely.sm N), (45, spec_source_one.sm N)]
theorem spec_source_update.run (N : Nat) (x : SpecSource × (List (ImplCell)) × Unit) : runF cx (look (spec_source_update.phis N)) spec_source_update.A N (bodyOf Tryz.f119) Tryz.f119.results.toList spec_source_update.sg x = spec_source_update N x.1 x.2.1 := by
  have h : runF cx (look (spec_source_update.phis N)) spec_source_update.A N (bodyOf Tryz.f119) Tryz.f119.results.toList spec_source_update.sg x = spec_source_update.B N x.1 x.2.1 := by kernel_rfl
  rw [h]
  try rfl
noncomputable def spec_source_update.sm (N : Nat) : Sm D := (⟨spec_source_update.sg, fun (x : SpecSource × (List (ImplCell)) × Unit) => spec_source_update N x.1 x.2.1⟩ : Sm D)
theorem spec_source_update.sound (N : Nat) : Sound cx Tryz.prog gam 119 (spec_source_update.sm N) := fn_sound (A := spec_source_update.A) (Φ := (look (spec_source_update.phis N))) pok (G := gam) (ΦOk.cons (spec_source_pick.sound N) (fnOk_of (f := 46) (by kernel_rfl)) (ΦOk.cons (spec_source_slots.sound N) (fnOk_of (f := 89) (by kernel_rfl)) (ΦOk.cons (spec_source_form.sound N) (fnOk_of (f := 145) (by kernel_rfl)) (ΦOk.cons (spec_source_rarely.sound N) (fnOk_of (f := 80) (by kernel_rfl)) (ΦOk.cons (spec_source_one.sound N) (fnOk_of (f := 45) (by kernel_rfl)) ΦOk.nil))))) mixed N Tryz.func119 (c := (bodyOf Tryz.f119)) (by kernel_rfl) spec_source_update.sg (by kernel_rfl) (by kernel_rfl) (by kernel_rfl) (spec_source_update.run N)

@[reducible] def spec_source_updates.sg : Sg := { ms := [{ ptr := true, id := 10, t := 114, k := (.st 113) }, { k := (.sl (.st 80)), fl := [none] }], keep := [true, false], rs := [{ k := (.sl (.st 100)), fl := [none] }], hold := true }
@[reducible] def spec_source_updates.lvL0 : Lv := { id := 0, slots := [0, 1, 5, 6], ms := [{ ptr := true, id := 10, t := 114, k := (.st 113), fl := [none, none, none] }, { k := (.sl (.st 80)), fl := [none] }, { k := (.sl (.st 100)), fl := [some (false, 640)] }, { k := (.int .i64) }] }
noncomputable def spec_source_updates.A : Ann := { dp := fun d => isIn [] d, lp := look [(0, spec_source_updates.lvL0)], jn := look [], pins := [10], nt := 21 }
noncomputable def spec_source_updates.phis (N : Nat) : List (Nat × Sm D) := [(46, spec_source_pick.sm N), (119, spec_source_update.sm N)]
noncomputable def spec_source_updates.a0 (N : Nat) (n : Nat) (y : SpecSource × (List (ImplCell)) × (List (ImplUpdate)) × Int × Unit) : Option (SpecSource × (List (ImplUpdate)) × Unit) := loopAt cx (look (spec_source_updates.phis N)) spec_source_updates.A N n (encL cx spec_source_updates.lvL0.ms y).1 (encL cx spec_source_updates.lvL0.ms y).2 (bodyOf Tryz.f76) 0 (Kfin cx spec_source_updates.A spec_source_updates.sg Tryz.f76.results.toList) [1, 1, 0, 1, 1] []
theorem spec_source_updates.r0 (N : Nat) : ∀ (n : Nat) (y : SpecSource × (List (ImplCell)) × (List (ImplUpdate)) × Int × Unit), spec_source_updates.a0 N n y = spec_source_updates.L0 N n y
  | 0, y => by kernel_rfl
  | n + 1, y => by
    have h : spec_source_updates.a0 N (n + 1) y = spec_source_updates.B0 N (fun z => spec_source_updates.a0 N n z) y := by kernel_rfl
    have e : (fun z => spec_source_updates.a0 N n z) = spec_source_updates.L0 N n := funext fun z => spec_source_updates.r0 N n z
    rw [h]
    try rw [e]
    first | done | rfl
theorem spec_source_updates.run (N : Nat) (x : SpecSource × (List (ImplCell)) × Unit) : runF cx (look (spec_source_updates.phis N)) spec_source_updates.A N (bodyOf Tryz.f76) Tryz.f76.results.toList spec_source_updates.sg x = spec_source_updates N x.1 x.2.1 := by
  have h : runF cx (look (spec_source_updates.phis N)) spec_source_updates.A N (bodyOf Tryz.f76) Tryz.f76.results.toList spec_source_updates.sg x = spec_source_updates.B N (fun z => spec_source_updates.a0 N N z) x.1 x.2.1 := by kernel_rfl
  have e0 : (fun z => spec_source_updates.a0 N N z) = spec_source_updates.L0 N N := funext fun z => spec_source_updates.r0 N N z
  rw [h, e0]
  try rfl
noncomputable def spec_source_updates.sm (N : Nat) : Sm D := (⟨spec_source_updates.sg, fun (x : SpecSource × (List (ImplCell)) × Unit) => spec_source_updates N x.1 x.2.1⟩ : Sm D)
theorem spec_source_updates.sound (N : Nat) : Sound cx Tryz.prog gam 76 (spec_source_updates.sm N) := fn_sound (A := spec_source_updates.A) (Φ := (look (spec_source_updates.phis N))) pok (G := gam) (ΦOk.cons (spec_source_pick.sound N) (fnOk_of (f := 46) (by kernel_rfl)) (ΦOk.cons (spec_source_update.sound N) (fnOk_of (f := 119) (by kernel_rfl)) ΦOk.nil)) mixed N Tryz.func76 (c := (bodyOf Tryz.f76)) (by kernel_rfl) spec_source_updates.sg (by kernel_rfl) (by kernel_rfl) (by kernel_rfl) (spec_source_updates.run N)

@[reducible] def spec_validValues.sg : Sg := { ms := [{ k := (.sl (.st 127)), fl := [none] }], keep := [false], rs := [{ k := .bool }] }
@[reducible] def spec_validValues.lvL0 : Lv := { id := 0, slots := [0, 3], ms := [{ k := (.sl (.st 127)), fl := [none] }, { k := (.int .i64) }] }
noncomputable def spec_validValues.A : Ann := { dp := fun d => isIn [] d, lp := look [(0, spec_validValues.lvL0)], jn := look [], pins := [], nt := 16 }
noncomputable def spec_validValues.phis (N : Nat) : List (Nat × Sm D) := [(138, spec_validValue.sm N)]
noncomputable def spec_validValues.a0 (N : Nat) (n : Nat) (y : (List (ImplValue)) × Int × Unit) : Option (Bool × Unit) := loopAt cx (look (spec_validValues.phis N)) spec_validValues.A N n (encL cx spec_validValues.lvL0.ms y).1 (encL cx spec_validValues.lvL0.ms y).2 (bodyOf Tryz.f112) 0 (Kfin cx spec_validValues.A spec_validValues.sg Tryz.f112.results.toList) [1, 0, 1, 1] []
theorem spec_validValues.r0 (N : Nat) : ∀ (n : Nat) (y : (List (ImplValue)) × Int × Unit), spec_validValues.a0 N n y = spec_validValues.L0 N n y
  | 0, y => by kernel_rfl
  | n + 1, y => by
    have h : spec_validValues.a0 N (n + 1) y = spec_validValues.B0 N (fun z => spec_validValues.a0 N n z) y := by kernel_rfl
    have e : (fun z => spec_validValues.a0 N n z) = spec_validValues.L0 N n := funext fun z => spec_validValues.r0 N n z
    rw [h]
    try rw [e]
    first | done | rfl
theorem spec_validValues.run (N : Nat) (x : (List (ImplValue)) × Unit) : runF cx (look (spec_validValues.phis N)) spec_validValues.A N (bodyOf Tryz.f112) Tryz.f112.results.toList spec_validValues.sg x = spec_validValues N x.1 := by
  have h : runF cx (look (spec_validValues.phis N)) spec_validValues.A N (bodyOf Tryz.f112) Tryz.f112.results.toList spec_validValues.sg x = spec_validValues.B N (fun z => spec_validValues.a0 N N z) x.1 := by kernel_rfl
  have e0 : (fun z => spec_validValues.a0 N N z) = spec_validValues.L0 N N := funext fun z => spec_validValues.r0 N N z
  rw [h, e0]
  try rfl
noncomputable def spec_validValues.sm (N : Nat) : Sm D := (⟨spec_validValues.sg, fun (x : (List (ImplValue)) × Unit) => spec_validValues N x.1⟩ : Sm D)
theorem spec_validValues.sound (N : Nat) : Sound cx Tryz.prog gam 112 (spec_validValues.sm N) := fn_sound (A := spec_validValues.A) (Φ := (look (spec_validValues.phis N))) pok (G := gam) (ΦOk.cons (spec_validValue.sound N) (fnOk_of (f := 138) (by kernel_rfl)) ΦOk.nil) mixed N Tryz.func112 (c := (bodyOf Tryz.f112)) (by kernel_rfl) spec_validValues.sg (by kernel_rfl) (by kernel_rfl) (by kernel_rfl) (spec_validValues.run N)

@[reducible] def spec_validStore.sg : Sg := { ms := [{ k := (.sl (.st 80)), fl := [none] }], keep := [false], rs := [{ k := .bool }] }
@[reducible] def spec_validStore.lvL0 : Lv := { id := 0, slots := [0, 3], ms := [{ k := (.sl (.st 80)), fl := [none] }, { k := (.int .i64) }] }
noncomputable def spec_validStore.A : Ann := { dp := fun d => isIn [] d, lp := look [(0, spec_validStore.lvL0)], jn := look [], pins := [], nt := 57 }
noncomputable def spec_validStore.phis (N : Nat) : List (Nat × Sm D) := [(91, spec_validPlace.sm N), (112, spec_validValues.sm N), (98, spec_comparePlaces.sm N)]
noncomputable def spec_validStore.a0 (N : Nat) (n : Nat) (y : (List (ImplCell)) × Int × Unit) : Option (Bool × Unit) := loopAt cx (look (spec_validStore.phis N)) spec_validStore.A N n (encL cx spec_validStore.lvL0.ms y).1 (encL cx spec_validStore.lvL0.ms y).2 (bodyOf Tryz.f68) 0 (Kfin cx spec_validStore.A spec_validStore.sg Tryz.f68.results.toList) [1, 1, 0, 1, 1] []
theorem spec_validStore.r0 (N : Nat) : ∀ (n : Nat) (y : (List (ImplCell)) × Int × Unit), spec_validStore.a0 N n y = spec_validStore.L0 N n y
  | 0, y => by kernel_rfl
  | n + 1, y => by
    have h : spec_validStore.a0 N (n + 1) y = spec_validStore.B0 N (fun z => spec_validStore.a0 N n z) y := by kernel_rfl
    have e : (fun z => spec_validStore.a0 N n z) = spec_validStore.L0 N n := funext fun z => spec_validStore.r0 N n z
    rw [h]
    try rw [e]
    first | done | rfl
theorem spec_validStore.run (N : Nat) (x : (List (ImplCell)) × Unit) : runF cx (look (spec_validStore.phis N)) spec_validStore.A N (bodyOf Tryz.f68) Tryz.f68.results.toList spec_validStore.sg x = spec_validStore N x.1 := by
  have h : runF cx (look (spec_validStore.phis N)) spec_validStore.A N (bodyOf Tryz.f68) Tryz.f68.results.toList spec_validStore.sg x = spec_validStore.B N (fun z => spec_validStore.a0 N N z) x.1 := by kernel_rfl
  have e0 : (fun z => spec_validStore.a0 N N z) = spec_validStore.L0 N N := funext fun z => spec_validStore.r0 N N z
  rw [h, e0]
  try rfl
noncomputable def spec_validStore.sm (N : Nat) : Sm D := (⟨spec_validStore.sg, fun (x : (List (ImplCell)) × Unit) => spec_validStore N x.1⟩ : Sm D)
theorem spec_validStore.sound (N : Nat) : Sound cx Tryz.prog gam 68 (spec_validStore.sm N) := fn_sound (A := spec_validStore.A) (Φ := (look (spec_validStore.phis N))) pok (G := gam) (ΦOk.cons (spec_validPlace.sound N) (fnOk_of (f := 91) (by kernel_rfl)) (ΦOk.cons (spec_validValues.sound N) (fnOk_of (f := 112) (by kernel_rfl)) (ΦOk.cons (spec_comparePlaces.sound N) (fnOk_of (f := 98) (by kernel_rfl)) ΦOk.nil))) mixed N Tryz.func68 (c := (bodyOf Tryz.f68)) (by kernel_rfl) spec_validStore.sg (by kernel_rfl) (by kernel_rfl) (by kernel_rfl) (spec_validStore.run N)

@[reducible] def spec_validStep.sg : Sg := { ms := [{ k := (.st 141) }, { k := (.int .i64) }, { k := (.int .i64) }, { k := (.int .i64) }], keep := [false, false, false, false], rs := [{ k := .bool }] }
noncomputable def spec_validStep.A : Ann := { dp := fun d => isIn [] d, lp := look [], jn := look [], pins := [], nt := 93 }
noncomputable def spec_validStep.phis (N : Nat) : List (Nat × Sm D) := [(138, spec_validValue.sm N), (50, spec_inRange.sm N)]
theorem spec_validStep.run (N : Nat) (x : ImplStep × Int × Int × Int × Unit) : runF cx (look (spec_validStep.phis N)) spec_validStep.A N (bodyOf Tryz.f153) Tryz.f153.results.toList spec_validStep.sg x = spec_validStep N x.1 x.2.1 x.2.2.1 x.2.2.2.1 := by
  have h : runF cx (look (spec_validStep.phis N)) spec_validStep.A N (bodyOf Tryz.f153) Tryz.f153.results.toList spec_validStep.sg x = spec_validStep.B N x.1 x.2.1 x.2.2.1 x.2.2.2.1 := by kernel_rfl
  rw [h]
  try rfl
noncomputable def spec_validStep.sm (N : Nat) : Sm D := (⟨spec_validStep.sg, fun (x : ImplStep × Int × Int × Int × Unit) => spec_validStep N x.1 x.2.1 x.2.2.1 x.2.2.2.1⟩ : Sm D)
theorem spec_validStep.sound (N : Nat) : Sound cx Tryz.prog gam 153 (spec_validStep.sm N) := fn_sound (A := spec_validStep.A) (Φ := (look (spec_validStep.phis N))) pok (G := gam) (ΦOk.cons (spec_validValue.sound N) (fnOk_of (f := 138) (by kernel_rfl)) (ΦOk.cons (spec_inRange.sound N) (fnOk_of (f := 50) (by kernel_rfl)) ΦOk.nil)) mixed N Tryz.func153 (c := (bodyOf Tryz.f153)) (by kernel_rfl) spec_validStep.sg (by kernel_rfl) (by kernel_rfl) (by kernel_rfl) (spec_validStep.run N)

@[reducible] def spec_takes.sg : Sg := { ms := [{ k := (.st 141) }], keep := [false], rs := [{ k := (.int .i64) }] }
noncomputable def spec_takes.A : Ann := { dp := fun d => isIn [] d, lp := look [], jn := look [], pins := [], nt := 9 }
noncomputable def spec_takes.phis (N : Nat) : List (Nat × Sm D) := []
theorem spec_takes.run (N : Nat) (x : ImplStep × Unit) : runF cx (look (spec_takes.phis N)) spec_takes.A N (bodyOf Tryz.f154) Tryz.f154.results.toList spec_takes.sg x = spec_takes N x.1 := by
  have h : runF cx (look (spec_takes.phis N)) spec_takes.A N (bodyOf Tryz.f154) Tryz.f154.results.toList spec_takes.sg x = spec_takes.B N x.1 := by kernel_rfl
  rw [h]
  try rfl
noncomputable def spec_takes.sm (N : Nat) : Sm D := (⟨spec_takes.sg, fun (x : ImplStep × Unit) => spec_takes N x.1⟩ : Sm D)
theorem spec_takes.sound (N : Nat) : Sound cx Tryz.prog gam 154 (spec_takes.sm N) := fn_sound (A := spec_takes.A) (Φ := (look (spec_takes.phis N))) pok (G := gam) ΦOk.nil mixed N Tryz.func154 (c := (bodyOf Tryz.f154)) (by kernel_rfl) spec_takes.sg (by kernel_rfl) (by kernel_rfl) (by kernel_rfl) (spec_takes.run N)

@[reducible] def spec_validForm.sg : Sg := { ms := [{ k := (.sl (.st 141)), fl := [none] }, { k := (.int .i64) }, { k := (.int .i64) }, { k := (.int .i64) }], keep := [false, false, false, false], rs := [{ k := .bool }] }
@[reducible] def spec_validForm.lvL0 : Lv := { id := 0, slots := [0, 1, 2, 3, 9, 10], ms := [{ k := (.sl (.st 141)), fl := [none] }, { k := (.int .i64) }, { k := (.int .i64) }, { k := (.int .i64) }, { k := (.int .i64) }, { k := (.int .i64) }] }
noncomputable def spec_validForm.A : Ann := { dp := fun d => isIn [] d, lp := look [(0, spec_validForm.lvL0)], jn := look [], pins := [], nt := 48 }
noncomputable def spec_validForm.phis (N : Nat) : List (Nat × Sm D) := [(153, spec_validStep.sm N), (154, spec_takes.sm N)]
noncomputable def spec_validForm.a0 (N : Nat) (n : Nat) (y : (List (ImplStep)) × Int × Int × Int × Int × Int × Unit) : Option (Bool × Unit) := loopAt cx (look (spec_validForm.phis N)) spec_validForm.A N n (encL cx spec_validForm.lvL0.ms y).1 (encL cx spec_validForm.lvL0.ms y).2 (bodyOf Tryz.f139) 0 (Kfin cx spec_validForm.A spec_validForm.sg Tryz.f139.results.toList) [1, 1, 1, 0, 1, 1] []
theorem spec_validForm.r0 (N : Nat) : ∀ (n : Nat) (y : (List (ImplStep)) × Int × Int × Int × Int × Int × Unit), spec_validForm.a0 N n y = spec_validForm.L0 N n y
  | 0, y => by kernel_rfl
  | n + 1, y => by
    have h : spec_validForm.a0 N (n + 1) y = spec_validForm.B0 N (fun z => spec_validForm.a0 N n z) y := by kernel_rfl
    have e : (fun z => spec_validForm.a0 N n z) = spec_validForm.L0 N n := funext fun z => spec_validForm.r0 N n z
    rw [h]
    try rw [e]
    first | done | rfl
theorem spec_validForm.run (N : Nat) (x : (List (ImplStep)) × Int × Int × Int × Unit) : runF cx (look (spec_validForm.phis N)) spec_validForm.A N (bodyOf Tryz.f139) Tryz.f139.results.toList spec_validForm.sg x = spec_validForm N x.1 x.2.1 x.2.2.1 x.2.2.2.1 := by
  have h : runF cx (look (spec_validForm.phis N)) spec_validForm.A N (bodyOf Tryz.f139) Tryz.f139.results.toList spec_validForm.sg x = spec_validForm.B N (fun z => spec_validForm.a0 N N z) x.1 x.2.1 x.2.2.1 x.2.2.2.1 := by kernel_rfl
  have e0 : (fun z => spec_validForm.a0 N N z) = spec_validForm.L0 N N := funext fun z => spec_validForm.r0 N N z
  rw [h, e0]
  try rfl
noncomputable def spec_validForm.sm (N : Nat) : Sm D := (⟨spec_validForm.sg, fun (x : (List (ImplStep)) × Int × Int × Int × Unit) => spec_validForm N x.1 x.2.1 x.2.2.1 x.2.2.2.1⟩ : Sm D)
theorem spec_validForm.sound (N : Nat) : Sound cx Tryz.prog gam 139 (spec_validForm.sm N) := fn_sound (A := spec_validForm.A) (Φ := (look (spec_validForm.phis N))) pok (G := gam) (ΦOk.cons (spec_validStep.sound N) (fnOk_of (f := 153) (by kernel_rfl)) (ΦOk.cons (spec_takes.sound N) (fnOk_of (f := 154) (by kernel_rfl)) ΦOk.nil)) mixed N Tryz.func139 (c := (bodyOf Tryz.f139)) (by kernel_rfl) spec_validForm.sg (by kernel_rfl) (by kernel_rfl) (by kernel_rfl) (spec_validForm.run N)

@[reducible] def spec_validUpdate.sg : Sg := { ms := [{ k := (.st 100) }], keep := [false], rs := [{ k := .bool }] }
noncomputable def spec_validUpdate.A : Ann := { dp := fun d => isIn [] d, lp := look [], jn := look [], pins := [], nt := 21 }
noncomputable def spec_validUpdate.phis (N : Nat) : List (Nat × Sm D) := [(91, spec_validPlace.sm N), (50, spec_inRange.sm N), (139, spec_validForm.sm N)]
theorem spec_validUpdate.run (N : Nat) (x : ImplUpdate × Unit) : runF cx (look (spec_validUpdate.phis N)) spec_validUpdate.A N (bodyOf Tryz.f113) Tryz.f113.results.toList spec_validUpdate.sg x = spec_validUpdate N x.1 := by
  have h : runF cx (look (spec_validUpdate.phis N)) spec_validUpdate.A N (bodyOf Tryz.f113) Tryz.f113.results.toList spec_validUpdate.sg x = spec_validUpdate.B N x.1 := by kernel_rfl
  rw [h]
  try rfl
noncomputable def spec_validUpdate.sm (N : Nat) : Sm D := (⟨spec_validUpdate.sg, fun (x : ImplUpdate × Unit) => spec_validUpdate N x.1⟩ : Sm D)
theorem spec_validUpdate.sound (N : Nat) : Sound cx Tryz.prog gam 113 (spec_validUpdate.sm N) := fn_sound (A := spec_validUpdate.A) (Φ := (look (spec_validUpdate.phis N))) pok (G := gam) (ΦOk.cons (spec_validPlace.sound N) (fnOk_of (f := 91) (by kernel_rfl)) (ΦOk.cons (spec_inRange.sound N) (fnOk_of (f := 50) (by kernel_rfl)) (ΦOk.cons (spec_validForm.sound N) (fnOk_of (f := 139) (by kernel_rfl)) ΦOk.nil))) mixed N Tryz.func113 (c := (bodyOf Tryz.f113)) (by kernel_rfl) spec_validUpdate.sg (by kernel_rfl) (by kernel_rfl) (by kernel_rfl) (spec_validUpdate.run N)

@[reducible] def spec_validUpdates.sg : Sg := { ms := [{ k := (.sl (.st 100)), fl := [none] }], keep := [false], rs := [{ k := .bool }] }
@[reducible] def spec_validUpdates.lvL0 : Lv := { id := 0, slots := [0, 3], ms := [{ k := (.sl (.st 100)), fl := [none] }, { k := (.int .i64) }] }
noncomputable def spec_validUpdates.A : Ann := { dp := fun d => isIn [] d, lp := look [(0, spec_validUpdates.lvL0)], jn := look [], pins := [], nt := 19 }
noncomputable def spec_validUpdates.phis (N : Nat) : List (Nat × Sm D) := [(113, spec_validUpdate.sm N)]
noncomputable def spec_validUpdates.a0 (N : Nat) (n : Nat) (y : (List (ImplUpdate)) × Int × Unit) : Option (Bool × Unit) := loopAt cx (look (spec_validUpdates.phis N)) spec_validUpdates.A N n (encL cx spec_validUpdates.lvL0.ms y).1 (encL cx spec_validUpdates.lvL0.ms y).2 (bodyOf Tryz.f69) 0 (Kfin cx spec_validUpdates.A spec_validUpdates.sg Tryz.f69.results.toList) [1, 1, 0, 1, 1] []
theorem spec_validUpdates.r0 (N : Nat) : ∀ (n : Nat) (y : (List (ImplUpdate)) × Int × Unit), spec_validUpdates.a0 N n y = spec_validUpdates.L0 N n y
  | 0, y => by kernel_rfl
  | n + 1, y => by
    have h : spec_validUpdates.a0 N (n + 1) y = spec_validUpdates.B0 N (fun z => spec_validUpdates.a0 N n z) y := by kernel_rfl
    have e : (fun z => spec_validUpdates.a0 N n z) = spec_validUpdates.L0 N n := funext fun z => spec_validUpdates.r0 N n z
    rw [h]
    try rw [e]
    first | done | rfl
theorem spec_validUpdates.run (N : Nat) (x : (List (ImplUpdate)) × Unit) : runF cx (look (spec_validUpdates.phis N)) spec_validUpdates.A N (bodyOf Tryz.f69) Tryz.f69.results.toList spec_validUpdates.sg x = spec_validUpdates N x.1 := by
  have h : runF cx (look (spec_validUpdates.phis N)) spec_validUpdates.A N (bodyOf Tryz.f69) Tryz.f69.results.toList spec_validUpdates.sg x = spec_validUpdates.B N (fun z => spec_validUpdates.a0 N N z) x.1 := by kernel_rfl
  have e0 : (fun z => spec_validUpdates.a0 N N z) = spec_validUpdates.L0 N N := funext fun z => spec_validUpdates.r0 N N z
  rw [h, e0]
  try rfl
noncomputable def spec_validUpdates.sm (N : Nat) : Sm D := (⟨spec_validUpdates.sg, fun (x : (List (ImplUpdate)) × Unit) => spec_validUpdates N x.1⟩ : Sm D)
theorem spec_validUpdates.sound (N : Nat) : Sound cx Tryz.prog gam 69 (spec_validUpdates.sm N) := fn_sound (A := spec_validUpdates.A) (Φ := (look (spec_validUpdates.phis N))) pok (G := gam) (ΦOk.cons (spec_validUpdate.sound N) (fnOk_of (f := 113) (by kernel_rfl)) ΦOk.nil) mixed N Tryz.func69 (c := (bodyOf Tryz.f69)) (by kernel_rfl) spec_validUpdates.sg (by kernel_rfl) (by kernel_rfl) (by kernel_rfl) (spec_validUpdates.run N)

@[reducible] def spec_applies.sg : Sg := { ms := [{ k := (.sl (.st 127)), fl := [none] }, { k := (.st 100) }], keep := [false, false], rs := [{ k := .bool }] }
noncomputable def spec_applies.A : Ann := { dp := fun d => isIn [] d, lp := look [], jn := look [], pins := [], nt := 17 }
noncomputable def spec_applies.phis (N : Nat) : List (Nat × Sm D) := [(139, spec_validForm.sm N)]
theorem spec_applies.run (N : Nat) (x : (List (ImplValue)) × ImplUpdate × Unit) : runF cx (look (spec_applies.phis N)) spec_applies.A N (bodyOf Tryz.f155) Tryz.f155.results.toList spec_applies.sg x = spec_applies N x.1 x.2.1 := by
  have h : runF cx (look (spec_applies.phis N)) spec_applies.A N (bodyOf Tryz.f155) Tryz.f155.results.toList spec_applies.sg x = spec_applies.B N x.1 x.2.1 := by kernel_rfl
  rw [h]
  try rfl
noncomputable def spec_applies.sm (N : Nat) : Sm D := (⟨spec_applies.sg, fun (x : (List (ImplValue)) × ImplUpdate × Unit) => spec_applies N x.1 x.2.1⟩ : Sm D)
theorem spec_applies.sound (N : Nat) : Sound cx Tryz.prog gam 155 (spec_applies.sm N) := fn_sound (A := spec_applies.A) (Φ := (look (spec_applies.phis N))) pok (G := gam) (ΦOk.cons (spec_validForm.sound N) (fnOk_of (f := 139) (by kernel_rfl)) ΦOk.nil) mixed N Tryz.func155 (c := (bodyOf Tryz.f155)) (by kernel_rfl) spec_applies.sg (by kernel_rfl) (by kernel_rfl) (by kernel_rfl) (spec_applies.run N)

@[reducible] def spec_number.sg : Sg := { ms := [{ k := (.int .i64) }], keep := [false], rs := [{ k := (.st 127) }] }
noncomputable def spec_number.A : Ann := { dp := fun d => isIn [] d, lp := look [], jn := look [], pins := [], nt := 9 }
noncomputable def spec_number.phis (N : Nat) : List (Nat × Sm D) := [(50, spec_inRange.sm N)]
theorem spec_number.run (N : Nat) (x : Int × Unit) : runF cx (look (spec_number.phis N)) spec_number.A N (bodyOf Tryz.f168) Tryz.f168.results.toList spec_number.sg x = spec_number N x.1 := by
  have h : runF cx (look (spec_number.phis N)) spec_number.A N (bodyOf Tryz.f168) Tryz.f168.results.toList spec_number.sg x = spec_number.B N x.1 := by kernel_rfl
  rw [h]
  try rfl
noncomputable def spec_number.sm (N : Nat) : Sm D := (⟨spec_number.sg, fun (x : Int × Unit) => spec_number N x.1⟩ : Sm D)
theorem spec_number.sound (N : Nat) : Sound cx Tryz.prog gam 168 (spec_number.sm N) := fn_sound (A := spec_number.A) (Φ := (look (spec_number.phis N))) pok (G := gam) (ΦOk.cons (spec_inRange.sound N) (fnOk_of (f := 50) (by kernel_rfl)) ΦOk.nil) mixed N Tryz.func168 (c := (bodyOf Tryz.f168)) (by kernel_rfl) spec_number.sg (by kernel_rfl) (by kernel_rfl) (by kernel_rfl) (spec_number.run N)

@[reducible] def spec_boolean.sg : Sg := { ms := [{ k := .bool }], keep := [false], rs := [{ k := (.st 127) }] }
noncomputable def spec_boolean.A : Ann := { dp := fun d => isIn [] d, lp := look [], jn := look [], pins := [], nt := 6 }
noncomputable def spec_boolean.phis (N : Nat) : List (Nat × Sm D) := [(168, spec_number.sm N)]
theorem spec_boolean.run (N : Nat) (x : Bool × Unit) : runF cx (look (spec_boolean.phis N)) spec_boolean.A N (bodyOf Tryz.f166) Tryz.f166.results.toList spec_boolean.sg x = spec_boolean N x.1 := by
  have h : runF cx (look (spec_boolean.phis N)) spec_boolean.A N (bodyOf Tryz.f166) Tryz.f166.results.toList spec_boolean.sg x = spec_boolean.B N x.1 := by kernel_rfl
  rw [h]
  try rfl
noncomputable def spec_boolean.sm (N : Nat) : Sm D := (⟨spec_boolean.sg, fun (x : Bool × Unit) => spec_boolean N x.1⟩ : Sm D)
theorem spec_boolean.sound (N : Nat) : Sound cx Tryz.prog gam 166 (spec_boolean.sm N) := fn_sound (A := spec_boolean.A) (Φ := (look (spec_boolean.phis N))) pok (G := gam) (ΦOk.cons (spec_number.sound N) (fnOk_of (f := 168) (by kernel_rfl)) ΦOk.nil) mixed N Tryz.func166 (c := (bodyOf Tryz.f166)) (by kernel_rfl) spec_boolean.sg (by kernel_rfl) (by kernel_rfl) (by kernel_rfl) (spec_boolean.run N)

@[reducible] def spec_truth.sg : Sg := { ms := [{ k := (.st 127) }], keep := [false], rs := [{ k := .bool }] }
noncomputable def spec_truth.A : Ann := { dp := fun d => isIn [] d, lp := look [], jn := look [], pins := [], nt := 11 }
noncomputable def spec_truth.phis (N : Nat) : List (Nat × Sm D) := []
theorem spec_truth.run (N : Nat) (x : ImplValue × Unit) : runF cx (look (spec_truth.phis N)) spec_truth.A N (bodyOf Tryz.f163) Tryz.f163.results.toList spec_truth.sg x = spec_truth N x.1 := by
  have h : runF cx (look (spec_truth.phis N)) spec_truth.A N (bodyOf Tryz.f163) Tryz.f163.results.toList spec_truth.sg x = spec_truth.B N x.1 := by kernel_rfl
  rw [h]
  try rfl
noncomputable def spec_truth.sm (N : Nat) : Sm D := (⟨spec_truth.sg, fun (x : ImplValue × Unit) => spec_truth N x.1⟩ : Sm D)
theorem spec_truth.sound (N : Nat) : Sound cx Tryz.prog gam 163 (spec_truth.sm N) := fn_sound (A := spec_truth.A) (Φ := (look (spec_truth.phis N))) pok (G := gam) ΦOk.nil mixed N Tryz.func163 (c := (bodyOf Tryz.f163)) (by kernel_rfl) spec_truth.sg (by kernel_rfl) (by kernel_rfl) (by kernel_rfl) (spec_truth.run N)

@[reducible] def spec_decimal.sg : Sg := { ms := [{ k := (.int .i64) }], keep := [false], rs := [{ k := .str }] }
noncomputable def spec_decimal.A : Ann := { dp := fun d => isIn [] d, lp := look [], jn := look [], pins := [], nt := 22 }
noncomputable def spec_decimal.phis (N : Nat) (d : Nat) : List (Nat × Sm D) := [(170, (⟨spec_decimal.sg, fun (x : Int × Unit) => spec_decimal.R N d x.1⟩ : Sm D))]
theorem spec_decimal.run (N : Nat) (d : Nat) (x : Int × Unit) : runF cx (look (spec_decimal.phis N d)) spec_decimal.A N (bodyOf Tryz.f170) Tryz.f170.results.toList spec_decimal.sg x = spec_decimal.R N (d + 1) x.1 := by
  have h : runF cx (look (spec_decimal.phis N d)) spec_decimal.A N (bodyOf Tryz.f170) Tryz.f170.results.toList spec_decimal.sg x = spec_decimal.B N (spec_decimal.R N d) x.1 := by kernel_rfl
  rw [h]
  try rfl
theorem spec_decimal.step (N : Nat) (d : Nat) (h_spec_decimal : Sound cx Tryz.prog gam 170 (⟨spec_decimal.sg, fun (x : Int × Unit) => spec_decimal.R N d x.1⟩ : Sm D)) : Sound cx Tryz.prog gam 170 (⟨spec_decimal.sg, fun (x : Int × Unit) => spec_decimal.R N (d + 1) x.1⟩ : Sm D) := fn_sound (A := spec_decimal.A) (Φ := (look (spec_decimal.phis N d))) pok (G := gam) (ΦOk.cons h_spec_decimal (fnOk_of (f := 170) (by kernel_rfl)) ΦOk.nil) mixed N Tryz.func170 (c := (bodyOf Tryz.f170)) (by kernel_rfl) spec_decimal.sg (by kernel_rfl) (by kernel_rfl) (by kernel_rfl) (spec_decimal.run N d)

theorem spec_decimal.scc (N : Nat) : ∀ d, Sound cx Tryz.prog gam 170 (⟨spec_decimal.sg, fun (x : Int × Unit) => spec_decimal.R N d x.1⟩ : Sm D)
  | 0 => none_sound 170 spec_decimal.sg
  | d + 1 => by
    have ih := spec_decimal.scc N d
    exact spec_decimal.step N d ih
noncomputable def spec_decimal.sm (N : Nat) : Sm D := (⟨spec_decimal.sg, fun (x : Int × Unit) => spec_decimal.R N N x.1⟩ : Sm D)
theorem spec_decimal.sound (N : Nat) : Sound cx Tryz.prog gam 170 (spec_decimal.sm N) := (spec_decimal.scc N N)
@[reducible] def spec_show.sg : Sg := { ms := [{ k := (.st 127) }], keep := [false], rs := [{ k := .str }] }
noncomputable def spec_show.A : Ann := { dp := fun d => isIn [] d, lp := look [], jn := look [], pins := [], nt := 14 }
noncomputable def spec_show.phis (N : Nat) : List (Nat × Sm D) := [(170, spec_decimal.sm N)]
theorem spec_show.run (N : Nat) (x : ImplValue × Unit) : runF cx (look (spec_show.phis N)) spec_show.A N (bodyOf Tryz.f167) Tryz.f167.results.toList spec_show.sg x = spec_show N x.1 := by
  have h : runF cx (look (spec_show.phis N)) spec_show.A N (bodyOf Tryz.f167) Tryz.f167.results.toList spec_show.sg x = spec_show.B N x.1 := by kernel_rfl
  rw [h]
  try rfl
noncomputable def spec_show.sm (N : Nat) : Sm D := (⟨spec_show.sg, fun (x : ImplValue × Unit) => spec_show N x.1⟩ : Sm D)
theorem spec_show.sound (N : Nat) : Sound cx Tryz.prog gam 167 (spec_show.sm N) := fn_sound (A := spec_show.A) (Φ := (look (spec_show.phis N))) pok (G := gam) (ΦOk.cons (spec_decimal.sound N) (fnOk_of (f := 170) (by kernel_rfl)) ΦOk.nil) mixed N Tryz.func167 (c := (bodyOf Tryz.f167)) (by kernel_rfl) spec_show.sg (by kernel_rfl) (by kernel_rfl) (by kernel_rfl) (spec_show.run N)

@[reducible] def spec_do.sg : Sg := { ms := [{ k := (.int .i64) }, { k := (.st 127) }, { k := (.st 127) }], keep := [false, false, false], rs := [{ k := (.st 127) }] }
noncomputable def spec_do.A : Ann := { dp := fun d => isIn [] d, lp := look [], jn := look [], pins := [], nt := 82 }
noncomputable def spec_do.phis (N : Nat) : List (Nat × Sm D) := [(166, spec_boolean.sm N), (163, spec_truth.sm N), (167, spec_show.sm N), (152, spec_validWord.sm N), (168, spec_number.sm N)]
theorem spec_do.run (N : Nat) (x : Int × ImplValue × ImplValue × Unit) : runF cx (look (spec_do.phis N)) spec_do.A N (bodyOf Tryz.f162) Tryz.f162.results.toList spec_do.sg x = spec_do N x.1 x.2.1 x.2.2.1 := by
  have h : runF cx (look (spec_do.phis N)) spec_do.A N (bodyOf Tryz.f162) Tryz.f162.results.toList spec_do.sg x = spec_do.B N x.1 x.2.1 x.2.2.1 := by kernel_rfl
  rw [h]
  try rfl
noncomputable def spec_do.sm (N : Nat) : Sm D := (⟨spec_do.sg, fun (x : Int × ImplValue × ImplValue × Unit) => spec_do N x.1 x.2.1 x.2.2.1⟩ : Sm D)
theorem spec_do.sound (N : Nat) : Sound cx Tryz.prog gam 162 (spec_do.sm N) := fn_sound (A := spec_do.A) (Φ := (look (spec_do.phis N))) pok (G := gam) (ΦOk.cons (spec_boolean.sound N) (fnOk_of (f := 166) (by kernel_rfl)) (ΦOk.cons (spec_truth.sound N) (fnOk_of (f := 163) (by kernel_rfl)) (ΦOk.cons (spec_show.sound N) (fnOk_of (f := 167) (by kernel_rfl)) (ΦOk.cons (spec_validWord.sound N) (fnOk_of (f := 152) (by kernel_rfl)) (ΦOk.cons (spec_number.sound N) (fnOk_of (f := 168) (by kernel_rfl)) ΦOk.nil))))) mixed N Tryz.func162 (c := (bodyOf Tryz.f162)) (by kernel_rfl) spec_do.sg (by kernel_rfl) (by kernel_rfl) (by kernel_rfl) (spec_do.run N)

@[reducible] def spec_told.sg : Sg := { ms := [{ k := (.st 141) }, { k := (.st 150) }], keep := [false, false], rs := [{ k := (.st 127) }] }
noncomputable def spec_told.A : Ann := { dp := fun d => isIn [] d, lp := look [], jn := look [], pins := [], nt := 47 }
noncomputable def spec_told.phis (N : Nat) : List (Nat × Sm D) := [(168, spec_number.sm N)]
theorem spec_told.run (N : Nat) (x : ImplStep × ImplEnv × Unit) : runF cx (look (spec_told.phis N)) spec_told.A N (bodyOf Tryz.f164) Tryz.f164.results.toList spec_told.sg x = spec_told N x.1 x.2.1 := by
  have h : runF cx (look (spec_told.phis N)) spec_told.A N (bodyOf Tryz.f164) Tryz.f164.results.toList spec_told.sg x = spec_told.B N x.1 x.2.1 := by kernel_rfl
  rw [h]
  try rfl
noncomputable def spec_told.sm (N : Nat) : Sm D := (⟨spec_told.sg, fun (x : ImplStep × ImplEnv × Unit) => spec_told N x.1 x.2.1⟩ : Sm D)
theorem spec_told.sound (N : Nat) : Sound cx Tryz.prog gam 164 (spec_told.sm N) := fn_sound (A := spec_told.A) (Φ := (look (spec_told.phis N))) pok (G := gam) (ΦOk.cons (spec_number.sound N) (fnOk_of (f := 168) (by kernel_rfl)) ΦOk.nil) mixed N Tryz.func164 (c := (bodyOf Tryz.f164)) (by kernel_rfl) spec_told.sg (by kernel_rfl) (by kernel_rfl) (by kernel_rfl) (spec_told.run N)

@[reducible] def spec_eval.sg : Sg := { ms := [{ k := (.sl (.st 141)), fl := [none] }, { k := (.st 150) }], keep := [false, false], rs := [{ k := (.st 127) }] }
@[reducible] def spec_eval.lvJ15 : Lv := { id := 15, slots := [0, 3, 4, 5, 6, 7, 8], ms := [{ k := (.sl (.st 141)), fl := [none] }, { ptr := true, id := 620, t := 151, k := (.st 150), fl := [none, none, none, none] }, { ptr := true, id := 640, t := 128, k := (.st 127), fl := [none, none, none] }, { k := (.sl (.st 127)), fl := [some (false, 660)] }, { k := (.int .i64) }, { k := (.int .i64) }, { ptr := true, id := 720, t := 128, k := (.st 127), fl := [none, none, none] }] }
@[reducible] def spec_eval.lvL0 : Lv := { id := 0, slots := [0, 3, 4, 5, 6], ms := [{ k := (.sl (.st 141)), fl := [none] }, { ptr := true, id := 620, t := 151, k := (.st 150), fl := [none, none, none, none] }, { ptr := true, id := 640, t := 128, k := (.st 127), fl := [none, none, none] }, { k := (.sl (.st 127)), fl := [some (false, 660)] }, { k := (.int .i64) }] }
noncomputable def spec_eval.A : Ann := { dp := fun d => isIn [] d, lp := look [(0, spec_eval.lvL0)], jn := look [(15, spec_eval.lvJ15)], pins := [], nt := 79 }
noncomputable def spec_eval.phis (N : Nat) : List (Nat × Sm D) := [(154, spec_takes.sm N), (162, spec_do.sm N), (163, spec_truth.sm N), (164, spec_told.sm N)]
noncomputable def spec_eval.a0 (N : Nat) (n : Nat) (y : (List (ImplStep)) × ImplEnv × ImplValue × (List (ImplValue)) × Int × Unit) : Option (ImplValue × Unit) := loopAt cx (look (spec_eval.phis N)) spec_eval.A N n (encL cx spec_eval.lvL0.ms y).1 (encL cx spec_eval.lvL0.ms y).2 (bodyOf Tryz.f156) 0 (Kfin cx spec_eval.A spec_eval.sg Tryz.f156.results.toList) [1, 1, 0, 1, 1] []
theorem spec_eval.r0 (N : Nat) : ∀ (n : Nat) (y : (List (ImplStep)) × ImplEnv × ImplValue × (List (ImplValue)) × Int × Unit), spec_eval.a0 N n y = spec_eval.L0 N n y
  | 0, y => by kernel_rfl
  | n + 1, y => by
    have h : spec_eval.a0 N (n + 1) y = spec_eval.B0 N (fun z => spec_eval.a0 N n z) y := by kernel_rfl
    have e : (fun z => spec_eval.a0 N n z) = spec_eval.L0 N n := funext fun z => spec_eval.r0 N n z
    rw [h]
    try rw [e]
    first | done | rfl
theorem spec_eval.run (N : Nat) (x : (List (ImplStep)) × ImplEnv × Unit) : runF cx (look (spec_eval.phis N)) spec_eval.A N (bodyOf Tryz.f156) Tryz.f156.results.toList spec_eval.sg x = spec_eval N x.1 x.2.1 := by
  have h : runF cx (look (spec_eval.phis N)) spec_eval.A N (bodyOf Tryz.f156) Tryz.f156.results.toList spec_eval.sg x = spec_eval.B N (fun z => spec_eval.a0 N N z) x.1 x.2.1 := by kernel_rfl
  have e0 : (fun z => spec_eval.a0 N N z) = spec_eval.L0 N N := funext fun z => spec_eval.r0 N N z
  rw [h, e0]
  try rfl
noncomputable def spec_eval.sm (N : Nat) : Sm D := (⟨spec_eval.sg, fun (x : (List (ImplStep)) × ImplEnv × Unit) => spec_eval N x.1 x.2.1⟩ : Sm D)
theorem spec_eval.sound (N : Nat) : Sound cx Tryz.prog gam 156 (spec_eval.sm N) := fn_sound (A := spec_eval.A) (Φ := (look (spec_eval.phis N))) pok (G := gam) (ΦOk.cons (spec_takes.sound N) (fnOk_of (f := 154) (by kernel_rfl)) (ΦOk.cons (spec_do.sound N) (fnOk_of (f := 162) (by kernel_rfl)) (ΦOk.cons (spec_truth.sound N) (fnOk_of (f := 163) (by kernel_rfl)) (ΦOk.cons (spec_told.sound N) (fnOk_of (f := 164) (by kernel_rfl)) ΦOk.nil)))) mixed N Tryz.func156 (c := (bodyOf Tryz.f156)) (by kernel_rfl) spec_eval.sg (by kernel_rfl) (by kernel_rfl) (by kernel_rfl) (spec_eval.run N)

@[reducible] def spec_updated.sg : Sg := { ms := [{ k := (.sl (.st 127)), fl := [none] }, { k := (.st 100) }], keep := [false, false], rs := [{ k := (.sl (.st 127)), fl := [none] }], hold := true }
noncomputable def spec_updated.A : Ann := { dp := fun d => isIn [] d, lp := look [], jn := look [], pins := [], nt := 23 }
noncomputable def spec_updated.phis (N : Nat) : List (Nat × Sm D) := [(155, spec_applies.sm N), (156, spec_eval.sm N)]
theorem spec_updated.run (N : Nat) (x : (List (ImplValue)) × ImplUpdate × Unit) : runF cx (look (spec_updated.phis N)) spec_updated.A N (bodyOf Tryz.f140) Tryz.f140.results.toList spec_updated.sg x = spec_updated N x.1 x.2.1 := by
  have h : runF cx (look (spec_updated.phis N)) spec_updated.A N (bodyOf Tryz.f140) Tryz.f140.results.toList spec_updated.sg x = spec_updated.B N x.1 x.2.1 := by kernel_rfl
  rw [h]
  try rfl
noncomputable def spec_updated.sm (N : Nat) : Sm D := (⟨spec_updated.sg, fun (x : (List (ImplValue)) × ImplUpdate × Unit) => spec_updated N x.1 x.2.1⟩ : Sm D)
theorem spec_updated.sound (N : Nat) : Sound cx Tryz.prog gam 140 (spec_updated.sm N) := fn_sound (A := spec_updated.A) (Φ := (look (spec_updated.phis N))) pok (G := gam) (ΦOk.cons (spec_applies.sound N) (fnOk_of (f := 155) (by kernel_rfl)) (ΦOk.cons (spec_eval.sound N) (fnOk_of (f := 156) (by kernel_rfl)) ΦOk.nil)) mixed N Tryz.func140 (c := (bodyOf Tryz.f140)) (by kernel_rfl) spec_updated.sg (by kernel_rfl) (by kernel_rfl) (by kernel_rfl) (spec_updated.run N)

@[reducible] def spec_storeUpdated.sg : Sg := { ms := [{ k := (.sl (.st 80)), fl := [none] }, { k := (.st 100) }], keep := [false, false], rs := [{ k := (.sl (.st 80)), fl := [none] }], hold := true }
noncomputable def spec_storeUpdated.A : Ann := { dp := fun d => isIn [] d, lp := look [], jn := look [], pins := [], nt := 30 }
noncomputable def spec_storeUpdated.phis (N : Nat) : List (Nat × Sm D) := [(51, spec_copyStore.sm N), (124, spec_cellAt.sm N), (140, spec_updated.sm N)]
theorem spec_storeUpdated.run (N : Nat) (x : (List (ImplCell)) × ImplUpdate × Unit) : runF cx (look (spec_storeUpdated.phis N)) spec_storeUpdated.A N (bodyOf Tryz.f114) Tryz.f114.results.toList spec_storeUpdated.sg x = spec_storeUpdated N x.1 x.2.1 := by
  have h : runF cx (look (spec_storeUpdated.phis N)) spec_storeUpdated.A N (bodyOf Tryz.f114) Tryz.f114.results.toList spec_storeUpdated.sg x = spec_storeUpdated.B N x.1 x.2.1 := by kernel_rfl
  rw [h]
  try rfl
noncomputable def spec_storeUpdated.sm (N : Nat) : Sm D := (⟨spec_storeUpdated.sg, fun (x : (List (ImplCell)) × ImplUpdate × Unit) => spec_storeUpdated N x.1 x.2.1⟩ : Sm D)
theorem spec_storeUpdated.sound (N : Nat) : Sound cx Tryz.prog gam 114 (spec_storeUpdated.sm N) := fn_sound (A := spec_storeUpdated.A) (Φ := (look (spec_storeUpdated.phis N))) pok (G := gam) (ΦOk.cons (spec_copyStore.sound N) (fnOk_of (f := 51) (by kernel_rfl)) (ΦOk.cons (spec_cellAt.sound N) (fnOk_of (f := 124) (by kernel_rfl)) (ΦOk.cons (spec_updated.sound N) (fnOk_of (f := 140) (by kernel_rfl)) ΦOk.nil))) mixed N Tryz.func114 (c := (bodyOf Tryz.f114)) (by kernel_rfl) spec_storeUpdated.sg (by kernel_rfl) (by kernel_rfl) (by kernel_rfl) (spec_storeUpdated.run N)

@[reducible] def impl_within.sg : Sg := { ms := [{ k := (.int .i64) }, { k := (.int .i64) }, { k := (.int .i64) }], keep := [false, false, false], rs := [{ k := .bool }] }
noncomputable def impl_within.A : Ann := { dp := fun d => isIn [] d, lp := look [], jn := look [], pins := [], nt := 15 }
noncomputable def impl_within.phis (N : Nat) : List (Nat × Sm D) := []
theorem impl_within.run (N : Nat) (x : Int × Int × Int × Unit) : runF cx (look (impl_within.phis N)) impl_within.A N (bodyOf Tryz.f47) Tryz.f47.results.toList impl_within.sg x = impl_within N x.1 x.2.1 x.2.2.1 := by
  have h : runF cx (look (impl_within.phis N)) impl_within.A N (bodyOf Tryz.f47) Tryz.f47.results.toList impl_within.sg x = impl_within.B N x.1 x.2.1 x.2.2.1 := by kernel_rfl
  rw [h]
  try rfl
noncomputable def impl_within.sm (N : Nat) : Sm D := (⟨impl_within.sg, fun (x : Int × Int × Int × Unit) => impl_within N x.1 x.2.1 x.2.2.1⟩ : Sm D)
theorem impl_within.sound (N : Nat) : Sound cx Tryz.prog gam 47 (impl_within.sm N) := fn_sound (A := impl_within.A) (Φ := (look (impl_within.phis N))) pok (G := gam) ΦOk.nil mixed N Tryz.func47 (c := (bodyOf Tryz.f47)) (by kernel_rfl) impl_within.sg (by kernel_rfl) (by kernel_rfl) (by kernel_rfl) (impl_within.run N)

@[reducible] def impl_PlaceOk.sg : Sg := { ms := [{ k := (.sl (.st 125)), fl := [none] }], keep := [false], rs := [{ k := .bool }] }
@[reducible] def impl_PlaceOk.lvL0 : Lv := { id := 0, slots := [0, 5, 6, 7], ms := [{ k := (.sl (.st 125)), fl := [none] }, { k := (.sl (.st 125)), fl := [none] }, { k := (.int .i64) }, { k := (.int .i64) }] }
noncomputable def impl_PlaceOk.A : Ann := { dp := fun d => isIn [] d, lp := look [(0, impl_PlaceOk.lvL0)], jn := look [], pins := [], nt := 25 }
noncomputable def impl_PlaceOk.phis (N : Nat) : List (Nat × Sm D) := [(47, impl_within.sm N)]
noncomputable def impl_PlaceOk.a0 (N : Nat) (n : Nat) (y : (List (ImplSlot)) × (List (ImplSlot)) × Int × Int × Unit) : Option (Bool × Unit) := loopAt cx (look (impl_PlaceOk.phis N)) impl_PlaceOk.A N n (encL cx impl_PlaceOk.lvL0.ms y).1 (encL cx impl_PlaceOk.lvL0.ms y).2 (bodyOf Tryz.f55) 0 (Kfin cx impl_PlaceOk.A impl_PlaceOk.sg Tryz.f55.results.toList) [1, 0, 1, 1] []
theorem impl_PlaceOk.r0 (N : Nat) : ∀ (n : Nat) (y : (List (ImplSlot)) × (List (ImplSlot)) × Int × Int × Unit), impl_PlaceOk.a0 N n y = impl_PlaceOk.L0 N n y
  | 0, y => by kernel_rfl
  | n + 1, y => by
    have h : impl_PlaceOk.a0 N (n + 1) y = impl_PlaceOk.B0 N (fun z => impl_PlaceOk.a0 N n z) y := by kernel_rfl
    have e : (fun z => impl_PlaceOk.a0 N n z) = impl_PlaceOk.L0 N n := funext fun z => impl_PlaceOk.r0 N n z
    rw [h]
    try rw [e]
    first | done | rfl
theorem impl_PlaceOk.run (N : Nat) (x : (List (ImplSlot)) × Unit) : runF cx (look (impl_PlaceOk.phis N)) impl_PlaceOk.A N (bodyOf Tryz.f55) Tryz.f55.results.toList impl_PlaceOk.sg x = impl_PlaceOk N x.1 := by
  have h : runF cx (look (impl_PlaceOk.phis N)) impl_PlaceOk.A N (bodyOf Tryz.f55) Tryz.f55.results.toList impl_PlaceOk.sg x = impl_PlaceOk.B N (fun z => impl_PlaceOk.a0 N N z) x.1 := by kernel_rfl
  have e0 : (fun z => impl_PlaceOk.a0 N N z) = impl_PlaceOk.L0 N N := funext fun z => impl_PlaceOk.r0 N N z
  rw [h, e0]
  try rfl
noncomputable def impl_PlaceOk.sm (N : Nat) : Sm D := (⟨impl_PlaceOk.sg, fun (x : (List (ImplSlot)) × Unit) => impl_PlaceOk N x.1⟩ : Sm D)
theorem impl_PlaceOk.sound (N : Nat) : Sound cx Tryz.prog gam 55 (impl_PlaceOk.sm N) := fn_sound (A := impl_PlaceOk.A) (Φ := (look (impl_PlaceOk.phis N))) pok (G := gam) (ΦOk.cons (impl_within.sound N) (fnOk_of (f := 47) (by kernel_rfl)) ΦOk.nil) mixed N Tryz.func55 (c := (bodyOf Tryz.f55)) (by kernel_rfl) impl_PlaceOk.sg (by kernel_rfl) (by kernel_rfl) (by kernel_rfl) (impl_PlaceOk.run N)

end
end Go.Ev
