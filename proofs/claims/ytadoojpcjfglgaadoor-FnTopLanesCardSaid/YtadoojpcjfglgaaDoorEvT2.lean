/- Each function that the law reaches does what its plain form says; no condition beyond the table of the library. -/
import Derived.Test.YtadoojpcjfglgaaDoorEvT1
set_option linter.all false
set_option linter.unusedVariables false
set_option linter.unusedSimpArgs false
set_option maxRecDepth 100000
set_option maxHeartbeats 0
namespace Go.Ev
noncomputable section
open Go.Proofs
@[reducible] def spec_cellAt.sg : Sg := { ms := [{ k := (.sl (.st 70)), fl := [none] }, { k := (.sl (.st 102)), fl := [none] }], keep := [false, false], rs := [{ k := (.int .i64) }, { k := .bool }] }
@[reducible] def spec_cellAt.lvL0 : Lv := { id := 0, slots := [0, 1, 6], ms := [{ k := (.sl (.st 70)), fl := [none] }, { k := (.sl (.st 102)), fl := [none] }, { k := (.int .i64) }] }
noncomputable def spec_cellAt.A : Ann := { dp := fun d => isIn [] d, lp := look [(0, spec_cellAt.lvL0)], jn := look [], pins := [], nt := 38 }
noncomputable def spec_cellAt.phis (N : Nat) : List (Nat × Sm D) := [(73, spec_comparePlaces.sm N)]
noncomputable def spec_cellAt.a0 (N : Nat) (n : Nat) (y : (List (ImplCell)) × (List (ImplSlot)) × Int × Unit) : Option (Int × Bool × Unit) := loopAt cx (look (spec_cellAt.phis N)) spec_cellAt.A N n (encL cx spec_cellAt.lvL0.ms y).1 (encL cx spec_cellAt.lvL0.ms y).2 (bodyOf Tryd.f105) 0 (Kfin cx spec_cellAt.A spec_cellAt.sg Tryd.f105.results.toList) [1, 1, 0, 1] []
theorem spec_cellAt.r0 (N : Nat) : ∀ (n : Nat) (y : (List (ImplCell)) × (List (ImplSlot)) × Int × Unit), spec_cellAt.a0 N n y = spec_cellAt.L0 N n y
  | 0, y => by kernel_rfl
  | n + 1, y => by
    have h : spec_cellAt.a0 N (n + 1) y = spec_cellAt.B0 N (fun z => spec_cellAt.a0 N n z) y := by kernel_rfl
    have e : (fun z => spec_cellAt.a0 N n z) = spec_cellAt.L0 N n := funext fun z => spec_cellAt.r0 N n z
    rw [h]
    try rw [e]
    first | done | rfl
theorem spec_cellAt.run (N : Nat) (x : (List (ImplCell)) × (List (ImplSlot)) × Unit) : runF cx (look (spec_cellAt.phis N)) spec_cellAt.A N (bodyOf Tryd.f105) Tryd.f105.results.toList spec_cellAt.sg x = spec_cellAt N x.1 x.2.1 := by
  have h : runF cx (look (spec_cellAt.phis N)) spec_cellAt.A N (bodyOf Tryd.f105) Tryd.f105.results.toList spec_cellAt.sg x = spec_cellAt.B N (fun z => spec_cellAt.a0 N N z) x.1 x.2.1 := by kernel_rfl
  have e0 : (fun z => spec_cellAt.a0 N N z) = spec_cellAt.L0 N N := funext fun z => spec_cellAt.r0 N N z
  rw [h, e0]
  try rfl
noncomputable def spec_cellAt.sm (N : Nat) : Sm D := (⟨spec_cellAt.sg, fun (x : (List (ImplCell)) × (List (ImplSlot)) × Unit) => spec_cellAt N x.1 x.2.1⟩ : Sm D)
theorem spec_cellAt.sound (N : Nat) : Sound cx Tryd.prog gam 105 (spec_cellAt.sm N) := fn_sound (A := spec_cellAt.A) (Φ := (look (spec_cellAt.phis N))) pok (G := gam) (ΦOk.cons (spec_comparePlaces.sound N) (fnOk_of (f := 73) (by kernel_rfl)) ΦOk.nil) mixed N Tryd.func105 (c := (bodyOf Tryd.f105)) (by kernel_rfl) spec_cellAt.sg (by kernel_rfl) (by kernel_rfl) (by kernel_rfl) (spec_cellAt.run N)

@[reducible] def spec_inLanes.sg : Sg := { ms := [{ k := (.int .i64) }, { k := (.int .i64) }], keep := [false, false], rs := [{ k := .bool }] }
noncomputable def spec_inLanes.A : Ann := { dp := fun d => isIn [] d, lp := look [], jn := look [], pins := [], nt := 15 }
noncomputable def spec_inLanes.phis (N : Nat) : List (Nat × Sm D) := []
theorem spec_inLanes.run (N : Nat) (x : Int × Int × Unit) : runF cx (look (spec_inLanes.phis N)) spec_inLanes.A N (bodyOf Tryd.f89) Tryd.f89.results.toList spec_inLanes.sg x = spec_inLanes N x.1 x.2.1 := by
  have h : runF cx (look (spec_inLanes.phis N)) spec_inLanes.A N (bodyOf Tryd.f89) Tryd.f89.results.toList spec_inLanes.sg x = spec_inLanes.B N x.1 x.2.1 := by kernel_rfl
  rw [h]
  try rfl
noncomputable def spec_inLanes.sm (N : Nat) : Sm D := (⟨spec_inLanes.sg, fun (x : Int × Int × Unit) => spec_inLanes N x.1 x.2.1⟩ : Sm D)
theorem spec_inLanes.sound (N : Nat) : Sound cx Tryd.prog gam 89 (spec_inLanes.sm N) := fn_sound (A := spec_inLanes.A) (Φ := (look (spec_inLanes.phis N))) pok (G := gam) ΦOk.nil mixed N Tryd.func89 (c := (bodyOf Tryd.f89)) (by kernel_rfl) spec_inLanes.sg (by kernel_rfl) (by kernel_rfl) (by kernel_rfl) (spec_inLanes.run N)

@[reducible] def spec_copyUpdate.sg : Sg := { ms := [{ k := (.st 86) }], keep := [false], rs := [{ k := (.st 86) }], hold := true }
noncomputable def spec_copyUpdate.A : Ann := { dp := fun d => isIn [] d, lp := look [], jn := look [], pins := [], nt := 16 }
noncomputable def spec_copyUpdate.phis (N : Nat) : List (Nat × Sm D) := []
theorem spec_copyUpdate.run (N : Nat) (x : ImplUpdate × Unit) : runF cx (look (spec_copyUpdate.phis N)) spec_copyUpdate.A N (bodyOf Tryd.f81) Tryd.f81.results.toList spec_copyUpdate.sg x = spec_copyUpdate N x.1 := by
  have h : runF cx (look (spec_copyUpdate.phis N)) spec_copyUpdate.A N (bodyOf Tryd.f81) Tryd.f81.results.toList spec_copyUpdate.sg x = spec_copyUpdate.B N x.1 := by kernel_rfl
  rw [h]
  try rfl
noncomputable def spec_copyUpdate.sm (N : Nat) : Sm D := (⟨spec_copyUpdate.sg, fun (x : ImplUpdate × Unit) => spec_copyUpdate N x.1⟩ : Sm D)
theorem spec_copyUpdate.sound (N : Nat) : Sound cx Tryd.prog gam 81 (spec_copyUpdate.sm N) := fn_sound (A := spec_copyUpdate.A) (Φ := (look (spec_copyUpdate.phis N))) pok (G := gam) ΦOk.nil mixed N Tryd.func81 (c := (bodyOf Tryd.f81)) (by kernel_rfl) spec_copyUpdate.sg (by kernel_rfl) (by kernel_rfl) (by kernel_rfl) (spec_copyUpdate.run N)

@[reducible] def spec_applies.sg : Sg := { ms := [{ k := (.sl (.st 47)), fl := [none] }, { k := (.st 86) }], keep := [false, false], rs := [{ k := .bool }] }
noncomputable def spec_applies.A : Ann := { dp := fun d => isIn [] d, lp := look [], jn := look [], pins := [], nt := 17 }
noncomputable def spec_applies.phis (N : Nat) : List (Nat × Sm D) := [(63, spec_validForm.sm N)]
theorem spec_applies.run (N : Nat) (x : (List (ImplValue)) × ImplUpdate × Unit) : runF cx (look (spec_applies.phis N)) spec_applies.A N (bodyOf Tryd.f132) Tryd.f132.results.toList spec_applies.sg x = spec_applies N x.1 x.2.1 := by
  have h : runF cx (look (spec_applies.phis N)) spec_applies.A N (bodyOf Tryd.f132) Tryd.f132.results.toList spec_applies.sg x = spec_applies.B N x.1 x.2.1 := by kernel_rfl
  rw [h]
  try rfl
noncomputable def spec_applies.sm (N : Nat) : Sm D := (⟨spec_applies.sg, fun (x : (List (ImplValue)) × ImplUpdate × Unit) => spec_applies N x.1 x.2.1⟩ : Sm D)
theorem spec_applies.sound (N : Nat) : Sound cx Tryd.prog gam 132 (spec_applies.sm N) := fn_sound (A := spec_applies.A) (Φ := (look (spec_applies.phis N))) pok (G := gam) (ΦOk.cons (spec_validForm.sound N) (fnOk_of (f := 63) (by kernel_rfl)) ΦOk.nil) mixed N Tryd.func132 (c := (bodyOf Tryd.f132)) (by kernel_rfl) spec_applies.sg (by kernel_rfl) (by kernel_rfl) (by kernel_rfl) (spec_applies.run N)

@[reducible] def spec_number.sg : Sg := { ms := [{ k := (.int .i64) }], keep := [false], rs := [{ k := (.st 47) }] }
noncomputable def spec_number.A : Ann := { dp := fun d => isIn [] d, lp := look [], jn := look [], pins := [], nt := 9 }
noncomputable def spec_number.phis (N : Nat) : List (Nat × Sm D) := [(36, spec_inRange.sm N)]
theorem spec_number.run (N : Nat) (x : Int × Unit) : runF cx (look (spec_number.phis N)) spec_number.A N (bodyOf Tryd.f119) Tryd.f119.results.toList spec_number.sg x = spec_number N x.1 := by
  have h : runF cx (look (spec_number.phis N)) spec_number.A N (bodyOf Tryd.f119) Tryd.f119.results.toList spec_number.sg x = spec_number.B N x.1 := by kernel_rfl
  rw [h]
  try rfl
noncomputable def spec_number.sm (N : Nat) : Sm D := (⟨spec_number.sg, fun (x : Int × Unit) => spec_number N x.1⟩ : Sm D)
theorem spec_number.sound (N : Nat) : Sound cx Tryd.prog gam 119 (spec_number.sm N) := fn_sound (A := spec_number.A) (Φ := (look (spec_number.phis N))) pok (G := gam) (ΦOk.cons (spec_inRange.sound N) (fnOk_of (f := 36) (by kernel_rfl)) ΦOk.nil) mixed N Tryd.func119 (c := (bodyOf Tryd.f119)) (by kernel_rfl) spec_number.sg (by kernel_rfl) (by kernel_rfl) (by kernel_rfl) (spec_number.run N)

@[reducible] def spec_boolean.sg : Sg := { ms := [{ k := .bool }], keep := [false], rs := [{ k := (.st 47) }] }
noncomputable def spec_boolean.A : Ann := { dp := fun d => isIn [] d, lp := look [], jn := look [], pins := [], nt := 6 }
noncomputable def spec_boolean.phis (N : Nat) : List (Nat × Sm D) := [(119, spec_number.sm N)]
theorem spec_boolean.run (N : Nat) (x : Bool × Unit) : runF cx (look (spec_boolean.phis N)) spec_boolean.A N (bodyOf Tryd.f116) Tryd.f116.results.toList spec_boolean.sg x = spec_boolean N x.1 := by
  have h : runF cx (look (spec_boolean.phis N)) spec_boolean.A N (bodyOf Tryd.f116) Tryd.f116.results.toList spec_boolean.sg x = spec_boolean.B N x.1 := by kernel_rfl
  rw [h]
  try rfl
noncomputable def spec_boolean.sm (N : Nat) : Sm D := (⟨spec_boolean.sg, fun (x : Bool × Unit) => spec_boolean N x.1⟩ : Sm D)
theorem spec_boolean.sound (N : Nat) : Sound cx Tryd.prog gam 116 (spec_boolean.sm N) := fn_sound (A := spec_boolean.A) (Φ := (look (spec_boolean.phis N))) pok (G := gam) (ΦOk.cons (spec_number.sound N) (fnOk_of (f := 119) (by kernel_rfl)) ΦOk.nil) mixed N Tryd.func116 (c := (bodyOf Tryd.f116)) (by kernel_rfl) spec_boolean.sg (by kernel_rfl) (by kernel_rfl) (by kernel_rfl) (spec_boolean.run N)

@[reducible] def spec_truth.sg : Sg := { ms := [{ k := (.st 47) }], keep := [false], rs := [{ k := .bool }] }
noncomputable def spec_truth.A : Ann := { dp := fun d => isIn [] d, lp := look [], jn := look [], pins := [], nt := 11 }
noncomputable def spec_truth.phis (N : Nat) : List (Nat × Sm D) := []
theorem spec_truth.run (N : Nat) (x : ImplValue × Unit) : runF cx (look (spec_truth.phis N)) spec_truth.A N (bodyOf Tryd.f98) Tryd.f98.results.toList spec_truth.sg x = spec_truth N x.1 := by
  have h : runF cx (look (spec_truth.phis N)) spec_truth.A N (bodyOf Tryd.f98) Tryd.f98.results.toList spec_truth.sg x = spec_truth.B N x.1 := by kernel_rfl
  rw [h]
  try rfl
noncomputable def spec_truth.sm (N : Nat) : Sm D := (⟨spec_truth.sg, fun (x : ImplValue × Unit) => spec_truth N x.1⟩ : Sm D)
theorem spec_truth.sound (N : Nat) : Sound cx Tryd.prog gam 98 (spec_truth.sm N) := fn_sound (A := spec_truth.A) (Φ := (look (spec_truth.phis N))) pok (G := gam) ΦOk.nil mixed N Tryd.func98 (c := (bodyOf Tryd.f98)) (by kernel_rfl) spec_truth.sg (by kernel_rfl) (by kernel_rfl) (by kernel_rfl) (spec_truth.run N)

@[reducible] def spec_decimal.sg : Sg := { ms := [{ k := (.int .i64) }], keep := [false], rs := [{ k := .str }] }
noncomputable def spec_decimal.A : Ann := { dp := fun d => isIn [] d, lp := look [], jn := look [], pins := [], nt := 22 }
noncomputable def spec_decimal.phis (N : Nat) (d : Nat) : List (Nat × Sm D) := [(135, (⟨spec_decimal.sg, fun (x : Int × Unit) => spec_decimal.R N d x.1⟩ : Sm D))]
theorem spec_decimal.run (N : Nat) (d : Nat) (x : Int × Unit) : runF cx (look (spec_decimal.phis N d)) spec_decimal.A N (bodyOf Tryd.f135) Tryd.f135.results.toList spec_decimal.sg x = spec_decimal.R N (d + 1) x.1 := by
  have h : runF cx (look (spec_decimal.phis N d)) spec_decimal.A N (bodyOf Tryd.f135) Tryd.f135.results.toList spec_decimal.sg x = spec_decimal.B N (spec_decimal.R N d) x.1 := by kernel_rfl
  rw [h]
  try rfl
theorem spec_decimal.step (N : Nat) (d : Nat) (h_spec_decimal : Sound cx Tryd.prog gam 135 (⟨spec_decimal.sg, fun (x : Int × Unit) => spec_decimal.R N d x.1⟩ : Sm D)) : Sound cx Tryd.prog gam 135 (⟨spec_decimal.sg, fun (x : Int × Unit) => spec_decimal.R N (d + 1) x.1⟩ : Sm D) := fn_sound (A := spec_decimal.A) (Φ := (look (spec_decimal.phis N d))) pok (G := gam) (ΦOk.cons h_spec_decimal (fnOk_of (f := 135) (by kernel_rfl)) ΦOk.nil) mixed N Tryd.func135 (c := (bodyOf Tryd.f135)) (by kernel_rfl) spec_decimal.sg (by kernel_rfl) (by kernel_rfl) (by kernel_rfl) (spec_decimal.run N d)

theorem spec_decimal.scc (N : Nat) : ∀ d, Sound cx Tryd.prog gam 135 (⟨spec_decimal.sg, fun (x : Int × Unit) => spec_decimal.R N d x.1⟩ : Sm D)
  | 0 => none_sound 135 spec_decimal.sg
  | d + 1 => by
    have ih := spec_decimal.scc N d
    exact spec_decimal.step N d ih
noncomputable def spec_decimal.sm (N : Nat) : Sm D := (⟨spec_decimal.sg, fun (x : Int × Unit) => spec_decimal.R N N x.1⟩ : Sm D)
theorem spec_decimal.sound (N : Nat) : Sound cx Tryd.prog gam 135 (spec_decimal.sm N) := (spec_decimal.scc N N)
@[reducible] def spec_show.sg : Sg := { ms := [{ k := (.st 47) }], keep := [false], rs := [{ k := .str }] }
noncomputable def spec_show.A : Ann := { dp := fun d => isIn [] d, lp := look [], jn := look [], pins := [], nt := 14 }
noncomputable def spec_show.phis (N : Nat) : List (Nat × Sm D) := [(135, spec_decimal.sm N)]
theorem spec_show.run (N : Nat) (x : ImplValue × Unit) : runF cx (look (spec_show.phis N)) spec_show.A N (bodyOf Tryd.f117) Tryd.f117.results.toList spec_show.sg x = spec_show N x.1 := by
  have h : runF cx (look (spec_show.phis N)) spec_show.A N (bodyOf Tryd.f117) Tryd.f117.results.toList spec_show.sg x = spec_show.B N x.1 := by kernel_rfl
  rw [h]
  try rfl
noncomputable def spec_show.sm (N : Nat) : Sm D := (⟨spec_show.sg, fun (x : ImplValue × Unit) => spec_show N x.1⟩ : Sm D)
theorem spec_show.sound (N : Nat) : Sound cx Tryd.prog gam 117 (spec_show.sm N) := fn_sound (A := spec_show.A) (Φ := (look (spec_show.phis N))) pok (G := gam) (ΦOk.cons (spec_decimal.sound N) (fnOk_of (f := 135) (by kernel_rfl)) ΦOk.nil) mixed N Tryd.func117 (c := (bodyOf Tryd.f117)) (by kernel_rfl) spec_show.sg (by kernel_rfl) (by kernel_rfl) (by kernel_rfl) (spec_show.run N)

@[reducible] def spec_do.sg : Sg := { ms := [{ k := (.int .i64) }, { k := (.st 47) }, { k := (.st 47) }], keep := [false, false, false], rs := [{ k := (.st 47) }] }
noncomputable def spec_do.A : Ann := { dp := fun d => isIn [] d, lp := look [], jn := look [], pins := [], nt := 82 }
noncomputable def spec_do.phis (N : Nat) : List (Nat × Sm D) := [(116, spec_boolean.sm N), (98, spec_truth.sm N), (117, spec_show.sm N), (118, spec_validWord.sm N), (119, spec_number.sm N)]
theorem spec_do.run (N : Nat) (x : Int × ImplValue × ImplValue × Unit) : runF cx (look (spec_do.phis N)) spec_do.A N (bodyOf Tryd.f97) Tryd.f97.results.toList spec_do.sg x = spec_do N x.1 x.2.1 x.2.2.1 := by
  have h : runF cx (look (spec_do.phis N)) spec_do.A N (bodyOf Tryd.f97) Tryd.f97.results.toList spec_do.sg x = spec_do.B N x.1 x.2.1 x.2.2.1 := by kernel_rfl
  rw [h]
  try rfl
noncomputable def spec_do.sm (N : Nat) : Sm D := (⟨spec_do.sg, fun (x : Int × ImplValue × ImplValue × Unit) => spec_do N x.1 x.2.1 x.2.2.1⟩ : Sm D)
theorem spec_do.sound (N : Nat) : Sound cx Tryd.prog gam 97 (spec_do.sm N) := fn_sound (A := spec_do.A) (Φ := (look (spec_do.phis N))) pok (G := gam) (ΦOk.cons (spec_boolean.sound N) (fnOk_of (f := 116) (by kernel_rfl)) (ΦOk.cons (spec_truth.sound N) (fnOk_of (f := 98) (by kernel_rfl)) (ΦOk.cons (spec_show.sound N) (fnOk_of (f := 117) (by kernel_rfl)) (ΦOk.cons (spec_validWord.sound N) (fnOk_of (f := 118) (by kernel_rfl)) (ΦOk.cons (spec_number.sound N) (fnOk_of (f := 119) (by kernel_rfl)) ΦOk.nil))))) mixed N Tryd.func97 (c := (bodyOf Tryd.f97)) (by kernel_rfl) spec_do.sg (by kernel_rfl) (by kernel_rfl) (by kernel_rfl) (spec_do.run N)

@[reducible] def spec_told.sg : Sg := { ms := [{ k := (.st 81) }, { k := (.st 43) }], keep := [false, false], rs := [{ k := (.st 47) }] }
noncomputable def spec_told.A : Ann := { dp := fun d => isIn [] d, lp := look [], jn := look [], pins := [], nt := 47 }
noncomputable def spec_told.phis (N : Nat) : List (Nat × Sm D) := [(119, spec_number.sm N)]
theorem spec_told.run (N : Nat) (x : ImplStep × ImplEnv × Unit) : runF cx (look (spec_told.phis N)) spec_told.A N (bodyOf Tryd.f99) Tryd.f99.results.toList spec_told.sg x = spec_told N x.1 x.2.1 := by
  have h : runF cx (look (spec_told.phis N)) spec_told.A N (bodyOf Tryd.f99) Tryd.f99.results.toList spec_told.sg x = spec_told.B N x.1 x.2.1 := by kernel_rfl
  rw [h]
  try rfl
noncomputable def spec_told.sm (N : Nat) : Sm D := (⟨spec_told.sg, fun (x : ImplStep × ImplEnv × Unit) => spec_told N x.1 x.2.1⟩ : Sm D)
theorem spec_told.sound (N : Nat) : Sound cx Tryd.prog gam 99 (spec_told.sm N) := fn_sound (A := spec_told.A) (Φ := (look (spec_told.phis N))) pok (G := gam) (ΦOk.cons (spec_number.sound N) (fnOk_of (f := 119) (by kernel_rfl)) ΦOk.nil) mixed N Tryd.func99 (c := (bodyOf Tryd.f99)) (by kernel_rfl) spec_told.sg (by kernel_rfl) (by kernel_rfl) (by kernel_rfl) (spec_told.run N)

@[reducible] def spec_eval.sg : Sg := { ms := [{ k := (.sl (.st 81)), fl := [none] }, { k := (.st 43) }], keep := [false, false], rs := [{ k := (.st 47) }] }
@[reducible] def spec_eval.lvJ15 : Lv := { id := 15, slots := [0, 3, 4, 5, 6, 7, 8], ms := [{ k := (.sl (.st 81)), fl := [none] }, { ptr := true, id := 620, t := 44, k := (.st 43), fl := [none, none, none, none] }, { ptr := true, id := 640, t := 48, k := (.st 47), fl := [none, none, none] }, { k := (.sl (.st 47)), fl := [some (false, 660)] }, { k := (.int .i64) }, { k := (.int .i64) }, { ptr := true, id := 720, t := 48, k := (.st 47), fl := [none, none, none] }] }
@[reducible] def spec_eval.lvL0 : Lv := { id := 0, slots := [0, 3, 4, 5, 6], ms := [{ k := (.sl (.st 81)), fl := [none] }, { ptr := true, id := 620, t := 44, k := (.st 43), fl := [none, none, none, none] }, { ptr := true, id := 640, t := 48, k := (.st 47), fl := [none, none, none] }, { k := (.sl (.st 47)), fl := [some (false, 660)] }, { k := (.int .i64) }] }
noncomputable def spec_eval.A : Ann := { dp := fun d => isIn [] d, lp := look [(0, spec_eval.lvL0)], jn := look [(15, spec_eval.lvJ15)], pins := [], nt := 79 }
noncomputable def spec_eval.phis (N : Nat) : List (Nat × Sm D) := [(96, spec_takes.sm N), (97, spec_do.sm N), (98, spec_truth.sm N), (99, spec_told.sm N)]
noncomputable def spec_eval.a0 (N : Nat) (n : Nat) (y : (List (ImplStep)) × ImplEnv × ImplValue × (List (ImplValue)) × Int × Unit) : Option (ImplValue × Unit) := loopAt cx (look (spec_eval.phis N)) spec_eval.A N n (encL cx spec_eval.lvL0.ms y).1 (encL cx spec_eval.lvL0.ms y).2 (bodyOf Tryd.f64) 0 (Kfin cx spec_eval.A spec_eval.sg Tryd.f64.results.toList) [1, 1, 0, 1, 1] []
theorem spec_eval.r0 (N : Nat) : ∀ (n : Nat) (y : (List (ImplStep)) × ImplEnv × ImplValue × (List (ImplValue)) × Int × Unit), spec_eval.a0 N n y = spec_eval.L0 N n y
  | 0, y => by kernel_rfl
  | n + 1, y => by
    have h : spec_eval.a0 N (n + 1) y = spec_eval.B0 N (fun z => spec_eval.a0 N n z) y := by kernel_rfl
    have e : (fun z => spec_eval.a0 N n z) = spec_eval.L0 N n := funext fun z => spec_eval.r0 N n z
    rw [h]
    try rw [e]
    first | done | rfl
theorem spec_eval.run (N : Nat) (x : (List (ImplStep)) × ImplEnv × Unit) : runF cx (look (spec_eval.phis N)) spec_eval.A N (bodyOf Tryd.f64) Tryd.f64.results.toList spec_eval.sg x = spec_eval N x.1 x.2.1 := by
  have h : runF cx (look (spec_eval.phis N)) spec_eval.A N (bodyOf Tryd.f64) Tryd.f64.results.toList spec_eval.sg x = spec_eval.B N (fun z => spec_eval.a0 N N z) x.1 x.2.1 := by kernel_rfl
  have e0 : (fun z => spec_eval.a0 N N z) = spec_eval.L0 N N := funext fun z => spec_eval.r0 N N z
  rw [h, e0]
  try rfl
noncomputable def spec_eval.sm (N : Nat) : Sm D := (⟨spec_eval.sg, fun (x : (List (ImplStep)) × ImplEnv × Unit) => spec_eval N x.1 x.2.1⟩ : Sm D)
theorem spec_eval.sound (N : Nat) : Sound cx Tryd.prog gam 64 (spec_eval.sm N) := fn_sound (A := spec_eval.A) (Φ := (look (spec_eval.phis N))) pok (G := gam) (ΦOk.cons (spec_takes.sound N) (fnOk_of (f := 96) (by kernel_rfl)) (ΦOk.cons (spec_do.sound N) (fnOk_of (f := 97) (by kernel_rfl)) (ΦOk.cons (spec_truth.sound N) (fnOk_of (f := 98) (by kernel_rfl)) (ΦOk.cons (spec_told.sound N) (fnOk_of (f := 99) (by kernel_rfl)) ΦOk.nil)))) mixed N Tryd.func64 (c := (bodyOf Tryd.f64)) (by kernel_rfl) spec_eval.sg (by kernel_rfl) (by kernel_rfl) (by kernel_rfl) (spec_eval.run N)

@[reducible] def spec_updated.sg : Sg := { ms := [{ k := (.sl (.st 47)), fl := [none] }, { k := (.st 86) }], keep := [false, false], rs := [{ k := (.sl (.st 47)), fl := [none] }], hold := true }
noncomputable def spec_updated.A : Ann := { dp := fun d => isIn [] d, lp := look [], jn := look [], pins := [], nt := 23 }
noncomputable def spec_updated.phis (N : Nat) : List (Nat × Sm D) := [(132, spec_applies.sm N), (64, spec_eval.sm N)]
theorem spec_updated.run (N : Nat) (x : (List (ImplValue)) × ImplUpdate × Unit) : runF cx (look (spec_updated.phis N)) spec_updated.A N (bodyOf Tryd.f112) Tryd.f112.results.toList spec_updated.sg x = spec_updated N x.1 x.2.1 := by
  have h : runF cx (look (spec_updated.phis N)) spec_updated.A N (bodyOf Tryd.f112) Tryd.f112.results.toList spec_updated.sg x = spec_updated.B N x.1 x.2.1 := by kernel_rfl
  rw [h]
  try rfl
noncomputable def spec_updated.sm (N : Nat) : Sm D := (⟨spec_updated.sg, fun (x : (List (ImplValue)) × ImplUpdate × Unit) => spec_updated N x.1 x.2.1⟩ : Sm D)
theorem spec_updated.sound (N : Nat) : Sound cx Tryd.prog gam 112 (spec_updated.sm N) := fn_sound (A := spec_updated.A) (Φ := (look (spec_updated.phis N))) pok (G := gam) (ΦOk.cons (spec_applies.sound N) (fnOk_of (f := 132) (by kernel_rfl)) (ΦOk.cons (spec_eval.sound N) (fnOk_of (f := 64) (by kernel_rfl)) ΦOk.nil)) mixed N Tryd.func112 (c := (bodyOf Tryd.f112)) (by kernel_rfl) spec_updated.sg (by kernel_rfl) (by kernel_rfl) (by kernel_rfl) (spec_updated.run N)

@[reducible] def spec_storeUpdated.sg : Sg := { ms := [{ k := (.sl (.st 70)), fl := [none] }, { k := (.st 86) }], keep := [false, false], rs := [{ k := (.sl (.st 70)), fl := [none] }], hold := true }
noncomputable def spec_storeUpdated.A : Ann := { dp := fun d => isIn [] d, lp := look [], jn := look [], pins := [], nt := 30 }
noncomputable def spec_storeUpdated.phis (N : Nat) : List (Nat × Sm D) := [(37, spec_copyStore.sm N), (105, spec_cellAt.sm N), (112, spec_updated.sm N)]
theorem spec_storeUpdated.run (N : Nat) (x : (List (ImplCell)) × ImplUpdate × Unit) : runF cx (look (spec_storeUpdated.phis N)) spec_storeUpdated.A N (bodyOf Tryd.f88) Tryd.f88.results.toList spec_storeUpdated.sg x = spec_storeUpdated N x.1 x.2.1 := by
  have h : runF cx (look (spec_storeUpdated.phis N)) spec_storeUpdated.A N (bodyOf Tryd.f88) Tryd.f88.results.toList spec_storeUpdated.sg x = spec_storeUpdated.B N x.1 x.2.1 := by kernel_rfl
  rw [h]
  try rfl
noncomputable def spec_storeUpdated.sm (N : Nat) : Sm D := (⟨spec_storeUpdated.sg, fun (x : (List (ImplCell)) × ImplUpdate × Unit) => spec_storeUpdated N x.1 x.2.1⟩ : Sm D)
theorem spec_storeUpdated.sound (N : Nat) : Sound cx Tryd.prog gam 88 (spec_storeUpdated.sm N) := fn_sound (A := spec_storeUpdated.A) (Φ := (look (spec_storeUpdated.phis N))) pok (G := gam) (ΦOk.cons (spec_copyStore.sound N) (fnOk_of (f := 37) (by kernel_rfl)) (ΦOk.cons (spec_cellAt.sound N) (fnOk_of (f := 105) (by kernel_rfl)) (ΦOk.cons (spec_updated.sound N) (fnOk_of (f := 112) (by kernel_rfl)) ΦOk.nil))) mixed N Tryd.func88 (c := (bodyOf Tryd.f88)) (by kernel_rfl) spec_storeUpdated.sg (by kernel_rfl) (by kernel_rfl) (by kernel_rfl) (spec_storeUpdated.run N)

@[reducible] def spec_showing_take.sg : Sg := { ms := [{ ptr := true, id := 10, t := 59, k := (.st 58), fl := [none, none, some (false, 13), some (false, 14)] }, { k := (.st 86) }, { k := (.int .i64) }], keep := [true, false, false], rs := [], hold := true }
@[reducible] def spec_showing_take.lvJ5 : Lv := { id := 5, slots := [0, 4], ms := [{ ptr := true, id := 10, t := 59, k := (.st 58), fl := [none, none, some (false, 603), some (false, 604)] }, { ptr := true, id := 620, t := 87, k := (.st 86), fl := [none, none, none, none] }] }
noncomputable def spec_showing_take.A : Ann := { dp := fun d => isIn [] d, lp := look [], jn := look [(5, spec_showing_take.lvJ5)], pins := [10], nt := 83 }
noncomputable def spec_showing_take.phis (N : Nat) : List (Nat × Sm D) := [(105, spec_cellAt.sm N), (89, spec_inLanes.sm N), (81, spec_copyUpdate.sm N), (88, spec_storeUpdated.sm N)]
theorem spec_showing_take.run (N : Nat) (x : SpecShowing × ImplUpdate × Int × Unit) : runF cx (look (spec_showing_take.phis N)) spec_showing_take.A N (bodyOf Tryd.f76) Tryd.f76.results.toList spec_showing_take.sg x = spec_showing_take N x.1 x.2.1 x.2.2.1 := by
  have h : runF cx (look (spec_showing_take.phis N)) spec_showing_take.A N (bodyOf Tryd.f76) Tryd.f76.results.toList spec_showing_take.sg x = spec_showing_take.B N x.1 x.2.1 x.2.2.1 := by kernel_rfl
  rw [h]
  try rfl
noncomputable def spec_showing_take.sm (N : Nat) : Sm D := (⟨spec_showing_take.sg, fun (x : SpecShowing × ImplUpdate × Int × Unit) => spec_showing_take N x.1 x.2.1 x.2.2.1⟩ : Sm D)
theorem spec_showing_take.sound (N : Nat) : Sound cx Tryd.prog gam 76 (spec_showing_take.sm N) := fn_sound (A := spec_showing_take.A) (Φ := (look (spec_showing_take.phis N))) pok (G := gam) (ΦOk.cons (spec_cellAt.sound N) (fnOk_of (f := 105) (by kernel_rfl)) (ΦOk.cons (spec_inLanes.sound N) (fnOk_of (f := 89) (by kernel_rfl)) (ΦOk.cons (spec_copyUpdate.sound N) (fnOk_of (f := 81) (by kernel_rfl)) (ΦOk.cons (spec_storeUpdated.sound N) (fnOk_of (f := 88) (by kernel_rfl)) ΦOk.nil)))) mixed N Tryd.func76 (c := (bodyOf Tryd.f76)) (by kernel_rfl) spec_showing_take.sg (by kernel_rfl) (by kernel_rfl) (by kernel_rfl) (spec_showing_take.run N)

@[reducible] def spec_showLine.sg : Sg := { ms := [{ k := (.st 24) }, { k := (.int .i64) }], keep := [false, false], rs := [{ ptr := true, id := 410, t := 59, k := (.st 58), fl := [none, none, some (false, 413), some (false, 414)] }], hold := true }
@[reducible] def spec_showLine.lvL0 : Lv := { id := 0, slots := [1, 2, 5, 6], ms := [{ k := (.int .i64) }, { ptr := true, id := 620, t := 25, k := (.st 24), fl := [none, none] }, { ptr := true, id := 640, t := 59, k := (.st 58), fl := [none, none, some (false, 643), some (false, 644)] }, { k := (.int .i64) }] }
noncomputable def spec_showLine.A : Ann := { dp := fun d => isIn [] d, lp := look [(0, spec_showLine.lvL0)], jn := look [], pins := [], nt := 35 }
noncomputable def spec_showLine.phis (N : Nat) : List (Nat × Sm D) := [(37, spec_copyStore.sm N), (76, spec_showing_take.sm N)]
noncomputable def spec_showLine.a0 (N : Nat) (n : Nat) (y : Int × ImplLine × SpecShowing × Int × Unit) : Option (SpecShowing × Unit) := loopAt cx (look (spec_showLine.phis N)) spec_showLine.A N n (encL cx spec_showLine.lvL0.ms y).1 (encL cx spec_showLine.lvL0.ms y).2 (bodyOf Tryd.f38) 0 (Kfin cx spec_showLine.A spec_showLine.sg Tryd.f38.results.toList) [1, 1, 0, 1, 1] []
theorem spec_showLine.r0 (N : Nat) : ∀ (n : Nat) (y : Int × ImplLine × SpecShowing × Int × Unit), spec_showLine.a0 N n y = spec_showLine.L0 N n y
  | 0, y => by kernel_rfl
  | n + 1, y => by
    have h : spec_showLine.a0 N (n + 1) y = spec_showLine.B0 N (fun z => spec_showLine.a0 N n z) y := by kernel_rfl
    have e : (fun z => spec_showLine.a0 N n z) = spec_showLine.L0 N n := funext fun z => spec_showLine.r0 N n z
    rw [h]
    try rw [e]
    first | done | rfl
theorem spec_showLine.run (N : Nat) (x : ImplLine × Int × Unit) : runF cx (look (spec_showLine.phis N)) spec_showLine.A N (bodyOf Tryd.f38) Tryd.f38.results.toList spec_showLine.sg x = spec_showLine N x.1 x.2.1 := by
  have h : runF cx (look (spec_showLine.phis N)) spec_showLine.A N (bodyOf Tryd.f38) Tryd.f38.results.toList spec_showLine.sg x = spec_showLine.B N (fun z => spec_showLine.a0 N N z) x.1 x.2.1 := by kernel_rfl
  have e0 : (fun z => spec_showLine.a0 N N z) = spec_showLine.L0 N N := funext fun z => spec_showLine.r0 N N z
  rw [h, e0]
  try rfl
noncomputable def spec_showLine.sm (N : Nat) : Sm D := (⟨spec_showLine.sg, fun (x : ImplLine × Int × Unit) => spec_showLine N x.1 x.2.1⟩ : Sm D)
theorem spec_showLine.sound (N : Nat) : Sound cx Tryd.prog gam 38 (spec_showLine.sm N) := fn_sound (A := spec_showLine.A) (Φ := (look (spec_showLine.phis N))) pok (G := gam) (ΦOk.cons (spec_copyStore.sound N) (fnOk_of (f := 37) (by kernel_rfl)) (ΦOk.cons (spec_showing_take.sound N) (fnOk_of (f := 76) (by kernel_rfl)) ΦOk.nil)) mixed N Tryd.func38 (c := (bodyOf Tryd.f38)) (by kernel_rfl) spec_showLine.sg (by kernel_rfl) (by kernel_rfl) (by kernel_rfl) (spec_showLine.run N)

@[reducible] def spec_LineShow.sg : Sg := { ms := [{ k := (.st 24) }, { k := (.int .i64) }], keep := [false, false], rs := [{ k := (.sl (.st 70)), fl := [none] }], hold := true }
noncomputable def spec_LineShow.A : Ann := { dp := fun d => isIn [] d, lp := look [], jn := look [], pins := [], nt := 20 }
noncomputable def spec_LineShow.phis (N : Nat) : List (Nat × Sm D) := [(35, spec_validLine.sm N), (36, spec_inRange.sm N), (38, spec_showLine.sm N), (37, spec_copyStore.sm N)]
theorem spec_LineShow.run (N : Nat) (x : ImplLine × Int × Unit) : runF cx (look (spec_LineShow.phis N)) spec_LineShow.A N (bodyOf Tryd.f10) Tryd.f10.results.toList spec_LineShow.sg x = spec_LineShow N x.1 x.2.1 := by
  have h : runF cx (look (spec_LineShow.phis N)) spec_LineShow.A N (bodyOf Tryd.f10) Tryd.f10.results.toList spec_LineShow.sg x = spec_LineShow.B N x.1 x.2.1 := by kernel_rfl
  rw [h]
  try rfl
noncomputable def spec_LineShow.sm (N : Nat) : Sm D := (⟨spec_LineShow.sg, fun (x : ImplLine × Int × Unit) => spec_LineShow N x.1 x.2.1⟩ : Sm D)
theorem spec_LineShow.sound (N : Nat) : Sound cx Tryd.prog gam 10 (spec_LineShow.sm N) := fn_sound (A := spec_LineShow.A) (Φ := (look (spec_LineShow.phis N))) pok (G := gam) (ΦOk.cons (spec_validLine.sound N) (fnOk_of (f := 35) (by kernel_rfl)) (ΦOk.cons (spec_inRange.sound N) (fnOk_of (f := 36) (by kernel_rfl)) (ΦOk.cons (spec_showLine.sound N) (fnOk_of (f := 38) (by kernel_rfl)) (ΦOk.cons (spec_copyStore.sound N) (fnOk_of (f := 37) (by kernel_rfl)) ΦOk.nil)))) mixed N Tryd.func10 (c := (bodyOf Tryd.f10)) (by kernel_rfl) spec_LineShow.sg (by kernel_rfl) (by kernel_rfl) (by kernel_rfl) (spec_LineShow.run N)

@[reducible] def spec_sameValues.sg : Sg := { ms := [{ k := (.sl (.st 47)), fl := [none] }, { k := (.sl (.st 47)), fl := [none] }], keep := [false, false], rs := [{ k := .bool }] }
@[reducible] def spec_sameValues.lvL0 : Lv := { id := 0, slots := [0, 1, 5], ms := [{ k := (.sl (.st 47)), fl := [none] }, { k := (.sl (.st 47)), fl := [none] }, { k := (.int .i64) }] }
noncomputable def spec_sameValues.A : Ann := { dp := fun d => isIn [] d, lp := look [(0, spec_sameValues.lvL0)], jn := look [], pins := [], nt := 26 }
noncomputable def spec_sameValues.phis (N : Nat) : List (Nat × Sm D) := []
noncomputable def spec_sameValues.a0 (N : Nat) (n : Nat) (y : (List (ImplValue)) × (List (ImplValue)) × Int × Unit) : Option (Bool × Unit) := loopAt cx (look (spec_sameValues.phis N)) spec_sameValues.A N n (encL cx spec_sameValues.lvL0.ms y).1 (encL cx spec_sameValues.lvL0.ms y).2 (bodyOf Tryd.f74) 0 (Kfin cx spec_sameValues.A spec_sameValues.sg Tryd.f74.results.toList) [1, 1, 0, 1, 1] []
theorem spec_sameValues.r0 (N : Nat) : ∀ (n : Nat) (y : (List (ImplValue)) × (List (ImplValue)) × Int × Unit), spec_sameValues.a0 N n y = spec_sameValues.L0 N n y
  | 0, y => by kernel_rfl
  | n + 1, y => by
    have h : spec_sameValues.a0 N (n + 1) y = spec_sameValues.B0 N (fun z => spec_sameValues.a0 N n z) y := by kernel_rfl
    have e : (fun z => spec_sameValues.a0 N n z) = spec_sameValues.L0 N n := funext fun z => spec_sameValues.r0 N n z
    rw [h]
    try rw [e]
    first | done | rfl
theorem spec_sameValues.run (N : Nat) (x : (List (ImplValue)) × (List (ImplValue)) × Unit) : runF cx (look (spec_sameValues.phis N)) spec_sameValues.A N (bodyOf Tryd.f74) Tryd.f74.results.toList spec_sameValues.sg x = spec_sameValues N x.1 x.2.1 := by
  have h : runF cx (look (spec_sameValues.phis N)) spec_sameValues.A N (bodyOf Tryd.f74) Tryd.f74.results.toList spec_sameValues.sg x = spec_sameValues.B N (fun z => spec_sameValues.a0 N N z) x.1 x.2.1 := by kernel_rfl
  have e0 : (fun z => spec_sameValues.a0 N N z) = spec_sameValues.L0 N N := funext fun z => spec_sameValues.r0 N N z
  rw [h, e0]
  try rfl
noncomputable def spec_sameValues.sm (N : Nat) : Sm D := (⟨spec_sameValues.sg, fun (x : (List (ImplValue)) × (List (ImplValue)) × Unit) => spec_sameValues N x.1 x.2.1⟩ : Sm D)
theorem spec_sameValues.sound (N : Nat) : Sound cx Tryd.prog gam 74 (spec_sameValues.sm N) := fn_sound (A := spec_sameValues.A) (Φ := (look (spec_sameValues.phis N))) pok (G := gam) ΦOk.nil mixed N Tryd.func74 (c := (bodyOf Tryd.f74)) (by kernel_rfl) spec_sameValues.sg (by kernel_rfl) (by kernel_rfl) (by kernel_rfl) (spec_sameValues.run N)

@[reducible] def spec_sameStore.sg : Sg := { ms := [{ k := (.sl (.st 70)), fl := [none] }, { k := (.sl (.st 70)), fl := [none] }], keep := [false, false], rs := [{ k := .bool }] }
@[reducible] def spec_sameStore.lvL0 : Lv := { id := 0, slots := [0, 1, 5], ms := [{ k := (.sl (.st 70)), fl := [none] }, { k := (.sl (.st 70)), fl := [none] }, { k := (.int .i64) }] }
noncomputable def spec_sameStore.A : Ann := { dp := fun d => isIn [] d, lp := look [(0, spec_sameStore.lvL0)], jn := look [], pins := [], nt := 43 }
noncomputable def spec_sameStore.phis (N : Nat) : List (Nat × Sm D) := [(73, spec_comparePlaces.sm N), (74, spec_sameValues.sm N)]
noncomputable def spec_sameStore.a0 (N : Nat) (n : Nat) (y : (List (ImplCell)) × (List (ImplCell)) × Int × Unit) : Option (Bool × Unit) := loopAt cx (look (spec_sameStore.phis N)) spec_sameStore.A N n (encL cx spec_sameStore.lvL0.ms y).1 (encL cx spec_sameStore.lvL0.ms y).2 (bodyOf Tryd.f34) 0 (Kfin cx spec_sameStore.A spec_sameStore.sg Tryd.f34.results.toList) [1, 1, 0, 1, 1] []
theorem spec_sameStore.r0 (N : Nat) : ∀ (n : Nat) (y : (List (ImplCell)) × (List (ImplCell)) × Int × Unit), spec_sameStore.a0 N n y = spec_sameStore.L0 N n y
  | 0, y => by kernel_rfl
  | n + 1, y => by
    have h : spec_sameStore.a0 N (n + 1) y = spec_sameStore.B0 N (fun z => spec_sameStore.a0 N n z) y := by kernel_rfl
    have e : (fun z => spec_sameStore.a0 N n z) = spec_sameStore.L0 N n := funext fun z => spec_sameStore.r0 N n z
    rw [h]
    try rw [e]
    first | done | rfl
theorem spec_sameStore.run (N : Nat) (x : (List (ImplCell)) × (List (ImplCell)) × Unit) : runF cx (look (spec_sameStore.phis N)) spec_sameStore.A N (bodyOf Tryd.f34) Tryd.f34.results.toList spec_sameStore.sg x = spec_sameStore N x.1 x.2.1 := by
  have h : runF cx (look (spec_sameStore.phis N)) spec_sameStore.A N (bodyOf Tryd.f34) Tryd.f34.results.toList spec_sameStore.sg x = spec_sameStore.B N (fun z => spec_sameStore.a0 N N z) x.1 x.2.1 := by kernel_rfl
  have e0 : (fun z => spec_sameStore.a0 N N z) = spec_sameStore.L0 N N := funext fun z => spec_sameStore.r0 N N z
  rw [h, e0]
  try rfl
noncomputable def spec_sameStore.sm (N : Nat) : Sm D := (⟨spec_sameStore.sg, fun (x : (List (ImplCell)) × (List (ImplCell)) × Unit) => spec_sameStore N x.1 x.2.1⟩ : Sm D)
theorem spec_sameStore.sound (N : Nat) : Sound cx Tryd.prog gam 34 (spec_sameStore.sm N) := fn_sound (A := spec_sameStore.A) (Φ := (look (spec_sameStore.phis N))) pok (G := gam) (ΦOk.cons (spec_comparePlaces.sound N) (fnOk_of (f := 73) (by kernel_rfl)) (ΦOk.cons (spec_sameValues.sound N) (fnOk_of (f := 74) (by kernel_rfl)) ΦOk.nil)) mixed N Tryd.func34 (c := (bodyOf Tryd.f34)) (by kernel_rfl) spec_sameStore.sg (by kernel_rfl) (by kernel_rfl) (by kernel_rfl) (spec_sameStore.run N)

@[reducible] def spec_SameStore.sg : Sg := { ms := [{ k := (.sl (.st 70)), fl := [none] }, { k := (.sl (.st 70)), fl := [none] }], keep := [false, false], rs := [{ k := .bool }] }
noncomputable def spec_SameStore.A : Ann := { dp := fun d => isIn [] d, lp := look [], jn := look [], pins := [], nt := 8 }
noncomputable def spec_SameStore.phis (N : Nat) : List (Nat × Sm D) := [(34, spec_sameStore.sm N)]
theorem spec_SameStore.run (N : Nat) (x : (List (ImplCell)) × (List (ImplCell)) × Unit) : runF cx (look (spec_SameStore.phis N)) spec_SameStore.A N (bodyOf Tryd.f9) Tryd.f9.results.toList spec_SameStore.sg x = spec_SameStore N x.1 x.2.1 := by
  have h : runF cx (look (spec_SameStore.phis N)) spec_SameStore.A N (bodyOf Tryd.f9) Tryd.f9.results.toList spec_SameStore.sg x = spec_SameStore.B N x.1 x.2.1 := by kernel_rfl
  rw [h]
  try rfl
noncomputable def spec_SameStore.sm (N : Nat) : Sm D := (⟨spec_SameStore.sg, fun (x : (List (ImplCell)) × (List (ImplCell)) × Unit) => spec_SameStore N x.1 x.2.1⟩ : Sm D)
theorem spec_SameStore.sound (N : Nat) : Sound cx Tryd.prog gam 9 (spec_SameStore.sm N) := fn_sound (A := spec_SameStore.A) (Φ := (look (spec_SameStore.phis N))) pok (G := gam) (ΦOk.cons (spec_sameStore.sound N) (fnOk_of (f := 34) (by kernel_rfl)) ΦOk.nil) mixed N Tryd.func9 (c := (bodyOf Tryd.f9)) (by kernel_rfl) spec_SameStore.sg (by kernel_rfl) (by kernel_rfl) (by kernel_rfl) (spec_SameStore.run N)

@[reducible] def spec_LineOk.sg : Sg := { ms := [{ k := (.st 24) }], keep := [false], rs := [{ k := .bool }] }
noncomputable def spec_LineOk.A : Ann := { dp := fun d => isIn [] d, lp := look [], jn := look [], pins := [], nt := 5 }
noncomputable def spec_LineOk.phis (N : Nat) : List (Nat × Sm D) := [(35, spec_validLine.sm N)]
theorem spec_LineOk.run (N : Nat) (x : ImplLine × Unit) : runF cx (look (spec_LineOk.phis N)) spec_LineOk.A N (bodyOf Tryd.f12) Tryd.f12.results.toList spec_LineOk.sg x = spec_LineOk N x.1 := by
  have h : runF cx (look (spec_LineOk.phis N)) spec_LineOk.A N (bodyOf Tryd.f12) Tryd.f12.results.toList spec_LineOk.sg x = spec_LineOk.B N x.1 := by kernel_rfl
  rw [h]
  try rfl
noncomputable def spec_LineOk.sm (N : Nat) : Sm D := (⟨spec_LineOk.sg, fun (x : ImplLine × Unit) => spec_LineOk N x.1⟩ : Sm D)
theorem spec_LineOk.sound (N : Nat) : Sound cx Tryd.prog gam 12 (spec_LineOk.sm N) := fn_sound (A := spec_LineOk.A) (Φ := (look (spec_LineOk.phis N))) pok (G := gam) (ΦOk.cons (spec_validLine.sound N) (fnOk_of (f := 35) (by kernel_rfl)) ΦOk.nil) mixed N Tryd.func12 (c := (bodyOf Tryd.f12)) (by kernel_rfl) spec_LineOk.sg (by kernel_rfl) (by kernel_rfl) (by kernel_rfl) (spec_LineOk.run N)

@[reducible] def impl_formCopy.sg : Sg := { ms := [{ k := (.sl (.st 81)), fl := [none] }], keep := [false], rs := [{ k := (.sl (.st 81)), fl := [none] }], hold := true }
noncomputable def impl_formCopy.A : Ann := { dp := fun d => isIn [] d, lp := look [], jn := look [], pins := [], nt := 5 }
noncomputable def impl_formCopy.phis (N : Nat) : List (Nat × Sm D) := []
theorem impl_formCopy.run (N : Nat) (x : (List (ImplStep)) × Unit) : runF cx (look (impl_formCopy.phis N)) impl_formCopy.A N (bodyOf Tryd.f107) Tryd.f107.results.toList impl_formCopy.sg x = impl_formCopy N x.1 := by
  have h : runF cx (look (impl_formCopy.phis N)) impl_formCopy.A N (bodyOf Tryd.f107) Tryd.f107.results.toList impl_formCopy.sg x = impl_formCopy.B N x.1 := by kernel_rfl
  rw [h]
  try rfl
noncomputable def impl_formCopy.sm (N : Nat) : Sm D := (⟨impl_formCopy.sg, fun (x : (List (ImplStep)) × Unit) => impl_formCopy N x.1⟩ : Sm D)
theorem impl_formCopy.sound (N : Nat) : Sound cx Tryd.prog gam 107 (impl_formCopy.sm N) := fn_sound (A := impl_formCopy.A) (Φ := (look (impl_formCopy.phis N))) pok (G := gam) ΦOk.nil mixed N Tryd.func107 (c := (bodyOf Tryd.f107)) (by kernel_rfl) impl_formCopy.sg (by kernel_rfl) (by kernel_rfl) (by kernel_rfl) (impl_formCopy.run N)

@[reducible] def impl_updateCopy.sg : Sg := { ms := [{ k := (.st 86) }], keep := [false], rs := [{ k := (.st 86) }], hold := true }
noncomputable def impl_updateCopy.A : Ann := { dp := fun d => isIn [] d, lp := look [], jn := look [], pins := [], nt := 12 }
noncomputable def impl_updateCopy.phis (N : Nat) : List (Nat × Sm D) := [(106, impl_placeCopy.sm N), (107, impl_formCopy.sm N)]
theorem impl_updateCopy.run (N : Nat) (x : ImplUpdate × Unit) : runF cx (look (impl_updateCopy.phis N)) impl_updateCopy.A N (bodyOf Tryd.f78) Tryd.f78.results.toList impl_updateCopy.sg x = impl_updateCopy N x.1 := by
  have h : runF cx (look (impl_updateCopy.phis N)) impl_updateCopy.A N (bodyOf Tryd.f78) Tryd.f78.results.toList impl_updateCopy.sg x = impl_updateCopy.B N x.1 := by kernel_rfl
  rw [h]
  try rfl
noncomputable def impl_updateCopy.sm (N : Nat) : Sm D := (⟨impl_updateCopy.sg, fun (x : ImplUpdate × Unit) => impl_updateCopy N x.1⟩ : Sm D)
theorem impl_updateCopy.sound (N : Nat) : Sound cx Tryd.prog gam 78 (impl_updateCopy.sm N) := fn_sound (A := impl_updateCopy.A) (Φ := (look (impl_updateCopy.phis N))) pok (G := gam) (ΦOk.cons (impl_placeCopy.sound N) (fnOk_of (f := 106) (by kernel_rfl)) (ΦOk.cons (impl_formCopy.sound N) (fnOk_of (f := 107) (by kernel_rfl)) ΦOk.nil)) mixed N Tryd.func78 (c := (bodyOf Tryd.f78)) (by kernel_rfl) impl_updateCopy.sg (by kernel_rfl) (by kernel_rfl) (by kernel_rfl) (impl_updateCopy.run N)

end
end Go.Ev
