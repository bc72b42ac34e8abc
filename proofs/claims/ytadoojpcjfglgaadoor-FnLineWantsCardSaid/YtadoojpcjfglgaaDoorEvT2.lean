/- Each function that the law reaches does what its plain form says; no condition beyond the table of the library. -/
import Derived.Test.YtadoojpcjfglgaaDoorEvT1
set_option linter.all false
set_option linter.unusedVariables false
set_option linter.unusedSimpArgs false
set_option maxRecDepth 100000
set_option maxHeartbeats 0
namespace Go.Ev
noncomputable section
open Go.Proofs
@[reducible] def spec_number.sg : Sg := { ms := [{ k := (.int .i64) }], keep := [false], rs := [{ k := (.st 47) }] }
noncomputable def spec_number.A : Ann := { dp := fun d => isIn [] d, lp := look [], jn := look [], pins := [], nt := 9 }
noncomputable def spec_number.phis (N : Nat) : List (Nat × Sm D) := [(36, spec_inRange.sm N)]
theorem spec_number.run (N : Nat) (x : Int × Unit) : runF cx (look (spec_number.phis N)) spec_number.A N (bodyOf Tryd.f119) Tryd.f119.results.toList spec_number.sg x = spec_number N x.1 := by
  have h : runF cx (look (spec_number.phis N)) spec_number.A N (bodyOf Tryd.f119) Tryd.f119.results.toList spec_number.sg x = spec_number.B N x.1 := by kernel_rfl
  rw [h]
  try rfl
noncomputable def spec_number.sm (N : Nat) : Sm D := (⟨spec_number.sg, fun (x : Int × Unit) => spec_number N x.1⟩ : Sm D)
theorem spec_number.sound (N : Nat) : Sound cx Tryd.prog gam 119 (spec_number.sm N) := fn_sound (A := spec_number.A) (Φ := (look (spec_number.phis N))) pok (G := gam) (ΦOk.cons (spec_inRange.sound N) (fnOk_of (f := 36) (by kernel_rfl)) ΦOk.nil) mixed N Tryd.func119 (c := (bodyOf Tryd.f119)) (by kernel_rfl) spec_number.sg (by kernel_rfl) (by kernel_rfl) (by kernel_rfl) (spec_number.run N)

@[reducible] def spec_boolean.sg : Sg := { ms := [{ k := .bool }], keep := [false], rs := [{ k := (.st 47) }] }
noncomputable def spec_boolean.A : Ann := { dp := fun d => isIn [] d, lp := look [], jn := look [], pins := [], nt := 6 }
noncomputable def spec_boolean.phis (N : Nat) : List (Nat × Sm D) := [(119, spec_number.sm N)]
theorem spec_boolean.run (N : Nat) (x : Bool × Unit) : runF cx (look (spec_boolean.phis N)) spec_boolean.A N (bodyOf Tryd.f116) Tryd.f116.results.toList spec_boolean.sg x = spec_boolean N x.1 := by
  have h : runF cx (look (spec_boolean.phis N)) spec_boolean.A N (bodyOf Tryd.f116) Tryd.f116.results.toList spec_boolean.sg x = spec_boolean.B N x.1 := by kernel_rfl
  rw [h]
  try rfl
noncomputable def spec_boolean.sm (N : Nat) : Sm D := (⟨spec_boolean.sg, fun (x : Bool × Unit) => spec_boolean N x.1⟩ : Sm D)
theorem spec_boolean.sound (N : Nat) : Sound cx Tryd.prog gam 116 (spec_boolean.sm N) := fn_sound (A := spec_boolean.A) (Φ := (look (spec_boolean.phis N))) pok (G := gam) (ΦOk.cons (spec_number.sound N) (fnOk_of (f := 119) (by kernel_rfl)) ΦOk.nil) mixed N Tryd.func116 (c := (bodyOf Tryd.f116)) (by kernel_rfl) spec_boolean.sg (by kernel_rfl) (by kernel_rfl) (by kernel_rfl) (spec_boolean.run N)

@[reducible] def spec_truth.sg : Sg := { ms := [{ k := (.st 47) }], keep := [false], rs := [{ k := .bool }] }
noncomputable def spec_truth.A : Ann := { dp := fun d => isIn [] d, lp := look [], jn := look [], pins := [], nt := 11 }
noncomputable def spec_truth.phis (N : Nat) : List (Nat × Sm D) := []
theorem spec_truth.run (N : Nat) (x : ImplValue × Unit) : runF cx (look (spec_truth.phis N)) spec_truth.A N (bodyOf Tryd.f98) Tryd.f98.results.toList spec_truth.sg x = spec_truth N x.1 := by
  have h : runF cx (look (spec_truth.phis N)) spec_truth.A N (bodyOf Tryd.f98) Tryd.f98.results.toList spec_truth.sg x = spec_truth.B N x.1 := by kernel_rfl
  rw [h]
  try rfl
noncomputable def spec_truth.sm (N : Nat) : Sm D := (⟨spec_truth.sg, fun (x : ImplValue × Unit) => spec_truth N x.1⟩ : Sm D)
theorem spec_truth.sound (N : Nat) : Sound cx Tryd.prog gam 98 (spec_truth.sm N) := fn_sound (A := spec_truth.A) (Φ := (look (spec_truth.phis N))) pok (G := gam) ΦOk.nil mixed N Tryd.func98 (c := (bodyOf Tryd.f98)) (by kernel_rfl) spec_truth.sg (by kernel_rfl) (by kernel_rfl) (by kernel_rfl) (spec_truth.run N)

@[reducible] def spec_decimal.sg : Sg := { ms := [{ k := (.int .i64) }], keep := [false], rs := [{ k := .str }] }
noncomputable def spec_decimal.A : Ann := { dp := fun d => isIn [] d, lp := look [], jn := look [], pins := [], nt := 22 }
noncomputable def spec_decimal.phis (N : Nat) (d : Nat) : List (Nat × Sm D) := [(135, (⟨spec_decimal.sg, fun (x : Int × Unit) => spec_decimal.R N d x.1⟩ : Sm D))]
theorem spec_decimal.run (N : Nat) (d : Nat) (x : Int × Unit) : runF cx (look (spec_decimal.phis N d)) spec_decimal.A N (bodyOf Tryd.f135) Tryd.f135.results.toList spec_decimal.sg x = spec_decimal.R N (d + 1) x.1 := by
  have h : runF cx (look (spec_decimal.phis N d)) spec_decimal.A N (bodyOf Tryd.f135) Tryd.f135.results.toList spec_decimal.sg x = spec_decimal.B N (spec_decimal.R N d) x.1 := by kernel_rfl
  rw [h]
  try rfl
theorem spec_decimal.step (N : Nat) (d : Nat) (h_spec_decimal : Sound cx Tryd.prog gam 135 (⟨spec_decimal.sg, fun (x : Int × Unit) => spec_decimal.R N d x.1⟩ : Sm D)) : Sound cx Tryd.prog gam 135 (⟨spec_decimal.sg, fun (x : Int × Unit) => spec_decimal.R N (d + 1) x.1⟩ : Sm D) := fn_sound (A := spec_decimal.A) (Φ := (look (spec_decimal.phis N d))) pok (G := gam) (ΦOk.cons h_spec_decimal (fnOk_of (f := 135) (by kernel_rfl)) ΦOk.nil) mixed N Tryd.func135 (c := (bodyOf Tryd.f135)) (by kernel_rfl) spec_decimal.sg (by kernel_rfl) (by kernel_rfl) (by kernel_rfl) (spec_decimal.run N d)

theorem spec_decimal.scc (N : Nat) : ∀ d, Sound cx Tryd.prog gam 135 (⟨spec_decimal.sg, fun (x : Int × Unit) => spec_decimal.R N d x.1⟩ : Sm D)
  | 0 => none_sound 135 spec_decimal.sg
  | d + 1 => by
    have ih := spec_decimal.scc N d
    exact spec_decimal.step N d ih
noncomputable def spec_decimal.sm (N : Nat) : Sm D := (⟨spec_decimal.sg, fun (x : Int × Unit) => spec_decimal.R N N x.1⟩ : Sm D)
theorem spec_decimal.sound (N : Nat) : Sound cx Tryd.prog gam 135 (spec_decimal.sm N) := (spec_decimal.scc N N)
@[reducible] def spec_show.sg : Sg := { ms := [{ k := (.st 47) }], keep := [false], rs := [{ k := .str }] }
noncomputable def spec_show.A : Ann := { dp := fun d => isIn [] d, lp := look [], jn := look [], pins := [], nt := 14 }
noncomputable def spec_show.phis (N : Nat) : List (Nat × Sm D) := [(135, spec_decimal.sm N)]
theorem spec_show.run (N : Nat) (x : ImplValue × Unit) : runF cx (look (spec_show.phis N)) spec_show.A N (bodyOf Tryd.f117) Tryd.f117.results.toList spec_show.sg x = spec_show N x.1 := by
  have h : runF cx (look (spec_show.phis N)) spec_show.A N (bodyOf Tryd.f117) Tryd.f117.results.toList spec_show.sg x = spec_show.B N x.1 := by kernel_rfl
  rw [h]
  try rfl
noncomputable def spec_show.sm (N : Nat) : Sm D := (⟨spec_show.sg, fun (x : ImplValue × Unit) => spec_show N x.1⟩ : Sm D)
theorem spec_show.sound (N : Nat) : Sound cx Tryd.prog gam 117 (spec_show.sm N) := fn_sound (A := spec_show.A) (Φ := (look (spec_show.phis N))) pok (G := gam) (ΦOk.cons (spec_decimal.sound N) (fnOk_of (f := 135) (by kernel_rfl)) ΦOk.nil) mixed N Tryd.func117 (c := (bodyOf Tryd.f117)) (by kernel_rfl) spec_show.sg (by kernel_rfl) (by kernel_rfl) (by kernel_rfl) (spec_show.run N)

@[reducible] def spec_do.sg : Sg := { ms := [{ k := (.int .i64) }, { k := (.st 47) }, { k := (.st 47) }], keep := [false, false, false], rs := [{ k := (.st 47) }] }
noncomputable def spec_do.A : Ann := { dp := fun d => isIn [] d, lp := look [], jn := look [], pins := [], nt := 82 }
noncomputable def spec_do.phis (N : Nat) : List (Nat × Sm D) := [(116, spec_boolean.sm N), (98, spec_truth.sm N), (117, spec_show.sm N), (118, spec_validWord.sm N), (119, spec_number.sm N)]
theorem spec_do.run (N : Nat) (x : Int × ImplValue × ImplValue × Unit) : runF cx (look (spec_do.phis N)) spec_do.A N (bodyOf Tryd.f97) Tryd.f97.results.toList spec_do.sg x = spec_do N x.1 x.2.1 x.2.2.1 := by
  have h : runF cx (look (spec_do.phis N)) spec_do.A N (bodyOf Tryd.f97) Tryd.f97.results.toList spec_do.sg x = spec_do.B N x.1 x.2.1 x.2.2.1 := by kernel_rfl
  rw [h]
  try rfl
noncomputable def spec_do.sm (N : Nat) : Sm D := (⟨spec_do.sg, fun (x : Int × ImplValue × ImplValue × Unit) => spec_do N x.1 x.2.1 x.2.2.1⟩ : Sm D)
theorem spec_do.sound (N : Nat) : Sound cx Tryd.prog gam 97 (spec_do.sm N) := fn_sound (A := spec_do.A) (Φ := (look (spec_do.phis N))) pok (G := gam) (ΦOk.cons (spec_boolean.sound N) (fnOk_of (f := 116) (by kernel_rfl)) (ΦOk.cons (spec_truth.sound N) (fnOk_of (f := 98) (by kernel_rfl)) (ΦOk.cons (spec_show.sound N) (fnOk_of (f := 117) (by kernel_rfl)) (ΦOk.cons (spec_validWord.sound N) (fnOk_of (f := 118) (by kernel_rfl)) (ΦOk.cons (spec_number.sound N) (fnOk_of (f := 119) (by kernel_rfl)) ΦOk.nil))))) mixed N Tryd.func97 (c := (bodyOf Tryd.f97)) (by kernel_rfl) spec_do.sg (by kernel_rfl) (by kernel_rfl) (by kernel_rfl) (spec_do.run N)

@[reducible] def spec_told.sg : Sg := { ms := [{ k := (.st 81) }, { k := (.st 43) }], keep := [false, false], rs := [{ k := (.st 47) }] }
noncomputable def spec_told.A : Ann := { dp := fun d => isIn [] d, lp := look [], jn := look [], pins := [], nt := 47 }
noncomputable def spec_told.phis (N : Nat) : List (Nat × Sm D) := [(119, spec_number.sm N)]
theorem spec_told.run (N : Nat) (x : ImplStep × ImplEnv × Unit) : runF cx (look (spec_told.phis N)) spec_told.A N (bodyOf Tryd.f99) Tryd.f99.results.toList spec_told.sg x = spec_told N x.1 x.2.1 := by
  have h : runF cx (look (spec_told.phis N)) spec_told.A N (bodyOf Tryd.f99) Tryd.f99.results.toList spec_told.sg x = spec_told.B N x.1 x.2.1 := by kernel_rfl
  rw [h]
  try rfl
noncomputable def spec_told.sm (N : Nat) : Sm D := (⟨spec_told.sg, fun (x : ImplStep × ImplEnv × Unit) => spec_told N x.1 x.2.1⟩ : Sm D)
theorem spec_told.sound (N : Nat) : Sound cx Tryd.prog gam 99 (spec_told.sm N) := fn_sound (A := spec_told.A) (Φ := (look (spec_told.phis N))) pok (G := gam) (ΦOk.cons (spec_number.sound N) (fnOk_of (f := 119) (by kernel_rfl)) ΦOk.nil) mixed N Tryd.func99 (c := (bodyOf Tryd.f99)) (by kernel_rfl) spec_told.sg (by kernel_rfl) (by kernel_rfl) (by kernel_rfl) (spec_told.run N)

@[reducible] def spec_eval.sg : Sg := { ms := [{ k := (.sl (.st 81)), fl := [none] }, { k := (.st 43) }], keep := [false, false], rs := [{ k := (.st 47) }] }
@[reducible] def spec_eval.lvJ15 : Lv := { id := 15, slots := [0, 3, 4, 5, 6, 7, 8], ms := [{ k := (.sl (.st 81)), fl := [none] }, { ptr := true, id := 620, t := 44, k := (.st 43), fl := [none, none, none, none] }, { ptr := true, id := 640, t := 48, k := (.st 47), fl := [none, none, none] }, { k := (.sl (.st 47)), fl := [some (false, 660)] }, { k := (.int .i64) }, { k := (.int .i64) }, { ptr := true, id := 720, t := 48, k := (.st 47), fl := [none, none, none] }] }
@[reducible] def spec_eval.lvL0 : Lv := { id := 0, slots := [0, 3, 4, 5, 6], ms := [{ k := (.sl (.st 81)), fl := [none] }, { ptr := true, id := 620, t := 44, k := (.st 43), fl := [none, none, none, none] }, { ptr := true, id := 640, t := 48, k := (.st 47), fl := [none, none, none] }, { k := (.sl (.st 47)), fl := [some (false, 660)] }, { k := (.int .i64) }] }
noncomputable def spec_eval.A : Ann := { dp := fun d => isIn [] d, lp := look [(0, spec_eval.lvL0)], jn := look [(15, spec_eval.lvJ15)], pins := [], nt := 79 }
noncomputable def spec_eval.phis (N : Nat) : List (Nat × Sm D) := [(96, spec_takes.sm N), (97, spec_do.sm N), (98, spec_truth.sm N), (99, spec_told.sm N)]
noncomputable def spec_eval.a0 (N : Nat) (n : Nat) (y : (List (ImplStep)) × ImplEnv × ImplValue × (List (ImplValue)) × Int × Unit) : Option (ImplValue × Unit) := loopAt cx (look (spec_eval.phis N)) spec_eval.A N n (encL cx spec_eval.lvL0.ms y).1 (encL cx spec_eval.lvL0.ms y).2 (bodyOf Tryd.f64) 0 (Kfin cx spec_eval.A spec_eval.sg Tryd.f64.results.toList) [1, 1, 0, 1, 1] []
theorem spec_eval.r0 (N : Nat) : ∀ (n : Nat) (y : (List (ImplStep)) × ImplEnv × ImplValue × (List (ImplValue)) × Int × Unit), spec_eval.a0 N n y = spec_eval.L0 N n y
  | 0, y => by kernel_rfl
  | n + 1, y => by
    have h : spec_eval.a0 N (n + 1) y = spec_eval.B0 N (fun z => spec_eval.a0 N n z) y := by kernel_rfl
    have e : (fun z => spec_eval.a0 N n z) = spec_eval.L0 N n := funext fun z => spec_eval.r0 N n z
    rw [h]
    try rw [e]
    first | done | rfl
theorem spec_eval.run (N : Nat) (x : (List (ImplStep)) × ImplEnv × Unit) : runF cx (look (spec_eval.phis N)) spec_eval.A N (bodyOf Tryd.f64) Tryd.f64.results.toList spec_eval.sg x = spec_eval N x.1 x.2.1 := by
  have h : runF cx (look (spec_eval.phis N)) spec_eval.A N (bodyOf Tryd.f64) Tryd.f64.results.toList spec_eval.sg x = spec_eval.B N (fun z => spec_eval.a0 N N z) x.1 x.2.1 := by kernel_rfl
  have e0 : (fun z => spec_eval.a0 N N z) = spec_eval.L0 N N := funext fun z => spec_eval.r0 N N z
  rw [h, e0]
  try rfl
noncomputable def spec_eval.sm (N : Nat) : Sm D := (⟨spec_eval.sg, fun (x : (List (ImplStep)) × ImplEnv × Unit) => spec_eval N x.1 x.2.1⟩ : Sm D)
theorem spec_eval.sound (N : Nat) : Sound cx Tryd.prog gam 64 (spec_eval.sm N) := fn_sound (A := spec_eval.A) (Φ := (look (spec_eval.phis N))) pok (G := gam) (ΦOk.cons (spec_takes.sound N) (fnOk_of (f := 96) (by kernel_rfl)) (ΦOk.cons (spec_do.sound N) (fnOk_of (f := 97) (by kernel_rfl)) (ΦOk.cons (spec_truth.sound N) (fnOk_of (f := 98) (by kernel_rfl)) (ΦOk.cons (spec_told.sound N) (fnOk_of (f := 99) (by kernel_rfl)) ΦOk.nil)))) mixed N Tryd.func64 (c := (bodyOf Tryd.f64)) (by kernel_rfl) spec_eval.sg (by kernel_rfl) (by kernel_rfl) (by kernel_rfl) (spec_eval.run N)

@[reducible] def spec_updated.sg : Sg := { ms := [{ k := (.sl (.st 47)), fl := [none] }, { k := (.st 86) }], keep := [false, false], rs := [{ k := (.sl (.st 47)), fl := [none] }], hold := true }
noncomputable def spec_updated.A : Ann := { dp := fun d => isIn [] d, lp := look [], jn := look [], pins := [], nt := 23 }
noncomputable def spec_updated.phis (N : Nat) : List (Nat × Sm D) := [(132, spec_applies.sm N), (64, spec_eval.sm N)]
theorem spec_updated.run (N : Nat) (x : (List (ImplValue)) × ImplUpdate × Unit) : runF cx (look (spec_updated.phis N)) spec_updated.A N (bodyOf Tryd.f112) Tryd.f112.results.toList spec_updated.sg x = spec_updated N x.1 x.2.1 := by
  have h : runF cx (look (spec_updated.phis N)) spec_updated.A N (bodyOf Tryd.f112) Tryd.f112.results.toList spec_updated.sg x = spec_updated.B N x.1 x.2.1 := by kernel_rfl
  rw [h]
  try rfl
noncomputable def spec_updated.sm (N : Nat) : Sm D := (⟨spec_updated.sg, fun (x : (List (ImplValue)) × ImplUpdate × Unit) => spec_updated N x.1 x.2.1⟩ : Sm D)
theorem spec_updated.sound (N : Nat) : Sound cx Tryd.prog gam 112 (spec_updated.sm N) := fn_sound (A := spec_updated.A) (Φ := (look (spec_updated.phis N))) pok (G := gam) (ΦOk.cons (spec_applies.sound N) (fnOk_of (f := 132) (by kernel_rfl)) (ΦOk.cons (spec_eval.sound N) (fnOk_of (f := 64) (by kernel_rfl)) ΦOk.nil)) mixed N Tryd.func112 (c := (bodyOf Tryd.f112)) (by kernel_rfl) spec_updated.sg (by kernel_rfl) (by kernel_rfl) (by kernel_rfl) (spec_updated.run N)

@[reducible] def spec_storeUpdated.sg : Sg := { ms := [{ k := (.sl (.st 70)), fl := [none] }, { k := (.st 86) }], keep := [false, false], rs := [{ k := (.sl (.st 70)), fl := [none] }], hold := true }
noncomputable def spec_storeUpdated.A : Ann := { dp := fun d => isIn [] d, lp := look [], jn := look [], pins := [], nt := 30 }
noncomputable def spec_storeUpdated.phis (N : Nat) : List (Nat × Sm D) := [(37, spec_copyStore.sm N), (105, spec_cellAt.sm N), (112, spec_updated.sm N)]
theorem spec_storeUpdated.run (N : Nat) (x : (List (ImplCell)) × ImplUpdate × Unit) : runF cx (look (spec_storeUpdated.phis N)) spec_storeUpdated.A N (bodyOf Tryd.f88) Tryd.f88.results.toList spec_storeUpdated.sg x = spec_storeUpdated N x.1 x.2.1 := by
  have h : runF cx (look (spec_storeUpdated.phis N)) spec_storeUpdated.A N (bodyOf Tryd.f88) Tryd.f88.results.toList spec_storeUpdated.sg x = spec_storeUpdated.B N x.1 x.2.1 := by kernel_rfl
  rw [h]
  try rfl
noncomputable def spec_storeUpdated.sm (N : Nat) : Sm D := (⟨spec_storeUpdated.sg, fun (x : (List (ImplCell)) × ImplUpdate × Unit) => spec_storeUpdated N x.1 x.2.1⟩ : Sm D)
theorem spec_storeUpdated.sound (N : Nat) : Sound cx Tryd.prog gam 88 (spec_storeUpdated.sm N) := fn_sound (A := spec_storeUpdated.A) (Φ := (look (spec_storeUpdated.phis N))) pok (G := gam) (ΦOk.cons (spec_copyStore.sound N) (fnOk_of (f := 37) (by kernel_rfl)) (ΦOk.cons (spec_cellAt.sound N) (fnOk_of (f := 105) (by kernel_rfl)) (ΦOk.cons (spec_updated.sound N) (fnOk_of (f := 112) (by kernel_rfl)) ΦOk.nil))) mixed N Tryd.func88 (c := (bodyOf Tryd.f88)) (by kernel_rfl) spec_storeUpdated.sg (by kernel_rfl) (by kernel_rfl) (by kernel_rfl) (spec_storeUpdated.run N)

@[reducible] def spec_showing_take.sg : Sg := { ms := [{ ptr := true, id := 10, t := 59, k := (.st 58), fl := [none, none, some (false, 13), some (false, 14)] }, { k := (.st 86) }, { k := (.int .i64) }], keep := [true, false, false], rs := [], hold := true }
@[reducible] def spec_showing_take.lvJ5 : Lv := { id := 5, slots := [0, 4], ms := [{ ptr := true, id := 10, t := 59, k := (.st 58), fl := [none, none, some (false, 603), some (false, 604)] }, { ptr := true, id := 620, t := 87, k := (.st 86), fl := [none, none, none, none] }] }
noncomputable def spec_showing_take.A : Ann := { dp := fun d => isIn [] d, lp := look [], jn := look [(5, spec_showing_take.lvJ5)], pins := [10], nt := 83 }
noncomputable def spec_showing_take.phis (N : Nat) : List (Nat × Sm D) := [(105, spec_cellAt.sm N), (89, spec_inLanes.sm N), (81, spec_copyUpdate.sm N), (88, spec_storeUpdated.sm N)]
theorem spec_showing_take.run (N : Nat) (x : SpecShowing × ImplUpdate × Int × Unit) : runF cx (look (spec_showing_take.phis N)) spec_showing_take.A N (bodyOf Tryd.f76) Tryd.f76.results.toList spec_showing_take.sg x = spec_showing_take N x.1 x.2.1 x.2.2.1 := by
  have h : runF cx (look (spec_showing_take.phis N)) spec_showing_take.A N (bodyOf Tryd.f76) Tryd.f76.results.toList spec_showing_take.sg x = spec_showing_take.B N x.1 x.2.1 x.2.2.1 := by kernel_rfl
  rw [h]
  try rfl
noncomputable def spec_showing_take.sm (N : Nat) : Sm D := (⟨spec_showing_take.sg, fun (x : SpecShowing × ImplUpdate × Int × Unit) => spec_showing_take N x.1 x.2.1 x.2.2.1⟩ : Sm D)
theorem spec_showing_take.sound (N : Nat) : Sound cx Tryd.prog gam 76 (spec_showing_take.sm N) := fn_sound (A := spec_showing_take.A) (Φ := (look (spec_showing_take.phis N))) pok (G := gam) (ΦOk.cons (spec_cellAt.sound N) (fnOk_of (f := 105) (by kernel_rfl)) (ΦOk.cons (spec_inLanes.sound N) (fnOk_of (f := 89) (by kernel_rfl)) (ΦOk.cons (spec_copyUpdate.sound N) (fnOk_of (f := 81) (by kernel_rfl)) (ΦOk.cons (spec_storeUpdated.sound N) (fnOk_of (f := 88) (by kernel_rfl)) ΦOk.nil)))) mixed N Tryd.func76 (c := (bodyOf Tryd.f76)) (by kernel_rfl) spec_showing_take.sg (by kernel_rfl) (by kernel_rfl) (by kernel_rfl) (spec_showing_take.run N)

@[reducible] def spec_showLine.sg : Sg := { ms := [{ k := (.st 24) }, { k := (.int .i64) }], keep := [false, false], rs := [{ ptr := true, id := 410, t := 59, k := (.st 58), fl := [none, none, some (false, 413), some (false, 414)] }], hold := true }
@[reducible] def spec_showLine.lvL0 : Lv := { id := 0, slots := [1, 2, 5, 6], ms := [{ k := (.int .i64) }, { ptr := true, id := 620, t := 25, k := (.st 24), fl := [none, none] }, { ptr := true, id := 640, t := 59, k := (.st 58), fl := [none, none, some (false, 643), some (false, 644)] }, { k := (.int .i64) }] }
noncomputable def spec_showLine.A : Ann := { dp := fun d => isIn [] d, lp := look [(0, spec_showLine.lvL0)], jn := look [], pins := [], nt := 35 }
noncomputable def spec_showLine.phis (N : Nat) : List (Nat × Sm D) := [(37, spec_copyStore.sm N), (76, spec_showing_take.sm N)]
noncomputable def spec_showLine.a0 (N : Nat) (n : Nat) (y : Int × ImplLine × SpecShowing × Int × Unit) : Option (SpecShowing × Unit) := loopAt cx (look (spec_showLine.phis N)) spec_showLine.A N n (encL cx spec_showLine.lvL0.ms y).1 (encL cx spec_showLine.lvL0.ms y).2 (bodyOf Tryd.f38) 0 (Kfin cx spec_showLine.A spec_showLine.sg Tryd.f38.results.toList) [1, 1, 0, 1, 1] []
theorem spec_showLine.r0 (N : Nat) : ∀ (n : Nat) (y : Int × ImplLine × SpecShowing × Int × Unit), spec_showLine.a0 N n y = spec_showLine.L0 N n y
  | 0, y => by kernel_rfl
  | n + 1, y => by
    have h : spec_showLine.a0 N (n + 1) y = spec_showLine.B0 N (fun z => spec_showLine.a0 N n z) y := by kernel_rfl
    have e : (fun z => spec_showLine.a0 N n z) = spec_showLine.L0 N n := funext fun z => spec_showLine.r0 N n z
    rw [h]
    try rw [e]
    first | done | rfl
theorem spec_showLine.run (N : Nat) (x : ImplLine × Int × Unit) : runF cx (look (spec_showLine.phis N)) spec_showLine.A N (bodyOf Tryd.f38) Tryd.f38.results.toList spec_showLine.sg x = spec_showLine N x.1 x.2.1 := by
  have h : runF cx (look (spec_showLine.phis N)) spec_showLine.A N (bodyOf Tryd.f38) Tryd.f38.results.toList spec_showLine.sg x = spec_showLine.B N (fun z => spec_showLine.a0 N N z) x.1 x.2.1 := by kernel_rfl
  have e0 : (fun z => spec_showLine.a0 N N z) = spec_showLine.L0 N N := funext fun z => spec_showLine.r0 N N z
  rw [h, e0]
  try rfl
noncomputable def spec_showLine.sm (N : Nat) : Sm D := (⟨spec_showLine.sg, fun (x : ImplLine × Int × Unit) => spec_showLine N x.1 x.2.1⟩ : Sm D)
theorem spec_showLine.sound (N : Nat) : Sound cx Tryd.prog gam 38 (spec_showLine.sm N) := fn_sound (A := spec_showLine.A) (Φ := (look (spec_showLine.phis N))) pok (G := gam) (ΦOk.cons (spec_copyStore.sound N) (fnOk_of (f := 37) (by kernel_rfl)) (ΦOk.cons (spec_showing_take.sound N) (fnOk_of (f := 76) (by kernel_rfl)) ΦOk.nil)) mixed N Tryd.func38 (c := (bodyOf Tryd.f38)) (by kernel_rfl) spec_showLine.sg (by kernel_rfl) (by kernel_rfl) (by kernel_rfl) (spec_showLine.run N)

@[reducible] def impl_formCopy.sg : Sg := { ms := [{ k := (.sl (.st 81)), fl := [none] }], keep := [false], rs := [{ k := (.sl (.st 81)), fl := [none] }], hold := true }
noncomputable def impl_formCopy.A : Ann := { dp := fun d => isIn [] d, lp := look [], jn := look [], pins := [], nt := 5 }
noncomputable def impl_formCopy.phis (N : Nat) : List (Nat × Sm D) := []
theorem impl_formCopy.run (N : Nat) (x : (List (ImplStep)) × Unit) : runF cx (look (impl_formCopy.phis N)) impl_formCopy.A N (bodyOf Tryd.f107) Tryd.f107.results.toList impl_formCopy.sg x = impl_formCopy N x.1 := by
  have h : runF cx (look (impl_formCopy.phis N)) impl_formCopy.A N (bodyOf Tryd.f107) Tryd.f107.results.toList impl_formCopy.sg x = impl_formCopy.B N x.1 := by kernel_rfl
  rw [h]
  try rfl
noncomputable def impl_formCopy.sm (N : Nat) : Sm D := (⟨impl_formCopy.sg, fun (x : (List (ImplStep)) × Unit) => impl_formCopy N x.1⟩ : Sm D)
theorem impl_formCopy.sound (N : Nat) : Sound cx Tryd.prog gam 107 (impl_formCopy.sm N) := fn_sound (A := impl_formCopy.A) (Φ := (look (impl_formCopy.phis N))) pok (G := gam) ΦOk.nil mixed N Tryd.func107 (c := (bodyOf Tryd.f107)) (by kernel_rfl) impl_formCopy.sg (by kernel_rfl) (by kernel_rfl) (by kernel_rfl) (impl_formCopy.run N)

@[reducible] def impl_updateCopy.sg : Sg := { ms := [{ k := (.st 86) }], keep := [false], rs := [{ k := (.st 86) }], hold := true }
noncomputable def impl_updateCopy.A : Ann := { dp := fun d => isIn [] d, lp := look [], jn := look [], pins := [], nt := 12 }
noncomputable def impl_updateCopy.phis (N : Nat) : List (Nat × Sm D) := [(106, impl_placeCopy.sm N), (107, impl_formCopy.sm N)]
theorem impl_updateCopy.run (N : Nat) (x : ImplUpdate × Unit) : runF cx (look (impl_updateCopy.phis N)) impl_updateCopy.A N (bodyOf Tryd.f78) Tryd.f78.results.toList impl_updateCopy.sg x = impl_updateCopy N x.1 := by
  have h : runF cx (look (impl_updateCopy.phis N)) impl_updateCopy.A N (bodyOf Tryd.f78) Tryd.f78.results.toList impl_updateCopy.sg x = impl_updateCopy.B N x.1 := by kernel_rfl
  rw [h]
  try rfl
noncomputable def impl_updateCopy.sm (N : Nat) : Sm D := (⟨impl_updateCopy.sg, fun (x : ImplUpdate × Unit) => impl_updateCopy N x.1⟩ : Sm D)
theorem impl_updateCopy.sound (N : Nat) : Sound cx Tryd.prog gam 78 (impl_updateCopy.sm N) := fn_sound (A := impl_updateCopy.A) (Φ := (look (impl_updateCopy.phis N))) pok (G := gam) (ΦOk.cons (impl_placeCopy.sound N) (fnOk_of (f := 106) (by kernel_rfl)) (ΦOk.cons (impl_formCopy.sound N) (fnOk_of (f := 107) (by kernel_rfl)) ΦOk.nil)) mixed N Tryd.func78 (c := (bodyOf Tryd.f78)) (by kernel_rfl) impl_updateCopy.sg (by kernel_rfl) (by kernel_rfl) (by kernel_rfl) (impl_updateCopy.run N)

@[reducible] def impl_lineRest.sg : Sg := { ms := [{ k := (.st 24) }, { k := (.int .i64) }], keep := [false, false], rs := [{ k := (.st 24) }], hold := true }
@[reducible] def impl_lineRest.lvL2 : Lv := { id := 2, slots := [1, 4, 5, 6, 8, 9, 18, 19, 20, 41, 42], ms := [{ k := (.int .i64) }, { ptr := true, id := 620, t := 25, k := (.st 24), fl := [some (false, 621), some (false, 622)] }, { ptr := true, id := 640, t := 25, k := (.st 24), fl := [some (true, 641), some (false, 642)] }, { k := (.sl (.st 86)), fl := [some (false, 660)] }, { ptr := true, id := 680, t := 87, k := (.st 86), fl := [none, none, none, none] }, { k := .bool }, { k := (.sl (.st 86)), fl := [none] }, { k := (.int .i64) }, { k := (.int .i64) }, { k := (.int .i64) }, { k := (.int .i64) }], al := [(40, 660, false)] }
@[reducible] def impl_lineRest.lvL0 : Lv := { id := 0, slots := [1, 4, 5, 6, 18, 19, 20], ms := [{ k := (.int .i64) }, { ptr := true, id := 620, t := 25, k := (.st 24), fl := [some (false, 621), some (false, 622)] }, { ptr := true, id := 640, t := 25, k := (.st 24), fl := [some (true, 641), some (false, 642)] }, { k := (.sl (.st 86)), fl := [some (false, 660)] }, { k := (.sl (.st 86)), fl := [none] }, { k := (.int .i64) }, { k := (.int .i64) }] }
noncomputable def impl_lineRest.A : Ann := { dp := fun d => isIn [] d, lp := look [(2, impl_lineRest.lvL2), (0, impl_lineRest.lvL0)], jn := look [], pins := [], nt := 79 }
noncomputable def impl_lineRest.phis (N : Nat) : List (Nat × Sm D) := [(70, impl_storeCopy.sm N), (78, impl_updateCopy.sm N), (71, impl_lineShown.sm N), (52, impl_placeCmp.sm N), (79, impl_storeFind.sm N), (72, impl_storeDo.sm N)]
noncomputable def impl_lineRest.a2 (N : Nat) (m0 : Nat) (n : Nat) (y : Int × ImplLine × ImplLine × (List (ImplUpdate)) × ImplUpdate × Bool × (List (ImplUpdate)) × Int × Int × Int × Int × Unit) : Option (ImplLine × Unit) := loopAt cx (look (impl_lineRest.phis N)) impl_lineRest.A N n (encL cx impl_lineRest.lvL2.ms y).1 (encL cx impl_lineRest.lvL2.ms y).2 (bodyOf Tryd.f40) 0 (Kfin cx impl_lineRest.A impl_lineRest.sg Tryd.f40.results.toList) [1, 1, 1, 0, 1, 1, 1, 1, 1, 0, 1, 1, 1, 1, 1, 0, 1, 1] [m0]
noncomputable def impl_lineRest.a0 (N : Nat) (n : Nat) (y : Int × ImplLine × ImplLine × (List (ImplUpdate)) × (List (ImplUpdate)) × Int × Int × Unit) : Option (ImplLine × Unit) := loopAt cx (look (impl_lineRest.phis N)) impl_lineRest.A N n (encL cx impl_lineRest.lvL0.ms y).1 (encL cx impl_lineRest.lvL0.ms y).2 (bodyOf Tryd.f40) 0 (Kfin cx impl_lineRest.A impl_lineRest.sg Tryd.f40.results.toList) [1, 1, 1, 0, 1, 1] []
theorem impl_lineRest.r2 (N : Nat) (m0 : Nat) : ∀ (n : Nat) (y : Int × ImplLine × ImplLine × (List (ImplUpdate)) × ImplUpdate × Bool × (List (ImplUpdate)) × Int × Int × Int × Int × Unit), impl_lineRest.a2 N m0 n y = impl_lineRest.L2 N (fun z => impl_lineRest.a0 N m0 z) n y
  | 0, y => by kernel_rfl
  | n + 1, y => by
    have h : impl_lineRest.a2 N m0 (n + 1) y = impl_lineRest.B2 N (fun z => impl_lineRest.a0 N m0 z) (fun z => impl_lineRest.a2 N m0 n z) y := by kernel_rfl
    have e : (fun z => impl_lineRest.a2 N m0 n z) = impl_lineRest.L2 N (fun z => impl_lineRest.a0 N m0 z) n := funext fun z => impl_lineRest.r2 N m0 n z
    rw [h]
    try rw [e]
    first | done | rfl
theorem impl_lineRest.r0 (N : Nat) : ∀ (n : Nat) (y : Int × ImplLine × ImplLine × (List (ImplUpdate)) × (List (ImplUpdate)) × Int × Int × Unit), impl_lineRest.a0 N n y = impl_lineRest.L0 N n y
  | 0, y => by kernel_rfl
  | n + 1, y => by
    have h : impl_lineRest.a0 N (n + 1) y = impl_lineRest.B0 N (fun z => impl_lineRest.a0 N n z) (fun z => impl_lineRest.a2 N n N z) y := by kernel_rfl
    have e : (fun z => impl_lineRest.a0 N n z) = impl_lineRest.L0 N n := funext fun z => impl_lineRest.r0 N n z
    have e2 : (fun z => impl_lineRest.a2 N n N z) = impl_lineRest.L2 N (fun z => impl_lineRest.a0 N n z) N := funext fun z => impl_lineRest.r2 N n N z
    rw [h, e2]
    try rw [e]
    first | done | rfl
theorem impl_lineRest.run (N : Nat) (x : ImplLine × Int × Unit) : runF cx (look (impl_lineRest.phis N)) impl_lineRest.A N (bodyOf Tryd.f40) Tryd.f40.results.toList impl_lineRest.sg x = impl_lineRest N x.1 x.2.1 := by
  have h : runF cx (look (impl_lineRest.phis N)) impl_lineRest.A N (bodyOf Tryd.f40) Tryd.f40.results.toList impl_lineRest.sg x = impl_lineRest.B N (fun z => impl_lineRest.a0 N N z) x.1 x.2.1 := by kernel_rfl
  have e0 : (fun z => impl_lineRest.a0 N N z) = impl_lineRest.L0 N N := funext fun z => impl_lineRest.r0 N N z
  rw [h, e0]
  try rfl
noncomputable def impl_lineRest.sm (N : Nat) : Sm D := (⟨impl_lineRest.sg, fun (x : ImplLine × Int × Unit) => impl_lineRest N x.1 x.2.1⟩ : Sm D)
theorem impl_lineRest.sound (N : Nat) : Sound cx Tryd.prog gam 40 (impl_lineRest.sm N) := fn_sound (A := impl_lineRest.A) (Φ := (look (impl_lineRest.phis N))) pok (G := gam) (ΦOk.cons (impl_storeCopy.sound N) (fnOk_of (f := 70) (by kernel_rfl)) (ΦOk.cons (impl_updateCopy.sound N) (fnOk_of (f := 78) (by kernel_rfl)) (ΦOk.cons (impl_lineShown.sound N) (fnOk_of (f := 71) (by kernel_rfl)) (ΦOk.cons (impl_placeCmp.sound N) (fnOk_of (f := 52) (by kernel_rfl)) (ΦOk.cons (impl_storeFind.sound N) (fnOk_of (f := 79) (by kernel_rfl)) (ΦOk.cons (impl_storeDo.sound N) (fnOk_of (f := 72) (by kernel_rfl)) ΦOk.nil)))))) mixed N Tryd.func40 (c := (bodyOf Tryd.f40)) (by kernel_rfl) impl_lineRest.sg (by kernel_rfl) (by kernel_rfl) (by kernel_rfl) (impl_lineRest.run N)

@[reducible] def impl_LineRest.sg : Sg := { ms := [{ k := (.st 24) }, { k := (.int .i64) }], keep := [false, false], rs := [{ k := (.st 24) }], hold := true }
noncomputable def impl_LineRest.A : Ann := { dp := fun d => isIn [] d, lp := look [], jn := look [], pins := [], nt := 17 }
noncomputable def impl_LineRest.phis (N : Nat) : List (Nat × Sm D) := [(11, impl_LineOk.sm N), (32, impl_within.sm N), (40, impl_lineRest.sm N)]
theorem impl_LineRest.run (N : Nat) (x : ImplLine × Int × Unit) : runF cx (look (impl_LineRest.phis N)) impl_LineRest.A N (bodyOf Tryd.f13) Tryd.f13.results.toList impl_LineRest.sg x = impl_LineRest N x.1 x.2.1 := by
  have h : runF cx (look (impl_LineRest.phis N)) impl_LineRest.A N (bodyOf Tryd.f13) Tryd.f13.results.toList impl_LineRest.sg x = impl_LineRest.B N x.1 x.2.1 := by kernel_rfl
  rw [h]
  try rfl
noncomputable def impl_LineRest.sm (N : Nat) : Sm D := (⟨impl_LineRest.sg, fun (x : ImplLine × Int × Unit) => impl_LineRest N x.1 x.2.1⟩ : Sm D)
theorem impl_LineRest.sound (N : Nat) : Sound cx Tryd.prog gam 13 (impl_LineRest.sm N) := fn_sound (A := impl_LineRest.A) (Φ := (look (impl_LineRest.phis N))) pok (G := gam) (ΦOk.cons (impl_LineOk.sound N) (fnOk_of (f := 11) (by kernel_rfl)) (ΦOk.cons (impl_within.sound N) (fnOk_of (f := 32) (by kernel_rfl)) (ΦOk.cons (impl_lineRest.sound N) (fnOk_of (f := 40) (by kernel_rfl)) ΦOk.nil))) mixed N Tryd.func13 (c := (bodyOf Tryd.f13)) (by kernel_rfl) impl_LineRest.sg (by kernel_rfl) (by kernel_rfl) (by kernel_rfl) (impl_LineRest.run N)

@[reducible] def spec_newSource.sg : Sg := { ms := [{ k := (.sl (.int .u8)), fl := [none] }], keep := [false], rs := [{ ptr := true, id := 410, t := 98, k := (.st 97) }], hold := true }
noncomputable def spec_newSource.A : Ann := { dp := fun d => isIn [] d, lp := look [], jn := look [], pins := [], nt := 6 }
noncomputable def spec_newSource.phis (N : Nat) : List (Nat × Sm D) := []
theorem spec_newSource.run (N : Nat) (x : (List (Int)) × Unit) : runF cx (look (spec_newSource.phis N)) spec_newSource.A N (bodyOf Tryd.f44) Tryd.f44.results.toList spec_newSource.sg x = spec_newSource N x.1 := by
  have h : runF cx (look (spec_newSource.phis N)) spec_newSource.A N (bodyOf Tryd.f44) Tryd.f44.results.toList spec_newSource.sg x = spec_newSource.B N x.1 := by kernel_rfl
  rw [h]
  try rfl
noncomputable def spec_newSource.sm (N : Nat) : Sm D := (⟨spec_newSource.sg, fun (x : (List (Int)) × Unit) => spec_newSource N x.1⟩ : Sm D)
theorem spec_newSource.sound (N : Nat) : Sound cx Tryd.prog gam 44 (spec_newSource.sm N) := fn_sound (A := spec_newSource.A) (Φ := (look (spec_newSource.phis N))) pok (G := gam) ΦOk.nil mixed N Tryd.func44 (c := (bodyOf Tryd.f44)) (by kernel_rfl) spec_newSource.sg (by kernel_rfl) (by kernel_rfl) (by kernel_rfl) (spec_newSource.run N)

@[reducible] def spec_source_pick.sg : Sg := { ms := [{ ptr := true, id := 10, t := 98, k := (.st 97) }, { k := (.int .i64) }], keep := [true, false], rs := [{ k := (.int .i64) }], hold := true }
noncomputable def spec_source_pick.A : Ann := { dp := fun d => isIn [] d, lp := look [], jn := look [], pins := [10], nt := 101 }
noncomputable def spec_source_pick.phis (N : Nat) : List (Nat × Sm D) := []
theorem spec_source_pick.run (N : Nat) (x : SpecSource × Int × Unit) : runF cx (look (spec_source_pick.phis N)) spec_source_pick.A N (bodyOf Tryd.f56) Tryd.f56.results.toList spec_source_pick.sg x = spec_source_pick N x.1 x.2.1 := by
  have h : runF cx (look (spec_source_pick.phis N)) spec_source_pick.A N (bodyOf Tryd.f56) Tryd.f56.results.toList spec_source_pick.sg x = spec_source_pick.B N x.1 x.2.1 := by kernel_rfl
  rw [h]
  try rfl
noncomputable def spec_source_pick.sm (N : Nat) : Sm D := (⟨spec_source_pick.sg, fun (x : SpecSource × Int × Unit) => spec_source_pick N x.1 x.2.1⟩ : Sm D)
theorem spec_source_pick.sound (N : Nat) : Sound cx Tryd.prog gam 56 (spec_source_pick.sm N) := fn_sound (A := spec_source_pick.A) (Φ := (look (spec_source_pick.phis N))) pok (G := gam) ΦOk.nil mixed N Tryd.func56 (c := (bodyOf Tryd.f56)) (by kernel_rfl) spec_source_pick.sg (by kernel_rfl) (by kernel_rfl) (by kernel_rfl) (spec_source_pick.run N)

@[reducible] def spec_source_one.sg : Sg := { ms := [{ ptr := true, id := 10, t := 98, k := (.st 97) }, { k := (.sl (.int .i64)), fl := [none] }], keep := [true, false], rs := [{ k := (.int .i64) }], hold := true }
noncomputable def spec_source_one.A : Ann := { dp := fun d => isIn [] d, lp := look [], jn := look [], pins := [10], nt := 12 }
noncomputable def spec_source_one.phis (N : Nat) : List (Nat × Sm D) := [(56, spec_source_pick.sm N)]
theorem spec_source_one.run (N : Nat) (x : SpecSource × (List (Int)) × Unit) : runF cx (look (spec_source_one.phis N)) spec_source_one.A N (bodyOf Tryd.f109) Tryd.f109.results.toList spec_source_one.sg x = spec_source_one N x.1 x.2.1 := by
  have h : runF cx (look (spec_source_one.phis N)) spec_source_one.A N (bodyOf Tryd.f109) Tryd.f109.results.toList spec_source_one.sg x = spec_source_one.B N x.1 x.2.1 := by kernel_rfl
  rw [h]
  try rfl
noncomputable def spec_source_one.sm (N : Nat) : Sm D := (⟨spec_source_one.sg, fun (x : SpecSource × (List (Int)) × Unit) => spec_source_one N x.1 x.2.1⟩ : Sm D)
theorem spec_source_one.sound (N : Nat) : Sound cx Tryd.prog gam 109 (spec_source_one.sm N) := fn_sound (A := spec_source_one.A) (Φ := (look (spec_source_one.phis N))) pok (G := gam) (ΦOk.cons (spec_source_pick.sound N) (fnOk_of (f := 56) (by kernel_rfl)) ΦOk.nil) mixed N Tryd.func109 (c := (bodyOf Tryd.f109)) (by kernel_rfl) spec_source_one.sg (by kernel_rfl) (by kernel_rfl) (by kernel_rfl) (spec_source_one.run N)

@[reducible] def spec_source_rarely.sg : Sg := { ms := [{ ptr := true, id := 10, t := 98, k := (.st 97) }], keep := [true], rs := [{ k := .bool }], hold := true }
noncomputable def spec_source_rarely.A : Ann := { dp := fun d => isIn [] d, lp := look [], jn := look [], pins := [10], nt := 6 }
noncomputable def spec_source_rarely.phis (N : Nat) : List (Nat × Sm D) := [(56, spec_source_pick.sm N)]
theorem spec_source_rarely.run (N : Nat) (x : SpecSource × Unit) : runF cx (look (spec_source_rarely.phis N)) spec_source_rarely.A N (bodyOf Tryd.f59) Tryd.f59.results.toList spec_source_rarely.sg x = spec_source_rarely N x.1 := by
  have h : runF cx (look (spec_source_rarely.phis N)) spec_source_rarely.A N (bodyOf Tryd.f59) Tryd.f59.results.toList spec_source_rarely.sg x = spec_source_rarely.B N x.1 := by kernel_rfl
  rw [h]
  try rfl
noncomputable def spec_source_rarely.sm (N : Nat) : Sm D := (⟨spec_source_rarely.sg, fun (x : SpecSource × Unit) => spec_source_rarely N x.1⟩ : Sm D)
theorem spec_source_rarely.sound (N : Nat) : Sound cx Tryd.prog gam 59 (spec_source_rarely.sm N) := fn_sound (A := spec_source_rarely.A) (Φ := (look (spec_source_rarely.phis N))) pok (G := gam) (ΦOk.cons (spec_source_pick.sound N) (fnOk_of (f := 56) (by kernel_rfl)) ΦOk.nil) mixed N Tryd.func59 (c := (bodyOf Tryd.f59)) (by kernel_rfl) spec_source_rarely.sg (by kernel_rfl) (by kernel_rfl) (by kernel_rfl) (spec_source_rarely.run N)

@[reducible] def spec_source_slots.sg : Sg := { ms := [{ ptr := true, id := 10, t := 98, k := (.st 97) }], keep := [true], rs := [{ k := (.sl (.st 102)), fl := [none] }], hold := true }
@[reducible] def spec_source_slots.lvL0 : Lv := { id := 0, slots := [0, 3, 4], ms := [{ ptr := true, id := 10, t := 98, k := (.st 97), fl := [none, none, none] }, { k := (.sl (.st 102)), fl := [some (false, 620)] }, { k := (.int .i64) }] }
noncomputable def spec_source_slots.A : Ann := { dp := fun d => isIn [] d, lp := look [(0, spec_source_slots.lvL0)], jn := look [], pins := [10], nt := 35 }
noncomputable def spec_source_slots.phis (N : Nat) : List (Nat × Sm D) := [(56, spec_source_pick.sm N), (109, spec_source_one.sm N), (59, spec_source_rarely.sm N)]
noncomputable def spec_source_slots.a0 (N : Nat) (n : Nat) (y : SpecSource × (List (ImplSlot)) × Int × Unit) : Option (SpecSource × (List (ImplSlot)) × Unit) := loopAt cx (look (spec_source_slots.phis N)) spec_source_slots.A N n (encL cx spec_source_slots.lvL0.ms y).1 (encL cx spec_source_slots.lvL0.ms y).2 (bodyOf Tryd.f82) 0 (Kfin cx spec_source_slots.A spec_source_slots.sg Tryd.f82.results.toList) [1, 1, 0, 1, 1] []
theorem spec_source_slots.r0 (N : Nat) : ∀ (n : Nat) (y : SpecSource × (List (ImplSlot)) × Int × Unit), spec_source_slots.a0 N n y = spec_source_slots.L0 N n y
  | 0, y => by kernel_rfl
  | n + 1, y => by
    have h : spec_source_slots.a0 N (n + 1) y = spec_source_slots.B0 N (fun z => spec_source_slots.a0 N n z) y := by kernel_rfl
    have e : (fun z => spec_source_slots.a0 N n z) = spec_source_slots.L0 N n := funext fun z => spec_source_slots.r0 N n z
    rw [h]
    try rw [e]
    first | done | rfl
theorem spec_source_slots.run (N : Nat) (x : SpecSource × Unit) : runF cx (look (spec_source_slots.phis N)) spec_source_slots.A N (bodyOf Tryd.f82) Tryd.f82.results.toList spec_source_slots.sg x = spec_source_slots N x.1 := by
  have h : runF cx (look (spec_source_slots.phis N)) spec_source_slots.A N (bodyOf Tryd.f82) Tryd.f82.results.toList spec_source_slots.sg x = spec_source_slots.B N (fun z => spec_source_slots.a0 N N z) x.1 := by kernel_rfl
  have e0 : (fun z => spec_source_slots.a0 N N z) = spec_source_slots.L0 N N := funext fun z => spec_source_slots.r0 N N z
  rw [h, e0]
  try rfl
noncomputable def spec_source_slots.sm (N : Nat) : Sm D := (⟨spec_source_slots.sg, fun (x : SpecSource × Unit) => spec_source_slots N x.1⟩ : Sm D)
theorem spec_source_slots.sound (N : Nat) : Sound cx Tryd.prog gam 82 (spec_source_slots.sm N) := fn_sound (A := spec_source_slots.A) (Φ := (look (spec_source_slots.phis N))) pok (G := gam) (ΦOk.cons (spec_source_pick.sound N) (fnOk_of (f := 56) (by kernel_rfl)) (ΦOk.cons (spec_source_one.sound N) (fnOk_of (f := 109) (by kernel_rfl)) (ΦOk.cons (spec_source_rarely.sound N) (fnOk_of (f := 59) (by kernel_rfl)) ΦOk.nil))) mixed N Tryd.func82 (c := (bodyOf Tryd.f82)) (by kernel_rfl) spec_source_slots.sg (by kernel_rfl) (by kernel_rfl) (by kernel_rfl) (spec_source_slots.run N)

@[reducible] def spec_source_text.sg : Sg := { ms := [{ ptr := true, id := 10, t := 98, k := (.st 97) }], keep := [true], rs := [{ k := .str }], hold := true }
@[reducible] def spec_source_text.lvL0 : Lv := { id := 0, slots := [0, 3, 4], ms := [{ ptr := true, id := 10, t := 98, k := (.st 97), fl := [none, none, none] }, { k := .str }, { k := (.int .i64) }] }
noncomputable def spec_source_text.A : Ann := { dp := fun d => isIn [] d, lp := look [(0, spec_source_text.lvL0)], jn := look [], pins := [10], nt := 23 }
noncomputable def spec_source_text.phis (N : Nat) : List (Nat × Sm D) := [(56, spec_source_pick.sm N), (59, spec_source_rarely.sm N)]
noncomputable def spec_source_text.a0 (N : Nat) (n : Nat) (y : SpecSource × (List UInt8) × Int × Unit) : Option (SpecSource × (List UInt8) × Unit) := loopAt cx (look (spec_source_text.phis N)) spec_source_text.A N n (encL cx spec_source_text.lvL0.ms y).1 (encL cx spec_source_text.lvL0.ms y).2 (bodyOf Tryd.f133) 0 (Kfin cx spec_source_text.A spec_source_text.sg Tryd.f133.results.toList) [1, 1, 0, 1, 1] []
theorem spec_source_text.r0 (N : Nat) : ∀ (n : Nat) (y : SpecSource × (List UInt8) × Int × Unit), spec_source_text.a0 N n y = spec_source_text.L0 N n y
  | 0, y => by kernel_rfl
  | n + 1, y => by
    have h : spec_source_text.a0 N (n + 1) y = spec_source_text.B0 N (fun z => spec_source_text.a0 N n z) y := by kernel_rfl
    have e : (fun z => spec_source_text.a0 N n z) = spec_source_text.L0 N n := funext fun z => spec_source_text.r0 N n z
    rw [h]
    try rw [e]
    first | done | rfl
theorem spec_source_text.run (N : Nat) (x : SpecSource × Unit) : runF cx (look (spec_source_text.phis N)) spec_source_text.A N (bodyOf Tryd.f133) Tryd.f133.results.toList spec_source_text.sg x = spec_source_text N x.1 := by
  have h : runF cx (look (spec_source_text.phis N)) spec_source_text.A N (bodyOf Tryd.f133) Tryd.f133.results.toList spec_source_text.sg x = spec_source_text.B N (fun z => spec_source_text.a0 N N z) x.1 := by kernel_rfl
  have e0 : (fun z => spec_source_text.a0 N N z) = spec_source_text.L0 N N := funext fun z => spec_source_text.r0 N N z
  rw [h, e0]
  try rfl
noncomputable def spec_source_text.sm (N : Nat) : Sm D := (⟨spec_source_text.sg, fun (x : SpecSource × Unit) => spec_source_text N x.1⟩ : Sm D)
theorem spec_source_text.sound (N : Nat) : Sound cx Tryd.prog gam 133 (spec_source_text.sm N) := fn_sound (A := spec_source_text.A) (Φ := (look (spec_source_text.phis N))) pok (G := gam) (ΦOk.cons (spec_source_pick.sound N) (fnOk_of (f := 56) (by kernel_rfl)) (ΦOk.cons (spec_source_rarely.sound N) (fnOk_of (f := 59) (by kernel_rfl)) ΦOk.nil)) mixed N Tryd.func133 (c := (bodyOf Tryd.f133)) (by kernel_rfl) spec_source_text.sg (by kernel_rfl) (by kernel_rfl) (by kernel_rfl) (spec_source_text.run N)

@[reducible] def spec_source_value.sg : Sg := { ms := [{ ptr := true, id := 10, t := 98, k := (.st 97) }], keep := [true], rs := [{ k := (.st 47) }], hold := true }
noncomputable def spec_source_value.A : Ann := { dp := fun d => isIn [] d, lp := look [], jn := look [], pins := [10], nt := 23 }
noncomputable def spec_source_value.phis (N : Nat) : List (Nat × Sm D) := [(56, spec_source_pick.sm N), (133, spec_source_text.sm N), (109, spec_source_one.sm N)]
theorem spec_source_value.run (N : Nat) (x : SpecSource × Unit) : runF cx (look (spec_source_value.phis N)) spec_source_value.A N (bodyOf Tryd.f113) Tryd.f113.results.toList spec_source_value.sg x = spec_source_value N x.1 := by
  have h : runF cx (look (spec_source_value.phis N)) spec_source_value.A N (bodyOf Tryd.f113) Tryd.f113.results.toList spec_source_value.sg x = spec_source_value.B N x.1 := by kernel_rfl
  rw [h]
  try rfl
noncomputable def spec_source_value.sm (N : Nat) : Sm D := (⟨spec_source_value.sg, fun (x : SpecSource × Unit) => spec_source_value N x.1⟩ : Sm D)
theorem spec_source_value.sound (N : Nat) : Sound cx Tryd.prog gam 113 (spec_source_value.sm N) := fn_sound (A := spec_source_value.A) (Φ := (look (spec_source_value.phis N))) pok (G := gam) (ΦOk.cons (spec_source_pick.sound N) (fnOk_of (f := 56) (by kernel_rfl)) (ΦOk.cons (spec_source_text.sound N) (fnOk_of (f := 133) (by kernel_rfl)) (ΦOk.cons (spec_source_one.sound N) (fnOk_of (f := 109) (by kernel_rfl)) ΦOk.nil))) mixed N Tryd.func113 (c := (bodyOf Tryd.f113)) (by kernel_rfl) spec_source_value.sg (by kernel_rfl) (by kernel_rfl) (by kernel_rfl) (spec_source_value.run N)

end
end Go.Ev
