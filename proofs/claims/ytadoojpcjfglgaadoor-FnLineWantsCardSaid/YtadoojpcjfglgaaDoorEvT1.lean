/- Each function that the law reaches does what its plain form says; no condition beyond the table of the library. -/
import Derived.Test.YtadoojpcjfglgaaDoorEvT0
set_option linter.all false
set_option linter.unusedVariables false
set_option linter.unusedSimpArgs false
set_option maxRecDepth 100000
set_option maxHeartbeats 0
namespace Go.Ev
noncomputable section
open Go.Proofs
@[reducible] def impl_formRun.sg : Sg := { ms := [{ k := (.sl (.st 81)), fl := [none] }, { k := (.st 43) }], keep := [false, false], rs := [{ k := (.st 47) }] }
@[reducible] def impl_formRun.lvJ23 : Lv := { id := 23, slots := [3, 4, 5, 8, 9, 11, 12, 13], ms := [{ ptr := true, id := 600, t := 44, k := (.st 43), fl := [none, none, none, none] }, { ptr := true, id := 620, t := 48, k := (.st 47), fl := [none, none, none] }, { k := (.sl (.st 47)), fl := [some (false, 640)] }, { k := (.int .i64) }, { ptr := true, id := 680, t := 48, k := (.st 47), fl := [none, none, none] }, { k := (.sl (.st 81)), fl := [none] }, { k := (.int .i64) }, { k := (.int .i64) }] }
@[reducible] def impl_formRun.lvL0 : Lv := { id := 0, slots := [3, 4, 5, 11, 12, 13], ms := [{ ptr := true, id := 600, t := 44, k := (.st 43), fl := [none, none, none, none] }, { ptr := true, id := 620, t := 48, k := (.st 47), fl := [none, none, none] }, { k := (.sl (.st 47)), fl := [some (false, 640)] }, { k := (.sl (.st 81)), fl := [none] }, { k := (.int .i64) }, { k := (.int .i64) }] }
noncomputable def impl_formRun.A : Ann := { dp := fun d => isIn [] d, lp := look [(0, impl_formRun.lvL0)], jn := look [(23, impl_formRun.lvJ23)], pins := [], nt := 128 }
noncomputable def impl_formRun.phis (N : Nat) : List (Nat × Sm D) := [(92, impl_number.sm N), (93, impl_ValDo.sm N), (94, impl_ValTrue.sm N)]
noncomputable def impl_formRun.a0 (N : Nat) (n : Nat) (y : ImplEnv × ImplValue × (List (ImplValue)) × (List (ImplStep)) × Int × Int × Unit) : Option (ImplValue × Unit) := loopAt cx (look (impl_formRun.phis N)) impl_formRun.A N n (encL cx impl_formRun.lvL0.ms y).1 (encL cx impl_formRun.lvL0.ms y).2 (bodyOf Tryd.f61) 0 (Kfin cx impl_formRun.A impl_formRun.sg Tryd.f61.results.toList) [1, 1, 0, 1, 1] []
theorem impl_formRun.r0 (N : Nat) : ∀ (n : Nat) (y : ImplEnv × ImplValue × (List (ImplValue)) × (List (ImplStep)) × Int × Int × Unit), impl_formRun.a0 N n y = impl_formRun.L0 N n y
  | 0, y => by kernel_rfl
  | n + 1, y => by
    have h : impl_formRun.a0 N (n + 1) y = impl_formRun.B0 N (fun z => impl_formRun.a0 N n z) y := by kernel_rfl
    have e : (fun z => impl_formRun.a0 N n z) = impl_formRun.L0 N n := funext fun z => impl_formRun.r0 N n z
    rw [h]
    try rw [e]
    first | done | rfl
theorem impl_formRun.run (N : Nat) (x : (List (ImplStep)) × ImplEnv × Unit) : runF cx (look (impl_formRun.phis N)) impl_formRun.A N (bodyOf Tryd.f61) Tryd.f61.results.toList impl_formRun.sg x = impl_formRun N x.1 x.2.1 := by
  have h : runF cx (look (impl_formRun.phis N)) impl_formRun.A N (bodyOf Tryd.f61) Tryd.f61.results.toList impl_formRun.sg x = impl_formRun.B N (fun z => impl_formRun.a0 N N z) x.1 x.2.1 := by kernel_rfl
  have e0 : (fun z => impl_formRun.a0 N N z) = impl_formRun.L0 N N := funext fun z => impl_formRun.r0 N N z
  rw [h, e0]
  try rfl
noncomputable def impl_formRun.sm (N : Nat) : Sm D := (⟨impl_formRun.sg, fun (x : (List (ImplStep)) × ImplEnv × Unit) => impl_formRun N x.1 x.2.1⟩ : Sm D)
theorem impl_formRun.sound (N : Nat) : Sound cx Tryd.prog gam 61 (impl_formRun.sm N) := fn_sound (A := impl_formRun.A) (Φ := (look (impl_formRun.phis N))) pok (G := gam) (ΦOk.cons (impl_number.sound N) (fnOk_of (f := 92) (by kernel_rfl)) (ΦOk.cons (impl_ValDo.sound N) (fnOk_of (f := 93) (by kernel_rfl)) (ΦOk.cons (impl_ValTrue.sound N) (fnOk_of (f := 94) (by kernel_rfl)) ΦOk.nil))) mixed N Tryd.func61 (c := (bodyOf Tryd.f61)) (by kernel_rfl) impl_formRun.sg (by kernel_rfl) (by kernel_rfl) (by kernel_rfl) (impl_formRun.run N)

@[reducible] def impl_storeDo.sg : Sg := { ms := [{ k := (.sl (.st 70)), fl := [none] }, { k := (.st 86) }], keep := [false, false], rs := [{ k := (.sl (.st 70)), fl := [some (true, 411)] }] }
noncomputable def impl_storeDo.A : Ann := { dp := fun _ => true, lp := look [], jn := look [], pins := [], nt := 35 }
noncomputable def impl_storeDo.phis (N : Nat) : List (Nat × Sm D) := [(70, impl_storeCopy.sm N), (104, impl_updateAt.sm N), (61, impl_formRun.sm N)]
theorem impl_storeDo.run (N : Nat) (x : (List (ImplCell)) × ImplUpdate × Unit) : runF cx (look (impl_storeDo.phis N)) impl_storeDo.A N (bodyOf Tryd.f72) Tryd.f72.results.toList impl_storeDo.sg x = impl_storeDo N x.1 x.2.1 := by
  have h : runF cx (look (impl_storeDo.phis N)) impl_storeDo.A N (bodyOf Tryd.f72) Tryd.f72.results.toList impl_storeDo.sg x = impl_storeDo.B N x.1 x.2.1 := by kernel_rfl
  rw [h]
  try rfl
noncomputable def impl_storeDo.sm (N : Nat) : Sm D := (⟨impl_storeDo.sg, fun (x : (List (ImplCell)) × ImplUpdate × Unit) => impl_storeDo N x.1 x.2.1⟩ : Sm D)
theorem impl_storeDo.sound (N : Nat) : Sound cx Tryd.prog gam 72 (impl_storeDo.sm N) := fn_sound (A := impl_storeDo.A) (Φ := (look (impl_storeDo.phis N))) pok (G := gam) (ΦOk.cons (impl_storeCopy.sound N) (fnOk_of (f := 70) (by kernel_rfl)) (ΦOk.cons (impl_updateAt.sound N) (fnOk_of (f := 104) (by kernel_rfl)) (ΦOk.cons (impl_formRun.sound N) (fnOk_of (f := 61) (by kernel_rfl)) ΦOk.nil))) mixed N Tryd.func72 (c := (bodyOf Tryd.f72)) (by kernel_rfl) impl_storeDo.sg (by kernel_rfl) (by kernel_rfl) (by kernel_rfl) (impl_storeDo.run N)

@[reducible] def spec_inRange.sg : Sg := { ms := [{ k := (.int .i64) }, { k := (.int .i64) }, { k := (.int .i64) }], keep := [false, false, false], rs := [{ k := .bool }] }
noncomputable def spec_inRange.A : Ann := { dp := fun d => isIn [] d, lp := look [], jn := look [], pins := [], nt := 15 }
noncomputable def spec_inRange.phis (N : Nat) : List (Nat × Sm D) := []
theorem spec_inRange.run (N : Nat) (x : Int × Int × Int × Unit) : runF cx (look (spec_inRange.phis N)) spec_inRange.A N (bodyOf Tryd.f36) Tryd.f36.results.toList spec_inRange.sg x = spec_inRange N x.1 x.2.1 x.2.2.1 := by
  have h : runF cx (look (spec_inRange.phis N)) spec_inRange.A N (bodyOf Tryd.f36) Tryd.f36.results.toList spec_inRange.sg x = spec_inRange.B N x.1 x.2.1 x.2.2.1 := by kernel_rfl
  rw [h]
  try rfl
noncomputable def spec_inRange.sm (N : Nat) : Sm D := (⟨spec_inRange.sg, fun (x : Int × Int × Int × Unit) => spec_inRange N x.1 x.2.1 x.2.2.1⟩ : Sm D)
theorem spec_inRange.sound (N : Nat) : Sound cx Tryd.prog gam 36 (spec_inRange.sm N) := fn_sound (A := spec_inRange.A) (Φ := (look (spec_inRange.phis N))) pok (G := gam) ΦOk.nil mixed N Tryd.func36 (c := (bodyOf Tryd.f36)) (by kernel_rfl) spec_inRange.sg (by kernel_rfl) (by kernel_rfl) (by kernel_rfl) (spec_inRange.run N)

@[reducible] def spec_validSlot.sg : Sg := { ms := [{ k := (.st 102) }], keep := [false], rs := [{ k := .bool }] }
noncomputable def spec_validSlot.A : Ann := { dp := fun d => isIn [] d, lp := look [], jn := look [], pins := [], nt := 11 }
noncomputable def spec_validSlot.phis (N : Nat) : List (Nat × Sm D) := [(36, spec_inRange.sm N)]
theorem spec_validSlot.run (N : Nat) (x : ImplSlot × Unit) : runF cx (look (spec_validSlot.phis N)) spec_validSlot.A N (bodyOf Tryd.f110) Tryd.f110.results.toList spec_validSlot.sg x = spec_validSlot N x.1 := by
  have h : runF cx (look (spec_validSlot.phis N)) spec_validSlot.A N (bodyOf Tryd.f110) Tryd.f110.results.toList spec_validSlot.sg x = spec_validSlot.B N x.1 := by kernel_rfl
  rw [h]
  try rfl
noncomputable def spec_validSlot.sm (N : Nat) : Sm D := (⟨spec_validSlot.sg, fun (x : ImplSlot × Unit) => spec_validSlot N x.1⟩ : Sm D)
theorem spec_validSlot.sound (N : Nat) : Sound cx Tryd.prog gam 110 (spec_validSlot.sm N) := fn_sound (A := spec_validSlot.A) (Φ := (look (spec_validSlot.phis N))) pok (G := gam) (ΦOk.cons (spec_inRange.sound N) (fnOk_of (f := 36) (by kernel_rfl)) ΦOk.nil) mixed N Tryd.func110 (c := (bodyOf Tryd.f110)) (by kernel_rfl) spec_validSlot.sg (by kernel_rfl) (by kernel_rfl) (by kernel_rfl) (spec_validSlot.run N)

@[reducible] def spec_validPlace.sg : Sg := { ms := [{ k := (.sl (.st 102)), fl := [none] }], keep := [false], rs := [{ k := .bool }] }
@[reducible] def spec_validPlace.lvL0 : Lv := { id := 0, slots := [0, 3], ms := [{ k := (.sl (.st 102)), fl := [none] }, { k := (.int .i64) }] }
noncomputable def spec_validPlace.A : Ann := { dp := fun d => isIn [] d, lp := look [(0, spec_validPlace.lvL0)], jn := look [], pins := [], nt := 19 }
noncomputable def spec_validPlace.phis (N : Nat) : List (Nat × Sm D) := [(110, spec_validSlot.sm N)]
noncomputable def spec_validPlace.a0 (N : Nat) (n : Nat) (y : (List (ImplSlot)) × Int × Unit) : Option (Bool × Unit) := loopAt cx (look (spec_validPlace.phis N)) spec_validPlace.A N n (encL cx spec_validPlace.lvL0.ms y).1 (encL cx spec_validPlace.lvL0.ms y).2 (bodyOf Tryd.f83) 0 (Kfin cx spec_validPlace.A spec_validPlace.sg Tryd.f83.results.toList) [1, 1, 0, 1, 1] []
theorem spec_validPlace.r0 (N : Nat) : ∀ (n : Nat) (y : (List (ImplSlot)) × Int × Unit), spec_validPlace.a0 N n y = spec_validPlace.L0 N n y
  | 0, y => by kernel_rfl
  | n + 1, y => by
    have h : spec_validPlace.a0 N (n + 1) y = spec_validPlace.B0 N (fun z => spec_validPlace.a0 N n z) y := by kernel_rfl
    have e : (fun z => spec_validPlace.a0 N n z) = spec_validPlace.L0 N n := funext fun z => spec_validPlace.r0 N n z
    rw [h]
    try rw [e]
    first | done | rfl
theorem spec_validPlace.run (N : Nat) (x : (List (ImplSlot)) × Unit) : runF cx (look (spec_validPlace.phis N)) spec_validPlace.A N (bodyOf Tryd.f83) Tryd.f83.results.toList spec_validPlace.sg x = spec_validPlace N x.1 := by
  have h : runF cx (look (spec_validPlace.phis N)) spec_validPlace.A N (bodyOf Tryd.f83) Tryd.f83.results.toList spec_validPlace.sg x = spec_validPlace.B N (fun z => spec_validPlace.a0 N N z) x.1 := by kernel_rfl
  have e0 : (fun z => spec_validPlace.a0 N N z) = spec_validPlace.L0 N N := funext fun z => spec_validPlace.r0 N N z
  rw [h, e0]
  try rfl
noncomputable def spec_validPlace.sm (N : Nat) : Sm D := (⟨spec_validPlace.sg, fun (x : (List (ImplSlot)) × Unit) => spec_validPlace N x.1⟩ : Sm D)
theorem spec_validPlace.sound (N : Nat) : Sound cx Tryd.prog gam 83 (spec_validPlace.sm N) := fn_sound (A := spec_validPlace.A) (Φ := (look (spec_validPlace.phis N))) pok (G := gam) (ΦOk.cons (spec_validSlot.sound N) (fnOk_of (f := 110) (by kernel_rfl)) ΦOk.nil) mixed N Tryd.func83 (c := (bodyOf Tryd.f83)) (by kernel_rfl) spec_validPlace.sg (by kernel_rfl) (by kernel_rfl) (by kernel_rfl) (spec_validPlace.run N)

@[reducible] def spec_plainByte.sg : Sg := { ms := [{ k := (.int .u8) }], keep := [false], rs := [{ k := .bool }] }
noncomputable def spec_plainByte.A : Ann := { dp := fun d => isIn [] d, lp := look [], jn := look [], pins := [], nt := 21 }
noncomputable def spec_plainByte.phis (N : Nat) : List (Nat × Sm D) := []
theorem spec_plainByte.run (N : Nat) (x : Int × Unit) : runF cx (look (spec_plainByte.phis N)) spec_plainByte.A N (bodyOf Tryd.f136) Tryd.f136.results.toList spec_plainByte.sg x = spec_plainByte N x.1 := by
  have h : runF cx (look (spec_plainByte.phis N)) spec_plainByte.A N (bodyOf Tryd.f136) Tryd.f136.results.toList spec_plainByte.sg x = spec_plainByte.B N x.1 := by kernel_rfl
  rw [h]
  try rfl
noncomputable def spec_plainByte.sm (N : Nat) : Sm D := (⟨spec_plainByte.sg, fun (x : Int × Unit) => spec_plainByte N x.1⟩ : Sm D)
theorem spec_plainByte.sound (N : Nat) : Sound cx Tryd.prog gam 136 (spec_plainByte.sm N) := fn_sound (A := spec_plainByte.A) (Φ := (look (spec_plainByte.phis N))) pok (G := gam) ΦOk.nil mixed N Tryd.func136 (c := (bodyOf Tryd.f136)) (by kernel_rfl) spec_plainByte.sg (by kernel_rfl) (by kernel_rfl) (by kernel_rfl) (spec_plainByte.run N)

@[reducible] def spec_validWord.sg : Sg := { ms := [{ k := .str }], keep := [false], rs := [{ k := .bool }] }
@[reducible] def spec_validWord.lvL0 : Lv := { id := 0, slots := [0, 3], ms := [{ k := .str }, { k := (.int .i64) }] }
noncomputable def spec_validWord.A : Ann := { dp := fun d => isIn [] d, lp := look [(0, spec_validWord.lvL0)], jn := look [], pins := [], nt := 18 }
noncomputable def spec_validWord.phis (N : Nat) : List (Nat × Sm D) := [(136, spec_plainByte.sm N)]
noncomputable def spec_validWord.a0 (N : Nat) (n : Nat) (y : (List UInt8) × Int × Unit) : Option (Bool × Unit) := loopAt cx (look (spec_validWord.phis N)) spec_validWord.A N n (encL cx spec_validWord.lvL0.ms y).1 (encL cx spec_validWord.lvL0.ms y).2 (bodyOf Tryd.f118) 0 (Kfin cx spec_validWord.A spec_validWord.sg Tryd.f118.results.toList) [1, 1, 0, 1, 1] []
theorem spec_validWord.r0 (N : Nat) : ∀ (n : Nat) (y : (List UInt8) × Int × Unit), spec_validWord.a0 N n y = spec_validWord.L0 N n y
  | 0, y => by kernel_rfl
  | n + 1, y => by
    have h : spec_validWord.a0 N (n + 1) y = spec_validWord.B0 N (fun z => spec_validWord.a0 N n z) y := by kernel_rfl
    have e : (fun z => spec_validWord.a0 N n z) = spec_validWord.L0 N n := funext fun z => spec_validWord.r0 N n z
    rw [h]
    try rw [e]
    first | done | rfl
theorem spec_validWord.run (N : Nat) (x : (List UInt8) × Unit) : runF cx (look (spec_validWord.phis N)) spec_validWord.A N (bodyOf Tryd.f118) Tryd.f118.results.toList spec_validWord.sg x = spec_validWord N x.1 := by
  have h : runF cx (look (spec_validWord.phis N)) spec_validWord.A N (bodyOf Tryd.f118) Tryd.f118.results.toList spec_validWord.sg x = spec_validWord.B N (fun z => spec_validWord.a0 N N z) x.1 := by kernel_rfl
  have e0 : (fun z => spec_validWord.a0 N N z) = spec_validWord.L0 N N := funext fun z => spec_validWord.r0 N N z
  rw [h, e0]
  try rfl
noncomputable def spec_validWord.sm (N : Nat) : Sm D := (⟨spec_validWord.sg, fun (x : (List UInt8) × Unit) => spec_validWord N x.1⟩ : Sm D)
theorem spec_validWord.sound (N : Nat) : Sound cx Tryd.prog gam 118 (spec_validWord.sm N) := fn_sound (A := spec_validWord.A) (Φ := (look (spec_validWord.phis N))) pok (G := gam) (ΦOk.cons (spec_plainByte.sound N) (fnOk_of (f := 136) (by kernel_rfl)) ΦOk.nil) mixed N Tryd.func118 (c := (bodyOf Tryd.f118)) (by kernel_rfl) spec_validWord.sg (by kernel_rfl) (by kernel_rfl) (by kernel_rfl) (spec_validWord.run N)

@[reducible] def spec_validValue.sg : Sg := { ms := [{ k := (.st 47) }], keep := [false], rs := [{ k := .bool }] }
noncomputable def spec_validValue.A : Ann := { dp := fun d => isIn [] d, lp := look [], jn := look [], pins := [], nt := 35 }
noncomputable def spec_validValue.phis (N : Nat) : List (Nat × Sm D) := [(36, spec_inRange.sm N), (118, spec_validWord.sm N)]
theorem spec_validValue.run (N : Nat) (x : ImplValue × Unit) : runF cx (look (spec_validValue.phis N)) spec_validValue.A N (bodyOf Tryd.f111) Tryd.f111.results.toList spec_validValue.sg x = spec_validValue N x.1 := by
  have h : runF cx (look (spec_validValue.phis N)) spec_validValue.A N (bodyOf Tryd.f111) Tryd.f111.results.toList spec_validValue.sg x = spec_validValue.B N x.1 := by kernel_rfl
  rw [h]
  try rfl
noncomputable def spec_validValue.sm (N : Nat) : Sm D := (⟨spec_validValue.sg, fun (x : ImplValue × Unit) => spec_validValue N x.1⟩ : Sm D)
theorem spec_validValue.sound (N : Nat) : Sound cx Tryd.prog gam 111 (spec_validValue.sm N) := fn_sound (A := spec_validValue.A) (Φ := (look (spec_validValue.phis N))) pok (G := gam) (ΦOk.cons (spec_inRange.sound N) (fnOk_of (f := 36) (by kernel_rfl)) (ΦOk.cons (spec_validWord.sound N) (fnOk_of (f := 118) (by kernel_rfl)) ΦOk.nil)) mixed N Tryd.func111 (c := (bodyOf Tryd.f111)) (by kernel_rfl) spec_validValue.sg (by kernel_rfl) (by kernel_rfl) (by kernel_rfl) (spec_validValue.run N)

@[reducible] def spec_validValues.sg : Sg := { ms := [{ k := (.sl (.st 47)), fl := [none] }], keep := [false], rs := [{ k := .bool }] }
@[reducible] def spec_validValues.lvL0 : Lv := { id := 0, slots := [0, 3], ms := [{ k := (.sl (.st 47)), fl := [none] }, { k := (.int .i64) }] }
noncomputable def spec_validValues.A : Ann := { dp := fun d => isIn [] d, lp := look [(0, spec_validValues.lvL0)], jn := look [], pins := [], nt := 16 }
noncomputable def spec_validValues.phis (N : Nat) : List (Nat × Sm D) := [(111, spec_validValue.sm N)]
noncomputable def spec_validValues.a0 (N : Nat) (n : Nat) (y : (List (ImplValue)) × Int × Unit) : Option (Bool × Unit) := loopAt cx (look (spec_validValues.phis N)) spec_validValues.A N n (encL cx spec_validValues.lvL0.ms y).1 (encL cx spec_validValues.lvL0.ms y).2 (bodyOf Tryd.f86) 0 (Kfin cx spec_validValues.A spec_validValues.sg Tryd.f86.results.toList) [1, 0, 1, 1] []
theorem spec_validValues.r0 (N : Nat) : ∀ (n : Nat) (y : (List (ImplValue)) × Int × Unit), spec_validValues.a0 N n y = spec_validValues.L0 N n y
  | 0, y => by kernel_rfl
  | n + 1, y => by
    have h : spec_validValues.a0 N (n + 1) y = spec_validValues.B0 N (fun z => spec_validValues.a0 N n z) y := by kernel_rfl
    have e : (fun z => spec_validValues.a0 N n z) = spec_validValues.L0 N n := funext fun z => spec_validValues.r0 N n z
    rw [h]
    try rw [e]
    first | done | rfl
theorem spec_validValues.run (N : Nat) (x : (List (ImplValue)) × Unit) : runF cx (look (spec_validValues.phis N)) spec_validValues.A N (bodyOf Tryd.f86) Tryd.f86.results.toList spec_validValues.sg x = spec_validValues N x.1 := by
  have h : runF cx (look (spec_validValues.phis N)) spec_validValues.A N (bodyOf Tryd.f86) Tryd.f86.results.toList spec_validValues.sg x = spec_validValues.B N (fun z => spec_validValues.a0 N N z) x.1 := by kernel_rfl
  have e0 : (fun z => spec_validValues.a0 N N z) = spec_validValues.L0 N N := funext fun z => spec_validValues.r0 N N z
  rw [h, e0]
  try rfl
noncomputable def spec_validValues.sm (N : Nat) : Sm D := (⟨spec_validValues.sg, fun (x : (List (ImplValue)) × Unit) => spec_validValues N x.1⟩ : Sm D)
theorem spec_validValues.sound (N : Nat) : Sound cx Tryd.prog gam 86 (spec_validValues.sm N) := fn_sound (A := spec_validValues.A) (Φ := (look (spec_validValues.phis N))) pok (G := gam) (ΦOk.cons (spec_validValue.sound N) (fnOk_of (f := 111) (by kernel_rfl)) ΦOk.nil) mixed N Tryd.func86 (c := (bodyOf Tryd.f86)) (by kernel_rfl) spec_validValues.sg (by kernel_rfl) (by kernel_rfl) (by kernel_rfl) (spec_validValues.run N)

@[reducible] def spec_comparePlaces.sg : Sg := { ms := [{ k := (.sl (.st 102)), fl := [none] }, { k := (.sl (.st 102)), fl := [none] }], keep := [false, false], rs := [{ k := (.int .i64) }] }
@[reducible] def spec_comparePlaces.lvL0 : Lv := { id := 0, slots := [0, 1, 5], ms := [{ k := (.sl (.st 102)), fl := [none] }, { k := (.sl (.st 102)), fl := [none] }, { k := (.int .i64) }] }
noncomputable def spec_comparePlaces.A : Ann := { dp := fun d => isIn [] d, lp := look [(0, spec_comparePlaces.lvL0)], jn := look [], pins := [], nt := 76 }
noncomputable def spec_comparePlaces.phis (N : Nat) : List (Nat × Sm D) := []
noncomputable def spec_comparePlaces.a0 (N : Nat) (n : Nat) (y : (List (ImplSlot)) × (List (ImplSlot)) × Int × Unit) : Option (Int × Unit) := loopAt cx (look (spec_comparePlaces.phis N)) spec_comparePlaces.A N n (encL cx spec_comparePlaces.lvL0.ms y).1 (encL cx spec_comparePlaces.lvL0.ms y).2 (bodyOf Tryd.f73) 0 (Kfin cx spec_comparePlaces.A spec_comparePlaces.sg Tryd.f73.results.toList) [1, 0, 1, 1] []
theorem spec_comparePlaces.r0 (N : Nat) : ∀ (n : Nat) (y : (List (ImplSlot)) × (List (ImplSlot)) × Int × Unit), spec_comparePlaces.a0 N n y = spec_comparePlaces.L0 N n y
  | 0, y => by kernel_rfl
  | n + 1, y => by
    have h : spec_comparePlaces.a0 N (n + 1) y = spec_comparePlaces.B0 N (fun z => spec_comparePlaces.a0 N n z) y := by kernel_rfl
    have e : (fun z => spec_comparePlaces.a0 N n z) = spec_comparePlaces.L0 N n := funext fun z => spec_comparePlaces.r0 N n z
    rw [h]
    try rw [e]
    first | done | rfl
theorem spec_comparePlaces.run (N : Nat) (x : (List (ImplSlot)) × (List (ImplSlot)) × Unit) : runF cx (look (spec_comparePlaces.phis N)) spec_comparePlaces.A N (bodyOf Tryd.f73) Tryd.f73.results.toList spec_comparePlaces.sg x = spec_comparePlaces N x.1 x.2.1 := by
  have h : runF cx (look (spec_comparePlaces.phis N)) spec_comparePlaces.A N (bodyOf Tryd.f73) Tryd.f73.results.toList spec_comparePlaces.sg x = spec_comparePlaces.B N (fun z => spec_comparePlaces.a0 N N z) x.1 x.2.1 := by kernel_rfl
  have e0 : (fun z => spec_comparePlaces.a0 N N z) = spec_comparePlaces.L0 N N := funext fun z => spec_comparePlaces.r0 N N z
  rw [h, e0]
  try rfl
noncomputable def spec_comparePlaces.sm (N : Nat) : Sm D := (⟨spec_comparePlaces.sg, fun (x : (List (ImplSlot)) × (List (ImplSlot)) × Unit) => spec_comparePlaces N x.1 x.2.1⟩ : Sm D)
theorem spec_comparePlaces.sound (N : Nat) : Sound cx Tryd.prog gam 73 (spec_comparePlaces.sm N) := fn_sound (A := spec_comparePlaces.A) (Φ := (look (spec_comparePlaces.phis N))) pok (G := gam) ΦOk.nil mixed N Tryd.func73 (c := (bodyOf Tryd.f73)) (by kernel_rfl) spec_comparePlaces.sg (by kernel_rfl) (by kernel_rfl) (by kernel_rfl) (spec_comparePlaces.run N)

@[reducible] def spec_validStore.sg : Sg := { ms := [{ k := (.sl (.st 70)), fl := [none] }], keep := [false], rs := [{ k := .bool }] }
@[reducible] def spec_validStore.lvL0 : Lv := { id := 0, slots := [0, 3], ms := [{ k := (.sl (.st 70)), fl := [none] }, { k := (.int .i64) }] }
noncomputable def spec_validStore.A : Ann := { dp := fun d => isIn [] d, lp := look [(0, spec_validStore.lvL0)], jn := look [], pins := [], nt := 57 }
noncomputable def spec_validStore.phis (N : Nat) : List (Nat × Sm D) := [(83, spec_validPlace.sm N), (86, spec_validValues.sm N), (73, spec_comparePlaces.sm N)]
noncomputable def spec_validStore.a0 (N : Nat) (n : Nat) (y : (List (ImplCell)) × Int × Unit) : Option (Bool × Unit) := loopAt cx (look (spec_validStore.phis N)) spec_validStore.A N n (encL cx spec_validStore.lvL0.ms y).1 (encL cx spec_validStore.lvL0.ms y).2 (bodyOf Tryd.f47) 0 (Kfin cx spec_validStore.A spec_validStore.sg Tryd.f47.results.toList) [1, 1, 0, 1, 1] []
theorem spec_validStore.r0 (N : Nat) : ∀ (n : Nat) (y : (List (ImplCell)) × Int × Unit), spec_validStore.a0 N n y = spec_validStore.L0 N n y
  | 0, y => by kernel_rfl
  | n + 1, y => by
    have h : spec_validStore.a0 N (n + 1) y = spec_validStore.B0 N (fun z => spec_validStore.a0 N n z) y := by kernel_rfl
    have e : (fun z => spec_validStore.a0 N n z) = spec_validStore.L0 N n := funext fun z => spec_validStore.r0 N n z
    rw [h]
    try rw [e]
    first | done | rfl
theorem spec_validStore.run (N : Nat) (x : (List (ImplCell)) × Unit) : runF cx (look (spec_validStore.phis N)) spec_validStore.A N (bodyOf Tryd.f47) Tryd.f47.results.toList spec_validStore.sg x = spec_validStore N x.1 := by
  have h : runF cx (look (spec_validStore.phis N)) spec_validStore.A N (bodyOf Tryd.f47) Tryd.f47.results.toList spec_validStore.sg x = spec_validStore.B N (fun z => spec_validStore.a0 N N z) x.1 := by kernel_rfl
  have e0 : (fun z => spec_validStore.a0 N N z) = spec_validStore.L0 N N := funext fun z => spec_validStore.r0 N N z
  rw [h, e0]
  try rfl
noncomputable def spec_validStore.sm (N : Nat) : Sm D := (⟨spec_validStore.sg, fun (x : (List (ImplCell)) × Unit) => spec_validStore N x.1⟩ : Sm D)
theorem spec_validStore.sound (N : Nat) : Sound cx Tryd.prog gam 47 (spec_validStore.sm N) := fn_sound (A := spec_validStore.A) (Φ := (look (spec_validStore.phis N))) pok (G := gam) (ΦOk.cons (spec_validPlace.sound N) (fnOk_of (f := 83) (by kernel_rfl)) (ΦOk.cons (spec_validValues.sound N) (fnOk_of (f := 86) (by kernel_rfl)) (ΦOk.cons (spec_comparePlaces.sound N) (fnOk_of (f := 73) (by kernel_rfl)) ΦOk.nil))) mixed N Tryd.func47 (c := (bodyOf Tryd.f47)) (by kernel_rfl) spec_validStore.sg (by kernel_rfl) (by kernel_rfl) (by kernel_rfl) (spec_validStore.run N)

@[reducible] def spec_validStep.sg : Sg := { ms := [{ k := (.st 81) }, { k := (.int .i64) }, { k := (.int .i64) }, { k := (.int .i64) }], keep := [false, false, false, false], rs := [{ k := .bool }] }
noncomputable def spec_validStep.A : Ann := { dp := fun d => isIn [] d, lp := look [], jn := look [], pins := [], nt := 93 }
noncomputable def spec_validStep.phis (N : Nat) : List (Nat × Sm D) := [(111, spec_validValue.sm N), (36, spec_inRange.sm N)]
theorem spec_validStep.run (N : Nat) (x : ImplStep × Int × Int × Int × Unit) : runF cx (look (spec_validStep.phis N)) spec_validStep.A N (bodyOf Tryd.f95) Tryd.f95.results.toList spec_validStep.sg x = spec_validStep N x.1 x.2.1 x.2.2.1 x.2.2.2.1 := by
  have h : runF cx (look (spec_validStep.phis N)) spec_validStep.A N (bodyOf Tryd.f95) Tryd.f95.results.toList spec_validStep.sg x = spec_validStep.B N x.1 x.2.1 x.2.2.1 x.2.2.2.1 := by kernel_rfl
  rw [h]
  try rfl
noncomputable def spec_validStep.sm (N : Nat) : Sm D := (⟨spec_validStep.sg, fun (x : ImplStep × Int × Int × Int × Unit) => spec_validStep N x.1 x.2.1 x.2.2.1 x.2.2.2.1⟩ : Sm D)
theorem spec_validStep.sound (N : Nat) : Sound cx Tryd.prog gam 95 (spec_validStep.sm N) := fn_sound (A := spec_validStep.A) (Φ := (look (spec_validStep.phis N))) pok (G := gam) (ΦOk.cons (spec_validValue.sound N) (fnOk_of (f := 111) (by kernel_rfl)) (ΦOk.cons (spec_inRange.sound N) (fnOk_of (f := 36) (by kernel_rfl)) ΦOk.nil)) mixed N Tryd.func95 (c := (bodyOf Tryd.f95)) (by kernel_rfl) spec_validStep.sg (by kernel_rfl) (by kernel_rfl) (by kernel_rfl) (spec_validStep.run N)

@[reducible] def spec_takes.sg : Sg := { ms := [{ k := (.st 81) }], keep := [false], rs := [{ k := (.int .i64) }] }
noncomputable def spec_takes.A : Ann := { dp := fun d => isIn [] d, lp := look [], jn := look [], pins := [], nt := 9 }
noncomputable def spec_takes.phis (N : Nat) : List (Nat × Sm D) := []
theorem spec_takes.run (N : Nat) (x : ImplStep × Unit) : runF cx (look (spec_takes.phis N)) spec_takes.A N (bodyOf Tryd.f96) Tryd.f96.results.toList spec_takes.sg x = spec_takes N x.1 := by
  have h : runF cx (look (spec_takes.phis N)) spec_takes.A N (bodyOf Tryd.f96) Tryd.f96.results.toList spec_takes.sg x = spec_takes.B N x.1 := by kernel_rfl
  rw [h]
  try rfl
noncomputable def spec_takes.sm (N : Nat) : Sm D := (⟨spec_takes.sg, fun (x : ImplStep × Unit) => spec_takes N x.1⟩ : Sm D)
theorem spec_takes.sound (N : Nat) : Sound cx Tryd.prog gam 96 (spec_takes.sm N) := fn_sound (A := spec_takes.A) (Φ := (look (spec_takes.phis N))) pok (G := gam) ΦOk.nil mixed N Tryd.func96 (c := (bodyOf Tryd.f96)) (by kernel_rfl) spec_takes.sg (by kernel_rfl) (by kernel_rfl) (by kernel_rfl) (spec_takes.run N)

@[reducible] def spec_validForm.sg : Sg := { ms := [{ k := (.sl (.st 81)), fl := [none] }, { k := (.int .i64) }, { k := (.int .i64) }, { k := (.int .i64) }], keep := [false, false, false, false], rs := [{ k := .bool }] }
@[reducible] def spec_validForm.lvL0 : Lv := { id := 0, slots := [0, 1, 2, 3, 9, 10], ms := [{ k := (.sl (.st 81)), fl := [none] }, { k := (.int .i64) }, { k := (.int .i64) }, { k := (.int .i64) }, { k := (.int .i64) }, { k := (.int .i64) }] }
noncomputable def spec_validForm.A : Ann := { dp := fun d => isIn [] d, lp := look [(0, spec_validForm.lvL0)], jn := look [], pins := [], nt := 48 }
noncomputable def spec_validForm.phis (N : Nat) : List (Nat × Sm D) := [(95, spec_validStep.sm N), (96, spec_takes.sm N)]
noncomputable def spec_validForm.a0 (N : Nat) (n : Nat) (y : (List (ImplStep)) × Int × Int × Int × Int × Int × Unit) : Option (Bool × Unit) := loopAt cx (look (spec_validForm.phis N)) spec_validForm.A N n (encL cx spec_validForm.lvL0.ms y).1 (encL cx spec_validForm.lvL0.ms y).2 (bodyOf Tryd.f63) 0 (Kfin cx spec_validForm.A spec_validForm.sg Tryd.f63.results.toList) [1, 1, 1, 0, 1, 1] []
theorem spec_validForm.r0 (N : Nat) : ∀ (n : Nat) (y : (List (ImplStep)) × Int × Int × Int × Int × Int × Unit), spec_validForm.a0 N n y = spec_validForm.L0 N n y
  | 0, y => by kernel_rfl
  | n + 1, y => by
    have h : spec_validForm.a0 N (n + 1) y = spec_validForm.B0 N (fun z => spec_validForm.a0 N n z) y := by kernel_rfl
    have e : (fun z => spec_validForm.a0 N n z) = spec_validForm.L0 N n := funext fun z => spec_validForm.r0 N n z
    rw [h]
    try rw [e]
    first | done | rfl
theorem spec_validForm.run (N : Nat) (x : (List (ImplStep)) × Int × Int × Int × Unit) : runF cx (look (spec_validForm.phis N)) spec_validForm.A N (bodyOf Tryd.f63) Tryd.f63.results.toList spec_validForm.sg x = spec_validForm N x.1 x.2.1 x.2.2.1 x.2.2.2.1 := by
  have h : runF cx (look (spec_validForm.phis N)) spec_validForm.A N (bodyOf Tryd.f63) Tryd.f63.results.toList spec_validForm.sg x = spec_validForm.B N (fun z => spec_validForm.a0 N N z) x.1 x.2.1 x.2.2.1 x.2.2.2.1 := by kernel_rfl
  have e0 : (fun z => spec_validForm.a0 N N z) = spec_validForm.L0 N N := funext fun z => spec_validForm.r0 N N z
  rw [h, e0]
  try rfl
noncomputable def spec_validForm.sm (N : Nat) : Sm D := (⟨spec_validForm.sg, fun (x : (List (ImplStep)) × Int × Int × Int × Unit) => spec_validForm N x.1 x.2.1 x.2.2.1 x.2.2.2.1⟩ : Sm D)
theorem spec_validForm.sound (N : Nat) : Sound cx Tryd.prog gam 63 (spec_validForm.sm N) := fn_sound (A := spec_validForm.A) (Φ := (look (spec_validForm.phis N))) pok (G := gam) (ΦOk.cons (spec_validStep.sound N) (fnOk_of (f := 95) (by kernel_rfl)) (ΦOk.cons (spec_takes.sound N) (fnOk_of (f := 96) (by kernel_rfl)) ΦOk.nil)) mixed N Tryd.func63 (c := (bodyOf Tryd.f63)) (by kernel_rfl) spec_validForm.sg (by kernel_rfl) (by kernel_rfl) (by kernel_rfl) (spec_validForm.run N)

@[reducible] def spec_validUpdate.sg : Sg := { ms := [{ k := (.st 86) }], keep := [false], rs := [{ k := .bool }] }
noncomputable def spec_validUpdate.A : Ann := { dp := fun d => isIn [] d, lp := look [], jn := look [], pins := [], nt := 21 }
noncomputable def spec_validUpdate.phis (N : Nat) : List (Nat × Sm D) := [(83, spec_validPlace.sm N), (36, spec_inRange.sm N), (63, spec_validForm.sm N)]
theorem spec_validUpdate.run (N : Nat) (x : ImplUpdate × Unit) : runF cx (look (spec_validUpdate.phis N)) spec_validUpdate.A N (bodyOf Tryd.f87) Tryd.f87.results.toList spec_validUpdate.sg x = spec_validUpdate N x.1 := by
  have h : runF cx (look (spec_validUpdate.phis N)) spec_validUpdate.A N (bodyOf Tryd.f87) Tryd.f87.results.toList spec_validUpdate.sg x = spec_validUpdate.B N x.1 := by kernel_rfl
  rw [h]
  try rfl
noncomputable def spec_validUpdate.sm (N : Nat) : Sm D := (⟨spec_validUpdate.sg, fun (x : ImplUpdate × Unit) => spec_validUpdate N x.1⟩ : Sm D)
theorem spec_validUpdate.sound (N : Nat) : Sound cx Tryd.prog gam 87 (spec_validUpdate.sm N) := fn_sound (A := spec_validUpdate.A) (Φ := (look (spec_validUpdate.phis N))) pok (G := gam) (ΦOk.cons (spec_validPlace.sound N) (fnOk_of (f := 83) (by kernel_rfl)) (ΦOk.cons (spec_inRange.sound N) (fnOk_of (f := 36) (by kernel_rfl)) (ΦOk.cons (spec_validForm.sound N) (fnOk_of (f := 63) (by kernel_rfl)) ΦOk.nil))) mixed N Tryd.func87 (c := (bodyOf Tryd.f87)) (by kernel_rfl) spec_validUpdate.sg (by kernel_rfl) (by kernel_rfl) (by kernel_rfl) (spec_validUpdate.run N)

@[reducible] def spec_validUpdates.sg : Sg := { ms := [{ k := (.sl (.st 86)), fl := [none] }], keep := [false], rs := [{ k := .bool }] }
@[reducible] def spec_validUpdates.lvL0 : Lv := { id := 0, slots := [0, 3], ms := [{ k := (.sl (.st 86)), fl := [none] }, { k := (.int .i64) }] }
noncomputable def spec_validUpdates.A : Ann := { dp := fun d => isIn [] d, lp := look [(0, spec_validUpdates.lvL0)], jn := look [], pins := [], nt := 19 }
noncomputable def spec_validUpdates.phis (N : Nat) : List (Nat × Sm D) := [(87, spec_validUpdate.sm N)]
noncomputable def spec_validUpdates.a0 (N : Nat) (n : Nat) (y : (List (ImplUpdate)) × Int × Unit) : Option (Bool × Unit) := loopAt cx (look (spec_validUpdates.phis N)) spec_validUpdates.A N n (encL cx spec_validUpdates.lvL0.ms y).1 (encL cx spec_validUpdates.lvL0.ms y).2 (bodyOf Tryd.f48) 0 (Kfin cx spec_validUpdates.A spec_validUpdates.sg Tryd.f48.results.toList) [1, 1, 0, 1, 1] []
theorem spec_validUpdates.r0 (N : Nat) : ∀ (n : Nat) (y : (List (ImplUpdate)) × Int × Unit), spec_validUpdates.a0 N n y = spec_validUpdates.L0 N n y
  | 0, y => by kernel_rfl
  | n + 1, y => by
    have h : spec_validUpdates.a0 N (n + 1) y = spec_validUpdates.B0 N (fun z => spec_validUpdates.a0 N n z) y := by kernel_rfl
    have e : (fun z => spec_validUpdates.a0 N n z) = spec_validUpdates.L0 N n := funext fun z => spec_validUpdates.r0 N n z
    rw [h]
    try rw [e]
    first | done | rfl
theorem spec_validUpdates.run (N : Nat) (x : (List (ImplUpdate)) × Unit) : runF cx (look (spec_validUpdates.phis N)) spec_validUpdates.A N (bodyOf Tryd.f48) Tryd.f48.results.toList spec_validUpdates.sg x = spec_validUpdates N x.1 := by
  have h : runF cx (look (spec_validUpdates.phis N)) spec_validUpdates.A N (bodyOf Tryd.f48) Tryd.f48.results.toList spec_validUpdates.sg x = spec_validUpdates.B N (fun z => spec_validUpdates.a0 N N z) x.1 := by kernel_rfl
  have e0 : (fun z => spec_validUpdates.a0 N N z) = spec_validUpdates.L0 N N := funext fun z => spec_validUpdates.r0 N N z
  rw [h, e0]
  try rfl
noncomputable def spec_validUpdates.sm (N : Nat) : Sm D := (⟨spec_validUpdates.sg, fun (x : (List (ImplUpdate)) × Unit) => spec_validUpdates N x.1⟩ : Sm D)
theorem spec_validUpdates.sound (N : Nat) : Sound cx Tryd.prog gam 48 (spec_validUpdates.sm N) := fn_sound (A := spec_validUpdates.A) (Φ := (look (spec_validUpdates.phis N))) pok (G := gam) (ΦOk.cons (spec_validUpdate.sound N) (fnOk_of (f := 87) (by kernel_rfl)) ΦOk.nil) mixed N Tryd.func48 (c := (bodyOf Tryd.f48)) (by kernel_rfl) spec_validUpdates.sg (by kernel_rfl) (by kernel_rfl) (by kernel_rfl) (spec_validUpdates.run N)

@[reducible] def spec_validLine.sg : Sg := { ms := [{ k := (.st 24) }], keep := [false], rs := [{ k := .bool }] }
noncomputable def spec_validLine.A : Ann := { dp := fun d => isIn [] d, lp := look [], jn := look [], pins := [], nt := 11 }
noncomputable def spec_validLine.phis (N : Nat) : List (Nat × Sm D) := [(47, spec_validStore.sm N), (48, spec_validUpdates.sm N)]
theorem spec_validLine.run (N : Nat) (x : ImplLine × Unit) : runF cx (look (spec_validLine.phis N)) spec_validLine.A N (bodyOf Tryd.f35) Tryd.f35.results.toList spec_validLine.sg x = spec_validLine N x.1 := by
  have h : runF cx (look (spec_validLine.phis N)) spec_validLine.A N (bodyOf Tryd.f35) Tryd.f35.results.toList spec_validLine.sg x = spec_validLine.B N x.1 := by kernel_rfl
  rw [h]
  try rfl
noncomputable def spec_validLine.sm (N : Nat) : Sm D := (⟨spec_validLine.sg, fun (x : ImplLine × Unit) => spec_validLine N x.1⟩ : Sm D)
theorem spec_validLine.sound (N : Nat) : Sound cx Tryd.prog gam 35 (spec_validLine.sm N) := fn_sound (A := spec_validLine.A) (Φ := (look (spec_validLine.phis N))) pok (G := gam) (ΦOk.cons (spec_validStore.sound N) (fnOk_of (f := 47) (by kernel_rfl)) (ΦOk.cons (spec_validUpdates.sound N) (fnOk_of (f := 48) (by kernel_rfl)) ΦOk.nil)) mixed N Tryd.func35 (c := (bodyOf Tryd.f35)) (by kernel_rfl) spec_validLine.sg (by kernel_rfl) (by kernel_rfl) (by kernel_rfl) (spec_validLine.run N)

@[reducible] def spec_copyCell.sg : Sg := { ms := [{ k := (.st 70) }], keep := [false], rs := [{ k := (.st 70) }], hold := true }
noncomputable def spec_copyCell.A : Ann := { dp := fun d => isIn [] d, lp := look [], jn := look [], pins := [], nt := 12 }
noncomputable def spec_copyCell.phis (N : Nat) : List (Nat × Sm D) := []
theorem spec_copyCell.run (N : Nat) (x : ImplCell × Unit) : runF cx (look (spec_copyCell.phis N)) spec_copyCell.A N (bodyOf Tryd.f75) Tryd.f75.results.toList spec_copyCell.sg x = spec_copyCell N x.1 := by
  have h : runF cx (look (spec_copyCell.phis N)) spec_copyCell.A N (bodyOf Tryd.f75) Tryd.f75.results.toList spec_copyCell.sg x = spec_copyCell.B N x.1 := by kernel_rfl
  rw [h]
  try rfl
noncomputable def spec_copyCell.sm (N : Nat) : Sm D := (⟨spec_copyCell.sg, fun (x : ImplCell × Unit) => spec_copyCell N x.1⟩ : Sm D)
theorem spec_copyCell.sound (N : Nat) : Sound cx Tryd.prog gam 75 (spec_copyCell.sm N) := fn_sound (A := spec_copyCell.A) (Φ := (look (spec_copyCell.phis N))) pok (G := gam) ΦOk.nil mixed N Tryd.func75 (c := (bodyOf Tryd.f75)) (by kernel_rfl) spec_copyCell.sg (by kernel_rfl) (by kernel_rfl) (by kernel_rfl) (spec_copyCell.run N)

@[reducible] def spec_copyStore.sg : Sg := { ms := [{ k := (.sl (.st 70)), fl := [none] }], keep := [false], rs := [{ k := (.sl (.st 70)), fl := [some (false, 411)] }], hold := true }
@[reducible] def spec_copyStore.lvL0 : Lv := { id := 0, slots := [0, 3, 4], ms := [{ k := (.sl (.st 70)), fl := [none] }, { k := (.sl (.st 70)), fl := [some (false, 620)] }, { k := (.int .i64) }] }
noncomputable def spec_copyStore.A : Ann := { dp := fun d => isIn [] d, lp := look [(0, spec_copyStore.lvL0)], jn := look [], pins := [], nt := 21 }
noncomputable def spec_copyStore.phis (N : Nat) : List (Nat × Sm D) := [(75, spec_copyCell.sm N)]
noncomputable def spec_copyStore.a0 (N : Nat) (n : Nat) (y : (List (ImplCell)) × (List (ImplCell)) × Int × Unit) : Option ((List (ImplCell)) × Unit) := loopAt cx (look (spec_copyStore.phis N)) spec_copyStore.A N n (encL cx spec_copyStore.lvL0.ms y).1 (encL cx spec_copyStore.lvL0.ms y).2 (bodyOf Tryd.f37) 0 (Kfin cx spec_copyStore.A spec_copyStore.sg Tryd.f37.results.toList) [1, 1, 0, 1, 1] []
theorem spec_copyStore.r0 (N : Nat) : ∀ (n : Nat) (y : (List (ImplCell)) × (List (ImplCell)) × Int × Unit), spec_copyStore.a0 N n y = spec_copyStore.L0 N n y
  | 0, y => by kernel_rfl
  | n + 1, y => by
    have h : spec_copyStore.a0 N (n + 1) y = spec_copyStore.B0 N (fun z => spec_copyStore.a0 N n z) y := by kernel_rfl
    have e : (fun z => spec_copyStore.a0 N n z) = spec_copyStore.L0 N n := funext fun z => spec_copyStore.r0 N n z
    rw [h]
    try rw [e]
    first | done | rfl
theorem spec_copyStore.run (N : Nat) (x : (List (ImplCell)) × Unit) : runF cx (look (spec_copyStore.phis N)) spec_copyStore.A N (bodyOf Tryd.f37) Tryd.f37.results.toList spec_copyStore.sg x = spec_copyStore N x.1 := by
  have h : runF cx (look (spec_copyStore.phis N)) spec_copyStore.A N (bodyOf Tryd.f37) Tryd.f37.results.toList spec_copyStore.sg x = spec_copyStore.B N (fun z => spec_copyStore.a0 N N z) x.1 := by kernel_rfl
  have e0 : (fun z => spec_copyStore.a0 N N z) = spec_copyStore.L0 N N := funext fun z => spec_copyStore.r0 N N z
  rw [h, e0]
  try rfl
noncomputable def spec_copyStore.sm (N : Nat) : Sm D := (⟨spec_copyStore.sg, fun (x : (List (ImplCell)) × Unit) => spec_copyStore N x.1⟩ : Sm D)
theorem spec_copyStore.sound (N : Nat) : Sound cx Tryd.prog gam 37 (spec_copyStore.sm N) := fn_sound (A := spec_copyStore.A) (Φ := (look (spec_copyStore.phis N))) pok (G := gam) (ΦOk.cons (spec_copyCell.sound N) (fnOk_of (f := 75) (by kernel_rfl)) ΦOk.nil) mixed N Tryd.func37 (c := (bodyOf Tryd.f37)) (by kernel_rfl) spec_copyStore.sg (by kernel_rfl) (by kernel_rfl) (by kernel_rfl) (spec_copyStore.run N)

@[reducible] def spec_cellAt.sg : Sg := { ms := [{ k := (.sl (.st 70)), fl := [none] }, { k := (.sl (.st 102)), fl := [none] }], keep := [false, false], rs := [{ k := (.int .i64) }, { k := .bool }] }
@[reducible] def spec_cellAt.lvL0 : Lv := { id := 0, slots := [0, 1, 6], ms := [{ k := (.sl (.st 70)), fl := [none] }, { k := (.sl (.st 102)), fl := [none] }, { k := (.int .i64) }] }
noncomputable def spec_cellAt.A : Ann := { dp := fun d => isIn [] d, lp := look [(0, spec_cellAt.lvL0)], jn := look [], pins := [], nt := 38 }
noncomputable def spec_cellAt.phis (N : Nat) : List (Nat × Sm D) := [(73, spec_comparePlaces.sm N)]
noncomputable def spec_cellAt.a0 (N : Nat) (n : Nat) (y : (List (ImplCell)) × (List (ImplSlot)) × Int × Unit) : Option (Int × Bool × Unit) := loopAt cx (look (spec_cellAt.phis N)) spec_cellAt.A N n (encL cx spec_cellAt.lvL0.ms y).1 (encL cx spec_cellAt.lvL0.ms y).2 (bodyOf Tryd.f105) 0 (Kfin cx spec_cellAt.A spec_cellAt.sg Tryd.f105.results.toList) [1, 1, 0, 1] []
theorem spec_cellAt.r0 (N : Nat) : ∀ (n : Nat) (y : (List (ImplCell)) × (List (ImplSlot)) × Int × Unit), spec_cellAt.a0 N n y = spec_cellAt.L0 N n y
  | 0, y => by kernel_rfl
  | n + 1, y => by
    have h : spec_cellAt.a0 N (n + 1) y = spec_cellAt.B0 N (fun z => spec_cellAt.a0 N n z) y := by kernel_rfl
    have e : (fun z => spec_cellAt.a0 N n z) = spec_cellAt.L0 N n := funext fun z => spec_cellAt.r0 N n z
    rw [h]
    try rw [e]
    first | done | rfl
theorem spec_cellAt.run (N : Nat) (x : (List (ImplCell)) × (List (ImplSlot)) × Unit) : runF cx (look (spec_cellAt.phis N)) spec_cellAt.A N (bodyOf Tryd.f105) Tryd.f105.results.toList spec_cellAt.sg x = spec_cellAt N x.1 x.2.1 := by
  have h : runF cx (look (spec_cellAt.phis N)) spec_cellAt.A N (bodyOf Tryd.f105) Tryd.f105.results.toList spec_cellAt.sg x = spec_cellAt.B N (fun z => spec_cellAt.a0 N N z) x.1 x.2.1 := by kernel_rfl
  have e0 : (fun z => spec_cellAt.a0 N N z) = spec_cellAt.L0 N N := funext fun z => spec_cellAt.r0 N N z
  rw [h, e0]
  try rfl
noncomputable def spec_cellAt.sm (N : Nat) : Sm D := (⟨spec_cellAt.sg, fun (x : (List (ImplCell)) × (List (ImplSlot)) × Unit) => spec_cellAt N x.1 x.2.1⟩ : Sm D)
theorem spec_cellAt.sound (N : Nat) : Sound cx Tryd.prog gam 105 (spec_cellAt.sm N) := fn_sound (A := spec_cellAt.A) (Φ := (look (spec_cellAt.phis N))) pok (G := gam) (ΦOk.cons (spec_comparePlaces.sound N) (fnOk_of (f := 73) (by kernel_rfl)) ΦOk.nil) mixed N Tryd.func105 (c := (bodyOf Tryd.f105)) (by kernel_rfl) spec_cellAt.sg (by kernel_rfl) (by kernel_rfl) (by kernel_rfl) (spec_cellAt.run N)

@[reducible] def spec_inLanes.sg : Sg := { ms := [{ k := (.int .i64) }, { k := (.int .i64) }], keep := [false, false], rs := [{ k := .bool }] }
noncomputable def spec_inLanes.A : Ann := { dp := fun d => isIn [] d, lp := look [], jn := look [], pins := [], nt := 15 }
noncomputable def spec_inLanes.phis (N : Nat) : List (Nat × Sm D) := []
theorem spec_inLanes.run (N : Nat) (x : Int × Int × Unit) : runF cx (look (spec_inLanes.phis N)) spec_inLanes.A N (bodyOf Tryd.f89) Tryd.f89.results.toList spec_inLanes.sg x = spec_inLanes N x.1 x.2.1 := by
  have h : runF cx (look (spec_inLanes.phis N)) spec_inLanes.A N (bodyOf Tryd.f89) Tryd.f89.results.toList spec_inLanes.sg x = spec_inLanes.B N x.1 x.2.1 := by kernel_rfl
  rw [h]
  try rfl
noncomputable def spec_inLanes.sm (N : Nat) : Sm D := (⟨spec_inLanes.sg, fun (x : Int × Int × Unit) => spec_inLanes N x.1 x.2.1⟩ : Sm D)
theorem spec_inLanes.sound (N : Nat) : Sound cx Tryd.prog gam 89 (spec_inLanes.sm N) := fn_sound (A := spec_inLanes.A) (Φ := (look (spec_inLanes.phis N))) pok (G := gam) ΦOk.nil mixed N Tryd.func89 (c := (bodyOf Tryd.f89)) (by kernel_rfl) spec_inLanes.sg (by kernel_rfl) (by kernel_rfl) (by kernel_rfl) (spec_inLanes.run N)

@[reducible] def spec_copyUpdate.sg : Sg := { ms := [{ k := (.st 86) }], keep := [false], rs := [{ k := (.st 86) }], hold := true }
noncomputable def spec_copyUpdate.A : Ann := { dp := fun d => isIn [] d, lp := look [], jn := look [], pins := [], nt := 16 }
noncomputable def spec_copyUpdate.phis (N : Nat) : List (Nat × Sm D) := []
theorem spec_copyUpdate.run (N : Nat) (x : ImplUpdate × Unit) : runF cx (look (spec_copyUpdate.phis N)) spec_copyUpdate.A N (bodyOf Tryd.f81) Tryd.f81.results.toList spec_copyUpdate.sg x = spec_copyUpdate N x.1 := by
  have h : runF cx (look (spec_copyUpdate.phis N)) spec_copyUpdate.A N (bodyOf Tryd.f81) Tryd.f81.results.toList spec_copyUpdate.sg x = spec_copyUpdate.B N x.1 := by kernel_rfl
  rw [h]
  try rfl
noncomputable def spec_copyUpdate.sm (N : Nat) : Sm D := (⟨spec_copyUpdate.sg, fun (x : ImplUpdate × Unit) => spec_copyUpdate N x.1⟩ : Sm D)
theorem spec_copyUpdate.sound (N : Nat) : Sound cx Tryd.prog gam 81 (spec_copyUpdate.sm N) := fn_sound (A := spec_copyUpdate.A) (Φ := (look (spec_copyUpdate.phis N))) pok (G := gam) ΦOk.nil mixed N Tryd.func81 (c := (bodyOf Tryd.f81)) (by kernel_rfl) spec_copyUpdate.sg (by kernel_rfl) (by kernel_rfl) (by kernel_rfl) (spec_copyUpdate.run N)

@[reducible] def spec_applies.sg : Sg := { ms := [{ k := (.sl (.st 47)), fl := [none] }, { k := (.st 86) }], keep := [false, false], rs := [{ k := .bool }] }
noncomputable def spec_applies.A : Ann := { dp := fun d => isIn [] d, lp := look [], jn := look [], pins := [], nt := 17 }
noncomputable def spec_applies.phis (N : Nat) : List (Nat × Sm D) := [(63, spec_validForm.sm N)]
theorem spec_applies.run (N : Nat) (x : (List (ImplValue)) × ImplUpdate × Unit) : runF cx (look (spec_applies.phis N)) spec_applies.A N (bodyOf Tryd.f132) Tryd.f132.results.toList spec_applies.sg x = spec_applies N x.1 x.2.1 := by
  have h : runF cx (look (spec_applies.phis N)) spec_applies.A N (bodyOf Tryd.f132) Tryd.f132.results.toList spec_applies.sg x = spec_applies.B N x.1 x.2.1 := by kernel_rfl
  rw [h]
  try rfl
noncomputable def spec_applies.sm (N : Nat) : Sm D := (⟨spec_applies.sg, fun (x : (List (ImplValue)) × ImplUpdate × Unit) => spec_applies N x.1 x.2.1⟩ : Sm D)
theorem spec_applies.sound (N : Nat) : Sound cx Tryd.prog gam 132 (spec_applies.sm N) := fn_sound (A := spec_applies.A) (Φ := (look (spec_applies.phis N))) pok (G := gam) (ΦOk.cons (spec_validForm.sound N) (fnOk_of (f := 63) (by kernel_rfl)) ΦOk.nil) mixed N Tryd.func132 (c := (bodyOf Tryd.f132)) (by kernel_rfl) spec_applies.sg (by kernel_rfl) (by kernel_rfl) (by kernel_rfl) (spec_applies.run N)

end
end Go.Ev
