/- Each function that the law reaches does what its plain form says; no condition beyond the table of the library. -/
import Derived.Test.YtadoojpcjfglgaaGreatDoorEvF
set_option linter.all false
set_option linter.unusedVariables false
set_option linter.unusedSimpArgs false
set_option maxRecDepth 100000
set_option maxHeartbeats 0
namespace Go.Ev
noncomputable section
open Go.Proofs
@[reducible] def spec_newSource.sg : Sg := { ms := [{ k := (.sl (.int .u8)), fl := [none] }], keep := [false], rs := [{ ptr := true, id := 410, t := 114, k := (.st 113) }], hold := true }
noncomputable def spec_newSource.A : Ann := { dp := fun d => isIn [] d, lp := look [], jn := look [], pins := [], nt := 6 }
noncomputable def spec_newSource.phis (N : Nat) : List (Nat × Sm D) := []
theorem spec_newSource.run (N : Nat) (x : (List (Int)) × Unit) : runF cx (look (spec_newSource.phis N)) spec_newSource.A N (bodyOf Tryz.f42) Tryz.f42.results.toList spec_newSource.sg x = spec_newSource N x.1 := by
  have h : runF cx (look (spec_newSource.phis N)) spec_newSource.A N (bodyOf Tryz.f42) Tryz.f42.results.toList spec_newSource.sg x = spec_newSource.B N x.1 := by kernel_rfl
  rw [h]
  try rfl
noncomputable def spec_newSource.sm (N : Nat) : Sm D := (⟨spec_newSource.sg, fun (x : (List (Int)) × Unit) => spec_newSource N x.1⟩ : Sm D)
theorem spec_newSource.sound (N : Nat) : Sound cx Tryz.prog gam 42 (spec_newSource.sm N) := fn_sound (A := spec_newSource.A) (Φ := (look (spec_newSource.phis N))) pok (G := gam) ΦOk.nil mixed N Tryz.func42 (c := (bodyOf Tryz.f42)) (by kernel_rfl) spec_newSource.sg (by kernel_rfl) (by kernel_rfl) (by kernel_rfl) (spec_newSource.run N)

@[reducible] def spec_source_pick.sg : Sg := { ms := [{ ptr := true, id := 10, t := 114, k := (.st 113) }, { k := (.int .i64) }], keep := [true, false], rs := [{ k := (.int .i64) }], hold := true }
noncomputable def spec_source_pick.A : Ann := { dp := fun d => isIn [] d, lp := look [], jn := look [], pins := [10], nt := 101 }
noncomputable def spec_source_pick.phis (N : Nat) : List (Nat × Sm D) := []
theorem spec_source_pick.run (N : Nat) (x : SpecSource × Int × Unit) : runF cx (look (spec_source_pick.phis N)) spec_source_pick.A N (bodyOf Tryz.f46) Tryz.f46.results.toList spec_source_pick.sg x = spec_source_pick N x.1 x.2.1 := by
  have h : runF cx (look (spec_source_pick.phis N)) spec_source_pick.A N (bodyOf Tryz.f46) Tryz.f46.results.toList spec_source_pick.sg x = spec_source_pick.B N x.1 x.2.1 := by kernel_rfl
  rw [h]
  try rfl
noncomputable def spec_source_pick.sm (N : Nat) : Sm D := (⟨spec_source_pick.sg, fun (x : SpecSource × Int × Unit) => spec_source_pick N x.1 x.2.1⟩ : Sm D)
theorem spec_source_pick.sound (N : Nat) : Sound cx Tryz.prog gam 46 (spec_source_pick.sm N) := fn_sound (A := spec_source_pick.A) (Φ := (look (spec_source_pick.phis N))) pok (G := gam) ΦOk.nil mixed N Tryz.func46 (c := (bodyOf Tryz.f46)) (by kernel_rfl) spec_source_pick.sg (by kernel_rfl) (by kernel_rfl) (by kernel_rfl) (spec_source_pick.run N)

@[reducible] def spec_source_one.sg : Sg := { ms := [{ ptr := true, id := 10, t := 114, k := (.st 113) }, { k := (.sl (.int .i64)), fl := [none] }], keep := [true, false], rs := [{ k := (.int .i64) }], hold := true }
noncomputable def spec_source_one.A : Ann := { dp := fun d => isIn [] d, lp := look [], jn := look [], pins := [10], nt := 12 }
noncomputable def spec_source_one.phis (N : Nat) : List (Nat × Sm D) := [(46, spec_source_pick.sm N)]
theorem spec_source_one.run (N : Nat) (x : SpecSource × (List (Int)) × Unit) : runF cx (look (spec_source_one.phis N)) spec_source_one.A N (bodyOf Tryz.f45) Tryz.f45.results.toList spec_source_one.sg x = spec_source_one N x.1 x.2.1 := by
  have h : runF cx (look (spec_source_one.phis N)) spec_source_one.A N (bodyOf Tryz.f45) Tryz.f45.results.toList spec_source_one.sg x = spec_source_one.B N x.1 x.2.1 := by kernel_rfl
  rw [h]
  try rfl
noncomputable def spec_source_one.sm (N : Nat) : Sm D := (⟨spec_source_one.sg, fun (x : SpecSource × (List (Int)) × Unit) => spec_source_one N x.1 x.2.1⟩ : Sm D)
theorem spec_source_one.sound (N : Nat) : Sound cx Tryz.prog gam 45 (spec_source_one.sm N) := fn_sound (A := spec_source_one.A) (Φ := (look (spec_source_one.phis N))) pok (G := gam) (ΦOk.cons (spec_source_pick.sound N) (fnOk_of (f := 46) (by kernel_rfl)) ΦOk.nil) mixed N Tryz.func45 (c := (bodyOf Tryz.f45)) (by kernel_rfl) spec_source_one.sg (by kernel_rfl) (by kernel_rfl) (by kernel_rfl) (spec_source_one.run N)

@[reducible] def spec_source_rarely.sg : Sg := { ms := [{ ptr := true, id := 10, t := 114, k := (.st 113) }], keep := [true], rs := [{ k := .bool }], hold := true }
noncomputable def spec_source_rarely.A : Ann := { dp := fun d => isIn [] d, lp := look [], jn := look [], pins := [10], nt := 6 }
noncomputable def spec_source_rarely.phis (N : Nat) : List (Nat × Sm D) := [(46, spec_source_pick.sm N)]
theorem spec_source_rarely.run (N : Nat) (x : SpecSource × Unit) : runF cx (look (spec_source_rarely.phis N)) spec_source_rarely.A N (bodyOf Tryz.f80) Tryz.f80.results.toList spec_source_rarely.sg x = spec_source_rarely N x.1 := by
  have h : runF cx (look (spec_source_rarely.phis N)) spec_source_rarely.A N (bodyOf Tryz.f80) Tryz.f80.results.toList spec_source_rarely.sg x = spec_source_rarely.B N x.1 := by kernel_rfl
  rw [h]
  try rfl
noncomputable def spec_source_rarely.sm (N : Nat) : Sm D := (⟨spec_source_rarely.sg, fun (x : SpecSource × Unit) => spec_source_rarely N x.1⟩ : Sm D)
theorem spec_source_rarely.sound (N : Nat) : Sound cx Tryz.prog gam 80 (spec_source_rarely.sm N) := fn_sound (A := spec_source_rarely.A) (Φ := (look (spec_source_rarely.phis N))) pok (G := gam) (ΦOk.cons (spec_source_pick.sound N) (fnOk_of (f := 46) (by kernel_rfl)) ΦOk.nil) mixed N Tryz.func80 (c := (bodyOf Tryz.f80)) (by kernel_rfl) spec_source_rarely.sg (by kernel_rfl) (by kernel_rfl) (by kernel_rfl) (spec_source_rarely.run N)

@[reducible] def spec_source_slots.sg : Sg := { ms := [{ ptr := true, id := 10, t := 114, k := (.st 113) }], keep := [true], rs := [{ k := (.sl (.st 125)), fl := [none] }], hold := true }
@[reducible] def spec_source_slots.lvL0 : Lv := { id := 0, slots := [0, 3, 4], ms := [{ ptr := true, id := 10, t := 114, k := (.st 113), fl := [none, none, none] }, { k := (.sl (.st 125)), fl := [some (false, 620)] }, { k := (.int .i64) }] }
noncomputable def spec_source_slots.A : Ann := { dp := fun d => isIn [] d, lp := look [(0, spec_source_slots.lvL0)], jn := look [], pins := [10], nt := 35 }
noncomputable def spec_source_slots.phis (N : Nat) : List (Nat × Sm D) := [(46, spec_source_pick.sm N), (45, spec_source_one.sm N), (80, spec_source_rarely.sm N)]
noncomputable def spec_source_slots.a0 (N : Nat) (n : Nat) (y : SpecSource × (List (ImplSlot)) × Int × Unit) : Option (SpecSource × (List (ImplSlot)) × Unit) := loopAt cx (look (spec_source_slots.phis N)) spec_source_slots.A N n (encL cx spec_source_slots.lvL0.ms y).1 (encL cx spec_source_slots.lvL0.ms y).2 (bodyOf Tryz.f89) 0 (Kfin cx spec_source_slots.A spec_source_slots.sg Tryz.f89.results.toList) [1, 1, 0, 1, 1] []
theorem spec_source_slots.r0 (N : Nat) : ∀ (n : Nat) (y : SpecSource × (List (ImplSlot)) × Int × Unit), spec_source_slots.a0 N n y = spec_source_slots.L0 N n y
  | 0, y => by kernel_rfl
  | n + 1, y => by
    have h : spec_source_slots.a0 N (n + 1) y = spec_source_slots.B0 N (fun z => spec_source_slots.a0 N n z) y := by kernel_rfl
    have e : (fun z => spec_source_slots.a0 N n z) = spec_source_slots.L0 N n := funext fun z => spec_source_slots.r0 N n z
    rw [h]
    try rw [e]
    first | done | rfl
theorem spec_source_slots.run (N : Nat) (x : SpecSource × Unit) : runF cx (look (spec_source_slots.phis N)) spec_source_slots.A N (bodyOf Tryz.f89) Tryz.f89.results.toList spec_source_slots.sg x = spec_source_slots N x.1 := by
  have h : runF cx (look (spec_source_slots.phis N)) spec_source_slots.A N (bodyOf Tryz.f89) Tryz.f89.results.toList spec_source_slots.sg x = spec_source_slots.B N (fun z => spec_source_slots.a0 N N z) x.1 := by kernel_rfl
  have e0 : (fun z => spec_source_slots.a0 N N z) = spec_source_slots.L0 N N := funext fun z => spec_source_slots.r0 N N z
  rw [h, e0]
  try rfl
noncomputable def spec_source_slots.sm (N : Nat) : Sm D := (⟨spec_source_slots.sg, fun (x : SpecSource × Unit) => spec_source_slots N x.1⟩ : Sm D)
theorem spec_source_slots.sound (N : Nat) : Sound cx Tryz.prog gam 89 (spec_source_slots.sm N) := fn_sound (A := spec_source_slots.A) (Φ := (look (spec_source_slots.phis N))) pok (G := gam) (ΦOk.cons (spec_source_pick.sound N) (fnOk_of (f := 46) (by kernel_rfl)) (ΦOk.cons (spec_source_one.sound N) (fnOk_of (f := 45) (by kernel_rfl)) (ΦOk.cons (spec_source_rarely.sound N) (fnOk_of (f := 80) (by kernel_rfl)) ΦOk.nil))) mixed N Tryz.func89 (c := (bodyOf Tryz.f89)) (by kernel_rfl) spec_source_slots.sg (by kernel_rfl) (by kernel_rfl) (by kernel_rfl) (spec_source_slots.run N)

@[reducible] def spec_source_text.sg : Sg := { ms := [{ ptr := true, id := 10, t := 114, k := (.st 113) }], keep := [true], rs := [{ k := .str }], hold := true }
@[reducible] def spec_source_text.lvL0 : Lv := { id := 0, slots := [0, 3, 4], ms := [{ ptr := true, id := 10, t := 114, k := (.st 113), fl := [none, none, none] }, { k := .str }, { k := (.int .i64) }] }
noncomputable def spec_source_text.A : Ann := { dp := fun d => isIn [] d, lp := look [(0, spec_source_text.lvL0)], jn := look [], pins := [10], nt := 23 }
noncomputable def spec_source_text.phis (N : Nat) : List (Nat × Sm D) := [(46, spec_source_pick.sm N), (80, spec_source_rarely.sm N)]
noncomputable def spec_source_text.a0 (N : Nat) (n : Nat) (y : SpecSource × (List UInt8) × Int × Unit) : Option (SpecSource × (List UInt8) × Unit) := loopAt cx (look (spec_source_text.phis N)) spec_source_text.A N n (encL cx spec_source_text.lvL0.ms y).1 (encL cx spec_source_text.lvL0.ms y).2 (bodyOf Tryz.f158) 0 (Kfin cx spec_source_text.A spec_source_text.sg Tryz.f158.results.toList) [1, 1, 0, 1, 1] []
theorem spec_source_text.r0 (N : Nat) : ∀ (n : Nat) (y : SpecSource × (List UInt8) × Int × Unit), spec_source_text.a0 N n y = spec_source_text.L0 N n y
  | 0, y => by kernel_rfl
  | n + 1, y => by
    have h : spec_source_text.a0 N (n + 1) y = spec_source_text.B0 N (fun z => spec_source_text.a0 N n z) y := by kernel_rfl
    have e : (fun z => spec_source_text.a0 N n z) = spec_source_text.L0 N n := funext fun z => spec_source_text.r0 N n z
    rw [h]
    try rw [e]
    first | done | rfl
theorem spec_source_text.run (N : Nat) (x : SpecSource × Unit) : runF cx (look (spec_source_text.phis N)) spec_source_text.A N (bodyOf Tryz.f158) Tryz.f158.results.toList spec_source_text.sg x = spec_source_text N x.1 := by
  have h : runF cx (look (spec_source_text.phis N)) spec_source_text.A N (bodyOf Tryz.f158) Tryz.f158.results.toList spec_source_text.sg x = spec_source_text.B N (fun z => spec_source_text.a0 N N z) x.1 := by kernel_rfl
  have e0 : (fun z => spec_source_text.a0 N N z) = spec_source_text.L0 N N := funext fun z => spec_source_text.r0 N N z
  rw [h, e0]
  try rfl
noncomputable def spec_source_text.sm (N : Nat) : Sm D := (⟨spec_source_text.sg, fun (x : SpecSource × Unit) => spec_source_text N x.1⟩ : Sm D)
theorem spec_source_text.sound (N : Nat) : Sound cx Tryz.prog gam 158 (spec_source_text.sm N) := fn_sound (A := spec_source_text.A) (Φ := (look (spec_source_text.phis N))) pok (G := gam) (ΦOk.cons (spec_source_pick.sound N) (fnOk_of (f := 46) (by kernel_rfl)) (ΦOk.cons (spec_source_rarely.sound N) (fnOk_of (f := 80) (by kernel_rfl)) ΦOk.nil)) mixed N Tryz.func158 (c := (bodyOf Tryz.f158)) (by kernel_rfl) spec_source_text.sg (by kernel_rfl) (by kernel_rfl) (by kernel_rfl) (spec_source_text.run N)

@[reducible] def spec_source_value.sg : Sg := { ms := [{ ptr := true, id := 10, t := 114, k := (.st 113) }], keep := [true], rs := [{ k := (.st 127) }], hold := true }
noncomputable def spec_source_value.A : Ann := { dp := fun d => isIn [] d, lp := look [], jn := look [], pins := [10], nt := 23 }
noncomputable def spec_source_value.phis (N : Nat) : List (Nat × Sm D) := [(46, spec_source_pick.sm N), (158, spec_source_text.sm N), (45, spec_source_one.sm N)]
theorem spec_source_value.run (N : Nat) (x : SpecSource × Unit) : runF cx (look (spec_source_value.phis N)) spec_source_value.A N (bodyOf Tryz.f146) Tryz.f146.results.toList spec_source_value.sg x = spec_source_value N x.1 := by
  have h : runF cx (look (spec_source_value.phis N)) spec_source_value.A N (bodyOf Tryz.f146) Tryz.f146.results.toList spec_source_value.sg x = spec_source_value.B N x.1 := by kernel_rfl
  rw [h]
  try rfl
noncomputable def spec_source_value.sm (N : Nat) : Sm D := (⟨spec_source_value.sg, fun (x : SpecSource × Unit) => spec_source_value N x.1⟩ : Sm D)
theorem spec_source_value.sound (N : Nat) : Sound cx Tryz.prog gam 146 (spec_source_value.sm N) := fn_sound (A := spec_source_value.A) (Φ := (look (spec_source_value.phis N))) pok (G := gam) (ΦOk.cons (spec_source_pick.sound N) (fnOk_of (f := 46) (by kernel_rfl)) (ΦOk.cons (spec_source_text.sound N) (fnOk_of (f := 158) (by kernel_rfl)) (ΦOk.cons (spec_source_one.sound N) (fnOk_of (f := 45) (by kernel_rfl)) ΦOk.nil))) mixed N Tryz.func146 (c := (bodyOf Tryz.f146)) (by kernel_rfl) spec_source_value.sg (by kernel_rfl) (by kernel_rfl) (by kernel_rfl) (spec_source_value.run N)

@[reducible] def spec_inRange.sg : Sg := { ms := [{ k := (.int .i64) }, { k := (.int .i64) }, { k := (.int .i64) }], keep := [false, false, false], rs := [{ k := .bool }] }
noncomputable def spec_inRange.A : Ann := { dp := fun d => isIn [] d, lp := look [], jn := look [], pins := [], nt := 15 }
noncomputable def spec_inRange.phis (N : Nat) : List (Nat × Sm D) := []
theorem spec_inRange.run (N : Nat) (x : Int × Int × Int × Unit) : runF cx (look (spec_inRange.phis N)) spec_inRange.A N (bodyOf Tryz.f50) Tryz.f50.results.toList spec_inRange.sg x = spec_inRange N x.1 x.2.1 x.2.2.1 := by
  have h : runF cx (look (spec_inRange.phis N)) spec_inRange.A N (bodyOf Tryz.f50) Tryz.f50.results.toList spec_inRange.sg x = spec_inRange.B N x.1 x.2.1 x.2.2.1 := by kernel_rfl
  rw [h]
  try rfl
noncomputable def spec_inRange.sm (N : Nat) : Sm D := (⟨spec_inRange.sg, fun (x : Int × Int × Int × Unit) => spec_inRange N x.1 x.2.1 x.2.2.1⟩ : Sm D)
theorem spec_inRange.sound (N : Nat) : Sound cx Tryz.prog gam 50 (spec_inRange.sm N) := fn_sound (A := spec_inRange.A) (Φ := (look (spec_inRange.phis N))) pok (G := gam) ΦOk.nil mixed N Tryz.func50 (c := (bodyOf Tryz.f50)) (by kernel_rfl) spec_inRange.sg (by kernel_rfl) (by kernel_rfl) (by kernel_rfl) (spec_inRange.run N)

@[reducible] def spec_plainByte.sg : Sg := { ms := [{ k := (.int .u8) }], keep := [false], rs := [{ k := .bool }] }
noncomputable def spec_plainByte.A : Ann := { dp := fun d => isIn [] d, lp := look [], jn := look [], pins := [], nt := 21 }
noncomputable def spec_plainByte.phis (N : Nat) : List (Nat × Sm D) := []
theorem spec_plainByte.run (N : Nat) (x : Int × Unit) : runF cx (look (spec_plainByte.phis N)) spec_plainByte.A N (bodyOf Tryz.f161) Tryz.f161.results.toList spec_plainByte.sg x = spec_plainByte N x.1 := by
  have h : runF cx (look (spec_plainByte.phis N)) spec_plainByte.A N (bodyOf Tryz.f161) Tryz.f161.results.toList spec_plainByte.sg x = spec_plainByte.B N x.1 := by kernel_rfl
  rw [h]
  try rfl
noncomputable def spec_plainByte.sm (N : Nat) : Sm D := (⟨spec_plainByte.sg, fun (x : Int × Unit) => spec_plainByte N x.1⟩ : Sm D)
theorem spec_plainByte.sound (N : Nat) : Sound cx Tryz.prog gam 161 (spec_plainByte.sm N) := fn_sound (A := spec_plainByte.A) (Φ := (look (spec_plainByte.phis N))) pok (G := gam) ΦOk.nil mixed N Tryz.func161 (c := (bodyOf Tryz.f161)) (by kernel_rfl) spec_plainByte.sg (by kernel_rfl) (by kernel_rfl) (by kernel_rfl) (spec_plainByte.run N)

@[reducible] def spec_validWord.sg : Sg := { ms := [{ k := .str }], keep := [false], rs := [{ k := .bool }] }
@[reducible] def spec_validWord.lvL0 : Lv := { id := 0, slots := [0, 3], ms := [{ k := .str }, { k := (.int .i64) }] }
noncomputable def spec_validWord.A : Ann := { dp := fun d => isIn [] d, lp := look [(0, spec_validWord.lvL0)], jn := look [], pins := [], nt := 18 }
noncomputable def spec_validWord.phis (N : Nat) : List (Nat × Sm D) := [(161, spec_plainByte.sm N)]
noncomputable def spec_validWord.a0 (N : Nat) (n : Nat) (y : (List UInt8) × Int × Unit) : Option (Bool × Unit) := loopAt cx (look (spec_validWord.phis N)) spec_validWord.A N n (encL cx spec_validWord.lvL0.ms y).1 (encL cx spec_validWord.lvL0.ms y).2 (bodyOf Tryz.f152) 0 (Kfin cx spec_validWord.A spec_validWord.sg Tryz.f152.results.toList) [1, 1, 0, 1, 1] []
theorem spec_validWord.r0 (N : Nat) : ∀ (n : Nat) (y : (List UInt8) × Int × Unit), spec_validWord.a0 N n y = spec_validWord.L0 N n y
  | 0, y => by kernel_rfl
  | n + 1, y => by
    have h : spec_validWord.a0 N (n + 1) y = spec_validWord.B0 N (fun z => spec_validWord.a0 N n z) y := by kernel_rfl
    have e : (fun z => spec_validWord.a0 N n z) = spec_validWord.L0 N n := funext fun z => spec_validWord.r0 N n z
    rw [h]
    try rw [e]
    first | done | rfl
theorem spec_validWord.run (N : Nat) (x : (List UInt8) × Unit) : runF cx (look (spec_validWord.phis N)) spec_validWord.A N (bodyOf Tryz.f152) Tryz.f152.results.toList spec_validWord.sg x = spec_validWord N x.1 := by
  have h : runF cx (look (spec_validWord.phis N)) spec_validWord.A N (bodyOf Tryz.f152) Tryz.f152.results.toList spec_validWord.sg x = spec_validWord.B N (fun z => spec_validWord.a0 N N z) x.1 := by kernel_rfl
  have e0 : (fun z => spec_validWord.a0 N N z) = spec_validWord.L0 N N := funext fun z => spec_validWord.r0 N N z
  rw [h, e0]
  try rfl
noncomputable def spec_validWord.sm (N : Nat) : Sm D := (⟨spec_validWord.sg, fun (x : (List UInt8) × Unit) => spec_validWord N x.1⟩ : Sm D)
theorem spec_validWord.sound (N : Nat) : Sound cx Tryz.prog gam 152 (spec_validWord.sm N) := fn_sound (A := spec_validWord.A) (Φ := (look (spec_validWord.phis N))) pok (G := gam) (ΦOk.cons (spec_plainByte.sound N) (fnOk_of (f := 161) (by kernel_rfl)) ΦOk.nil) mixed N Tryz.func152 (c := (bodyOf Tryz.f152)) (by kernel_rfl) spec_validWord.sg (by kernel_rfl) (by kernel_rfl) (by kernel_rfl) (spec_validWord.run N)

@[reducible] def spec_validValue.sg : Sg := { ms := [{ k := (.st 127) }], keep := [false], rs := [{ k := .bool }] }
noncomputable def spec_validValue.A : Ann := { dp := fun d => isIn [] d, lp := look [], jn := look [], pins := [], nt := 35 }
noncomputable def spec_validValue.phis (N : Nat) : List (Nat × Sm D) := [(50, spec_inRange.sm N), (152, spec_validWord.sm N)]
theorem spec_validValue.run (N : Nat) (x : ImplValue × Unit) : runF cx (look (spec_validValue.phis N)) spec_validValue.A N (bodyOf Tryz.f138) Tryz.f138.results.toList spec_validValue.sg x = spec_validValue N x.1 := by
  have h : runF cx (look (spec_validValue.phis N)) spec_validValue.A N (bodyOf Tryz.f138) Tryz.f138.results.toList spec_validValue.sg x = spec_validValue.B N x.1 := by kernel_rfl
  rw [h]
  try rfl
noncomputable def spec_validValue.sm (N : Nat) : Sm D := (⟨spec_validValue.sg, fun (x : ImplValue × Unit) => spec_validValue N x.1⟩ : Sm D)
theorem spec_validValue.sound (N : Nat) : Sound cx Tryz.prog gam 138 (spec_validValue.sm N) := fn_sound (A := spec_validValue.A) (Φ := (look (spec_validValue.phis N))) pok (G := gam) (ΦOk.cons (spec_inRange.sound N) (fnOk_of (f := 50) (by kernel_rfl)) (ΦOk.cons (spec_validWord.sound N) (fnOk_of (f := 152) (by kernel_rfl)) ΦOk.nil)) mixed N Tryz.func138 (c := (bodyOf Tryz.f138)) (by kernel_rfl) spec_validValue.sg (by kernel_rfl) (by kernel_rfl) (by kernel_rfl) (spec_validValue.run N)

@[reducible] def spec_source_good.sg : Sg := { ms := [{ ptr := true, id := 10, t := 114, k := (.st 113) }], keep := [true], rs := [{ k := (.st 127) }], hold := true }
noncomputable def spec_source_good.A : Ann := { dp := fun d => isIn [] d, lp := look [], jn := look [], pins := [10], nt := 11 }
noncomputable def spec_source_good.phis (N : Nat) : List (Nat × Sm D) := [(146, spec_source_value.sm N), (138, spec_validValue.sm N)]
theorem spec_source_good.run (N : Nat) (x : SpecSource × Unit) : runF cx (look (spec_source_good.phis N)) spec_source_good.A N (bodyOf Tryz.f122) Tryz.f122.results.toList spec_source_good.sg x = spec_source_good N x.1 := by
  have h : runF cx (look (spec_source_good.phis N)) spec_source_good.A N (bodyOf Tryz.f122) Tryz.f122.results.toList spec_source_good.sg x = spec_source_good.B N x.1 := by kernel_rfl
  rw [h]
  try rfl
noncomputable def spec_source_good.sm (N : Nat) : Sm D := (⟨spec_source_good.sg, fun (x : SpecSource × Unit) => spec_source_good N x.1⟩ : Sm D)
theorem spec_source_good.sound (N : Nat) : Sound cx Tryz.prog gam 122 (spec_source_good.sm N) := fn_sound (A := spec_source_good.A) (Φ := (look (spec_source_good.phis N))) pok (G := gam) (ΦOk.cons (spec_source_value.sound N) (fnOk_of (f := 146) (by kernel_rfl)) (ΦOk.cons (spec_validValue.sound N) (fnOk_of (f := 138) (by kernel_rfl)) ΦOk.nil)) mixed N Tryz.func122 (c := (bodyOf Tryz.f122)) (by kernel_rfl) spec_source_good.sg (by kernel_rfl) (by kernel_rfl) (by kernel_rfl) (spec_source_good.run N)

@[reducible] def spec_source_goods.sg : Sg := { ms := [{ ptr := true, id := 10, t := 114, k := (.st 113) }, { k := (.int .i64) }], keep := [true, false], rs := [{ k := (.sl (.st 127)), fl := [none] }], hold := true }
@[reducible] def spec_source_goods.lvL0 : Lv := { id := 0, slots := [0, 1, 5], ms := [{ ptr := true, id := 10, t := 114, k := (.st 113), fl := [none, none, none] }, { k := (.int .i64) }, { k := (.sl (.st 127)), fl := [some (false, 640)] }] }
noncomputable def spec_source_goods.A : Ann := { dp := fun d => isIn [] d, lp := look [(0, spec_source_goods.lvL0)], jn := look [], pins := [10], nt := 17 }
noncomputable def spec_source_goods.phis (N : Nat) : List (Nat × Sm D) := [(122, spec_source_good.sm N)]
noncomputable def spec_source_goods.a0 (N : Nat) (n : Nat) (y : SpecSource × Int × (List (ImplValue)) × Unit) : Option (SpecSource × (List (ImplValue)) × Unit) := loopAt cx (look (spec_source_goods.phis N)) spec_source_goods.A N n (encL cx spec_source_goods.lvL0.ms y).1 (encL cx spec_source_goods.lvL0.ms y).2 (bodyOf Tryz.f90) 0 (Kfin cx spec_source_goods.A spec_source_goods.sg Tryz.f90.results.toList) [1, 1, 0, 1] []
theorem spec_source_goods.r0 (N : Nat) : ∀ (n : Nat) (y : SpecSource × Int × (List (ImplValue)) × Unit), spec_source_goods.a0 N n y = spec_source_goods.L0 N n y
  | 0, y => by kernel_rfl
  | n + 1, y => by
    have h : spec_source_goods.a0 N (n + 1) y = spec_source_goods.B0 N (fun z => spec_source_goods.a0 N n z) y := by kernel_rfl
    have e : (fun z => spec_source_goods.a0 N n z) = spec_source_goods.L0 N n := funext fun z => spec_source_goods.r0 N n z
    rw [h]
    try rw [e]
    first | done | rfl
theorem spec_source_goods.run (N : Nat) (x : SpecSource × Int × Unit) : runF cx (look (spec_source_goods.phis N)) spec_source_goods.A N (bodyOf Tryz.f90) Tryz.f90.results.toList spec_source_goods.sg x = spec_source_goods N x.1 x.2.1 := by
  have h : runF cx (look (spec_source_goods.phis N)) spec_source_goods.A N (bodyOf Tryz.f90) Tryz.f90.results.toList spec_source_goods.sg x = spec_source_goods.B N (fun z => spec_source_goods.a0 N N z) x.1 x.2.1 := by kernel_rfl
  have e0 : (fun z => spec_source_goods.a0 N N z) = spec_source_goods.L0 N N := funext fun z => spec_source_goods.r0 N N z
  rw [h, e0]
  try rfl
noncomputable def spec_source_goods.sm (N : Nat) : Sm D := (⟨spec_source_goods.sg, fun (x : SpecSource × Int × Unit) => spec_source_goods N x.1 x.2.1⟩ : Sm D)
theorem spec_source_goods.sound (N : Nat) : Sound cx Tryz.prog gam 90 (spec_source_goods.sm N) := fn_sound (A := spec_source_goods.A) (Φ := (look (spec_source_goods.phis N))) pok (G := gam) (ΦOk.cons (spec_source_good.sound N) (fnOk_of (f := 122) (by kernel_rfl)) ΦOk.nil) mixed N Tryz.func90 (c := (bodyOf Tryz.f90)) (by kernel_rfl) spec_source_goods.sg (by kernel_rfl) (by kernel_rfl) (by kernel_rfl) (spec_source_goods.run N)

@[reducible] def spec_validSlot.sg : Sg := { ms := [{ k := (.st 125) }], keep := [false], rs := [{ k := .bool }] }
noncomputable def spec_validSlot.A : Ann := { dp := fun d => isIn [] d, lp := look [], jn := look [], pins := [], nt := 11 }
noncomputable def spec_validSlot.phis (N : Nat) : List (Nat × Sm D) := [(50, spec_inRange.sm N)]
theorem spec_validSlot.run (N : Nat) (x : ImplSlot × Unit) : runF cx (look (spec_validSlot.phis N)) spec_validSlot.A N (bodyOf Tryz.f123) Tryz.f123.results.toList spec_validSlot.sg x = spec_validSlot N x.1 := by
  have h : runF cx (look (spec_validSlot.phis N)) spec_validSlot.A N (bodyOf Tryz.f123) Tryz.f123.results.toList spec_validSlot.sg x = spec_validSlot.B N x.1 := by kernel_rfl
  rw [h]
  try rfl
noncomputable def spec_validSlot.sm (N : Nat) : Sm D := (⟨spec_validSlot.sg, fun (x : ImplSlot × Unit) => spec_validSlot N x.1⟩ : Sm D)
theorem spec_validSlot.sound (N : Nat) : Sound cx Tryz.prog gam 123 (spec_validSlot.sm N) := fn_sound (A := spec_validSlot.A) (Φ := (look (spec_validSlot.phis N))) pok (G := gam) (ΦOk.cons (spec_inRange.sound N) (fnOk_of (f := 50) (by kernel_rfl)) ΦOk.nil) mixed N Tryz.func123 (c := (bodyOf Tryz.f123)) (by kernel_rfl) spec_validSlot.sg (by kernel_rfl) (by kernel_rfl) (by kernel_rfl) (spec_validSlot.run N)

@[reducible] def spec_validPlace.sg : Sg := { ms := [{ k := (.sl (.st 125)), fl := [none] }], keep := [false], rs := [{ k := .bool }] }
@[reducible] def spec_validPlace.lvL0 : Lv := { id := 0, slots := [0, 3], ms := [{ k := (.sl (.st 125)), fl := [none] }, { k := (.int .i64) }] }
noncomputable def spec_validPlace.A : Ann := { dp := fun d => isIn [] d, lp := look [(0, spec_validPlace.lvL0)], jn := look [], pins := [], nt := 19 }
noncomputable def spec_validPlace.phis (N : Nat) : List (Nat × Sm D) := [(123, spec_validSlot.sm N)]
noncomputable def spec_validPlace.a0 (N : Nat) (n : Nat) (y : (List (ImplSlot)) × Int × Unit) : Option (Bool × Unit) := loopAt cx (look (spec_validPlace.phis N)) spec_validPlace.A N n (encL cx spec_validPlace.lvL0.ms y).1 (encL cx spec_validPlace.lvL0.ms y).2 (bodyOf Tryz.f91) 0 (Kfin cx spec_validPlace.A spec_validPlace.sg Tryz.f91.results.toList) [1, 1, 0, 1, 1] []
theorem spec_validPlace.r0 (N : Nat) : ∀ (n : Nat) (y : (List (ImplSlot)) × Int × Unit), spec_validPlace.a0 N n y = spec_validPlace.L0 N n y
  | 0, y => by kernel_rfl
  | n + 1, y => by
    have h : spec_validPlace.a0 N (n + 1) y = spec_validPlace.B0 N (fun z => spec_validPlace.a0 N n z) y := by kernel_rfl
    have e : (fun z => spec_validPlace.a0 N n z) = spec_validPlace.L0 N n := funext fun z => spec_validPlace.r0 N n z
    rw [h]
    try rw [e]
    first | done | rfl
theorem spec_validPlace.run (N : Nat) (x : (List (ImplSlot)) × Unit) : runF cx (look (spec_validPlace.phis N)) spec_validPlace.A N (bodyOf Tryz.f91) Tryz.f91.results.toList spec_validPlace.sg x = spec_validPlace N x.1 := by
  have h : runF cx (look (spec_validPlace.phis N)) spec_validPlace.A N (bodyOf Tryz.f91) Tryz.f91.results.toList spec_validPlace.sg x = spec_validPlace.B N (fun z => spec_validPlace.a0 N N z) x.1 := by kernel_rfl
  have e0 : (fun z => spec_validPlace.a0 N N z) = spec_validPlace.L0 N N := funext fun z => spec_validPlace.r0 N N z
  rw [h, e0]
  try rfl
noncomputable def spec_validPlace.sm (N : Nat) : Sm D := (⟨spec_validPlace.sg, fun (x : (List (ImplSlot)) × Unit) => spec_validPlace N x.1⟩ : Sm D)
theorem spec_validPlace.sound (N : Nat) : Sound cx Tryz.prog gam 91 (spec_validPlace.sm N) := fn_sound (A := spec_validPlace.A) (Φ := (look (spec_validPlace.phis N))) pok (G := gam) (ΦOk.cons (spec_validSlot.sound N) (fnOk_of (f := 123) (by kernel_rfl)) ΦOk.nil) mixed N Tryz.func91 (c := (bodyOf Tryz.f91)) (by kernel_rfl) spec_validPlace.sg (by kernel_rfl) (by kernel_rfl) (by kernel_rfl) (spec_validPlace.run N)

@[reducible] def spec_comparePlaces.sg : Sg := { ms := [{ k := (.sl (.st 125)), fl := [none] }, { k := (.sl (.st 125)), fl := [none] }], keep := [false, false], rs := [{ k := (.int .i64) }] }
@[reducible] def spec_comparePlaces.lvL0 : Lv := { id := 0, slots := [0, 1, 5], ms := [{ k := (.sl (.st 125)), fl := [none] }, { k := (.sl (.st 125)), fl := [none] }, { k := (.int .i64) }] }
noncomputable def spec_comparePlaces.A : Ann := { dp := fun d => isIn [] d, lp := look [(0, spec_comparePlaces.lvL0)], jn := look [], pins := [], nt := 76 }
noncomputable def spec_comparePlaces.phis (N : Nat) : List (Nat × Sm D) := []
noncomputable def spec_comparePlaces.a0 (N : Nat) (n : Nat) (y : (List (ImplSlot)) × (List (ImplSlot)) × Int × Unit) : Option (Int × Unit) := loopAt cx (look (spec_comparePlaces.phis N)) spec_comparePlaces.A N n (encL cx spec_comparePlaces.lvL0.ms y).1 (encL cx spec_comparePlaces.lvL0.ms y).2 (bodyOf Tryz.f98) 0 (Kfin cx spec_comparePlaces.A spec_comparePlaces.sg Tryz.f98.results.toList) [1, 0, 1, 1] []
theorem spec_comparePlaces.r0 (N : Nat) : ∀ (n : Nat) (y : (List (ImplSlot)) × (List (ImplSlot)) × Int × Unit), spec_comparePlaces.a0 N n y = spec_comparePlaces.L0 N n y
  | 0, y => by kernel_rfl
  | n + 1, y => by
    have h : spec_comparePlaces.a0 N (n + 1) y = spec_comparePlaces.B0 N (fun z => spec_comparePlaces.a0 N n z) y := by kernel_rfl
    have e : (fun z => spec_comparePlaces.a0 N n z) = spec_comparePlaces.L0 N n := funext fun z => spec_comparePlaces.r0 N n z
    rw [h]
    try rw [e]
    first | done | rfl
theorem spec_comparePlaces.run (N : Nat) (x : (List (ImplSlot)) × (List (ImplSlot)) × Unit) : runF cx (look (spec_comparePlaces.phis N)) spec_comparePlaces.A N (bodyOf Tryz.f98) Tryz.f98.results.toList spec_comparePlaces.sg x = spec_comparePlaces N x.1 x.2.1 := by
  have h : runF cx (look (spec_comparePlaces.phis N)) spec_comparePlaces.A N (bodyOf Tryz.f98) Tryz.f98.results.toList spec_comparePlaces.sg x = spec_comparePlaces.B N (fun z => spec_comparePlaces.a0 N N z) x.1 x.2.1 := by kernel_rfl
  have e0 : (fun z => spec_comparePlaces.a0 N N z) = spec_comparePlaces.L0 N N := funext fun z => spec_comparePlaces.r0 N N z
  rw [h, e0]
  try rfl
noncomputable def spec_comparePlaces.sm (N : Nat) : Sm D := (⟨spec_comparePlaces.sg, fun (x : (List (ImplSlot)) × (List (ImplSlot)) × Unit) => spec_comparePlaces N x.1 x.2.1⟩ : Sm D)
theorem spec_comparePlaces.sound (N : Nat) : Sound cx Tryz.prog gam 98 (spec_comparePlaces.sm N) := fn_sound (A := spec_comparePlaces.A) (Φ := (look (spec_comparePlaces.phis N))) pok (G := gam) ΦOk.nil mixed N Tryz.func98 (c := (bodyOf Tryz.f98)) (by kernel_rfl) spec_comparePlaces.sg (by kernel_rfl) (by kernel_rfl) (by kernel_rfl) (spec_comparePlaces.run N)

@[reducible] def spec_cellAt.sg : Sg := { ms := [{ k := (.sl (.st 80)), fl := [none] }, { k := (.sl (.st 125)), fl := [none] }], keep := [false, false], rs := [{ k := (.int .i64) }, { k := .bool }] }
@[reducible] def spec_cellAt.lvL0 : Lv := { id := 0, slots := [0, 1, 6], ms := [{ k := (.sl (.st 80)), fl := [none] }, { k := (.sl (.st 125)), fl := [none] }, { k := (.int .i64) }] }
noncomputable def spec_cellAt.A : Ann := { dp := fun d => isIn [] d, lp := look [(0, spec_cellAt.lvL0)], jn := look [], pins := [], nt := 38 }
noncomputable def spec_cellAt.phis (N : Nat) : List (Nat × Sm D) := [(98, spec_comparePlaces.sm N)]
noncomputable def spec_cellAt.a0 (N : Nat) (n : Nat) (y : (List (ImplCell)) × (List (ImplSlot)) × Int × Unit) : Option (Int × Bool × Unit) := loopAt cx (look (spec_cellAt.phis N)) spec_cellAt.A N n (encL cx spec_cellAt.lvL0.ms y).1 (encL cx spec_cellAt.lvL0.ms y).2 (bodyOf Tryz.f124) 0 (Kfin cx spec_cellAt.A spec_cellAt.sg Tryz.f124.results.toList) [1, 1, 0, 1] []
theorem spec_cellAt.r0 (N : Nat) : ∀ (n : Nat) (y : (List (ImplCell)) × (List (ImplSlot)) × Int × Unit), spec_cellAt.a0 N n y = spec_cellAt.L0 N n y
  | 0, y => by kernel_rfl
  | n + 1, y => by
    have h : spec_cellAt.a0 N (n + 1) y = spec_cellAt.B0 N (fun z => spec_cellAt.a0 N n z) y := by kernel_rfl
    have e : (fun z => spec_cellAt.a0 N n z) = spec_cellAt.L0 N n := funext fun z => spec_cellAt.r0 N n z
    rw [h]
    try rw [e]
    first | done | rfl
theorem spec_cellAt.run (N : Nat) (x : (List (ImplCell)) × (List (ImplSlot)) × Unit) : runF cx (look (spec_cellAt.phis N)) spec_cellAt.A N (bodyOf Tryz.f124) Tryz.f124.results.toList spec_cellAt.sg x = spec_cellAt N x.1 x.2.1 := by
  have h : runF cx (look (spec_cellAt.phis N)) spec_cellAt.A N (bodyOf Tryz.f124) Tryz.f124.results.toList spec_cellAt.sg x = spec_cellAt.B N (fun z => spec_cellAt.a0 N N z) x.1 x.2.1 := by kernel_rfl
  have e0 : (fun z => spec_cellAt.a0 N N z) = spec_cellAt.L0 N N := funext fun z => spec_cellAt.r0 N N z
  rw [h, e0]
  try rfl
noncomputable def spec_cellAt.sm (N : Nat) : Sm D := (⟨spec_cellAt.sg, fun (x : (List (ImplCell)) × (List (ImplSlot)) × Unit) => spec_cellAt N x.1 x.2.1⟩ : Sm D)
theorem spec_cellAt.sound (N : Nat) : Sound cx Tryz.prog gam 124 (spec_cellAt.sm N) := fn_sound (A := spec_cellAt.A) (Φ := (look (spec_cellAt.phis N))) pok (G := gam) (ΦOk.cons (spec_comparePlaces.sound N) (fnOk_of (f := 98) (by kernel_rfl)) ΦOk.nil) mixed N Tryz.func124 (c := (bodyOf Tryz.f124)) (by kernel_rfl) spec_cellAt.sg (by kernel_rfl) (by kernel_rfl) (by kernel_rfl) (spec_cellAt.run N)

@[reducible] def spec_copyCell.sg : Sg := { ms := [{ k := (.st 80) }], keep := [false], rs := [{ k := (.st 80) }], hold := true }
noncomputable def spec_copyCell.A : Ann := { dp := fun d => isIn [] d, lp := look [], jn := look [], pins := [], nt := 12 }
noncomputable def spec_copyCell.phis (N : Nat) : List (Nat × Sm D) := []
theorem spec_copyCell.run (N : Nat) (x : ImplCell × Unit) : runF cx (look (spec_copyCell.phis N)) spec_copyCell.A N (bodyOf Tryz.f96) Tryz.f96.results.toList spec_copyCell.sg x = spec_copyCell N x.1 := by
  have h : runF cx (look (spec_copyCell.phis N)) spec_copyCell.A N (bodyOf Tryz.f96) Tryz.f96.results.toList spec_copyCell.sg x = spec_copyCell.B N x.1 := by kernel_rfl
  rw [h]
  try rfl
noncomputable def spec_copyCell.sm (N : Nat) : Sm D := (⟨spec_copyCell.sg, fun (x : ImplCell × Unit) => spec_copyCell N x.1⟩ : Sm D)
theorem spec_copyCell.sound (N : Nat) : Sound cx Tryz.prog gam 96 (spec_copyCell.sm N) := fn_sound (A := spec_copyCell.A) (Φ := (look (spec_copyCell.phis N))) pok (G := gam) ΦOk.nil mixed N Tryz.func96 (c := (bodyOf Tryz.f96)) (by kernel_rfl) spec_copyCell.sg (by kernel_rfl) (by kernel_rfl) (by kernel_rfl) (spec_copyCell.run N)

@[reducible] def spec_copyStore.sg : Sg := { ms := [{ k := (.sl (.st 80)), fl := [none] }], keep := [false], rs := [{ k := (.sl (.st 80)), fl := [some (false, 411)] }], hold := true }
@[reducible] def spec_copyStore.lvL0 : Lv := { id := 0, slots := [0, 3, 4], ms := [{ k := (.sl (.st 80)), fl := [none] }, { k := (.sl (.st 80)), fl := [some (false, 620)] }, { k := (.int .i64) }] }
noncomputable def spec_copyStore.A : Ann := { dp := fun d => isIn [] d, lp := look [(0, spec_copyStore.lvL0)], jn := look [], pins := [], nt := 21 }
noncomputable def spec_copyStore.phis (N : Nat) : List (Nat × Sm D) := [(96, spec_copyCell.sm N)]
noncomputable def spec_copyStore.a0 (N : Nat) (n : Nat) (y : (List (ImplCell)) × (List (ImplCell)) × Int × Unit) : Option ((List (ImplCell)) × Unit) := loopAt cx (look (spec_copyStore.phis N)) spec_copyStore.A N n (encL cx spec_copyStore.lvL0.ms y).1 (encL cx spec_copyStore.lvL0.ms y).2 (bodyOf Tryz.f51) 0 (Kfin cx spec_copyStore.A spec_copyStore.sg Tryz.f51.results.toList) [1, 1, 0, 1, 1] []
theorem spec_copyStore.r0 (N : Nat) : ∀ (n : Nat) (y : (List (ImplCell)) × (List (ImplCell)) × Int × Unit), spec_copyStore.a0 N n y = spec_copyStore.L0 N n y
  | 0, y => by kernel_rfl
  | n + 1, y => by
    have h : spec_copyStore.a0 N (n + 1) y = spec_copyStore.B0 N (fun z => spec_copyStore.a0 N n z) y := by kernel_rfl
    have e : (fun z => spec_copyStore.a0 N n z) = spec_copyStore.L0 N n := funext fun z => spec_copyStore.r0 N n z
    rw [h]
    try rw [e]
    first | done | rfl
theorem spec_copyStore.run (N : Nat) (x : (List (ImplCell)) × Unit) : runF cx (look (spec_copyStore.phis N)) spec_copyStore.A N (bodyOf Tryz.f51) Tryz.f51.results.toList spec_copyStore.sg x = spec_copyStore N x.1 := by
  have h : runF cx (look (spec_copyStore.phis N)) spec_copyStore.A N (bodyOf Tryz.f51) Tryz.f51.results.toList spec_copyStore.sg x = spec_copyStore.B N (fun z => spec_copyStore.a0 N N z) x.1 := by kernel_rfl
  have e0 : (fun z => spec_copyStore.a0 N N z) = spec_copyStore.L0 N N := funext fun z => spec_copyStore.r0 N N z
  rw [h, e0]
  try rfl
noncomputable def spec_copyStore.sm (N : Nat) : Sm D := (⟨spec_copyStore.sg, fun (x : (List (ImplCell)) × Unit) => spec_copyStore N x.1⟩ : Sm D)
theorem spec_copyStore.sound (N : Nat) : Sound cx Tryz.prog gam 51 (spec_copyStore.sm N) := fn_sound (A := spec_copyStore.A) (Φ := (look (spec_copyStore.phis N))) pok (G := gam) (ΦOk.cons (spec_copyCell.sound N) (fnOk_of (f := 96) (by kernel_rfl)) ΦOk.nil) mixed N Tryz.func51 (c := (bodyOf Tryz.f51)) (by kernel_rfl) spec_copyStore.sg (by kernel_rfl) (by kernel_rfl) (by kernel_rfl) (spec_copyStore.run N)

@[reducible] def spec_put.sg : Sg := { ms := [{ k := (.sl (.st 80)), fl := [none] }, { k := (.st 80) }], keep := [false, false], rs := [{ k := (.sl (.st 80)), fl := [none] }], hold := true }
@[reducible] def spec_put.lvJ6 : Lv := { id := 6, slots := [0, 5, 7], ms := [{ k := (.sl (.st 80)), fl := [none] }, { k := (.int .i64) }, { k := (.sl (.st 80)), fl := [some (false, 640)] }] }
noncomputable def spec_put.A : Ann := { dp := fun d => isIn [] d, lp := look [], jn := look [(6, spec_put.lvJ6)], pins := [], nt := 33 }
noncomputable def spec_put.phis (N : Nat) : List (Nat × Sm D) := [(124, spec_cellAt.sm N), (51, spec_copyStore.sm N), (96, spec_copyCell.sm N)]
theorem spec_put.run (N : Nat) (x : (List (ImplCell)) × ImplCell × Unit) : runF cx (look (spec_put.phis N)) spec_put.A N (bodyOf Tryz.f92) Tryz.f92.results.toList spec_put.sg x = spec_put N x.1 x.2.1 := by
  have h : runF cx (look (spec_put.phis N)) spec_put.A N (bodyOf Tryz.f92) Tryz.f92.results.toList spec_put.sg x = spec_put.B N x.1 x.2.1 := by kernel_rfl
  rw [h]
  try rfl
noncomputable def spec_put.sm (N : Nat) : Sm D := (⟨spec_put.sg, fun (x : (List (ImplCell)) × ImplCell × Unit) => spec_put N x.1 x.2.1⟩ : Sm D)
theorem spec_put.sound (N : Nat) : Sound cx Tryz.prog gam 92 (spec_put.sm N) := fn_sound (A := spec_put.A) (Φ := (look (spec_put.phis N))) pok (G := gam) (ΦOk.cons (spec_cellAt.sound N) (fnOk_of (f := 124) (by kernel_rfl)) (ΦOk.cons (spec_copyStore.sound N) (fnOk_of (f := 51) (by kernel_rfl)) (ΦOk.cons (spec_copyCell.sound N) (fnOk_of (f := 96) (by kernel_rfl)) ΦOk.nil))) mixed N Tryz.func92 (c := (bodyOf Tryz.f92)) (by kernel_rfl) spec_put.sg (by kernel_rfl) (by kernel_rfl) (by kernel_rfl) (spec_put.run N)

@[reducible] def spec_source_cells.sg : Sg := { ms := [{ ptr := true, id := 10, t := 114, k := (.st 113) }], keep := [true], rs := [{ k := (.sl (.st 80)), fl := [none] }], hold := true }
@[reducible] def spec_source_cells.lvL0 : Lv := { id := 0, slots := [0, 3, 4], ms := [{ ptr := true, id := 10, t := 114, k := (.st 113), fl := [none, none, none] }, { k := (.sl (.st 80)), fl := [none] }, { k := (.int .i64) }] }
noncomputable def spec_source_cells.A : Ann := { dp := fun d => isIn [] d, lp := look [(0, spec_source_cells.lvL0)], jn := look [], pins := [10], nt := 27 }
noncomputable def spec_source_cells.phis (N : Nat) : List (Nat × Sm D) := [(46, spec_source_pick.sm N), (89, spec_source_slots.sm N), (90, spec_source_goods.sm N), (91, spec_validPlace.sm N), (92, spec_put.sm N)]
noncomputable def spec_source_cells.a0 (N : Nat) (n : Nat) (y : SpecSource × (List (ImplCell)) × Int × Unit) : Option (SpecSource × (List (ImplCell)) × Unit) := loopAt cx (look (spec_source_cells.phis N)) spec_source_cells.A N n (encL cx spec_source_cells.lvL0.ms y).1 (encL cx spec_source_cells.lvL0.ms y).2 (bodyOf Tryz.f44) 0 (Kfin cx spec_source_cells.A spec_source_cells.sg Tryz.f44.results.toList) [1, 1, 0, 1, 1] []
theorem spec_source_cells.r0 (N : Nat) : ∀ (n : Nat) (y : SpecSource × (List (ImplCell)) × Int × Unit), spec_source_cells.a0 N n y = spec_source_cells.L0 N n y
  | 0, y => by kernel_rfl
  | n + 1, y => by
    have h : spec_source_cells.a0 N (n + 1) y = spec_source_cells.B0 N (fun z => spec_source_cells.a0 N n z) y := by kernel_rfl
    have e : (fun z => spec_source_cells.a0 N n z) = spec_source_cells.L0 N n := funext fun z => spec_source_cells.r0 N n z
    rw [h]
    try rw [e]
    first | done | rfl
theorem spec_source_cells.run (N : Nat) (x : SpecSource × Unit) : runF cx (look (spec_source_cells.phis N)) spec_source_cells.A N (bodyOf Tryz.f44) Tryz.f44.results.toList spec_source_cells.sg x = spec_source_cells N x.1 := by
  have h : runF cx (look (spec_source_cells.phis N)) spec_source_cells.A N (bodyOf Tryz.f44) Tryz.f44.results.toList spec_source_cells.sg x = spec_source_cells.B N (fun z => spec_source_cells.a0 N N z) x.1 := by kernel_rfl
  have e0 : (fun z => spec_source_cells.a0 N N z) = spec_source_cells.L0 N N := funext fun z => spec_source_cells.r0 N N z
  rw [h, e0]
  try rfl
noncomputable def spec_source_cells.sm (N : Nat) : Sm D := (⟨spec_source_cells.sg, fun (x : SpecSource × Unit) => spec_source_cells N x.1⟩ : Sm D)
theorem spec_source_cells.sound (N : Nat) : Sound cx Tryz.prog gam 44 (spec_source_cells.sm N) := fn_sound (A := spec_source_cells.A) (Φ := (look (spec_source_cells.phis N))) pok (G := gam) (ΦOk.cons (spec_source_pick.sound N) (fnOk_of (f := 46) (by kernel_rfl)) (ΦOk.cons (spec_source_slots.sound N) (fnOk_of (f := 89) (by kernel_rfl)) (ΦOk.cons (spec_source_goods.sound N) (fnOk_of (f := 90) (by kernel_rfl)) (ΦOk.cons (spec_validPlace.sound N) (fnOk_of (f := 91) (by kernel_rfl)) (ΦOk.cons (spec_put.sound N) (fnOk_of (f := 92) (by kernel_rfl)) ΦOk.nil))))) mixed N Tryz.func44 (c := (bodyOf Tryz.f44)) (by kernel_rfl) spec_source_cells.sg (by kernel_rfl) (by kernel_rfl) (by kernel_rfl) (spec_source_cells.run N)

@[reducible] def spec_source_leaf.sg : Sg := { ms := [{ ptr := true, id := 10, t := 114, k := (.st 113) }, { k := (.int .i64) }, { k := (.int .i64) }, { k := (.int .i64) }], keep := [true, false, false, false], rs := [{ k := (.st 141) }], hold := true }
noncomputable def spec_source_leaf.A : Ann := { dp := fun d => isIn [] d, lp := look [], jn := look [], pins := [10], nt := 44 }
noncomputable def spec_source_leaf.phis (N : Nat) : List (Nat × Sm D) := [(46, spec_source_pick.sm N), (122, spec_source_good.sm N)]
theorem spec_source_leaf.run (N : Nat) (x : SpecSource × Int × Int × Int × Unit) : runF cx (look (spec_source_leaf.phis N)) spec_source_leaf.A N (bodyOf Tryz.f157) Tryz.f157.results.toList spec_source_leaf.sg x = spec_source_leaf N x.1 x.2.1 x.2.2.1 x.2.2.2.1 := by
  have h : runF cx (look (spec_source_leaf.phis N)) spec_source_leaf.A N (bodyOf Tryz.f157) Tryz.f157.results.toList spec_source_leaf.sg x = spec_source_leaf.B N x.1 x.2.1 x.2.2.1 x.2.2.2.1 := by kernel_rfl
  rw [h]
  try rfl
noncomputable def spec_source_leaf.sm (N : Nat) : Sm D := (⟨spec_source_leaf.sg, fun (x : SpecSource × Int × Int × Int × Unit) => spec_source_leaf N x.1 x.2.1 x.2.2.1 x.2.2.2.1⟩ : Sm D)
theorem spec_source_leaf.sound (N : Nat) : Sound cx Tryz.prog gam 157 (spec_source_leaf.sm N) := fn_sound (A := spec_source_leaf.A) (Φ := (look (spec_source_leaf.phis N))) pok (G := gam) (ΦOk.cons (spec_source_pick.sound N) (fnOk_of (f := 46) (by kernel_rfl)) (ΦOk.cons (spec_source_good.sound N) (fnOk_of (f := 122) (by kernel_rfl)) ΦOk.nil)) mixed N Tryz.func157 (c := (bodyOf Tryz.f157)) (by kernel_rfl) spec_source_leaf.sg (by kernel_rfl) (by kernel_rfl) (by kernel_rfl) (spec_source_leaf.run N)

end
end Go.Ev
