/- Each function that the law reaches does what its plain form says; no condition beyond the table of the library. -/
import Derived.Test.YtdmmjggkomhglaaDoorEvF
set_option linter.all false
set_option linter.unusedVariables false
set_option linter.unusedSimpArgs false
set_option maxRecDepth 100000
set_option maxHeartbeats 0
namespace Go.Ev
noncomputable section
open Go.Proofs
@[reducible] def spec_newSource.sg : Sg := { ms := [{ k := (.sl (.int .u8)), fl := [none] }], keep := [false], rs := [{ ptr := true, id := 410, t := 52, k := (.st 51) }], hold := true }
noncomputable def spec_newSource.A : Ann := { dp := fun d => isIn [] d, lp := look [], jn := look [], pins := [], nt := 6 }
noncomputable def spec_newSource.phis (N : Nat) : List (Nat × Sm D) := []
theorem spec_newSource.run (N : Nat) (x : (List (Int)) × Unit) : runF cx (look (spec_newSource.phis N)) spec_newSource.A N (bodyOf Tryd.f12) Tryd.f12.results.toList spec_newSource.sg x = spec_newSource N x.1 := by
  have h : runF cx (look (spec_newSource.phis N)) spec_newSource.A N (bodyOf Tryd.f12) Tryd.f12.results.toList spec_newSource.sg x = spec_newSource.B N x.1 := by kernel_rfl
  rw [h]
  try rfl
noncomputable def spec_newSource.sm (N : Nat) : Sm D := (⟨spec_newSource.sg, fun (x : (List (Int)) × Unit) => spec_newSource N x.1⟩ : Sm D)
theorem spec_newSource.sound (N : Nat) : Sound cx Tryd.prog gam 12 (spec_newSource.sm N) := fn_sound (A := spec_newSource.A) (Φ := (look (spec_newSource.phis N))) pok (G := gam) ΦOk.nil mixed N Tryd.func12 (c := (bodyOf Tryd.f12)) (by kernel_rfl) spec_newSource.sg (by kernel_rfl) (by kernel_rfl) (by kernel_rfl) (spec_newSource.run N)

@[reducible] def spec_source_pick.sg : Sg := { ms := [{ ptr := true, id := 10, t := 52, k := (.st 51) }, { k := (.int .i64) }], keep := [true, false], rs := [{ k := (.int .i64) }], hold := true }
noncomputable def spec_source_pick.A : Ann := { dp := fun d => isIn [] d, lp := look [], jn := look [], pins := [10], nt := 101 }
noncomputable def spec_source_pick.phis (N : Nat) : List (Nat × Sm D) := []
theorem spec_source_pick.run (N : Nat) (x : SpecSource × Int × Unit) : runF cx (look (spec_source_pick.phis N)) spec_source_pick.A N (bodyOf Tryd.f13) Tryd.f13.results.toList spec_source_pick.sg x = spec_source_pick N x.1 x.2.1 := by
  have h : runF cx (look (spec_source_pick.phis N)) spec_source_pick.A N (bodyOf Tryd.f13) Tryd.f13.results.toList spec_source_pick.sg x = spec_source_pick.B N x.1 x.2.1 := by kernel_rfl
  rw [h]
  try rfl
noncomputable def spec_source_pick.sm (N : Nat) : Sm D := (⟨spec_source_pick.sg, fun (x : SpecSource × Int × Unit) => spec_source_pick N x.1 x.2.1⟩ : Sm D)
theorem spec_source_pick.sound (N : Nat) : Sound cx Tryd.prog gam 13 (spec_source_pick.sm N) := fn_sound (A := spec_source_pick.A) (Φ := (look (spec_source_pick.phis N))) pok (G := gam) ΦOk.nil mixed N Tryd.func13 (c := (bodyOf Tryd.f13)) (by kernel_rfl) spec_source_pick.sg (by kernel_rfl) (by kernel_rfl) (by kernel_rfl) (spec_source_pick.run N)

@[reducible] def spec_source_rarely.sg : Sg := { ms := [{ ptr := true, id := 10, t := 52, k := (.st 51) }], keep := [true], rs := [{ k := .bool }], hold := true }
noncomputable def spec_source_rarely.A : Ann := { dp := fun d => isIn [] d, lp := look [], jn := look [], pins := [10], nt := 6 }
noncomputable def spec_source_rarely.phis (N : Nat) : List (Nat × Sm D) := [(13, spec_source_pick.sm N)]
theorem spec_source_rarely.run (N : Nat) (x : SpecSource × Unit) : runF cx (look (spec_source_rarely.phis N)) spec_source_rarely.A N (bodyOf Tryd.f16) Tryd.f16.results.toList spec_source_rarely.sg x = spec_source_rarely N x.1 := by
  have h : runF cx (look (spec_source_rarely.phis N)) spec_source_rarely.A N (bodyOf Tryd.f16) Tryd.f16.results.toList spec_source_rarely.sg x = spec_source_rarely.B N x.1 := by kernel_rfl
  rw [h]
  try rfl
noncomputable def spec_source_rarely.sm (N : Nat) : Sm D := (⟨spec_source_rarely.sg, fun (x : SpecSource × Unit) => spec_source_rarely N x.1⟩ : Sm D)
theorem spec_source_rarely.sound (N : Nat) : Sound cx Tryd.prog gam 16 (spec_source_rarely.sm N) := fn_sound (A := spec_source_rarely.A) (Φ := (look (spec_source_rarely.phis N))) pok (G := gam) (ΦOk.cons (spec_source_pick.sound N) (fnOk_of (f := 13) (by kernel_rfl)) ΦOk.nil) mixed N Tryd.func16 (c := (bodyOf Tryd.f16)) (by kernel_rfl) spec_source_rarely.sg (by kernel_rfl) (by kernel_rfl) (by kernel_rfl) (spec_source_rarely.run N)

@[reducible] def spec_source_text.sg : Sg := { ms := [{ ptr := true, id := 10, t := 52, k := (.st 51) }], keep := [true], rs := [{ k := .str }], hold := true }
@[reducible] def spec_source_text.lvL0 : Lv := { id := 0, slots := [0, 3, 4], ms := [{ ptr := true, id := 10, t := 52, k := (.st 51), fl := [none, none, none] }, { k := .str }, { k := (.int .i64) }] }
noncomputable def spec_source_text.A : Ann := { dp := fun d => isIn [] d, lp := look [(0, spec_source_text.lvL0)], jn := look [], pins := [10], nt := 23 }
noncomputable def spec_source_text.phis (N : Nat) : List (Nat × Sm D) := [(13, spec_source_pick.sm N), (16, spec_source_rarely.sm N)]
noncomputable def spec_source_text.a0 (N : Nat) (n : Nat) (y : SpecSource × (List UInt8) × Int × Unit) : Option (SpecSource × (List UInt8) × Unit) := loopAt cx (look (spec_source_text.phis N)) spec_source_text.A N n (encL cx spec_source_text.lvL0.ms y).1 (encL cx spec_source_text.lvL0.ms y).2 (bodyOf Tryd.f63) 0 (Kfin cx spec_source_text.A spec_source_text.sg Tryd.f63.results.toList) [1, 1, 0, 1, 1] []
theorem spec_source_text.r0 (N : Nat) : ∀ (n : Nat) (y : SpecSource × (List UInt8) × Int × Unit), spec_source_text.a0 N n y = spec_source_text.L0 N n y
  | 0, y => by kernel_rfl
  | n + 1, y => by
    have h : spec_source_text.a0 N (n + 1) y = spec_source_text.B0 N (fun z => spec_source_text.a0 N n z) y := by kernel_rfl
    have e : (fun z => spec_source_text.a0 N n z) = spec_source_text.L0 N n := funext fun z => spec_source_text.r0 N n z
    rw [h]
    try rw [e]
    first | done | rfl
theorem spec_source_text.run (N : Nat) (x : SpecSource × Unit) : runF cx (look (spec_source_text.phis N)) spec_source_text.A N (bodyOf Tryd.f63) Tryd.f63.results.toList spec_source_text.sg x = spec_source_text N x.1 := by
  have h : runF cx (look (spec_source_text.phis N)) spec_source_text.A N (bodyOf Tryd.f63) Tryd.f63.results.toList spec_source_text.sg x = spec_source_text.B N (fun z => spec_source_text.a0 N N z) x.1 := by kernel_rfl
  have e0 : (fun z => spec_source_text.a0 N N z) = spec_source_text.L0 N N := funext fun z => spec_source_text.r0 N N z
  rw [h, e0]
  try rfl
noncomputable def spec_source_text.sm (N : Nat) : Sm D := (⟨spec_source_text.sg, fun (x : SpecSource × Unit) => spec_source_text N x.1⟩ : Sm D)
theorem spec_source_text.sound (N : Nat) : Sound cx Tryd.prog gam 63 (spec_source_text.sm N) := fn_sound (A := spec_source_text.A) (Φ := (look (spec_source_text.phis N))) pok (G := gam) (ΦOk.cons (spec_source_pick.sound N) (fnOk_of (f := 13) (by kernel_rfl)) (ΦOk.cons (spec_source_rarely.sound N) (fnOk_of (f := 16) (by kernel_rfl)) ΦOk.nil)) mixed N Tryd.func63 (c := (bodyOf Tryd.f63)) (by kernel_rfl) spec_source_text.sg (by kernel_rfl) (by kernel_rfl) (by kernel_rfl) (spec_source_text.run N)

@[reducible] def spec_source_one.sg : Sg := { ms := [{ ptr := true, id := 10, t := 52, k := (.st 51) }, { k := (.sl (.int .i64)), fl := [none] }], keep := [true, false], rs := [{ k := (.int .i64) }], hold := true }
noncomputable def spec_source_one.A : Ann := { dp := fun d => isIn [] d, lp := look [], jn := look [], pins := [10], nt := 12 }
noncomputable def spec_source_one.phis (N : Nat) : List (Nat × Sm D) := [(13, spec_source_pick.sm N)]
theorem spec_source_one.run (N : Nat) (x : SpecSource × (List (Int)) × Unit) : runF cx (look (spec_source_one.phis N)) spec_source_one.A N (bodyOf Tryd.f64) Tryd.f64.results.toList spec_source_one.sg x = spec_source_one N x.1 x.2.1 := by
  have h : runF cx (look (spec_source_one.phis N)) spec_source_one.A N (bodyOf Tryd.f64) Tryd.f64.results.toList spec_source_one.sg x = spec_source_one.B N x.1 x.2.1 := by kernel_rfl
  rw [h]
  try rfl
noncomputable def spec_source_one.sm (N : Nat) : Sm D := (⟨spec_source_one.sg, fun (x : SpecSource × (List (Int)) × Unit) => spec_source_one N x.1 x.2.1⟩ : Sm D)
theorem spec_source_one.sound (N : Nat) : Sound cx Tryd.prog gam 64 (spec_source_one.sm N) := fn_sound (A := spec_source_one.A) (Φ := (look (spec_source_one.phis N))) pok (G := gam) (ΦOk.cons (spec_source_pick.sound N) (fnOk_of (f := 13) (by kernel_rfl)) ΦOk.nil) mixed N Tryd.func64 (c := (bodyOf Tryd.f64)) (by kernel_rfl) spec_source_one.sg (by kernel_rfl) (by kernel_rfl) (by kernel_rfl) (spec_source_one.run N)

@[reducible] def spec_source_value.sg : Sg := { ms := [{ ptr := true, id := 10, t := 52, k := (.st 51) }], keep := [true], rs := [{ k := (.st 30) }], hold := true }
noncomputable def spec_source_value.A : Ann := { dp := fun d => isIn [] d, lp := look [], jn := look [], pins := [10], nt := 23 }
noncomputable def spec_source_value.phis (N : Nat) : List (Nat × Sm D) := [(13, spec_source_pick.sm N), (63, spec_source_text.sm N), (64, spec_source_one.sm N)]
theorem spec_source_value.run (N : Nat) (x : SpecSource × Unit) : runF cx (look (spec_source_value.phis N)) spec_source_value.A N (bodyOf Tryd.f44) Tryd.f44.results.toList spec_source_value.sg x = spec_source_value N x.1 := by
  have h : runF cx (look (spec_source_value.phis N)) spec_source_value.A N (bodyOf Tryd.f44) Tryd.f44.results.toList spec_source_value.sg x = spec_source_value.B N x.1 := by kernel_rfl
  rw [h]
  try rfl
noncomputable def spec_source_value.sm (N : Nat) : Sm D := (⟨spec_source_value.sg, fun (x : SpecSource × Unit) => spec_source_value N x.1⟩ : Sm D)
theorem spec_source_value.sound (N : Nat) : Sound cx Tryd.prog gam 44 (spec_source_value.sm N) := fn_sound (A := spec_source_value.A) (Φ := (look (spec_source_value.phis N))) pok (G := gam) (ΦOk.cons (spec_source_pick.sound N) (fnOk_of (f := 13) (by kernel_rfl)) (ΦOk.cons (spec_source_text.sound N) (fnOk_of (f := 63) (by kernel_rfl)) (ΦOk.cons (spec_source_one.sound N) (fnOk_of (f := 64) (by kernel_rfl)) ΦOk.nil))) mixed N Tryd.func44 (c := (bodyOf Tryd.f44)) (by kernel_rfl) spec_source_value.sg (by kernel_rfl) (by kernel_rfl) (by kernel_rfl) (spec_source_value.run N)

@[reducible] def spec_inRange.sg : Sg := { ms := [{ k := (.int .i64) }, { k := (.int .i64) }, { k := (.int .i64) }], keep := [false, false, false], rs := [{ k := .bool }] }
noncomputable def spec_inRange.A : Ann := { dp := fun d => isIn [] d, lp := look [], jn := look [], pins := [], nt := 15 }
noncomputable def spec_inRange.phis (N : Nat) : List (Nat × Sm D) := []
theorem spec_inRange.run (N : Nat) (x : Int × Int × Int × Unit) : runF cx (look (spec_inRange.phis N)) spec_inRange.A N (bodyOf Tryd.f34) Tryd.f34.results.toList spec_inRange.sg x = spec_inRange N x.1 x.2.1 x.2.2.1 := by
  have h : runF cx (look (spec_inRange.phis N)) spec_inRange.A N (bodyOf Tryd.f34) Tryd.f34.results.toList spec_inRange.sg x = spec_inRange.B N x.1 x.2.1 x.2.2.1 := by kernel_rfl
  rw [h]
  try rfl
noncomputable def spec_inRange.sm (N : Nat) : Sm D := (⟨spec_inRange.sg, fun (x : Int × Int × Int × Unit) => spec_inRange N x.1 x.2.1 x.2.2.1⟩ : Sm D)
theorem spec_inRange.sound (N : Nat) : Sound cx Tryd.prog gam 34 (spec_inRange.sm N) := fn_sound (A := spec_inRange.A) (Φ := (look (spec_inRange.phis N))) pok (G := gam) ΦOk.nil mixed N Tryd.func34 (c := (bodyOf Tryd.f34)) (by kernel_rfl) spec_inRange.sg (by kernel_rfl) (by kernel_rfl) (by kernel_rfl) (spec_inRange.run N)

@[reducible] def spec_plainByte.sg : Sg := { ms := [{ k := (.int .u8) }], keep := [false], rs := [{ k := .bool }] }
noncomputable def spec_plainByte.A : Ann := { dp := fun d => isIn [] d, lp := look [], jn := look [], pins := [], nt := 21 }
noncomputable def spec_plainByte.phis (N : Nat) : List (Nat × Sm D) := []
theorem spec_plainByte.run (N : Nat) (x : Int × Unit) : runF cx (look (spec_plainByte.phis N)) spec_plainByte.A N (bodyOf Tryd.f67) Tryd.f67.results.toList spec_plainByte.sg x = spec_plainByte N x.1 := by
  have h : runF cx (look (spec_plainByte.phis N)) spec_plainByte.A N (bodyOf Tryd.f67) Tryd.f67.results.toList spec_plainByte.sg x = spec_plainByte.B N x.1 := by kernel_rfl
  rw [h]
  try rfl
noncomputable def spec_plainByte.sm (N : Nat) : Sm D := (⟨spec_plainByte.sg, fun (x : Int × Unit) => spec_plainByte N x.1⟩ : Sm D)
theorem spec_plainByte.sound (N : Nat) : Sound cx Tryd.prog gam 67 (spec_plainByte.sm N) := fn_sound (A := spec_plainByte.A) (Φ := (look (spec_plainByte.phis N))) pok (G := gam) ΦOk.nil mixed N Tryd.func67 (c := (bodyOf Tryd.f67)) (by kernel_rfl) spec_plainByte.sg (by kernel_rfl) (by kernel_rfl) (by kernel_rfl) (spec_plainByte.run N)

@[reducible] def spec_validWord.sg : Sg := { ms := [{ k := .str }], keep := [false], rs := [{ k := .bool }] }
@[reducible] def spec_validWord.lvL0 : Lv := { id := 0, slots := [0, 3], ms := [{ k := .str }, { k := (.int .i64) }] }
noncomputable def spec_validWord.A : Ann := { dp := fun d => isIn [] d, lp := look [(0, spec_validWord.lvL0)], jn := look [], pins := [], nt := 18 }
noncomputable def spec_validWord.phis (N : Nat) : List (Nat × Sm D) := [(67, spec_plainByte.sm N)]
noncomputable def spec_validWord.a0 (N : Nat) (n : Nat) (y : (List UInt8) × Int × Unit) : Option (Bool × Unit) := loopAt cx (look (spec_validWord.phis N)) spec_validWord.A N n (encL cx spec_validWord.lvL0.ms y).1 (encL cx spec_validWord.lvL0.ms y).2 (bodyOf Tryd.f50) 0 (Kfin cx spec_validWord.A spec_validWord.sg Tryd.f50.results.toList) [1, 1, 0, 1, 1] []
theorem spec_validWord.r0 (N : Nat) : ∀ (n : Nat) (y : (List UInt8) × Int × Unit), spec_validWord.a0 N n y = spec_validWord.L0 N n y
  | 0, y => by kernel_rfl
  | n + 1, y => by
    have h : spec_validWord.a0 N (n + 1) y = spec_validWord.B0 N (fun z => spec_validWord.a0 N n z) y := by kernel_rfl
    have e : (fun z => spec_validWord.a0 N n z) = spec_validWord.L0 N n := funext fun z => spec_validWord.r0 N n z
    rw [h]
    try rw [e]
    first | done | rfl
theorem spec_validWord.run (N : Nat) (x : (List UInt8) × Unit) : runF cx (look (spec_validWord.phis N)) spec_validWord.A N (bodyOf Tryd.f50) Tryd.f50.results.toList spec_validWord.sg x = spec_validWord N x.1 := by
  have h : runF cx (look (spec_validWord.phis N)) spec_validWord.A N (bodyOf Tryd.f50) Tryd.f50.results.toList spec_validWord.sg x = spec_validWord.B N (fun z => spec_validWord.a0 N N z) x.1 := by kernel_rfl
  have e0 : (fun z => spec_validWord.a0 N N z) = spec_validWord.L0 N N := funext fun z => spec_validWord.r0 N N z
  rw [h, e0]
  try rfl
noncomputable def spec_validWord.sm (N : Nat) : Sm D := (⟨spec_validWord.sg, fun (x : (List UInt8) × Unit) => spec_validWord N x.1⟩ : Sm D)
theorem spec_validWord.sound (N : Nat) : Sound cx Tryd.prog gam 50 (spec_validWord.sm N) := fn_sound (A := spec_validWord.A) (Φ := (look (spec_validWord.phis N))) pok (G := gam) (ΦOk.cons (spec_plainByte.sound N) (fnOk_of (f := 67) (by kernel_rfl)) ΦOk.nil) mixed N Tryd.func50 (c := (bodyOf Tryd.f50)) (by kernel_rfl) spec_validWord.sg (by kernel_rfl) (by kernel_rfl) (by kernel_rfl) (spec_validWord.run N)

@[reducible] def spec_validValue.sg : Sg := { ms := [{ k := (.st 30) }], keep := [false], rs := [{ k := .bool }] }
noncomputable def spec_validValue.A : Ann := { dp := fun d => isIn [] d, lp := look [], jn := look [], pins := [], nt := 35 }
noncomputable def spec_validValue.phis (N : Nat) : List (Nat × Sm D) := [(34, spec_inRange.sm N), (50, spec_validWord.sm N)]
theorem spec_validValue.run (N : Nat) (x : ImplValue × Unit) : runF cx (look (spec_validValue.phis N)) spec_validValue.A N (bodyOf Tryd.f45) Tryd.f45.results.toList spec_validValue.sg x = spec_validValue N x.1 := by
  have h : runF cx (look (spec_validValue.phis N)) spec_validValue.A N (bodyOf Tryd.f45) Tryd.f45.results.toList spec_validValue.sg x = spec_validValue.B N x.1 := by kernel_rfl
  rw [h]
  try rfl
noncomputable def spec_validValue.sm (N : Nat) : Sm D := (⟨spec_validValue.sg, fun (x : ImplValue × Unit) => spec_validValue N x.1⟩ : Sm D)
theorem spec_validValue.sound (N : Nat) : Sound cx Tryd.prog gam 45 (spec_validValue.sm N) := fn_sound (A := spec_validValue.A) (Φ := (look (spec_validValue.phis N))) pok (G := gam) (ΦOk.cons (spec_inRange.sound N) (fnOk_of (f := 34) (by kernel_rfl)) (ΦOk.cons (spec_validWord.sound N) (fnOk_of (f := 50) (by kernel_rfl)) ΦOk.nil)) mixed N Tryd.func45 (c := (bodyOf Tryd.f45)) (by kernel_rfl) spec_validValue.sg (by kernel_rfl) (by kernel_rfl) (by kernel_rfl) (spec_validValue.run N)

@[reducible] def spec_source_good.sg : Sg := { ms := [{ ptr := true, id := 10, t := 52, k := (.st 51) }], keep := [true], rs := [{ k := (.st 30) }], hold := true }
noncomputable def spec_source_good.A : Ann := { dp := fun d => isIn [] d, lp := look [], jn := look [], pins := [10], nt := 11 }
noncomputable def spec_source_good.phis (N : Nat) : List (Nat × Sm D) := [(44, spec_source_value.sm N), (45, spec_validValue.sm N)]
theorem spec_source_good.run (N : Nat) (x : SpecSource × Unit) : runF cx (look (spec_source_good.phis N)) spec_source_good.A N (bodyOf Tryd.f28) Tryd.f28.results.toList spec_source_good.sg x = spec_source_good N x.1 := by
  have h : runF cx (look (spec_source_good.phis N)) spec_source_good.A N (bodyOf Tryd.f28) Tryd.f28.results.toList spec_source_good.sg x = spec_source_good.B N x.1 := by kernel_rfl
  rw [h]
  try rfl
noncomputable def spec_source_good.sm (N : Nat) : Sm D := (⟨spec_source_good.sg, fun (x : SpecSource × Unit) => spec_source_good N x.1⟩ : Sm D)
theorem spec_source_good.sound (N : Nat) : Sound cx Tryd.prog gam 28 (spec_source_good.sm N) := fn_sound (A := spec_source_good.A) (Φ := (look (spec_source_good.phis N))) pok (G := gam) (ΦOk.cons (spec_source_value.sound N) (fnOk_of (f := 44) (by kernel_rfl)) (ΦOk.cons (spec_validValue.sound N) (fnOk_of (f := 45) (by kernel_rfl)) ΦOk.nil)) mixed N Tryd.func28 (c := (bodyOf Tryd.f28)) (by kernel_rfl) spec_source_good.sg (by kernel_rfl) (by kernel_rfl) (by kernel_rfl) (spec_source_good.run N)

@[reducible] def spec_source_goods.sg : Sg := { ms := [{ ptr := true, id := 10, t := 52, k := (.st 51) }, { k := (.int .i64) }], keep := [true, false], rs := [{ k := (.sl (.st 30)), fl := [none] }], hold := true }
@[reducible] def spec_source_goods.lvL0 : Lv := { id := 0, slots := [0, 1, 5], ms := [{ ptr := true, id := 10, t := 52, k := (.st 51), fl := [none, none, none] }, { k := (.int .i64) }, { k := (.sl (.st 30)), fl := [some (false, 640)] }] }
noncomputable def spec_source_goods.A : Ann := { dp := fun d => isIn [] d, lp := look [(0, spec_source_goods.lvL0)], jn := look [], pins := [10], nt := 17 }
noncomputable def spec_source_goods.phis (N : Nat) : List (Nat × Sm D) := [(28, spec_source_good.sm N)]
noncomputable def spec_source_goods.a0 (N : Nat) (n : Nat) (y : SpecSource × Int × (List (ImplValue)) × Unit) : Option (SpecSource × (List (ImplValue)) × Unit) := loopAt cx (look (spec_source_goods.phis N)) spec_source_goods.A N n (encL cx spec_source_goods.lvL0.ms y).1 (encL cx spec_source_goods.lvL0.ms y).2 (bodyOf Tryd.f14) 0 (Kfin cx spec_source_goods.A spec_source_goods.sg Tryd.f14.results.toList) [1, 1, 0, 1] []
theorem spec_source_goods.r0 (N : Nat) : ∀ (n : Nat) (y : SpecSource × Int × (List (ImplValue)) × Unit), spec_source_goods.a0 N n y = spec_source_goods.L0 N n y
  | 0, y => by kernel_rfl
  | n + 1, y => by
    have h : spec_source_goods.a0 N (n + 1) y = spec_source_goods.B0 N (fun z => spec_source_goods.a0 N n z) y := by kernel_rfl
    have e : (fun z => spec_source_goods.a0 N n z) = spec_source_goods.L0 N n := funext fun z => spec_source_goods.r0 N n z
    rw [h]
    try rw [e]
    first | done | rfl
theorem spec_source_goods.run (N : Nat) (x : SpecSource × Int × Unit) : runF cx (look (spec_source_goods.phis N)) spec_source_goods.A N (bodyOf Tryd.f14) Tryd.f14.results.toList spec_source_goods.sg x = spec_source_goods N x.1 x.2.1 := by
  have h : runF cx (look (spec_source_goods.phis N)) spec_source_goods.A N (bodyOf Tryd.f14) Tryd.f14.results.toList spec_source_goods.sg x = spec_source_goods.B N (fun z => spec_source_goods.a0 N N z) x.1 x.2.1 := by kernel_rfl
  have e0 : (fun z => spec_source_goods.a0 N N z) = spec_source_goods.L0 N N := funext fun z => spec_source_goods.r0 N N z
  rw [h, e0]
  try rfl
noncomputable def spec_source_goods.sm (N : Nat) : Sm D := (⟨spec_source_goods.sg, fun (x : SpecSource × Int × Unit) => spec_source_goods N x.1 x.2.1⟩ : Sm D)
theorem spec_source_goods.sound (N : Nat) : Sound cx Tryd.prog gam 14 (spec_source_goods.sm N) := fn_sound (A := spec_source_goods.A) (Φ := (look (spec_source_goods.phis N))) pok (G := gam) (ΦOk.cons (spec_source_good.sound N) (fnOk_of (f := 28) (by kernel_rfl)) ΦOk.nil) mixed N Tryd.func14 (c := (bodyOf Tryd.f14)) (by kernel_rfl) spec_source_goods.sg (by kernel_rfl) (by kernel_rfl) (by kernel_rfl) (spec_source_goods.run N)

@[reducible] def spec_source_leaf.sg : Sg := { ms := [{ ptr := true, id := 10, t := 52, k := (.st 51) }, { k := (.int .i64) }, { k := (.int .i64) }, { k := (.int .i64) }], keep := [true, false, false, false], rs := [{ k := (.st 45) }], hold := true }
noncomputable def spec_source_leaf.A : Ann := { dp := fun d => isIn [] d, lp := look [], jn := look [], pins := [10], nt := 44 }
noncomputable def spec_source_leaf.phis (N : Nat) : List (Nat × Sm D) := [(13, spec_source_pick.sm N), (28, spec_source_good.sm N)]
theorem spec_source_leaf.run (N : Nat) (x : SpecSource × Int × Int × Int × Unit) : runF cx (look (spec_source_leaf.phis N)) spec_source_leaf.A N (bodyOf Tryd.f29) Tryd.f29.results.toList spec_source_leaf.sg x = spec_source_leaf N x.1 x.2.1 x.2.2.1 x.2.2.2.1 := by
  have h : runF cx (look (spec_source_leaf.phis N)) spec_source_leaf.A N (bodyOf Tryd.f29) Tryd.f29.results.toList spec_source_leaf.sg x = spec_source_leaf.B N x.1 x.2.1 x.2.2.1 x.2.2.2.1 := by kernel_rfl
  rw [h]
  try rfl
noncomputable def spec_source_leaf.sm (N : Nat) : Sm D := (⟨spec_source_leaf.sg, fun (x : SpecSource × Int × Int × Int × Unit) => spec_source_leaf N x.1 x.2.1 x.2.2.1 x.2.2.2.1⟩ : Sm D)
theorem spec_source_leaf.sound (N : Nat) : Sound cx Tryd.prog gam 29 (spec_source_leaf.sm N) := fn_sound (A := spec_source_leaf.A) (Φ := (look (spec_source_leaf.phis N))) pok (G := gam) (ΦOk.cons (spec_source_pick.sound N) (fnOk_of (f := 13) (by kernel_rfl)) (ΦOk.cons (spec_source_good.sound N) (fnOk_of (f := 28) (by kernel_rfl)) ΦOk.nil)) mixed N Tryd.func29 (c := (bodyOf Tryd.f29)) (by kernel_rfl) spec_source_leaf.sg (by kernel_rfl) (by kernel_rfl) (by kernel_rfl) (spec_source_leaf.run N)

@[reducible] def spec_source_form.sg : Sg := { ms := [{ ptr := true, id := 10, t := 52, k := (.st 51) }, { k := (.int .i64) }, { k := (.int .i64) }, { k := (.int .i64) }, { k := (.int .i64) }], keep := [true, false, false, false, false], rs := [{ k := (.sl (.st 45)), fl := [some (false, 411)] }], hold := true }
noncomputable def spec_source_form.A : Ann := { dp := fun d => isIn [] d, lp := look [], jn := look [], pins := [10], nt := 81 }
noncomputable def spec_source_form.phis (N : Nat) (d : Nat) : List (Nat × Sm D) := [(13, spec_source_pick.sm N), (29, spec_source_leaf.sm N), (15, (⟨spec_source_form.sg, fun (x : SpecSource × Int × Int × Int × Int × Unit) => spec_source_form.R N d x.1 x.2.1 x.2.2.1 x.2.2.2.1 x.2.2.2.2.1⟩ : Sm D))]
theorem spec_source_form.run (N : Nat) (d : Nat) (x : SpecSource × Int × Int × Int × Int × Unit) : runF cx (look (spec_source_form.phis N d)) spec_source_form.A N (bodyOf Tryd.f15) Tryd.f15.results.toList spec_source_form.sg x = spec_source_form.R N (d + 1) x.1 x.2.1 x.2.2.1 x.2.2.2.1 x.2.2.2.2.1 := by
  have h : runF cx (look (spec_source_form.phis N d)) spec_source_form.A N (bodyOf Tryd.f15) Tryd.f15.results.toList spec_source_form.sg x = spec_source_form.B N (spec_source_form.R N d) x.1 x.2.1 x.2.2.1 x.2.2.2.1 x.2.2.2.2.1 := by kernel_rfl
  rw [h]
  try rfl
theorem spec_source_form.step (N : Nat) (d : Nat) (h_spec_source_form : Sound cx Tryd.prog gam 15 (⟨spec_source_form.sg, fun (x : SpecSource × Int × Int × Int × Int × Unit) => spec_source_form.R N d x.1 x.2.1 x.2.2.1 x.2.2.2.1 x.2.2.2.2.1⟩ : Sm D)) : Sound cx Tryd.prog gam 15 (⟨spec_source_form.sg, fun (x : SpecSource × Int × Int × Int × Int × Unit) => spec_source_form.R N (d + 1) x.1 x.2.1 x.2.2.1 x.2.2.2.1 x.2.2.2.2.1⟩ : Sm D) := fn_sound (A := spec_source_form.A) (Φ := (look (spec_source_form.phis N d))) pok (G := gam) (ΦOk.cons (spec_source_pick.sound N) (fnOk_of (f := 13) (by kernel_rfl)) (ΦOk.cons (spec_source_leaf.sound N) (fnOk_of (f := 29) (by kernel_rfl)) (ΦOk.cons h_spec_source_form (fnOk_of (f := 15) (by kernel_rfl)) ΦOk.nil))) mixed N Tryd.func15 (c := (bodyOf Tryd.f15)) (by kernel_rfl) spec_source_form.sg (by kernel_rfl) (by kernel_rfl) (by kernel_rfl) (spec_source_form.run N d)

theorem spec_source_form.scc (N : Nat) : ∀ d, Sound cx Tryd.prog gam 15 (⟨spec_source_form.sg, fun (x : SpecSource × Int × Int × Int × Int × Unit) => spec_source_form.R N d x.1 x.2.1 x.2.2.1 x.2.2.2.1 x.2.2.2.2.1⟩ : Sm D)
  | 0 => none_sound 15 spec_source_form.sg
  | d + 1 => by
    have ih := spec_source_form.scc N d
    exact spec_source_form.step N d ih
noncomputable def spec_source_form.sm (N : Nat) : Sm D := (⟨spec_source_form.sg, fun (x : SpecSource × Int × Int × Int × Int × Unit) => spec_source_form.R N N x.1 x.2.1 x.2.2.1 x.2.2.2.1 x.2.2.2.2.1⟩ : Sm D)
theorem spec_source_form.sound (N : Nat) : Sound cx Tryd.prog gam 15 (spec_source_form.sm N) := (spec_source_form.scc N N)
@[reducible] def spec_DrawFormValue.sg : Sg := { ms := [{ k := (.sl (.int .u8)), fl := [none] }], keep := [false], rs := [{ k := (.sl (.st 45)), fl := [none] }, { k := (.st 26) }], hold := true }
@[reducible] def spec_DrawFormValue.lvL0 : Lv := { id := 0, slots := [3, 4, 5, 6, 7, 8, 9], ms := [{ ptr := true, id := 600, t := 27, k := (.st 26), fl := [some (false, 601), some (false, 602), some (false, 603), some (false, 604)] }, { ptr := true, id := 620, t := 52, k := (.st 51), fl := [none, none, none] }, { k := (.int .i64) }, { k := (.int .i64) }, { k := (.int .i64) }, { ptr := true, id := 700, t := 27, k := (.st 26), fl := [none, none, some (false, 703), none] }, { k := (.int .i64) }] }
@[reducible] def spec_DrawFormValue.lvJ11 : Lv := { id := 11, slots := [3, 4, 8, 10], ms := [{ ptr := true, id := 600, t := 27, k := (.st 26), fl := [some (false, 601), some (false, 602), some (false, 603), some (false, 604)] }, { ptr := true, id := 620, t := 52, k := (.st 51), fl := [none, none, none] }, { ptr := true, id := 640, t := 27, k := (.st 26), fl := [none, none, some (false, 643), none] }, { k := (.sl (.st 45)), fl := [some (false, 660)] }] }
noncomputable def spec_DrawFormValue.A : Ann := { dp := fun d => isIn [] d, lp := look [(0, spec_DrawFormValue.lvL0)], jn := look [(11, spec_DrawFormValue.lvJ11)], pins := [], nt := 59 }
noncomputable def spec_DrawFormValue.phis (N : Nat) : List (Nat × Sm D) := [(12, spec_newSource.sm N), (13, spec_source_pick.sm N), (14, spec_source_goods.sm N), (15, spec_source_form.sm N), (16, spec_source_rarely.sm N)]
noncomputable def spec_DrawFormValue.a0 (N : Nat) (n : Nat) (y : ImplEnv × SpecSource × Int × Int × Int × ImplEnv × Int × Unit) : Option ((List (ImplStep)) × ImplEnv × Unit) := loopAt cx (look (spec_DrawFormValue.phis N)) spec_DrawFormValue.A N n (encL cx spec_DrawFormValue.lvL0.ms y).1 (encL cx spec_DrawFormValue.lvL0.ms y).2 (bodyOf Tryd.f4) 0 (Kfin cx spec_DrawFormValue.A spec_DrawFormValue.sg Tryd.f4.results.toList) [1, 1, 1, 1, 0, 1, 1] []
theorem spec_DrawFormValue.r0 (N : Nat) : ∀ (n : Nat) (y : ImplEnv × SpecSource × Int × Int × Int × ImplEnv × Int × Unit), spec_DrawFormValue.a0 N n y = spec_DrawFormValue.L0 N n y
  | 0, y => by kernel_rfl
  | n + 1, y => by
    have h : spec_DrawFormValue.a0 N (n + 1) y = spec_DrawFormValue.B0 N (fun z => spec_DrawFormValue.a0 N n z) y := by kernel_rfl
    have e : (fun z => spec_DrawFormValue.a0 N n z) = spec_DrawFormValue.L0 N n := funext fun z => spec_DrawFormValue.r0 N n z
    rw [h]
    try rw [e]
    first | done | rfl
theorem spec_DrawFormValue.run (N : Nat) (x : (List (Int)) × Unit) : runF cx (look (spec_DrawFormValue.phis N)) spec_DrawFormValue.A N (bodyOf Tryd.f4) Tryd.f4.results.toList spec_DrawFormValue.sg x = spec_DrawFormValue N x.1 := by
  have h : runF cx (look (spec_DrawFormValue.phis N)) spec_DrawFormValue.A N (bodyOf Tryd.f4) Tryd.f4.results.toList spec_DrawFormValue.sg x = spec_DrawFormValue.B N (fun z => spec_DrawFormValue.a0 N N z) x.1 := by kernel_rfl
  have e0 : (fun z => spec_DrawFormValue.a0 N N z) = spec_DrawFormValue.L0 N N := funext fun z => spec_DrawFormValue.r0 N N z
  rw [h, e0]
  try rfl
noncomputable def spec_DrawFormValue.sm (N : Nat) : Sm D := (⟨spec_DrawFormValue.sg, fun (x : (List (Int)) × Unit) => spec_DrawFormValue N x.1⟩ : Sm D)
theorem spec_DrawFormValue.sound (N : Nat) : Sound cx Tryd.prog gam 4 (spec_DrawFormValue.sm N) := fn_sound (A := spec_DrawFormValue.A) (Φ := (look (spec_DrawFormValue.phis N))) pok (G := gam) (ΦOk.cons (spec_newSource.sound N) (fnOk_of (f := 12) (by kernel_rfl)) (ΦOk.cons (spec_source_pick.sound N) (fnOk_of (f := 13) (by kernel_rfl)) (ΦOk.cons (spec_source_goods.sound N) (fnOk_of (f := 14) (by kernel_rfl)) (ΦOk.cons (spec_source_form.sound N) (fnOk_of (f := 15) (by kernel_rfl)) (ΦOk.cons (spec_source_rarely.sound N) (fnOk_of (f := 16) (by kernel_rfl)) ΦOk.nil))))) mixed N Tryd.func4 (c := (bodyOf Tryd.f4)) (by kernel_rfl) spec_DrawFormValue.sg (by kernel_rfl) (by kernel_rfl) (by kernel_rfl) (spec_DrawFormValue.run N)

@[reducible] def impl_within.sg : Sg := { ms := [{ k := (.int .i64) }, { k := (.int .i64) }, { k := (.int .i64) }], keep := [false, false, false], rs := [{ k := .bool }] }
noncomputable def impl_within.A : Ann := { dp := fun d => isIn [] d, lp := look [], jn := look [], pins := [], nt := 15 }
noncomputable def impl_within.phis (N : Nat) : List (Nat × Sm D) := []
theorem impl_within.run (N : Nat) (x : Int × Int × Int × Unit) : runF cx (look (impl_within.phis N)) impl_within.A N (bodyOf Tryd.f22) Tryd.f22.results.toList impl_within.sg x = impl_within N x.1 x.2.1 x.2.2.1 := by
  have h : runF cx (look (impl_within.phis N)) impl_within.A N (bodyOf Tryd.f22) Tryd.f22.results.toList impl_within.sg x = impl_within.B N x.1 x.2.1 x.2.2.1 := by kernel_rfl
  rw [h]
  try rfl
noncomputable def impl_within.sm (N : Nat) : Sm D := (⟨impl_within.sg, fun (x : Int × Int × Int × Unit) => impl_within N x.1 x.2.1 x.2.2.1⟩ : Sm D)
theorem impl_within.sound (N : Nat) : Sound cx Tryd.prog gam 22 (impl_within.sm N) := fn_sound (A := impl_within.A) (Φ := (look (impl_within.phis N))) pok (G := gam) ΦOk.nil mixed N Tryd.func22 (c := (bodyOf Tryd.f22)) (by kernel_rfl) impl_within.sg (by kernel_rfl) (by kernel_rfl) (by kernel_rfl) (impl_within.run N)

@[reducible] def impl_word.sg : Sg := { ms := [{ k := .str }], keep := [false], rs := [{ k := .bool }] }
@[reducible] def impl_word.lvL0 : Lv := { id := 0, slots := [0, 3], ms := [{ k := .str }, { k := (.int .i64) }] }
noncomputable def impl_word.A : Ann := { dp := fun d => isIn [] d, lp := look [(0, impl_word.lvL0)], jn := look [], pins := [], nt := 36 }
noncomputable def impl_word.phis (N : Nat) : List (Nat × Sm D) := []
noncomputable def impl_word.a0 (N : Nat) (n : Nat) (y : (List UInt8) × Int × Unit) : Option (Bool × Unit) := loopAt cx (look (impl_word.phis N)) impl_word.A N n (encL cx impl_word.lvL0.ms y).1 (encL cx impl_word.lvL0.ms y).2 (bodyOf Tryd.f27) 0 (Kfin cx impl_word.A impl_word.sg Tryd.f27.results.toList) [1, 0, 1, 1] []
theorem impl_word.r0 (N : Nat) : ∀ (n : Nat) (y : (List UInt8) × Int × Unit), impl_word.a0 N n y = impl_word.L0 N n y
  | 0, y => by kernel_rfl
  | n + 1, y => by
    have h : impl_word.a0 N (n + 1) y = impl_word.B0 N (fun z => impl_word.a0 N n z) y := by kernel_rfl
    have e : (fun z => impl_word.a0 N n z) = impl_word.L0 N n := funext fun z => impl_word.r0 N n z
    rw [h]
    try rw [e]
    first | done | rfl
theorem impl_word.run (N : Nat) (x : (List UInt8) × Unit) : runF cx (look (impl_word.phis N)) impl_word.A N (bodyOf Tryd.f27) Tryd.f27.results.toList impl_word.sg x = impl_word N x.1 := by
  have h : runF cx (look (impl_word.phis N)) impl_word.A N (bodyOf Tryd.f27) Tryd.f27.results.toList impl_word.sg x = impl_word.B N (fun z => impl_word.a0 N N z) x.1 := by kernel_rfl
  have e0 : (fun z => impl_word.a0 N N z) = impl_word.L0 N N := funext fun z => impl_word.r0 N N z
  rw [h, e0]
  try rfl
noncomputable def impl_word.sm (N : Nat) : Sm D := (⟨impl_word.sg, fun (x : (List UInt8) × Unit) => impl_word N x.1⟩ : Sm D)
theorem impl_word.sound (N : Nat) : Sound cx Tryd.prog gam 27 (impl_word.sm N) := fn_sound (A := impl_word.A) (Φ := (look (impl_word.phis N))) pok (G := gam) ΦOk.nil mixed N Tryd.func27 (c := (bodyOf Tryd.f27)) (by kernel_rfl) impl_word.sg (by kernel_rfl) (by kernel_rfl) (by kernel_rfl) (impl_word.run N)

@[reducible] def impl_ValOk.sg : Sg := { ms := [{ k := (.st 30) }], keep := [false], rs := [{ k := .bool }] }
noncomputable def impl_ValOk.A : Ann := { dp := fun d => isIn [] d, lp := look [], jn := look [], pins := [], nt := 35 }
noncomputable def impl_ValOk.phis (N : Nat) : List (Nat × Sm D) := [(22, impl_within.sm N), (27, impl_word.sm N)]
theorem impl_ValOk.run (N : Nat) (x : ImplValue × Unit) : runF cx (look (impl_ValOk.phis N)) impl_ValOk.A N (bodyOf Tryd.f11) Tryd.f11.results.toList impl_ValOk.sg x = impl_ValOk N x.1 := by
  have h : runF cx (look (impl_ValOk.phis N)) impl_ValOk.A N (bodyOf Tryd.f11) Tryd.f11.results.toList impl_ValOk.sg x = impl_ValOk.B N x.1 := by kernel_rfl
  rw [h]
  try rfl
noncomputable def impl_ValOk.sm (N : Nat) : Sm D := (⟨impl_ValOk.sg, fun (x : ImplValue × Unit) => impl_ValOk N x.1⟩ : Sm D)
theorem impl_ValOk.sound (N : Nat) : Sound cx Tryd.prog gam 11 (impl_ValOk.sm N) := fn_sound (A := impl_ValOk.A) (Φ := (look (impl_ValOk.phis N))) pok (G := gam) (ΦOk.cons (impl_within.sound N) (fnOk_of (f := 22) (by kernel_rfl)) (ΦOk.cons (impl_word.sound N) (fnOk_of (f := 27) (by kernel_rfl)) ΦOk.nil)) mixed N Tryd.func11 (c := (bodyOf Tryd.f11)) (by kernel_rfl) impl_ValOk.sg (by kernel_rfl) (by kernel_rfl) (by kernel_rfl) (impl_ValOk.run N)

@[reducible] def impl_valsOk.sg : Sg := { ms := [{ k := (.sl (.st 30)), fl := [none] }], keep := [false], rs := [{ k := .bool }] }
@[reducible] def impl_valsOk.lvL0 : Lv := { id := 0, slots := [5, 6, 7], ms := [{ k := (.sl (.st 30)), fl := [none] }, { k := (.int .i64) }, { k := (.int .i64) }] }
noncomputable def impl_valsOk.A : Ann := { dp := fun d => isIn [] d, lp := look [(0, impl_valsOk.lvL0)], jn := look [], pins := [], nt := 15 }
noncomputable def impl_valsOk.phis (N : Nat) : List (Nat × Sm D) := [(11, impl_ValOk.sm N)]
noncomputable def impl_valsOk.a0 (N : Nat) (n : Nat) (y : (List (ImplValue)) × Int × Int × Unit) : Option (Bool × Unit) := loopAt cx (look (impl_valsOk.phis N)) impl_valsOk.A N n (encL cx impl_valsOk.lvL0.ms y).1 (encL cx impl_valsOk.lvL0.ms y).2 (bodyOf Tryd.f30) 0 (Kfin cx impl_valsOk.A impl_valsOk.sg Tryd.f30.results.toList) [1, 0, 1, 1] []
theorem impl_valsOk.r0 (N : Nat) : ∀ (n : Nat) (y : (List (ImplValue)) × Int × Int × Unit), impl_valsOk.a0 N n y = impl_valsOk.L0 N n y
  | 0, y => by kernel_rfl
  | n + 1, y => by
    have h : impl_valsOk.a0 N (n + 1) y = impl_valsOk.B0 N (fun z => impl_valsOk.a0 N n z) y := by kernel_rfl
    have e : (fun z => impl_valsOk.a0 N n z) = impl_valsOk.L0 N n := funext fun z => impl_valsOk.r0 N n z
    rw [h]
    try rw [e]
    first | done | rfl
theorem impl_valsOk.run (N : Nat) (x : (List (ImplValue)) × Unit) : runF cx (look (impl_valsOk.phis N)) impl_valsOk.A N (bodyOf Tryd.f30) Tryd.f30.results.toList impl_valsOk.sg x = impl_valsOk N x.1 := by
  have h : runF cx (look (impl_valsOk.phis N)) impl_valsOk.A N (bodyOf Tryd.f30) Tryd.f30.results.toList impl_valsOk.sg x = impl_valsOk.B N (fun z => impl_valsOk.a0 N N z) x.1 := by kernel_rfl
  have e0 : (fun z => impl_valsOk.a0 N N z) = impl_valsOk.L0 N N := funext fun z => impl_valsOk.r0 N N z
  rw [h, e0]
  try rfl
noncomputable def impl_valsOk.sm (N : Nat) : Sm D := (⟨impl_valsOk.sg, fun (x : (List (ImplValue)) × Unit) => impl_valsOk N x.1⟩ : Sm D)
theorem impl_valsOk.sound (N : Nat) : Sound cx Tryd.prog gam 30 (impl_valsOk.sm N) := fn_sound (A := impl_valsOk.A) (Φ := (look (impl_valsOk.phis N))) pok (G := gam) (ΦOk.cons (impl_ValOk.sound N) (fnOk_of (f := 11) (by kernel_rfl)) ΦOk.nil) mixed N Tryd.func30 (c := (bodyOf Tryd.f30)) (by kernel_rfl) impl_valsOk.sg (by kernel_rfl) (by kernel_rfl) (by kernel_rfl) (impl_valsOk.run N)

@[reducible] def impl_envOk.sg : Sg := { ms := [{ k := (.st 26) }], keep := [false], rs := [{ k := .bool }] }
@[reducible] def impl_envOk.lvL0 : Lv := { id := 0, slots := [1, 6, 7, 8], ms := [{ ptr := true, id := 600, t := 27, k := (.st 26), fl := [none, none, none, none] }, { k := (.sl (.int .i64)), fl := [none] }, { k := (.int .i64) }, { k := (.int .i64) }] }
noncomputable def impl_envOk.A : Ann := { dp := fun d => isIn [] d, lp := look [(0, impl_envOk.lvL0)], jn := look [], pins := [], nt := 53 }
noncomputable def impl_envOk.phis (N : Nat) : List (Nat × Sm D) := [(22, impl_within.sm N), (30, impl_valsOk.sm N)]
noncomputable def impl_envOk.a0 (N : Nat) (n : Nat) (y : ImplEnv × (List (Int)) × Int × Int × Unit) : Option (Bool × Unit) := loopAt cx (look (impl_envOk.phis N)) impl_envOk.A N n (encL cx impl_envOk.lvL0.ms y).1 (encL cx impl_envOk.lvL0.ms y).2 (bodyOf Tryd.f17) 0 (Kfin cx impl_envOk.A impl_envOk.sg Tryd.f17.results.toList) [1, 0, 1, 1] []
theorem impl_envOk.r0 (N : Nat) : ∀ (n : Nat) (y : ImplEnv × (List (Int)) × Int × Int × Unit), impl_envOk.a0 N n y = impl_envOk.L0 N n y
  | 0, y => by kernel_rfl
  | n + 1, y => by
    have h : impl_envOk.a0 N (n + 1) y = impl_envOk.B0 N (fun z => impl_envOk.a0 N n z) y := by kernel_rfl
    have e : (fun z => impl_envOk.a0 N n z) = impl_envOk.L0 N n := funext fun z => impl_envOk.r0 N n z
    rw [h]
    try rw [e]
    first | done | rfl
theorem impl_envOk.run (N : Nat) (x : ImplEnv × Unit) : runF cx (look (impl_envOk.phis N)) impl_envOk.A N (bodyOf Tryd.f17) Tryd.f17.results.toList impl_envOk.sg x = impl_envOk N x.1 := by
  have h : runF cx (look (impl_envOk.phis N)) impl_envOk.A N (bodyOf Tryd.f17) Tryd.f17.results.toList impl_envOk.sg x = impl_envOk.B N (fun z => impl_envOk.a0 N N z) x.1 := by kernel_rfl
  have e0 : (fun z => impl_envOk.a0 N N z) = impl_envOk.L0 N N := funext fun z => impl_envOk.r0 N N z
  rw [h, e0]
  try rfl
noncomputable def impl_envOk.sm (N : Nat) : Sm D := (⟨impl_envOk.sg, fun (x : ImplEnv × Unit) => impl_envOk N x.1⟩ : Sm D)
theorem impl_envOk.sound (N : Nat) : Sound cx Tryd.prog gam 17 (impl_envOk.sm N) := fn_sound (A := impl_envOk.A) (Φ := (look (impl_envOk.phis N))) pok (G := gam) (ΦOk.cons (impl_within.sound N) (fnOk_of (f := 22) (by kernel_rfl)) (ΦOk.cons (impl_valsOk.sound N) (fnOk_of (f := 30) (by kernel_rfl)) ΦOk.nil)) mixed N Tryd.func17 (c := (bodyOf Tryd.f17)) (by kernel_rfl) impl_envOk.sg (by kernel_rfl) (by kernel_rfl) (by kernel_rfl) (impl_envOk.run N)

@[reducible] def impl_formFits.sg : Sg := { ms := [{ k := (.sl (.st 45)), fl := [none] }, { k := (.int .i64) }, { k := (.int .i64) }, { k := (.int .i64) }], keep := [false, false, false, false], rs := [{ k := .bool }] }
@[reducible] def impl_formFits.lvJ27 : Lv := { id := 27, slots := [0, 1, 2, 3, 9, 12, 13, 14, 15, 16], ms := [{ k := (.sl (.st 45)), fl := [none] }, { k := (.int .i64) }, { k := (.int .i64) }, { k := (.int .i64) }, { k := (.int .i64) }, { k := (.int .i64) }, { k := .bool }, { k := (.sl (.st 45)), fl := [none] }, { k := (.int .i64) }, { k := (.int .i64) }] }
@[reducible] def impl_formFits.lvL0 : Lv := { id := 0, slots := [0, 1, 2, 3, 9, 14, 15, 16], ms := [{ k := (.sl (.st 45)), fl := [none] }, { k := (.int .i64) }, { k := (.int .i64) }, { k := (.int .i64) }, { k := (.int .i64) }, { k := (.sl (.st 45)), fl := [none] }, { k := (.int .i64) }, { k := (.int .i64) }] }
noncomputable def impl_formFits.A : Ann := { dp := fun d => isIn [] d, lp := look [(0, impl_formFits.lvL0)], jn := look [(27, impl_formFits.lvJ27)], pins := [], nt := 96 }
noncomputable def impl_formFits.phis (N : Nat) : List (Nat × Sm D) := [(11, impl_ValOk.sm N), (22, impl_within.sm N)]
noncomputable def impl_formFits.a0 (N : Nat) (n : Nat) (y : (List (ImplStep)) × Int × Int × Int × Int × (List (ImplStep)) × Int × Int × Unit) : Option (Bool × Unit) := loopAt cx (look (impl_formFits.phis N)) impl_formFits.A N n (encL cx impl_formFits.lvL0.ms y).1 (encL cx impl_formFits.lvL0.ms y).2 (bodyOf Tryd.f23) 0 (Kfin cx impl_formFits.A impl_formFits.sg Tryd.f23.results.toList) [1, 1, 0, 1, 1] []
theorem impl_formFits.r0 (N : Nat) : ∀ (n : Nat) (y : (List (ImplStep)) × Int × Int × Int × Int × (List (ImplStep)) × Int × Int × Unit), impl_formFits.a0 N n y = impl_formFits.L0 N n y
  | 0, y => by kernel_rfl
  | n + 1, y => by
    have h : impl_formFits.a0 N (n + 1) y = impl_formFits.B0 N (fun z => impl_formFits.a0 N n z) y := by kernel_rfl
    have e : (fun z => impl_formFits.a0 N n z) = impl_formFits.L0 N n := funext fun z => impl_formFits.r0 N n z
    rw [h]
    try rw [e]
    first | done | rfl
theorem impl_formFits.run (N : Nat) (x : (List (ImplStep)) × Int × Int × Int × Unit) : runF cx (look (impl_formFits.phis N)) impl_formFits.A N (bodyOf Tryd.f23) Tryd.f23.results.toList impl_formFits.sg x = impl_formFits N x.1 x.2.1 x.2.2.1 x.2.2.2.1 := by
  have h : runF cx (look (impl_formFits.phis N)) impl_formFits.A N (bodyOf Tryd.f23) Tryd.f23.results.toList impl_formFits.sg x = impl_formFits.B N (fun z => impl_formFits.a0 N N z) x.1 x.2.1 x.2.2.1 x.2.2.2.1 := by kernel_rfl
  have e0 : (fun z => impl_formFits.a0 N N z) = impl_formFits.L0 N N := funext fun z => impl_formFits.r0 N N z
  rw [h, e0]
  try rfl
noncomputable def impl_formFits.sm (N : Nat) : Sm D := (⟨impl_formFits.sg, fun (x : (List (ImplStep)) × Int × Int × Int × Unit) => impl_formFits N x.1 x.2.1 x.2.2.1 x.2.2.2.1⟩ : Sm D)
theorem impl_formFits.sound (N : Nat) : Sound cx Tryd.prog gam 23 (impl_formFits.sm N) := fn_sound (A := impl_formFits.A) (Φ := (look (impl_formFits.phis N))) pok (G := gam) (ΦOk.cons (impl_ValOk.sound N) (fnOk_of (f := 11) (by kernel_rfl)) (ΦOk.cons (impl_within.sound N) (fnOk_of (f := 22) (by kernel_rfl)) ΦOk.nil)) mixed N Tryd.func23 (c := (bodyOf Tryd.f23)) (by kernel_rfl) impl_formFits.sg (by kernel_rfl) (by kernel_rfl) (by kernel_rfl) (impl_formFits.run N)

@[reducible] def impl_FormOk.sg : Sg := { ms := [{ k := (.sl (.st 45)), fl := [none] }, { k := (.int .i64) }, { k := (.int .i64) }, { k := (.int .i64) }], keep := [false, false, false, false], rs := [{ k := .bool }] }
noncomputable def impl_FormOk.A : Ann := { dp := fun d => isIn [] d, lp := look [], jn := look [], pins := [], nt := 26 }
noncomputable def impl_FormOk.phis (N : Nat) : List (Nat × Sm D) := [(22, impl_within.sm N), (23, impl_formFits.sm N)]
theorem impl_FormOk.run (N : Nat) (x : (List (ImplStep)) × Int × Int × Int × Unit) : runF cx (look (impl_FormOk.phis N)) impl_FormOk.A N (bodyOf Tryd.f7) Tryd.f7.results.toList impl_FormOk.sg x = impl_FormOk N x.1 x.2.1 x.2.2.1 x.2.2.2.1 := by
  have h : runF cx (look (impl_FormOk.phis N)) impl_FormOk.A N (bodyOf Tryd.f7) Tryd.f7.results.toList impl_FormOk.sg x = impl_FormOk.B N x.1 x.2.1 x.2.2.1 x.2.2.2.1 := by kernel_rfl
  rw [h]
  try rfl
noncomputable def impl_FormOk.sm (N : Nat) : Sm D := (⟨impl_FormOk.sg, fun (x : (List (ImplStep)) × Int × Int × Int × Unit) => impl_FormOk N x.1 x.2.1 x.2.2.1 x.2.2.2.1⟩ : Sm D)
theorem impl_FormOk.sound (N : Nat) : Sound cx Tryd.prog gam 7 (impl_FormOk.sm N) := fn_sound (A := impl_FormOk.A) (Φ := (look (impl_FormOk.phis N))) pok (G := gam) (ΦOk.cons (impl_within.sound N) (fnOk_of (f := 22) (by kernel_rfl)) (ΦOk.cons (impl_formFits.sound N) (fnOk_of (f := 23) (by kernel_rfl)) ΦOk.nil)) mixed N Tryd.func7 (c := (bodyOf Tryd.f7)) (by kernel_rfl) impl_FormOk.sg (by kernel_rfl) (by kernel_rfl) (by kernel_rfl) (impl_FormOk.run N)

@[reducible] def impl_number.sg : Sg := { ms := [{ k := (.int .i64) }], keep := [false], rs := [{ k := (.st 30) }] }
noncomputable def impl_number.A : Ann := { dp := fun d => isIn [] d, lp := look [], jn := look [], pins := [], nt := 5 }
noncomputable def impl_number.phis (N : Nat) : List (Nat × Sm D) := []
theorem impl_number.run (N : Nat) (x : Int × Unit) : runF cx (look (impl_number.phis N)) impl_number.A N (bodyOf Tryd.f31) Tryd.f31.results.toList impl_number.sg x = impl_number N x.1 := by
  have h : runF cx (look (impl_number.phis N)) impl_number.A N (bodyOf Tryd.f31) Tryd.f31.results.toList impl_number.sg x = impl_number.B N x.1 := by kernel_rfl
  rw [h]
  try rfl
noncomputable def impl_number.sm (N : Nat) : Sm D := (⟨impl_number.sg, fun (x : Int × Unit) => impl_number N x.1⟩ : Sm D)
theorem impl_number.sound (N : Nat) : Sound cx Tryd.prog gam 31 (impl_number.sm N) := fn_sound (A := impl_number.A) (Φ := (look (impl_number.phis N))) pok (G := gam) ΦOk.nil mixed N Tryd.func31 (c := (bodyOf Tryd.f31)) (by kernel_rfl) impl_number.sg (by kernel_rfl) (by kernel_rfl) (by kernel_rfl) (impl_number.run N)

end
end Go.Ev
