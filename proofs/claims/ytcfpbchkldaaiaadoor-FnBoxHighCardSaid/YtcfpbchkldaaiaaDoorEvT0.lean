/- Each function that the law reaches does what its plain form says; no condition beyond the table of the library. -/
import Derived.Test.YtcfpbchkldaaiaaDoorEvF
set_option linter.all false
set_option linter.unusedVariables false
set_option linter.unusedSimpArgs false
set_option maxRecDepth 100000
set_option maxHeartbeats 0
namespace Go.Ev
noncomputable section
open Go.Proofs
@[reducible] def spec_newSource.sg : Sg := { ms := [{ k := (.sl (.int .u8)), fl := [none] }], keep := [false], rs := [{ ptr := true, id := 410, t := 47, k := (.st 46) }], hold := true }
noncomputable def spec_newSource.A : Ann := { dp := fun d => isIn [] d, lp := look [], jn := look [], pins := [], nt := 6 }
noncomputable def spec_newSource.phis (N : Nat) : List (Nat × Sm D) := []
theorem spec_newSource.run (N : Nat) (x : (List (Int)) × Unit) : runF cx (look (spec_newSource.phis N)) spec_newSource.A N (bodyOf Tryd.f8) Tryd.f8.results.toList spec_newSource.sg x = spec_newSource N x.1 := by
  have h : runF cx (look (spec_newSource.phis N)) spec_newSource.A N (bodyOf Tryd.f8) Tryd.f8.results.toList spec_newSource.sg x = spec_newSource.B N x.1 := by kernel_rfl
  rw [h]
  try rfl
noncomputable def spec_newSource.sm (N : Nat) : Sm D := (⟨spec_newSource.sg, fun (x : (List (Int)) × Unit) => spec_newSource N x.1⟩ : Sm D)
theorem spec_newSource.sound (N : Nat) : Sound cx Tryd.prog gam 8 (spec_newSource.sm N) := fn_sound (A := spec_newSource.A) (Φ := (look (spec_newSource.phis N))) pok (G := gam) ΦOk.nil mixed N Tryd.func8 (c := (bodyOf Tryd.f8)) (by kernel_rfl) spec_newSource.sg (by kernel_rfl) (by kernel_rfl) (by kernel_rfl) (spec_newSource.run N)

@[reducible] def spec_source_pick.sg : Sg := { ms := [{ ptr := true, id := 10, t := 47, k := (.st 46) }, { k := (.int .i64) }], keep := [true, false], rs := [{ k := (.int .i64) }], hold := true }
noncomputable def spec_source_pick.A : Ann := { dp := fun d => isIn [] d, lp := look [], jn := look [], pins := [10], nt := 101 }
noncomputable def spec_source_pick.phis (N : Nat) : List (Nat × Sm D) := []
theorem spec_source_pick.run (N : Nat) (x : SpecSource × Int × Unit) : runF cx (look (spec_source_pick.phis N)) spec_source_pick.A N (bodyOf Tryd.f12) Tryd.f12.results.toList spec_source_pick.sg x = spec_source_pick N x.1 x.2.1 := by
  have h : runF cx (look (spec_source_pick.phis N)) spec_source_pick.A N (bodyOf Tryd.f12) Tryd.f12.results.toList spec_source_pick.sg x = spec_source_pick.B N x.1 x.2.1 := by kernel_rfl
  rw [h]
  try rfl
noncomputable def spec_source_pick.sm (N : Nat) : Sm D := (⟨spec_source_pick.sg, fun (x : SpecSource × Int × Unit) => spec_source_pick N x.1 x.2.1⟩ : Sm D)
theorem spec_source_pick.sound (N : Nat) : Sound cx Tryd.prog gam 12 (spec_source_pick.sm N) := fn_sound (A := spec_source_pick.A) (Φ := (look (spec_source_pick.phis N))) pok (G := gam) ΦOk.nil mixed N Tryd.func12 (c := (bodyOf Tryd.f12)) (by kernel_rfl) spec_source_pick.sg (by kernel_rfl) (by kernel_rfl) (by kernel_rfl) (spec_source_pick.run N)

@[reducible] def spec_source_one.sg : Sg := { ms := [{ ptr := true, id := 10, t := 47, k := (.st 46) }, { k := (.sl (.int .i64)), fl := [none] }], keep := [true, false], rs := [{ k := (.int .i64) }], hold := true }
noncomputable def spec_source_one.A : Ann := { dp := fun d => isIn [] d, lp := look [], jn := look [], pins := [10], nt := 12 }
noncomputable def spec_source_one.phis (N : Nat) : List (Nat × Sm D) := [(12, spec_source_pick.sm N)]
theorem spec_source_one.run (N : Nat) (x : SpecSource × (List (Int)) × Unit) : runF cx (look (spec_source_one.phis N)) spec_source_one.A N (bodyOf Tryd.f11) Tryd.f11.results.toList spec_source_one.sg x = spec_source_one N x.1 x.2.1 := by
  have h : runF cx (look (spec_source_one.phis N)) spec_source_one.A N (bodyOf Tryd.f11) Tryd.f11.results.toList spec_source_one.sg x = spec_source_one.B N x.1 x.2.1 := by kernel_rfl
  rw [h]
  try rfl
noncomputable def spec_source_one.sm (N : Nat) : Sm D := (⟨spec_source_one.sg, fun (x : SpecSource × (List (Int)) × Unit) => spec_source_one N x.1 x.2.1⟩ : Sm D)
theorem spec_source_one.sound (N : Nat) : Sound cx Tryd.prog gam 11 (spec_source_one.sm N) := fn_sound (A := spec_source_one.A) (Φ := (look (spec_source_one.phis N))) pok (G := gam) (ΦOk.cons (spec_source_pick.sound N) (fnOk_of (f := 12) (by kernel_rfl)) ΦOk.nil) mixed N Tryd.func11 (c := (bodyOf Tryd.f11)) (by kernel_rfl) spec_source_one.sg (by kernel_rfl) (by kernel_rfl) (by kernel_rfl) (spec_source_one.run N)

@[reducible] def spec_source_rarely.sg : Sg := { ms := [{ ptr := true, id := 10, t := 47, k := (.st 46) }], keep := [true], rs := [{ k := .bool }], hold := true }
noncomputable def spec_source_rarely.A : Ann := { dp := fun d => isIn [] d, lp := look [], jn := look [], pins := [10], nt := 6 }
noncomputable def spec_source_rarely.phis (N : Nat) : List (Nat × Sm D) := [(12, spec_source_pick.sm N)]
theorem spec_source_rarely.run (N : Nat) (x : SpecSource × Unit) : runF cx (look (spec_source_rarely.phis N)) spec_source_rarely.A N (bodyOf Tryd.f20) Tryd.f20.results.toList spec_source_rarely.sg x = spec_source_rarely N x.1 := by
  have h : runF cx (look (spec_source_rarely.phis N)) spec_source_rarely.A N (bodyOf Tryd.f20) Tryd.f20.results.toList spec_source_rarely.sg x = spec_source_rarely.B N x.1 := by kernel_rfl
  rw [h]
  try rfl
noncomputable def spec_source_rarely.sm (N : Nat) : Sm D := (⟨spec_source_rarely.sg, fun (x : SpecSource × Unit) => spec_source_rarely N x.1⟩ : Sm D)
theorem spec_source_rarely.sound (N : Nat) : Sound cx Tryd.prog gam 20 (spec_source_rarely.sm N) := fn_sound (A := spec_source_rarely.A) (Φ := (look (spec_source_rarely.phis N))) pok (G := gam) (ΦOk.cons (spec_source_pick.sound N) (fnOk_of (f := 12) (by kernel_rfl)) ΦOk.nil) mixed N Tryd.func20 (c := (bodyOf Tryd.f20)) (by kernel_rfl) spec_source_rarely.sg (by kernel_rfl) (by kernel_rfl) (by kernel_rfl) (spec_source_rarely.run N)

@[reducible] def spec_source_text.sg : Sg := { ms := [{ ptr := true, id := 10, t := 47, k := (.st 46) }], keep := [true], rs := [{ k := .str }], hold := true }
@[reducible] def spec_source_text.lvL0 : Lv := { id := 0, slots := [0, 3, 4], ms := [{ ptr := true, id := 10, t := 47, k := (.st 46), fl := [none, none, none] }, { k := .str }, { k := (.int .i64) }] }
noncomputable def spec_source_text.A : Ann := { dp := fun d => isIn [] d, lp := look [(0, spec_source_text.lvL0)], jn := look [], pins := [10], nt := 23 }
noncomputable def spec_source_text.phis (N : Nat) : List (Nat × Sm D) := [(12, spec_source_pick.sm N), (20, spec_source_rarely.sm N)]
noncomputable def spec_source_text.a0 (N : Nat) (n : Nat) (y : SpecSource × (List UInt8) × Int × Unit) : Option (SpecSource × (List UInt8) × Unit) := loopAt cx (look (spec_source_text.phis N)) spec_source_text.A N n (encL cx spec_source_text.lvL0.ms y).1 (encL cx spec_source_text.lvL0.ms y).2 (bodyOf Tryd.f43) 0 (Kfin cx spec_source_text.A spec_source_text.sg Tryd.f43.results.toList) [1, 1, 0, 1, 1] []
theorem spec_source_text.r0 (N : Nat) : ∀ (n : Nat) (y : SpecSource × (List UInt8) × Int × Unit), spec_source_text.a0 N n y = spec_source_text.L0 N n y
  | 0, y => by kernel_rfl
  | n + 1, y => by
    have h : spec_source_text.a0 N (n + 1) y = spec_source_text.B0 N (fun z => spec_source_text.a0 N n z) y := by kernel_rfl
    have e : (fun z => spec_source_text.a0 N n z) = spec_source_text.L0 N n := funext fun z => spec_source_text.r0 N n z
    rw [h]
    try rw [e]
    first | done | rfl
theorem spec_source_text.run (N : Nat) (x : SpecSource × Unit) : runF cx (look (spec_source_text.phis N)) spec_source_text.A N (bodyOf Tryd.f43) Tryd.f43.results.toList spec_source_text.sg x = spec_source_text N x.1 := by
  have h : runF cx (look (spec_source_text.phis N)) spec_source_text.A N (bodyOf Tryd.f43) Tryd.f43.results.toList spec_source_text.sg x = spec_source_text.B N (fun z => spec_source_text.a0 N N z) x.1 := by kernel_rfl
  have e0 : (fun z => spec_source_text.a0 N N z) = spec_source_text.L0 N N := funext fun z => spec_source_text.r0 N N z
  rw [h, e0]
  try rfl
noncomputable def spec_source_text.sm (N : Nat) : Sm D := (⟨spec_source_text.sg, fun (x : SpecSource × Unit) => spec_source_text N x.1⟩ : Sm D)
theorem spec_source_text.sound (N : Nat) : Sound cx Tryd.prog gam 43 (spec_source_text.sm N) := fn_sound (A := spec_source_text.A) (Φ := (look (spec_source_text.phis N))) pok (G := gam) (ΦOk.cons (spec_source_pick.sound N) (fnOk_of (f := 12) (by kernel_rfl)) (ΦOk.cons (spec_source_rarely.sound N) (fnOk_of (f := 20) (by kernel_rfl)) ΦOk.nil)) mixed N Tryd.func43 (c := (bodyOf Tryd.f43)) (by kernel_rfl) spec_source_text.sg (by kernel_rfl) (by kernel_rfl) (by kernel_rfl) (spec_source_text.run N)

@[reducible] def spec_source_value.sg : Sg := { ms := [{ ptr := true, id := 10, t := 47, k := (.st 46) }], keep := [true], rs := [{ k := (.st 49) }], hold := true }
noncomputable def spec_source_value.A : Ann := { dp := fun d => isIn [] d, lp := look [], jn := look [], pins := [10], nt := 23 }
noncomputable def spec_source_value.phis (N : Nat) : List (Nat × Sm D) := [(12, spec_source_pick.sm N), (43, spec_source_text.sm N), (11, spec_source_one.sm N)]
theorem spec_source_value.run (N : Nat) (x : SpecSource × Unit) : runF cx (look (spec_source_value.phis N)) spec_source_value.A N (bodyOf Tryd.f30) Tryd.f30.results.toList spec_source_value.sg x = spec_source_value N x.1 := by
  have h : runF cx (look (spec_source_value.phis N)) spec_source_value.A N (bodyOf Tryd.f30) Tryd.f30.results.toList spec_source_value.sg x = spec_source_value.B N x.1 := by kernel_rfl
  rw [h]
  try rfl
noncomputable def spec_source_value.sm (N : Nat) : Sm D := (⟨spec_source_value.sg, fun (x : SpecSource × Unit) => spec_source_value N x.1⟩ : Sm D)
theorem spec_source_value.sound (N : Nat) : Sound cx Tryd.prog gam 30 (spec_source_value.sm N) := fn_sound (A := spec_source_value.A) (Φ := (look (spec_source_value.phis N))) pok (G := gam) (ΦOk.cons (spec_source_pick.sound N) (fnOk_of (f := 12) (by kernel_rfl)) (ΦOk.cons (spec_source_text.sound N) (fnOk_of (f := 43) (by kernel_rfl)) (ΦOk.cons (spec_source_one.sound N) (fnOk_of (f := 11) (by kernel_rfl)) ΦOk.nil))) mixed N Tryd.func30 (c := (bodyOf Tryd.f30)) (by kernel_rfl) spec_source_value.sg (by kernel_rfl) (by kernel_rfl) (by kernel_rfl) (spec_source_value.run N)

@[reducible] def spec_inRange.sg : Sg := { ms := [{ k := (.int .i64) }, { k := (.int .i64) }, { k := (.int .i64) }], keep := [false, false, false], rs := [{ k := .bool }] }
noncomputable def spec_inRange.A : Ann := { dp := fun d => isIn [] d, lp := look [], jn := look [], pins := [], nt := 15 }
noncomputable def spec_inRange.phis (N : Nat) : List (Nat × Sm D) := []
theorem spec_inRange.run (N : Nat) (x : Int × Int × Int × Unit) : runF cx (look (spec_inRange.phis N)) spec_inRange.A N (bodyOf Tryd.f16) Tryd.f16.results.toList spec_inRange.sg x = spec_inRange N x.1 x.2.1 x.2.2.1 := by
  have h : runF cx (look (spec_inRange.phis N)) spec_inRange.A N (bodyOf Tryd.f16) Tryd.f16.results.toList spec_inRange.sg x = spec_inRange.B N x.1 x.2.1 x.2.2.1 := by kernel_rfl
  rw [h]
  try rfl
noncomputable def spec_inRange.sm (N : Nat) : Sm D := (⟨spec_inRange.sg, fun (x : Int × Int × Int × Unit) => spec_inRange N x.1 x.2.1 x.2.2.1⟩ : Sm D)
theorem spec_inRange.sound (N : Nat) : Sound cx Tryd.prog gam 16 (spec_inRange.sm N) := fn_sound (A := spec_inRange.A) (Φ := (look (spec_inRange.phis N))) pok (G := gam) ΦOk.nil mixed N Tryd.func16 (c := (bodyOf Tryd.f16)) (by kernel_rfl) spec_inRange.sg (by kernel_rfl) (by kernel_rfl) (by kernel_rfl) (spec_inRange.run N)

@[reducible] def spec_plainByte.sg : Sg := { ms := [{ k := (.int .u8) }], keep := [false], rs := [{ k := .bool }] }
noncomputable def spec_plainByte.A : Ann := { dp := fun d => isIn [] d, lp := look [], jn := look [], pins := [], nt := 21 }
noncomputable def spec_plainByte.phis (N : Nat) : List (Nat × Sm D) := []
theorem spec_plainByte.run (N : Nat) (x : Int × Unit) : runF cx (look (spec_plainByte.phis N)) spec_plainByte.A N (bodyOf Tryd.f54) Tryd.f54.results.toList spec_plainByte.sg x = spec_plainByte N x.1 := by
  have h : runF cx (look (spec_plainByte.phis N)) spec_plainByte.A N (bodyOf Tryd.f54) Tryd.f54.results.toList spec_plainByte.sg x = spec_plainByte.B N x.1 := by kernel_rfl
  rw [h]
  try rfl
noncomputable def spec_plainByte.sm (N : Nat) : Sm D := (⟨spec_plainByte.sg, fun (x : Int × Unit) => spec_plainByte N x.1⟩ : Sm D)
theorem spec_plainByte.sound (N : Nat) : Sound cx Tryd.prog gam 54 (spec_plainByte.sm N) := fn_sound (A := spec_plainByte.A) (Φ := (look (spec_plainByte.phis N))) pok (G := gam) ΦOk.nil mixed N Tryd.func54 (c := (bodyOf Tryd.f54)) (by kernel_rfl) spec_plainByte.sg (by kernel_rfl) (by kernel_rfl) (by kernel_rfl) (spec_plainByte.run N)

@[reducible] def spec_validWord.sg : Sg := { ms := [{ k := .str }], keep := [false], rs := [{ k := .bool }] }
@[reducible] def spec_validWord.lvL0 : Lv := { id := 0, slots := [0, 3], ms := [{ k := .str }, { k := (.int .i64) }] }
noncomputable def spec_validWord.A : Ann := { dp := fun d => isIn [] d, lp := look [(0, spec_validWord.lvL0)], jn := look [], pins := [], nt := 18 }
noncomputable def spec_validWord.phis (N : Nat) : List (Nat × Sm D) := [(54, spec_plainByte.sm N)]
noncomputable def spec_validWord.a0 (N : Nat) (n : Nat) (y : (List UInt8) × Int × Unit) : Option (Bool × Unit) := loopAt cx (look (spec_validWord.phis N)) spec_validWord.A N n (encL cx spec_validWord.lvL0.ms y).1 (encL cx spec_validWord.lvL0.ms y).2 (bodyOf Tryd.f44) 0 (Kfin cx spec_validWord.A spec_validWord.sg Tryd.f44.results.toList) [1, 1, 0, 1, 1] []
theorem spec_validWord.r0 (N : Nat) : ∀ (n : Nat) (y : (List UInt8) × Int × Unit), spec_validWord.a0 N n y = spec_validWord.L0 N n y
  | 0, y => by kernel_rfl
  | n + 1, y => by
    have h : spec_validWord.a0 N (n + 1) y = spec_validWord.B0 N (fun z => spec_validWord.a0 N n z) y := by kernel_rfl
    have e : (fun z => spec_validWord.a0 N n z) = spec_validWord.L0 N n := funext fun z => spec_validWord.r0 N n z
    rw [h]
    try rw [e]
    first | done | rfl
theorem spec_validWord.run (N : Nat) (x : (List UInt8) × Unit) : runF cx (look (spec_validWord.phis N)) spec_validWord.A N (bodyOf Tryd.f44) Tryd.f44.results.toList spec_validWord.sg x = spec_validWord N x.1 := by
  have h : runF cx (look (spec_validWord.phis N)) spec_validWord.A N (bodyOf Tryd.f44) Tryd.f44.results.toList spec_validWord.sg x = spec_validWord.B N (fun z => spec_validWord.a0 N N z) x.1 := by kernel_rfl
  have e0 : (fun z => spec_validWord.a0 N N z) = spec_validWord.L0 N N := funext fun z => spec_validWord.r0 N N z
  rw [h, e0]
  try rfl
noncomputable def spec_validWord.sm (N : Nat) : Sm D := (⟨spec_validWord.sg, fun (x : (List UInt8) × Unit) => spec_validWord N x.1⟩ : Sm D)
theorem spec_validWord.sound (N : Nat) : Sound cx Tryd.prog gam 44 (spec_validWord.sm N) := fn_sound (A := spec_validWord.A) (Φ := (look (spec_validWord.phis N))) pok (G := gam) (ΦOk.cons (spec_plainByte.sound N) (fnOk_of (f := 54) (by kernel_rfl)) ΦOk.nil) mixed N Tryd.func44 (c := (bodyOf Tryd.f44)) (by kernel_rfl) spec_validWord.sg (by kernel_rfl) (by kernel_rfl) (by kernel_rfl) (spec_validWord.run N)

@[reducible] def spec_validValue.sg : Sg := { ms := [{ k := (.st 49) }], keep := [false], rs := [{ k := .bool }] }
noncomputable def spec_validValue.A : Ann := { dp := fun d => isIn [] d, lp := look [], jn := look [], pins := [], nt := 35 }
noncomputable def spec_validValue.phis (N : Nat) : List (Nat × Sm D) := [(16, spec_inRange.sm N), (44, spec_validWord.sm N)]
theorem spec_validValue.run (N : Nat) (x : ImplValue × Unit) : runF cx (look (spec_validValue.phis N)) spec_validValue.A N (bodyOf Tryd.f31) Tryd.f31.results.toList spec_validValue.sg x = spec_validValue N x.1 := by
  have h : runF cx (look (spec_validValue.phis N)) spec_validValue.A N (bodyOf Tryd.f31) Tryd.f31.results.toList spec_validValue.sg x = spec_validValue.B N x.1 := by kernel_rfl
  rw [h]
  try rfl
noncomputable def spec_validValue.sm (N : Nat) : Sm D := (⟨spec_validValue.sg, fun (x : ImplValue × Unit) => spec_validValue N x.1⟩ : Sm D)
theorem spec_validValue.sound (N : Nat) : Sound cx Tryd.prog gam 31 (spec_validValue.sm N) := fn_sound (A := spec_validValue.A) (Φ := (look (spec_validValue.phis N))) pok (G := gam) (ΦOk.cons (spec_inRange.sound N) (fnOk_of (f := 16) (by kernel_rfl)) (ΦOk.cons (spec_validWord.sound N) (fnOk_of (f := 44) (by kernel_rfl)) ΦOk.nil)) mixed N Tryd.func31 (c := (bodyOf Tryd.f31)) (by kernel_rfl) spec_validValue.sg (by kernel_rfl) (by kernel_rfl) (by kernel_rfl) (spec_validValue.run N)

@[reducible] def spec_source_good.sg : Sg := { ms := [{ ptr := true, id := 10, t := 47, k := (.st 46) }], keep := [true], rs := [{ k := (.st 49) }], hold := true }
noncomputable def spec_source_good.A : Ann := { dp := fun d => isIn [] d, lp := look [], jn := look [], pins := [10], nt := 11 }
noncomputable def spec_source_good.phis (N : Nat) : List (Nat × Sm D) := [(30, spec_source_value.sm N), (31, spec_validValue.sm N)]
theorem spec_source_good.run (N : Nat) (x : SpecSource × Unit) : runF cx (look (spec_source_good.phis N)) spec_source_good.A N (bodyOf Tryd.f19) Tryd.f19.results.toList spec_source_good.sg x = spec_source_good N x.1 := by
  have h : runF cx (look (spec_source_good.phis N)) spec_source_good.A N (bodyOf Tryd.f19) Tryd.f19.results.toList spec_source_good.sg x = spec_source_good.B N x.1 := by kernel_rfl
  rw [h]
  try rfl
noncomputable def spec_source_good.sm (N : Nat) : Sm D := (⟨spec_source_good.sg, fun (x : SpecSource × Unit) => spec_source_good N x.1⟩ : Sm D)
theorem spec_source_good.sound (N : Nat) : Sound cx Tryd.prog gam 19 (spec_source_good.sm N) := fn_sound (A := spec_source_good.A) (Φ := (look (spec_source_good.phis N))) pok (G := gam) (ΦOk.cons (spec_source_value.sound N) (fnOk_of (f := 30) (by kernel_rfl)) (ΦOk.cons (spec_validValue.sound N) (fnOk_of (f := 31) (by kernel_rfl)) ΦOk.nil)) mixed N Tryd.func19 (c := (bodyOf Tryd.f19)) (by kernel_rfl) spec_source_good.sg (by kernel_rfl) (by kernel_rfl) (by kernel_rfl) (spec_source_good.run N)

@[reducible] def spec_keyless.sg : Sg := { ms := [{ k := (.sl (.st 25)), fl := [some (false, 11)] }], keep := [false], rs := [{ k := (.sl (.st 25)), fl := [some (false, 411)] }], hold := true }
@[reducible] def spec_keyless.lvL2 : Lv := { id := 2, slots := [0, 3, 4], ms := [{ k := (.sl (.st 25)), fl := [some (false, 600)] }, { k := (.int .i64) }, { k := (.int .i64) }] }
@[reducible] def spec_keyless.lvL0 : Lv := { id := 0, slots := [0, 3], ms := [{ k := (.sl (.st 25)), fl := [some (false, 600)] }, { k := (.int .i64) }] }
noncomputable def spec_keyless.A : Ann := { dp := fun d => isIn [] d, lp := look [(2, spec_keyless.lvL2), (0, spec_keyless.lvL0)], jn := look [], pins := [], nt := 40 }
noncomputable def spec_keyless.phis (N : Nat) : List (Nat × Sm D) := []
noncomputable def spec_keyless.a2 (N : Nat) (m0 : Nat) (n : Nat) (y : (List (ImplTree)) × Int × Int × Unit) : Option ((List (ImplTree)) × Unit) := loopAt cx (look (spec_keyless.phis N)) spec_keyless.A N n (encL cx spec_keyless.lvL2.ms y).1 (encL cx spec_keyless.lvL2.ms y).2 (bodyOf Tryd.f29) 0 (Kfin cx spec_keyless.A spec_keyless.sg Tryd.f29.results.toList) [1, 0, 1, 1, 1, 1, 0, 1, 1, 1] [m0]
noncomputable def spec_keyless.a0 (N : Nat) (n : Nat) (y : (List (ImplTree)) × Int × Unit) : Option ((List (ImplTree)) × Unit) := loopAt cx (look (spec_keyless.phis N)) spec_keyless.A N n (encL cx spec_keyless.lvL0.ms y).1 (encL cx spec_keyless.lvL0.ms y).2 (bodyOf Tryd.f29) 0 (Kfin cx spec_keyless.A spec_keyless.sg Tryd.f29.results.toList) [1, 0, 1, 1] []
theorem spec_keyless.r2 (N : Nat) (m0 : Nat) : ∀ (n : Nat) (y : (List (ImplTree)) × Int × Int × Unit), spec_keyless.a2 N m0 n y = spec_keyless.L2 N (fun z => spec_keyless.a0 N m0 z) n y
  | 0, y => by kernel_rfl
  | n + 1, y => by
    have h : spec_keyless.a2 N m0 (n + 1) y = spec_keyless.B2 N (fun z => spec_keyless.a0 N m0 z) (fun z => spec_keyless.a2 N m0 n z) y := by kernel_rfl
    have e : (fun z => spec_keyless.a2 N m0 n z) = spec_keyless.L2 N (fun z => spec_keyless.a0 N m0 z) n := funext fun z => spec_keyless.r2 N m0 n z
    rw [h]
    try rw [e]
    first | done | rfl
theorem spec_keyless.r0 (N : Nat) : ∀ (n : Nat) (y : (List (ImplTree)) × Int × Unit), spec_keyless.a0 N n y = spec_keyless.L0 N n y
  | 0, y => by kernel_rfl
  | n + 1, y => by
    have h : spec_keyless.a0 N (n + 1) y = spec_keyless.B0 N (fun z => spec_keyless.a2 N n N z) y := by kernel_rfl
    have e : (fun z => spec_keyless.a0 N n z) = spec_keyless.L0 N n := funext fun z => spec_keyless.r0 N n z
    have e2 : (fun z => spec_keyless.a2 N n N z) = spec_keyless.L2 N (fun z => spec_keyless.a0 N n z) N := funext fun z => spec_keyless.r2 N n N z
    rw [h, e2]
    try rw [e]
    first | done | rfl
theorem spec_keyless.run (N : Nat) (x : (List (ImplTree)) × Unit) : runF cx (look (spec_keyless.phis N)) spec_keyless.A N (bodyOf Tryd.f29) Tryd.f29.results.toList spec_keyless.sg x = spec_keyless N x.1 := by
  have h : runF cx (look (spec_keyless.phis N)) spec_keyless.A N (bodyOf Tryd.f29) Tryd.f29.results.toList spec_keyless.sg x = spec_keyless.B N (fun z => spec_keyless.a0 N N z) x.1 := by kernel_rfl
  have e0 : (fun z => spec_keyless.a0 N N z) = spec_keyless.L0 N N := funext fun z => spec_keyless.r0 N N z
  rw [h, e0]
  try rfl
noncomputable def spec_keyless.sm (N : Nat) : Sm D := (⟨spec_keyless.sg, fun (x : (List (ImplTree)) × Unit) => spec_keyless N x.1⟩ : Sm D)
theorem spec_keyless.sound (N : Nat) : Sound cx Tryd.prog gam 29 (spec_keyless.sm N) := fn_sound (A := spec_keyless.A) (Φ := (look (spec_keyless.phis N))) pok (G := gam) ΦOk.nil mixed N Tryd.func29 (c := (bodyOf Tryd.f29)) (by kernel_rfl) spec_keyless.sg (by kernel_rfl) (by kernel_rfl) (by kernel_rfl) (spec_keyless.run N)

@[reducible] def spec_source_tree.sg : Sg := { ms := [{ ptr := true, id := 10, t := 47, k := (.st 46) }, { k := (.int .i64) }], keep := [true, false], rs := [{ k := (.st 25) }], hold := true }
@[reducible] def spec_source_tree.lvL4 : Lv := { id := 4, slots := [0, 4, 5, 8], ms := [{ ptr := true, id := 10, t := 47, k := (.st 46), fl := [none, none, none] }, { ptr := true, id := 620, t := 26, k := (.st 25), fl := [none, none, none, some (false, 624), some (false, 625)] }, { ptr := true, id := 640, t := 26, k := (.st 25), fl := [none, none, none, some (false, 644), some (false, 645)] }, { k := (.int .i64) }] }
@[reducible] def spec_source_tree.lvL2 : Lv := { id := 2, slots := [0, 1, 4, 5, 7], ms := [{ ptr := true, id := 10, t := 47, k := (.st 46), fl := [none, none, none] }, { k := (.int .i64) }, { ptr := true, id := 640, t := 26, k := (.st 25), fl := [none, none, none, some (false, 644), some (false, 645)] }, { ptr := true, id := 660, t := 26, k := (.st 25), fl := [none, none, none, some (false, 664), some (false, 665)] }, { k := (.int .i64) }] }
@[reducible] def spec_source_tree.lvL0 : Lv := { id := 0, slots := [0, 1, 4, 5, 6], ms := [{ ptr := true, id := 10, t := 47, k := (.st 46), fl := [none, none, none] }, { k := (.int .i64) }, { ptr := true, id := 640, t := 26, k := (.st 25), fl := [none, none, none, some (false, 644), some (false, 645)] }, { ptr := true, id := 660, t := 26, k := (.st 25), fl := [none, none, none, some (false, 664), some (false, 665)] }, { k := (.int .i64) }] }
noncomputable def spec_source_tree.A : Ann := { dp := fun d => isIn [] d, lp := look [(4, spec_source_tree.lvL4), (2, spec_source_tree.lvL2), (0, spec_source_tree.lvL0)], jn := look [], pins := [10], nt := 89 }
noncomputable def spec_source_tree.phis (N : Nat) (d : Nat) : List (Nat × Sm D) := [(12, spec_source_pick.sm N), (11, spec_source_one.sm N), (19, spec_source_good.sm N), (18, (⟨spec_source_tree.sg, fun (x : SpecSource × Int × Unit) => spec_source_tree.R N d x.1 x.2.1⟩ : Sm D)), (29, spec_keyless.sm N), (20, spec_source_rarely.sm N)]
noncomputable def spec_source_tree.a4 (N : Nat) (d : Nat) (n : Nat) (y : SpecSource × ImplTree × ImplTree × Int × Unit) : Option (SpecSource × ImplTree × Unit) := loopAt cx (look (spec_source_tree.phis N d)) spec_source_tree.A N n (encL cx spec_source_tree.lvL4.ms y).1 (encL cx spec_source_tree.lvL4.ms y).2 (bodyOf Tryd.f18) 0 (Kfin cx spec_source_tree.A spec_source_tree.sg Tryd.f18.results.toList) [1, 1, 1, 1, 1, 1, 0, 1, 1] []
noncomputable def spec_source_tree.a2 (N : Nat) (d : Nat) (n : Nat) (y : SpecSource × Int × ImplTree × ImplTree × Int × Unit) : Option (SpecSource × ImplTree × Unit) := loopAt cx (look (spec_source_tree.phis N d)) spec_source_tree.A N n (encL cx spec_source_tree.lvL2.ms y).1 (encL cx spec_source_tree.lvL2.ms y).2 (bodyOf Tryd.f18) 0 (Kfin cx spec_source_tree.A spec_source_tree.sg Tryd.f18.results.toList) [1, 1, 1, 1, 0, 1, 1] []
noncomputable def spec_source_tree.a0 (N : Nat) (d : Nat) (n : Nat) (y : SpecSource × Int × ImplTree × ImplTree × Int × Unit) : Option (SpecSource × ImplTree × Unit) := loopAt cx (look (spec_source_tree.phis N d)) spec_source_tree.A N n (encL cx spec_source_tree.lvL0.ms y).1 (encL cx spec_source_tree.lvL0.ms y).2 (bodyOf Tryd.f18) 0 (Kfin cx spec_source_tree.A spec_source_tree.sg Tryd.f18.results.toList) [1, 1, 1, 0, 1, 1] []
theorem spec_source_tree.r4 (N : Nat) (d : Nat) : ∀ (n : Nat) (y : SpecSource × ImplTree × ImplTree × Int × Unit), spec_source_tree.a4 N d n y = spec_source_tree.L4 N (spec_source_tree.R N d) n y
  | 0, y => by kernel_rfl
  | n + 1, y => by
    have h : spec_source_tree.a4 N d (n + 1) y = spec_source_tree.B4 N (spec_source_tree.R N d) (fun z => spec_source_tree.a4 N d n z) y := by kernel_rfl
    have e : (fun z => spec_source_tree.a4 N d n z) = spec_source_tree.L4 N (spec_source_tree.R N d) n := funext fun z => spec_source_tree.r4 N d n z
    rw [h]
    try rw [e]
    first | done | rfl
theorem spec_source_tree.r2 (N : Nat) (d : Nat) : ∀ (n : Nat) (y : SpecSource × Int × ImplTree × ImplTree × Int × Unit), spec_source_tree.a2 N d n y = spec_source_tree.L2 N (spec_source_tree.R N d) n y
  | 0, y => by kernel_rfl
  | n + 1, y => by
    have h : spec_source_tree.a2 N d (n + 1) y = spec_source_tree.B2 N (spec_source_tree.R N d) (fun z => spec_source_tree.a2 N d n z) (fun z => spec_source_tree.a4 N d N z) y := by kernel_rfl
    have e : (fun z => spec_source_tree.a2 N d n z) = spec_source_tree.L2 N (spec_source_tree.R N d) n := funext fun z => spec_source_tree.r2 N d n z
    have e4 : (fun z => spec_source_tree.a4 N d N z) = spec_source_tree.L4 N (spec_source_tree.R N d) N := funext fun z => spec_source_tree.r4 N d N z
    rw [h, e4]
    try rw [e]
    first | done | rfl
theorem spec_source_tree.r0 (N : Nat) (d : Nat) : ∀ (n : Nat) (y : SpecSource × Int × ImplTree × ImplTree × Int × Unit), spec_source_tree.a0 N d n y = spec_source_tree.L0 N (spec_source_tree.R N d) n y
  | 0, y => by kernel_rfl
  | n + 1, y => by
    have h : spec_source_tree.a0 N d (n + 1) y = spec_source_tree.B0 N (spec_source_tree.R N d) (fun z => spec_source_tree.a0 N d n z) (fun z => spec_source_tree.a2 N d N z) y := by kernel_rfl
    have e : (fun z => spec_source_tree.a0 N d n z) = spec_source_tree.L0 N (spec_source_tree.R N d) n := funext fun z => spec_source_tree.r0 N d n z
    have e2 : (fun z => spec_source_tree.a2 N d N z) = spec_source_tree.L2 N (spec_source_tree.R N d) N := funext fun z => spec_source_tree.r2 N d N z
    rw [h, e2]
    try rw [e]
    first | done | rfl
theorem spec_source_tree.run (N : Nat) (d : Nat) (x : SpecSource × Int × Unit) : runF cx (look (spec_source_tree.phis N d)) spec_source_tree.A N (bodyOf Tryd.f18) Tryd.f18.results.toList spec_source_tree.sg x = spec_source_tree.R N (d + 1) x.1 x.2.1 := by
  have h : runF cx (look (spec_source_tree.phis N d)) spec_source_tree.A N (bodyOf Tryd.f18) Tryd.f18.results.toList spec_source_tree.sg x = spec_source_tree.B N (spec_source_tree.R N d) (fun z => spec_source_tree.a0 N d N z) x.1 x.2.1 := by kernel_rfl
  have e0 : (fun z => spec_source_tree.a0 N d N z) = spec_source_tree.L0 N (spec_source_tree.R N d) N := funext fun z => spec_source_tree.r0 N d N z
  rw [h, e0]
  try rfl
theorem spec_source_tree.step (N : Nat) (d : Nat) (h_spec_source_tree : Sound cx Tryd.prog gam 18 (⟨spec_source_tree.sg, fun (x : SpecSource × Int × Unit) => spec_source_tree.R N d x.1 x.2.1⟩ : Sm D)) : Sound cx Tryd.prog gam 18 (⟨spec_source_tree.sg, fun (x : SpecSource × Int × Unit) => spec_source_tree.R N (d + 1) x.1 x.2.1⟩ : Sm D) := fn_sound (A := spec_source_tree.A) (Φ := (look (spec_source_tree.phis N d))) pok (G := gam) (ΦOk.cons (spec_source_pick.sound N) (fnOk_of (f := 12) (by kernel_rfl)) (ΦOk.cons (spec_source_one.sound N) (fnOk_of (f := 11) (by kernel_rfl)) (ΦOk.cons (spec_source_good.sound N) (fnOk_of (f := 19) (by kernel_rfl)) (ΦOk.cons h_spec_source_tree (fnOk_of (f := 18) (by kernel_rfl)) (ΦOk.cons (spec_keyless.sound N) (fnOk_of (f := 29) (by kernel_rfl)) (ΦOk.cons (spec_source_rarely.sound N) (fnOk_of (f := 20) (by kernel_rfl)) ΦOk.nil)))))) mixed N Tryd.func18 (c := (bodyOf Tryd.f18)) (by kernel_rfl) spec_source_tree.sg (by kernel_rfl) (by kernel_rfl) (by kernel_rfl) (spec_source_tree.run N d)

theorem spec_source_tree.scc (N : Nat) : ∀ d, Sound cx Tryd.prog gam 18 (⟨spec_source_tree.sg, fun (x : SpecSource × Int × Unit) => spec_source_tree.R N d x.1 x.2.1⟩ : Sm D)
  | 0 => none_sound 18 spec_source_tree.sg
  | d + 1 => by
    have ih := spec_source_tree.scc N d
    exact spec_source_tree.step N d ih
noncomputable def spec_source_tree.sm (N : Nat) : Sm D := (⟨spec_source_tree.sg, fun (x : SpecSource × Int × Unit) => spec_source_tree.R N N x.1 x.2.1⟩ : Sm D)
theorem spec_source_tree.sound (N : Nat) : Sound cx Tryd.prog gam 18 (spec_source_tree.sm N) := (spec_source_tree.scc N N)
@[reducible] def spec_source_whole.sg : Sg := { ms := [{ ptr := true, id := 10, t := 47, k := (.st 46) }], keep := [true], rs := [{ k := (.st 25) }], hold := true }
noncomputable def spec_source_whole.A : Ann := { dp := fun d => isIn [] d, lp := look [], jn := look [], pins := [10], nt := 20 }
noncomputable def spec_source_whole.phis (N : Nat) : List (Nat × Sm D) := [(18, spec_source_tree.sm N), (12, spec_source_pick.sm N)]
theorem spec_source_whole.run (N : Nat) (x : SpecSource × Unit) : runF cx (look (spec_source_whole.phis N)) spec_source_whole.A N (bodyOf Tryd.f9) Tryd.f9.results.toList spec_source_whole.sg x = spec_source_whole N x.1 := by
  have h : runF cx (look (spec_source_whole.phis N)) spec_source_whole.A N (bodyOf Tryd.f9) Tryd.f9.results.toList spec_source_whole.sg x = spec_source_whole.B N x.1 := by kernel_rfl
  rw [h]
  try rfl
noncomputable def spec_source_whole.sm (N : Nat) : Sm D := (⟨spec_source_whole.sg, fun (x : SpecSource × Unit) => spec_source_whole N x.1⟩ : Sm D)
theorem spec_source_whole.sound (N : Nat) : Sound cx Tryd.prog gam 9 (spec_source_whole.sm N) := fn_sound (A := spec_source_whole.A) (Φ := (look (spec_source_whole.phis N))) pok (G := gam) (ΦOk.cons (spec_source_tree.sound N) (fnOk_of (f := 18) (by kernel_rfl)) (ΦOk.cons (spec_source_pick.sound N) (fnOk_of (f := 12) (by kernel_rfl)) ΦOk.nil)) mixed N Tryd.func9 (c := (bodyOf Tryd.f9)) (by kernel_rfl) spec_source_whole.sg (by kernel_rfl) (by kernel_rfl) (by kernel_rfl) (spec_source_whole.run N)

@[reducible] def spec_source_rules.sg : Sg := { ms := [{ ptr := true, id := 10, t := 47, k := (.st 46) }], keep := [true], rs := [{ k := (.sl (.st 51)), fl := [none] }], hold := true }
@[reducible] def spec_source_rules.lvJ12 : Lv := { id := 12, slots := [0, 3, 4, 5], ms := [{ ptr := true, id := 10, t := 47, k := (.st 46), fl := [none, none, none] }, { k := (.sl (.st 51)), fl := [some (false, 620)] }, { k := (.int .i64) }, { ptr := true, id := 660, t := 52, k := (.st 51), fl := [none, none, none, none, none, none, none, none] }] }
@[reducible] def spec_source_rules.lvJ9 : Lv := { id := 9, slots := [0, 3, 4, 5], ms := [{ ptr := true, id := 10, t := 47, k := (.st 46), fl := [none, none, none] }, { k := (.sl (.st 51)), fl := [some (false, 620)] }, { k := (.int .i64) }, { ptr := true, id := 660, t := 52, k := (.st 51), fl := [none, none, none, none, none, none, none, none] }] }
@[reducible] def spec_source_rules.lvL0 : Lv := { id := 0, slots := [0, 3, 4], ms := [{ ptr := true, id := 10, t := 47, k := (.st 46), fl := [none, none, none] }, { k := (.sl (.st 51)), fl := [some (false, 620)] }, { k := (.int .i64) }] }
noncomputable def spec_source_rules.A : Ann := { dp := fun d => isIn [] d, lp := look [(0, spec_source_rules.lvL0)], jn := look [(12, spec_source_rules.lvJ12), (9, spec_source_rules.lvJ9)], pins := [10], nt := 64 }
noncomputable def spec_source_rules.phis (N : Nat) : List (Nat × Sm D) := [(12, spec_source_pick.sm N), (11, spec_source_one.sm N), (19, spec_source_good.sm N), (20, spec_source_rarely.sm N)]
noncomputable def spec_source_rules.a0 (N : Nat) (n : Nat) (y : SpecSource × (List (ImplRule)) × Int × Unit) : Option (SpecSource × (List (ImplRule)) × Unit) := loopAt cx (look (spec_source_rules.phis N)) spec_source_rules.A N n (encL cx spec_source_rules.lvL0.ms y).1 (encL cx spec_source_rules.lvL0.ms y).2 (bodyOf Tryd.f10) 0 (Kfin cx spec_source_rules.A spec_source_rules.sg Tryd.f10.results.toList) [1, 1, 0, 1, 1] []
theorem spec_source_rules.r0 (N : Nat) : ∀ (n : Nat) (y : SpecSource × (List (ImplRule)) × Int × Unit), spec_source_rules.a0 N n y = spec_source_rules.L0 N n y
  | 0, y => by kernel_rfl
  | n + 1, y => by
    have h : spec_source_rules.a0 N (n + 1) y = spec_source_rules.B0 N (fun z => spec_source_rules.a0 N n z) y := by kernel_rfl
    have e : (fun z => spec_source_rules.a0 N n z) = spec_source_rules.L0 N n := funext fun z => spec_source_rules.r0 N n z
    rw [h]
    try rw [e]
    first | done | rfl
theorem spec_source_rules.run (N : Nat) (x : SpecSource × Unit) : runF cx (look (spec_source_rules.phis N)) spec_source_rules.A N (bodyOf Tryd.f10) Tryd.f10.results.toList spec_source_rules.sg x = spec_source_rules N x.1 := by
  have h : runF cx (look (spec_source_rules.phis N)) spec_source_rules.A N (bodyOf Tryd.f10) Tryd.f10.results.toList spec_source_rules.sg x = spec_source_rules.B N (fun z => spec_source_rules.a0 N N z) x.1 := by kernel_rfl
  have e0 : (fun z => spec_source_rules.a0 N N z) = spec_source_rules.L0 N N := funext fun z => spec_source_rules.r0 N N z
  rw [h, e0]
  try rfl
noncomputable def spec_source_rules.sm (N : Nat) : Sm D := (⟨spec_source_rules.sg, fun (x : SpecSource × Unit) => spec_source_rules N x.1⟩ : Sm D)
theorem spec_source_rules.sound (N : Nat) : Sound cx Tryd.prog gam 10 (spec_source_rules.sm N) := fn_sound (A := spec_source_rules.A) (Φ := (look (spec_source_rules.phis N))) pok (G := gam) (ΦOk.cons (spec_source_pick.sound N) (fnOk_of (f := 12) (by kernel_rfl)) (ΦOk.cons (spec_source_one.sound N) (fnOk_of (f := 11) (by kernel_rfl)) (ΦOk.cons (spec_source_good.sound N) (fnOk_of (f := 19) (by kernel_rfl)) (ΦOk.cons (spec_source_rarely.sound N) (fnOk_of (f := 20) (by kernel_rfl)) ΦOk.nil)))) mixed N Tryd.func10 (c := (bodyOf Tryd.f10)) (by kernel_rfl) spec_source_rules.sg (by kernel_rfl) (by kernel_rfl) (by kernel_rfl) (spec_source_rules.run N)

@[reducible] def spec_DrawBoxHigh.sg : Sg := { ms := [{ k := (.sl (.int .u8)), fl := [none] }], keep := [false], rs := [{ k := (.st 25) }, { k := (.sl (.st 51)), fl := [none] }, { k := (.int .i64) }], hold := true }
noncomputable def spec_DrawBoxHigh.A : Ann := { dp := fun d => isIn [] d, lp := look [], jn := look [], pins := [], nt := 17 }
noncomputable def spec_DrawBoxHigh.phis (N : Nat) : List (Nat × Sm D) := [(8, spec_newSource.sm N), (9, spec_source_whole.sm N), (10, spec_source_rules.sm N), (12, spec_source_pick.sm N), (11, spec_source_one.sm N)]
theorem spec_DrawBoxHigh.run (N : Nat) (x : (List (Int)) × Unit) : runF cx (look (spec_DrawBoxHigh.phis N)) spec_DrawBoxHigh.A N (bodyOf Tryd.f4) Tryd.f4.results.toList spec_DrawBoxHigh.sg x = spec_DrawBoxHigh N x.1 := by
  have h : runF cx (look (spec_DrawBoxHigh.phis N)) spec_DrawBoxHigh.A N (bodyOf Tryd.f4) Tryd.f4.results.toList spec_DrawBoxHigh.sg x = spec_DrawBoxHigh.B N x.1 := by kernel_rfl
  rw [h]
  try rfl
noncomputable def spec_DrawBoxHigh.sm (N : Nat) : Sm D := (⟨spec_DrawBoxHigh.sg, fun (x : (List (Int)) × Unit) => spec_DrawBoxHigh N x.1⟩ : Sm D)
theorem spec_DrawBoxHigh.sound (N : Nat) : Sound cx Tryd.prog gam 4 (spec_DrawBoxHigh.sm N) := fn_sound (A := spec_DrawBoxHigh.A) (Φ := (look (spec_DrawBoxHigh.phis N))) pok (G := gam) (ΦOk.cons (spec_newSource.sound N) (fnOk_of (f := 8) (by kernel_rfl)) (ΦOk.cons (spec_source_whole.sound N) (fnOk_of (f := 9) (by kernel_rfl)) (ΦOk.cons (spec_source_rules.sound N) (fnOk_of (f := 10) (by kernel_rfl)) (ΦOk.cons (spec_source_pick.sound N) (fnOk_of (f := 12) (by kernel_rfl)) (ΦOk.cons (spec_source_one.sound N) (fnOk_of (f := 11) (by kernel_rfl)) ΦOk.nil))))) mixed N Tryd.func4 (c := (bodyOf Tryd.f4)) (by kernel_rfl) spec_DrawBoxHigh.sg (by kernel_rfl) (by kernel_rfl) (by kernel_rfl) (spec_DrawBoxHigh.run N)

@[reducible] def impl_word.sg : Sg := { ms := [{ k := .str }], keep := [false], rs := [{ k := .bool }] }
@[reducible] def impl_word.lvL0 : Lv := { id := 0, slots := [0, 3], ms := [{ k := .str }, { k := (.int .i64) }] }
noncomputable def impl_word.A : Ann := { dp := fun d => isIn [] d, lp := look [(0, impl_word.lvL0)], jn := look [], pins := [], nt := 36 }
noncomputable def impl_word.phis (N : Nat) : List (Nat × Sm D) := []
noncomputable def impl_word.a0 (N : Nat) (n : Nat) (y : (List UInt8) × Int × Unit) : Option (Bool × Unit) := loopAt cx (look (impl_word.phis N)) impl_word.A N n (encL cx impl_word.lvL0.ms y).1 (encL cx impl_word.lvL0.ms y).2 (bodyOf Tryd.f46) 0 (Kfin cx impl_word.A impl_word.sg Tryd.f46.results.toList) [1, 0, 1, 1] []
theorem impl_word.r0 (N : Nat) : ∀ (n : Nat) (y : (List UInt8) × Int × Unit), impl_word.a0 N n y = impl_word.L0 N n y
  | 0, y => by kernel_rfl
  | n + 1, y => by
    have h : impl_word.a0 N (n + 1) y = impl_word.B0 N (fun z => impl_word.a0 N n z) y := by kernel_rfl
    have e : (fun z => impl_word.a0 N n z) = impl_word.L0 N n := funext fun z => impl_word.r0 N n z
    rw [h]
    try rw [e]
    first | done | rfl
theorem impl_word.run (N : Nat) (x : (List UInt8) × Unit) : runF cx (look (impl_word.phis N)) impl_word.A N (bodyOf Tryd.f46) Tryd.f46.results.toList impl_word.sg x = impl_word N x.1 := by
  have h : runF cx (look (impl_word.phis N)) impl_word.A N (bodyOf Tryd.f46) Tryd.f46.results.toList impl_word.sg x = impl_word.B N (fun z => impl_word.a0 N N z) x.1 := by kernel_rfl
  have e0 : (fun z => impl_word.a0 N N z) = impl_word.L0 N N := funext fun z => impl_word.r0 N N z
  rw [h, e0]
  try rfl
noncomputable def impl_word.sm (N : Nat) : Sm D := (⟨impl_word.sg, fun (x : (List UInt8) × Unit) => impl_word N x.1⟩ : Sm D)
theorem impl_word.sound (N : Nat) : Sound cx Tryd.prog gam 46 (impl_word.sm N) := fn_sound (A := impl_word.A) (Φ := (look (impl_word.phis N))) pok (G := gam) ΦOk.nil mixed N Tryd.func46 (c := (bodyOf Tryd.f46)) (by kernel_rfl) impl_word.sg (by kernel_rfl) (by kernel_rfl) (by kernel_rfl) (impl_word.run N)

@[reducible] def impl_within.sg : Sg := { ms := [{ k := (.int .i64) }, { k := (.int .i64) }, { k := (.int .i64) }], keep := [false, false, false], rs := [{ k := .bool }] }
noncomputable def impl_within.A : Ann := { dp := fun d => isIn [] d, lp := look [], jn := look [], pins := [], nt := 15 }
noncomputable def impl_within.phis (N : Nat) : List (Nat × Sm D) := []
theorem impl_within.run (N : Nat) (x : Int × Int × Int × Unit) : runF cx (look (impl_within.phis N)) impl_within.A N (bodyOf Tryd.f23) Tryd.f23.results.toList impl_within.sg x = impl_within N x.1 x.2.1 x.2.2.1 := by
  have h : runF cx (look (impl_within.phis N)) impl_within.A N (bodyOf Tryd.f23) Tryd.f23.results.toList impl_within.sg x = impl_within.B N x.1 x.2.1 x.2.2.1 := by kernel_rfl
  rw [h]
  try rfl
noncomputable def impl_within.sm (N : Nat) : Sm D := (⟨impl_within.sg, fun (x : Int × Int × Int × Unit) => impl_within N x.1 x.2.1 x.2.2.1⟩ : Sm D)
theorem impl_within.sound (N : Nat) : Sound cx Tryd.prog gam 23 (impl_within.sm N) := fn_sound (A := impl_within.A) (Φ := (look (impl_within.phis N))) pok (G := gam) ΦOk.nil mixed N Tryd.func23 (c := (bodyOf Tryd.f23)) (by kernel_rfl) impl_within.sg (by kernel_rfl) (by kernel_rfl) (by kernel_rfl) (impl_within.run N)

@[reducible] def impl_shown.sg : Sg := { ms := [{ k := .str }], keep := [false], rs := [{ k := .bool }] }
noncomputable def impl_shown.A : Ann := { dp := fun d => isIn [] d, lp := look [], jn := look [], pins := [], nt := 24 }
noncomputable def impl_shown.phis (N : Nat) : List (Nat × Sm D) := [(46, impl_word.sm N), (55, LibAtoi.sm N), (23, impl_within.sm N), (56, LibItoa.sm N)]
theorem impl_shown.run (N : Nat) (x : (List UInt8) × Unit) : runF cx (look (impl_shown.phis N)) impl_shown.A N (bodyOf Tryd.f45) Tryd.f45.results.toList impl_shown.sg x = impl_shown N x.1 := by
  have h : runF cx (look (impl_shown.phis N)) impl_shown.A N (bodyOf Tryd.f45) Tryd.f45.results.toList impl_shown.sg x = impl_shown.B N x.1 := by kernel_rfl
  rw [h]
  try rfl
noncomputable def impl_shown.sm (N : Nat) : Sm D := (⟨impl_shown.sg, fun (x : (List UInt8) × Unit) => impl_shown N x.1⟩ : Sm D)
theorem impl_shown.sound (N : Nat) : Sound cx Tryd.prog gam 45 (impl_shown.sm N) := fn_sound (A := impl_shown.A) (Φ := (look (impl_shown.phis N))) pok (G := gam) (ΦOk.cons (impl_word.sound N) (fnOk_of (f := 46) (by kernel_rfl)) (ΦOk.cons (LibAtoi.sound N) (fnOk_of (f := 55) (by kernel_rfl)) (ΦOk.cons (impl_within.sound N) (fnOk_of (f := 23) (by kernel_rfl)) (ΦOk.cons (LibItoa.sound N) (fnOk_of (f := 56) (by kernel_rfl)) ΦOk.nil)))) mixed N Tryd.func45 (c := (bodyOf Tryd.f45)) (by kernel_rfl) impl_shown.sg (by kernel_rfl) (by kernel_rfl) (by kernel_rfl) (impl_shown.run N)

@[reducible] def impl_ValOk.sg : Sg := { ms := [{ k := (.st 49) }], keep := [false], rs := [{ k := .bool }] }
noncomputable def impl_ValOk.A : Ann := { dp := fun d => isIn [] d, lp := look [], jn := look [], pins := [], nt := 35 }
noncomputable def impl_ValOk.phis (N : Nat) : List (Nat × Sm D) := [(23, impl_within.sm N), (46, impl_word.sm N)]
theorem impl_ValOk.run (N : Nat) (x : ImplValue × Unit) : runF cx (look (impl_ValOk.phis N)) impl_ValOk.A N (bodyOf Tryd.f33) Tryd.f33.results.toList impl_ValOk.sg x = impl_ValOk N x.1 := by
  have h : runF cx (look (impl_ValOk.phis N)) impl_ValOk.A N (bodyOf Tryd.f33) Tryd.f33.results.toList impl_ValOk.sg x = impl_ValOk.B N x.1 := by kernel_rfl
  rw [h]
  try rfl
noncomputable def impl_ValOk.sm (N : Nat) : Sm D := (⟨impl_ValOk.sg, fun (x : ImplValue × Unit) => impl_ValOk N x.1⟩ : Sm D)
theorem impl_ValOk.sound (N : Nat) : Sound cx Tryd.prog gam 33 (impl_ValOk.sm N) := fn_sound (A := impl_ValOk.A) (Φ := (look (impl_ValOk.phis N))) pok (G := gam) (ΦOk.cons (impl_within.sound N) (fnOk_of (f := 23) (by kernel_rfl)) (ΦOk.cons (impl_word.sound N) (fnOk_of (f := 46) (by kernel_rfl)) ΦOk.nil)) mixed N Tryd.func33 (c := (bodyOf Tryd.f33)) (by kernel_rfl) impl_ValOk.sg (by kernel_rfl) (by kernel_rfl) (by kernel_rfl) (impl_ValOk.run N)

end
end Go.Ev
