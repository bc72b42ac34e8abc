/- Each function that the law reaches does what its plain form says; no condition beyond the table of the library. -/
import Derived.Test.YtadoojpcjfglgaaGreatDoorEvF1
set_option linter.all false
set_option linter.unusedVariables false
set_option linter.unusedSimpArgs false
set_option maxRecDepth 100000
set_option maxHeartbeats 0
namespace Go.Ev
noncomputable section
open Go.Proofs
@[reducible] def spec_inRange.sg : Sg := { ms := [{ k := (.int .i64) }, { k := (.int .i64) }, { k := (.int .i64) }], keep := [false, false, false], rs := [{ k := .bool }] }
noncomputable def spec_inRange.A : Ann := { dp := fun d => isIn [] d, lp := look [], jn := look [], pins := [], nt := 15 }
noncomputable def spec_inRange.phis (N : Nat) : List (Nat × Sm D) := []
theorem spec_inRange.run (N : Nat) (x : Int × Int × Int × Unit) : runF cx (look (spec_inRange.phis N)) spec_inRange.A N (bodyOf Tryz.f50) Tryz.f50.results.toList spec_inRange.sg x = spec_inRange N x.1 x.2.1 x.2.2.1 := by
  have h : runF cx (look (spec_inRange.phis N)) spec_inRange.A N (bodyOf Tryz.f50) Tryz.f50.results.toList spec_inRange.sg x = spec_inRange.B N x.1 x.2.1 x.2.2.1 := by kernel_rfl
  rw [h]
  try rfl
noncomputable def spec_inRange.sm (N : Nat) : Sm D := (⟨spec_inRange.sg, fun (x : Int × Int × Int × Unit) => spec_inRange N x.1 x.2.1 x.2.2.1⟩ : Sm D)
theorem spec_inRange.sound (N : Nat) : Sound cx Tryz.prog gam 50 (spec_inRange.sm N) := fn_sound (A := spec_inRange.A) (Φ := (look (spec_inRange.phis N))) pok (G := gam) ΦOk.nil mixed N Tryz.func50 (c := (bodyOf Tryz.f50)) (by kernel_rfl) spec_inRange.sg (by kernel_rfl) (by kernel_rfl) (by kernel_rfl) (spec_inRange.run N)

@[reducible] def spec_plainByte.sg : Sg := { ms := [{ k := (.int .u8) }], keep := [false], rs := [{ k := .bool }] }
noncomputable def spec_plainByte.A : Ann := { dp := fun d => isIn [] d, lp := look [], jn := look [], pins := [], nt := 21 }
noncomputable def spec_plainByte.phis (N : Nat) : List (Nat × Sm D) := []
theorem spec_plainByte.run (N : Nat) (x : Int × Unit) : runF cx (look (spec_plainByte.phis N)) spec_plainByte.A N (bodyOf Tryz.f161) Tryz.f161.results.toList spec_plainByte.sg x = spec_plainByte N x.1 := by
  have h : runF cx (look (spec_plainByte.phis N)) spec_plainByte.A N (bodyOf Tryz.f161) Tryz.f161.results.toList spec_plainByte.sg x = spec_plainByte.B N x.1 := by kernel_rfl
  rw [h]
  try rfl
noncomputable def spec_plainByte.sm (N : Nat) : Sm D := (⟨spec_plainByte.sg, fun (x : Int × Unit) => spec_plainByte N x.1⟩ : Sm D)
theorem spec_plainByte.sound (N : Nat) : Sound cx Tryz.prog gam 161 (spec_plainByte.sm N) := fn_sound (A := spec_plainByte.A) (Φ := (look (spec_plainByte.phis N))) pok (G := gam) ΦOk.nil mixed N Tryz.func161 (c := (bodyOf Tryz.f161)) (by kernel_rfl) spec_plainByte.sg (by kernel_rfl) (by kernel_rfl) (by kernel_rfl) (spec_plainByte.run N)

@[reducible] def spec_validWord.sg : Sg := { ms := [{ k := .str }], keep := [false], rs := [{ k := .bool }] }
@[reducible] def spec_validWord.lvL0 : Lv := { id := 0, slots := [0, 3], ms := [{ k := .str }, { k := (.int .i64) }] }
noncomputable def spec_validWord.A : Ann := { dp := fun d => isIn [] d, lp := look [(0, spec_validWord.lvL0)], jn := look [], pins := [], nt := 18 }
noncomputable def spec_validWord.phis (N : Nat) : List (Nat × Sm D) := [(161, spec_plainByte.sm N)]
noncomputable def spec_validWord.a0 (N : Nat) (n : Nat) (y : (List UInt8) × Int × Unit) : Option (Bool × Unit) := loopAt cx (look (spec_validWord.phis N)) spec_validWord.A N n (encL cx spec_validWord.lvL0.ms y).1 (encL cx spec_validWord.lvL0.ms y).2 (bodyOf Tryz.f152) 0 (Kfin cx spec_validWord.A spec_validWord.sg Tryz.f152.results.toList) [1, 1, 0, 1, 1] []
theorem spec_validWord.r0 (N : Nat) : ∀ (n : Nat) (y : (List UInt8) × Int × Unit), spec_validWord.a0 N n y = spec_validWord.L0 N n y
  | 0, y => by kernel_rfl
  | n + 1, y => by
    have h : spec_validWord.a0 N (n + 1) y = spec_validWord.B0 N (fun z => spec_validWord.a0 N n z) y := by kernel_rfl
    have e : (fun z => spec_validWord.a0 N n z) = spec_validWord.L0 N n := funext fun z => spec_validWord.r0 N n z
    rw [h]
    try rw [e]
    first | done | rfl
theorem spec_validWord.run (N : Nat) (x : (List UInt8) × Unit) : runF cx (look (spec_validWord.phis N)) spec_validWord.A N (bodyOf Tryz.f152) Tryz.f152.results.toList spec_validWord.sg x = spec_validWord N x.1 := by
  have h : runF cx (look (spec_validWord.phis N)) spec_validWord.A N (bodyOf Tryz.f152) Tryz.f152.results.toList spec_validWord.sg x = spec_validWord.B N (fun z => spec_validWord.a0 N N z) x.1 := by kernel_rfl
  have e0 : (fun z => spec_validWord.a0 N N z) = spec_validWord.L0 N N := funext fun z => spec_validWord.r0 N N z
  rw [h, e0]
  try rfl
noncomputable def spec_validWord.sm (N : Nat) : Sm D := (⟨spec_validWord.sg, fun (x : (List UInt8) × Unit) => spec_validWord N x.1⟩ : Sm D)
theorem spec_validWord.sound (N : Nat) : Sound cx Tryz.prog gam 152 (spec_validWord.sm N) := fn_sound (A := spec_validWord.A) (Φ := (look (spec_validWord.phis N))) pok (G := gam) (ΦOk.cons (spec_plainByte.sound N) (fnOk_of (f := 161) (by kernel_rfl)) ΦOk.nil) mixed N Tryz.func152 (c := (bodyOf Tryz.f152)) (by kernel_rfl) spec_validWord.sg (by kernel_rfl) (by kernel_rfl) (by kernel_rfl) (spec_validWord.run N)

@[reducible] def spec_validValue.sg : Sg := { ms := [{ k := (.st 127) }], keep := [false], rs := [{ k := .bool }] }
noncomputable def spec_validValue.A : Ann := { dp := fun d => isIn [] d, lp := look [], jn := look [], pins := [], nt := 35 }
noncomputable def spec_validValue.phis (N : Nat) : List (Nat × Sm D) := [(50, spec_inRange.sm N), (152, spec_validWord.sm N)]
theorem spec_validValue.run (N : Nat) (x : ImplValue × Unit) : runF cx (look (spec_validValue.phis N)) spec_validValue.A N (bodyOf Tryz.f138) Tryz.f138.results.toList spec_validValue.sg x = spec_validValue N x.1 := by
  have h : runF cx (look (spec_validValue.phis N)) spec_validValue.A N (bodyOf Tryz.f138) Tryz.f138.results.toList spec_validValue.sg x = spec_validValue.B N x.1 := by kernel_rfl
  rw [h]
  try rfl
noncomputable def spec_validValue.sm (N : Nat) : Sm D := (⟨spec_validValue.sg, fun (x : ImplValue × Unit) => spec_validValue N x.1⟩ : Sm D)
theorem spec_validValue.sound (N : Nat) : Sound cx Tryz.prog gam 138 (spec_validValue.sm N) := fn_sound (A := spec_validValue.A) (Φ := (look (spec_validValue.phis N))) pok (G := gam) (ΦOk.cons (spec_inRange.sound N) (fnOk_of (f := 50) (by kernel_rfl)) (ΦOk.cons (spec_validWord.sound N) (fnOk_of (f := 152) (by kernel_rfl)) ΦOk.nil)) mixed N Tryz.func138 (c := (bodyOf Tryz.f138)) (by kernel_rfl) spec_validValue.sg (by kernel_rfl) (by kernel_rfl) (by kernel_rfl) (spec_validValue.run N)

@[reducible] def spec_validSlot.sg : Sg := { ms := [{ k := (.st 125) }], keep := [false], rs := [{ k := .bool }] }
noncomputable def spec_validSlot.A : Ann := { dp := fun d => isIn [] d, lp := look [], jn := look [], pins := [], nt := 11 }
noncomputable def spec_validSlot.phis (N : Nat) : List (Nat × Sm D) := [(50, spec_inRange.sm N)]
theorem spec_validSlot.run (N : Nat) (x : ImplSlot × Unit) : runF cx (look (spec_validSlot.phis N)) spec_validSlot.A N (bodyOf Tryz.f123) Tryz.f123.results.toList spec_validSlot.sg x = spec_validSlot N x.1 := by
  have h : runF cx (look (spec_validSlot.phis N)) spec_validSlot.A N (bodyOf Tryz.f123) Tryz.f123.results.toList spec_validSlot.sg x = spec_validSlot.B N x.1 := by kernel_rfl
  rw [h]
  try rfl
noncomputable def spec_validSlot.sm (N : Nat) : Sm D := (⟨spec_validSlot.sg, fun (x : ImplSlot × Unit) => spec_validSlot N x.1⟩ : Sm D)
theorem spec_validSlot.sound (N : Nat) : Sound cx Tryz.prog gam 123 (spec_validSlot.sm N) := fn_sound (A := spec_validSlot.A) (Φ := (look (spec_validSlot.phis N))) pok (G := gam) (ΦOk.cons (spec_inRange.sound N) (fnOk_of (f := 50) (by kernel_rfl)) ΦOk.nil) mixed N Tryz.func123 (c := (bodyOf Tryz.f123)) (by kernel_rfl) spec_validSlot.sg (by kernel_rfl) (by kernel_rfl) (by kernel_rfl) (spec_validSlot.run N)

@[reducible] def spec_validPlace.sg : Sg := { ms := [{ k := (.sl (.st 125)), fl := [none] }], keep := [false], rs := [{ k := .bool }] }
@[reducible] def spec_validPlace.lvL0 : Lv := { id := 0, slots := [0, 3], ms := [{ k := (.sl (.st 125)), fl := [none] }, { k := (.int .i64) }] }
noncomputable def spec_validPlace.A : Ann := { dp := fun d => isIn [] d, lp := look [(0, spec_validPlace.lvL0)], jn := look [], pins := [], nt := 19 }
noncomputable def spec_validPlace.phis (N : Nat) : List (Nat × Sm D) := [(123, spec_validSlot.sm N)]
noncomputable def spec_validPlace.a0 (N : Nat) (n : Nat) (y : (List (ImplSlot)) × Int × Unit) : Option (Bool × Unit) := loopAt cx (look (spec_validPlace.phis N)) spec_validPlace.A N n (encL cx spec_validPlace.lvL0.ms y).1 (encL cx spec_validPlace.lvL0.ms y).2 (bodyOf Tryz.f91) 0 (Kfin cx spec_validPlace.A spec_validPlace.sg Tryz.f91.results.toList) [1, 1, 0, 1, 1] []
theorem spec_validPlace.r0 (N : Nat) : ∀ (n : Nat) (y : (List (ImplSlot)) × Int × Unit), spec_validPlace.a0 N n y = spec_validPlace.L0 N n y
  | 0, y => by kernel_rfl
  | n + 1, y => by
    have h : spec_validPlace.a0 N (n + 1) y = spec_validPlace.B0 N (fun z => spec_validPlace.a0 N n z) y := by kernel_rfl
    have e : (fun z => spec_validPlace.a0 N n z) = spec_validPlace.L0 N n := funext fun z => spec_validPlace.r0 N n z
    rw [h]
    try rw [e]
    first | done | rfl
theorem spec_validPlace.run (N : Nat) (x : (List (ImplSlot)) × Unit) : runF cx (look (spec_validPlace.phis N)) spec_validPlace.A N (bodyOf Tryz.f91) Tryz.f91.results.toList spec_validPlace.sg x = spec_validPlace N x.1 := by
  have h : runF cx (look (spec_validPlace.phis N)) spec_validPlace.A N (bodyOf Tryz.f91) Tryz.f91.results.toList spec_validPlace.sg x = spec_validPlace.B N (fun z => spec_validPlace.a0 N N z) x.1 := by kernel_rfl
  have e0 : (fun z => spec_validPlace.a0 N N z) = spec_validPlace.L0 N N := funext fun z => spec_validPlace.r0 N N z
  rw [h, e0]
  try rfl
noncomputable def spec_validPlace.sm (N : Nat) : Sm D := (⟨spec_validPlace.sg, fun (x : (List (ImplSlot)) × Unit) => spec_validPlace N x.1⟩ : Sm D)
theorem spec_validPlace.sound (N : Nat) : Sound cx Tryz.prog gam 91 (spec_validPlace.sm N) := fn_sound (A := spec_validPlace.A) (Φ := (look (spec_validPlace.phis N))) pok (G := gam) (ΦOk.cons (spec_validSlot.sound N) (fnOk_of (f := 123) (by kernel_rfl)) ΦOk.nil) mixed N Tryz.func91 (c := (bodyOf Tryz.f91)) (by kernel_rfl) spec_validPlace.sg (by kernel_rfl) (by kernel_rfl) (by kernel_rfl) (spec_validPlace.run N)

@[reducible] def spec_comparePlaces.sg : Sg := { ms := [{ k := (.sl (.st 125)), fl := [none] }, { k := (.sl (.st 125)), fl := [none] }], keep := [false, false], rs := [{ k := (.int .i64) }] }
@[reducible] def spec_comparePlaces.lvL0 : Lv := { id := 0, slots := [0, 1, 5], ms := [{ k := (.sl (.st 125)), fl := [none] }, { k := (.sl (.st 125)), fl := [none] }, { k := (.int .i64) }] }
noncomputable def spec_comparePlaces.A : Ann := { dp := fun d => isIn [] d, lp := look [(0, spec_comparePlaces.lvL0)], jn := look [], pins := [], nt := 76 }
noncomputable def spec_comparePlaces.phis (N : Nat) : List (Nat × Sm D) := []
noncomputable def spec_comparePlaces.a0 (N : Nat) (n : Nat) (y : (List (ImplSlot)) × (List (ImplSlot)) × Int × Unit) : Option (Int × Unit) := loopAt cx (look (spec_comparePlaces.phis N)) spec_comparePlaces.A N n (encL cx spec_comparePlaces.lvL0.ms y).1 (encL cx spec_comparePlaces.lvL0.ms y).2 (bodyOf Tryz.f98) 0 (Kfin cx spec_comparePlaces.A spec_comparePlaces.sg Tryz.f98.results.toList) [1, 0, 1, 1] []
theorem spec_comparePlaces.r0 (N : Nat) : ∀ (n : Nat) (y : (List (ImplSlot)) × (List (ImplSlot)) × Int × Unit), spec_comparePlaces.a0 N n y = spec_comparePlaces.L0 N n y
  | 0, y => by kernel_rfl
  | n + 1, y => by
    have h : spec_comparePlaces.a0 N (n + 1) y = spec_comparePlaces.B0 N (fun z => spec_comparePlaces.a0 N n z) y := by kernel_rfl
    have e : (fun z => spec_comparePlaces.a0 N n z) = spec_comparePlaces.L0 N n := funext fun z => spec_comparePlaces.r0 N n z
    rw [h]
    try rw [e]
    first | done | rfl
theorem spec_comparePlaces.run (N : Nat) (x : (List (ImplSlot)) × (List (ImplSlot)) × Unit) : runF cx (look (spec_comparePlaces.phis N)) spec_comparePlaces.A N (bodyOf Tryz.f98) Tryz.f98.results.toList spec_comparePlaces.sg x = spec_comparePlaces N x.1 x.2.1 := by
  have h : runF cx (look (spec_comparePlaces.phis N)) spec_comparePlaces.A N (bodyOf Tryz.f98) Tryz.f98.results.toList spec_comparePlaces.sg x = spec_comparePlaces.B N (fun z => spec_comparePlaces.a0 N N z) x.1 x.2.1 := by kernel_rfl
  have e0 : (fun z => spec_comparePlaces.a0 N N z) = spec_comparePlaces.L0 N N := funext fun z => spec_comparePlaces.r0 N N z
  rw [h, e0]
  try rfl
noncomputable def spec_comparePlaces.sm (N : Nat) : Sm D := (⟨spec_comparePlaces.sg, fun (x : (List (ImplSlot)) × (List (ImplSlot)) × Unit) => spec_comparePlaces N x.1 x.2.1⟩ : Sm D)
theorem spec_comparePlaces.sound (N : Nat) : Sound cx Tryz.prog gam 98 (spec_comparePlaces.sm N) := fn_sound (A := spec_comparePlaces.A) (Φ := (look (spec_comparePlaces.phis N))) pok (G := gam) ΦOk.nil mixed N Tryz.func98 (c := (bodyOf Tryz.f98)) (by kernel_rfl) spec_comparePlaces.sg (by kernel_rfl) (by kernel_rfl) (by kernel_rfl) (spec_comparePlaces.run N)

@[reducible] def spec_cellAt.sg : Sg := { ms := [{ k := (.sl (.st 80)), fl := [none] }, { k := (.sl (.st 125)), fl := [none] }], keep := [false, false], rs := [{ k := (.int .i64) }, { k := .bool }] }
@[reducible] def spec_cellAt.lvL0 : Lv := { id := 0, slots := [0, 1, 6], ms := [{ k := (.sl (.st 80)), fl := [none] }, { k := (.sl (.st 125)), fl := [none] }, { k := (.int .i64) }] }
noncomputable def spec_cellAt.A : Ann := { dp := fun d => isIn [] d, lp := look [(0, spec_cellAt.lvL0)], jn := look [], pins := [], nt := 38 }
noncomputable def spec_cellAt.phis (N : Nat) : List (Nat × Sm D) := [(98, spec_comparePlaces.sm N)]
noncomputable def spec_cellAt.a0 (N : Nat) (n : Nat) (y : (List (ImplCell)) × (List (ImplSlot)) × Int × Unit) : Option (Int × Bool × Unit) := loopAt cx (look (spec_cellAt.phis N)) spec_cellAt.A N n (encL cx spec_cellAt.lvL0.ms y).1 (encL cx spec_cellAt.lvL0.ms y).2 (bodyOf Tryz.f124) 0 (Kfin cx spec_cellAt.A spec_cellAt.sg Tryz.f124.results.toList) [1, 1, 0, 1] []
theorem spec_cellAt.r0 (N : Nat) : ∀ (n : Nat) (y : (List (ImplCell)) × (List (ImplSlot)) × Int × Unit), spec_cellAt.a0 N n y = spec_cellAt.L0 N n y
  | 0, y => by kernel_rfl
  | n + 1, y => by
    have h : spec_cellAt.a0 N (n + 1) y = spec_cellAt.B0 N (fun z => spec_cellAt.a0 N n z) y := by kernel_rfl
    have e : (fun z => spec_cellAt.a0 N n z) = spec_cellAt.L0 N n := funext fun z => spec_cellAt.r0 N n z
    rw [h]
    try rw [e]
    first | done | rfl
theorem spec_cellAt.run (N : Nat) (x : (List (ImplCell)) × (List (ImplSlot)) × Unit) : runF cx (look (spec_cellAt.phis N)) spec_cellAt.A N (bodyOf Tryz.f124) Tryz.f124.results.toList spec_cellAt.sg x = spec_cellAt N x.1 x.2.1 := by
  have h : runF cx (look (spec_cellAt.phis N)) spec_cellAt.A N (bodyOf Tryz.f124) Tryz.f124.results.toList spec_cellAt.sg x = spec_cellAt.B N (fun z => spec_cellAt.a0 N N z) x.1 x.2.1 := by kernel_rfl
  have e0 : (fun z => spec_cellAt.a0 N N z) = spec_cellAt.L0 N N := funext fun z => spec_cellAt.r0 N N z
  rw [h, e0]
  try rfl
noncomputable def spec_cellAt.sm (N : Nat) : Sm D := (⟨spec_cellAt.sg, fun (x : (List (ImplCell)) × (List (ImplSlot)) × Unit) => spec_cellAt N x.1 x.2.1⟩ : Sm D)
theorem spec_cellAt.sound (N : Nat) : Sound cx Tryz.prog gam 124 (spec_cellAt.sm N) := fn_sound (A := spec_cellAt.A) (Φ := (look (spec_cellAt.phis N))) pok (G := gam) (ΦOk.cons (spec_comparePlaces.sound N) (fnOk_of (f := 98) (by kernel_rfl)) ΦOk.nil) mixed N Tryz.func124 (c := (bodyOf Tryz.f124)) (by kernel_rfl) spec_cellAt.sg (by kernel_rfl) (by kernel_rfl) (by kernel_rfl) (spec_cellAt.run N)

@[reducible] def spec_copyCell.sg : Sg := { ms := [{ k := (.st 80) }], keep := [false], rs := [{ k := (.st 80) }], hold := true }
noncomputable def spec_copyCell.A : Ann := { dp := fun d => isIn [] d, lp := look [], jn := look [], pins := [], nt := 12 }
noncomputable def spec_copyCell.phis (N : Nat) : List (Nat × Sm D) := []
theorem spec_copyCell.run (N : Nat) (x : ImplCell × Unit) : runF cx (look (spec_copyCell.phis N)) spec_copyCell.A N (bodyOf Tryz.f96) Tryz.f96.results.toList spec_copyCell.sg x = spec_copyCell N x.1 := by
  have h : runF cx (look (spec_copyCell.phis N)) spec_copyCell.A N (bodyOf Tryz.f96) Tryz.f96.results.toList spec_copyCell.sg x = spec_copyCell.B N x.1 := by kernel_rfl
  rw [h]
  try rfl
noncomputable def spec_copyCell.sm (N : Nat) : Sm D := (⟨spec_copyCell.sg, fun (x : ImplCell × Unit) => spec_copyCell N x.1⟩ : Sm D)
theorem spec_copyCell.sound (N : Nat) : Sound cx Tryz.prog gam 96 (spec_copyCell.sm N) := fn_sound (A := spec_copyCell.A) (Φ := (look (spec_copyCell.phis N))) pok (G := gam) ΦOk.nil mixed N Tryz.func96 (c := (bodyOf Tryz.f96)) (by kernel_rfl) spec_copyCell.sg (by kernel_rfl) (by kernel_rfl) (by kernel_rfl) (spec_copyCell.run N)

@[reducible] def spec_copyStore.sg : Sg := { ms := [{ k := (.sl (.st 80)), fl := [none] }], keep := [false], rs := [{ k := (.sl (.st 80)), fl := [some (false, 411)] }], hold := true }
@[reducible] def spec_copyStore.lvL0 : Lv := { id := 0, slots := [0, 3, 4], ms := [{ k := (.sl (.st 80)), fl := [none] }, { k := (.sl (.st 80)), fl := [some (false, 620)] }, { k := (.int .i64) }] }
noncomputable def spec_copyStore.A : Ann := { dp := fun d => isIn [] d, lp := look [(0, spec_copyStore.lvL0)], jn := look [], pins := [], nt := 21 }
noncomputable def spec_copyStore.phis (N : Nat) : List (Nat × Sm D) := [(96, spec_copyCell.sm N)]
noncomputable def spec_copyStore.a0 (N : Nat) (n : Nat) (y : (List (ImplCell)) × (List (ImplCell)) × Int × Unit) : Option ((List (ImplCell)) × Unit) := loopAt cx (look (spec_copyStore.phis N)) spec_copyStore.A N n (encL cx spec_copyStore.lvL0.ms y).1 (encL cx spec_copyStore.lvL0.ms y).2 (bodyOf Tryz.f51) 0 (Kfin cx spec_copyStore.A spec_copyStore.sg Tryz.f51.results.toList) [1, 1, 0, 1, 1] []
theorem spec_copyStore.r0 (N : Nat) : ∀ (n : Nat) (y : (List (ImplCell)) × (List (ImplCell)) × Int × Unit), spec_copyStore.a0 N n y = spec_copyStore.L0 N n y
  | 0, y => by kernel_rfl
  | n + 1, y => by
    have h : spec_copyStore.a0 N (n + 1) y = spec_copyStore.B0 N (fun z => spec_copyStore.a0 N n z) y := by kernel_rfl
    have e : (fun z => spec_copyStore.a0 N n z) = spec_copyStore.L0 N n := funext fun z => spec_copyStore.r0 N n z
    rw [h]
    try rw [e]
    first | done | rfl
theorem spec_copyStore.run (N : Nat) (x : (List (ImplCell)) × Unit) : runF cx (look (spec_copyStore.phis N)) spec_copyStore.A N (bodyOf Tryz.f51) Tryz.f51.results.toList spec_copyStore.sg x = spec_copyStore N x.1 := by
  have h : runF cx (look (spec_copyStore.phis N)) spec_copyStore.A N (bodyOf Tryz.f51) Tryz.f51.results.toList spec_copyStore.sg x = spec_copyStore.B N (fun z => spec_copyStore.a0 N N z) x.1 := by kernel_rfl
  have e0 : (fun z => spec_copyStore.a0 N N z) = spec_copyStore.L0 N N := funext fun z => spec_copyStore.r0 N N z
  rw [h, e0]
  try rfl
noncomputable def spec_copyStore.sm (N : Nat) : Sm D := (⟨spec_copyStore.sg, fun (x : (List (ImplCell)) × Unit) => spec_copyStore N x.1⟩ : Sm D)
theorem spec_copyStore.sound (N : Nat) : Sound cx Tryz.prog gam 51 (spec_copyStore.sm N) := fn_sound (A := spec_copyStore.A) (Φ := (look (spec_copyStore.phis N))) pok (G := gam) (ΦOk.cons (spec_copyCell.sound N) (fnOk_of (f := 96) (by kernel_rfl)) ΦOk.nil) mixed N Tryz.func51 (c := (bodyOf Tryz.f51)) (by kernel_rfl) spec_copyStore.sg (by kernel_rfl) (by kernel_rfl) (by kernel_rfl) (spec_copyStore.run N)

@[reducible] def spec_validValues.sg : Sg := { ms := [{ k := (.sl (.st 127)), fl := [none] }], keep := [false], rs := [{ k := .bool }] }
@[reducible] def spec_validValues.lvL0 : Lv := { id := 0, slots := [0, 3], ms := [{ k := (.sl (.st 127)), fl := [none] }, { k := (.int .i64) }] }
noncomputable def spec_validValues.A : Ann := { dp := fun d => isIn [] d, lp := look [(0, spec_validValues.lvL0)], jn := look [], pins := [], nt := 16 }
noncomputable def spec_validValues.phis (N : Nat) : List (Nat × Sm D) := [(138, spec_validValue.sm N)]
noncomputable def spec_validValues.a0 (N : Nat) (n : Nat) (y : (List (ImplValue)) × Int × Unit) : Option (Bool × Unit) := loopAt cx (look (spec_validValues.phis N)) spec_validValues.A N n (encL cx spec_validValues.lvL0.ms y).1 (encL cx spec_validValues.lvL0.ms y).2 (bodyOf Tryz.f112) 0 (Kfin cx spec_validValues.A spec_validValues.sg Tryz.f112.results.toList) [1, 0, 1, 1] []
theorem spec_validValues.r0 (N : Nat) : ∀ (n : Nat) (y : (List (ImplValue)) × Int × Unit), spec_validValues.a0 N n y = spec_validValues.L0 N n y
  | 0, y => by kernel_rfl
  | n + 1, y => by
    have h : spec_validValues.a0 N (n + 1) y = spec_validValues.B0 N (fun z => spec_validValues.a0 N n z) y := by kernel_rfl
    have e : (fun z => spec_validValues.a0 N n z) = spec_validValues.L0 N n := funext fun z => spec_validValues.r0 N n z
    rw [h]
    try rw [e]
    first | done | rfl
theorem spec_validValues.run (N : Nat) (x : (List (ImplValue)) × Unit) : runF cx (look (spec_validValues.phis N)) spec_validValues.A N (bodyOf Tryz.f112) Tryz.f112.results.toList spec_validValues.sg x = spec_validValues N x.1 := by
  have h : runF cx (look (spec_validValues.phis N)) spec_validValues.A N (bodyOf Tryz.f112) Tryz.f112.results.toList spec_validValues.sg x = spec_validValues.B N (fun z => spec_validValues.a0 N N z) x.1 := by kernel_rfl
  have e0 : (fun z => spec_validValues.a0 N N z) = spec_validValues.L0 N N := funext fun z => spec_validValues.r0 N N z
  rw [h, e0]
  try rfl
noncomputable def spec_validValues.sm (N : Nat) : Sm D := (⟨spec_validValues.sg, fun (x : (List (ImplValue)) × Unit) => spec_validValues N x.1⟩ : Sm D)
theorem spec_validValues.sound (N : Nat) : Sound cx Tryz.prog gam 112 (spec_validValues.sm N) := fn_sound (A := spec_validValues.A) (Φ := (look (spec_validValues.phis N))) pok (G := gam) (ΦOk.cons (spec_validValue.sound N) (fnOk_of (f := 138) (by kernel_rfl)) ΦOk.nil) mixed N Tryz.func112 (c := (bodyOf Tryz.f112)) (by kernel_rfl) spec_validValues.sg (by kernel_rfl) (by kernel_rfl) (by kernel_rfl) (spec_validValues.run N)

@[reducible] def spec_validStore.sg : Sg := { ms := [{ k := (.sl (.st 80)), fl := [none] }], keep := [false], rs := [{ k := .bool }] }
@[reducible] def spec_validStore.lvL0 : Lv := { id := 0, slots := [0, 3], ms := [{ k := (.sl (.st 80)), fl := [none] }, { k := (.int .i64) }] }
noncomputable def spec_validStore.A : Ann := { dp := fun d => isIn [] d, lp := look [(0, spec_validStore.lvL0)], jn := look [], pins := [], nt := 57 }
noncomputable def spec_validStore.phis (N : Nat) : List (Nat × Sm D) := [(91, spec_validPlace.sm N), (112, spec_validValues.sm N), (98, spec_comparePlaces.sm N)]
noncomputable def spec_validStore.a0 (N : Nat) (n : Nat) (y : (List (ImplCell)) × Int × Unit) : Option (Bool × Unit) := loopAt cx (look (spec_validStore.phis N)) spec_validStore.A N n (encL cx spec_validStore.lvL0.ms y).1 (encL cx spec_validStore.lvL0.ms y).2 (bodyOf Tryz.f68) 0 (Kfin cx spec_validStore.A spec_validStore.sg Tryz.f68.results.toList) [1, 1, 0, 1, 1] []
theorem spec_validStore.r0 (N : Nat) : ∀ (n : Nat) (y : (List (ImplCell)) × Int × Unit), spec_validStore.a0 N n y = spec_validStore.L0 N n y
  | 0, y => by kernel_rfl
  | n + 1, y => by
    have h : spec_validStore.a0 N (n + 1) y = spec_validStore.B0 N (fun z => spec_validStore.a0 N n z) y := by kernel_rfl
    have e : (fun z => spec_validStore.a0 N n z) = spec_validStore.L0 N n := funext fun z => spec_validStore.r0 N n z
    rw [h]
    try rw [e]
    first | done | rfl
theorem spec_validStore.run (N : Nat) (x : (List (ImplCell)) × Unit) : runF cx (look (spec_validStore.phis N)) spec_validStore.A N (bodyOf Tryz.f68) Tryz.f68.results.toList spec_validStore.sg x = spec_validStore N x.1 := by
  have h : runF cx (look (spec_validStore.phis N)) spec_validStore.A N (bodyOf Tryz.f68) Tryz.f68.results.toList spec_validStore.sg x = spec_validStore.B N (fun z => spec_validStore.a0 N N z) x.1 := by kernel_rfl
  have e0 : (fun z => spec_validStore.a0 N N z) = spec_validStore.L0 N N := funext fun z => spec_validStore.r0 N N z
  rw [h, e0]
  try rfl
noncomputable def spec_validStore.sm (N : Nat) : Sm D := (⟨spec_validStore.sg, fun (x : (List (ImplCell)) × Unit) => spec_validStore N x.1⟩ : Sm D)
theorem spec_validStore.sound (N : Nat) : Sound cx Tryz.prog gam 68 (spec_validStore.sm N) := fn_sound (A := spec_validStore.A) (Φ := (look (spec_validStore.phis N))) pok (G := gam) (ΦOk.cons (spec_validPlace.sound N) (fnOk_of (f := 91) (by kernel_rfl)) (ΦOk.cons (spec_validValues.sound N) (fnOk_of (f := 112) (by kernel_rfl)) (ΦOk.cons (spec_comparePlaces.sound N) (fnOk_of (f := 98) (by kernel_rfl)) ΦOk.nil))) mixed N Tryz.func68 (c := (bodyOf Tryz.f68)) (by kernel_rfl) spec_validStore.sg (by kernel_rfl) (by kernel_rfl) (by kernel_rfl) (spec_validStore.run N)

@[reducible] def spec_validStep.sg : Sg := { ms := [{ k := (.st 141) }, { k := (.int .i64) }, { k := (.int .i64) }, { k := (.int .i64) }], keep := [false, false, false, false], rs := [{ k := .bool }] }
noncomputable def spec_validStep.A : Ann := { dp := fun d => isIn [] d, lp := look [], jn := look [], pins := [], nt := 93 }
noncomputable def spec_validStep.phis (N : Nat) : List (Nat × Sm D) := [(138, spec_validValue.sm N), (50, spec_inRange.sm N)]
theorem spec_validStep.run (N : Nat) (x : ImplStep × Int × Int × Int × Unit) : runF cx (look (spec_validStep.phis N)) spec_validStep.A N (bodyOf Tryz.f153) Tryz.f153.results.toList spec_validStep.sg x = spec_validStep N x.1 x.2.1 x.2.2.1 x.2.2.2.1 := by
  have h : runF cx (look (spec_validStep.phis N)) spec_validStep.A N (bodyOf Tryz.f153) Tryz.f153.results.toList spec_validStep.sg x = spec_validStep.B N x.1 x.2.1 x.2.2.1 x.2.2.2.1 := by kernel_rfl
  rw [h]
  try rfl
noncomputable def spec_validStep.sm (N : Nat) : Sm D := (⟨spec_validStep.sg, fun (x : ImplStep × Int × Int × Int × Unit) => spec_validStep N x.1 x.2.1 x.2.2.1 x.2.2.2.1⟩ : Sm D)
theorem spec_validStep.sound (N : Nat) : Sound cx Tryz.prog gam 153 (spec_validStep.sm N) := fn_sound (A := spec_validStep.A) (Φ := (look (spec_validStep.phis N))) pok (G := gam) (ΦOk.cons (spec_validValue.sound N) (fnOk_of (f := 138) (by kernel_rfl)) (ΦOk.cons (spec_inRange.sound N) (fnOk_of (f := 50) (by kernel_rfl)) ΦOk.nil)) mixed N Tryz.func153 (c := (bodyOf Tryz.f153)) (by kernel_rfl) spec_validStep.sg (by kernel_rfl) (by kernel_rfl) (by kernel_rfl) (spec_validStep.run N)

@[reducible] def spec_takes.sg : Sg := { ms := [{ k := (.st 141) }], keep := [false], rs := [{ k := (.int .i64) }] }
noncomputable def spec_takes.A : Ann := { dp := fun d => isIn [] d, lp := look [], jn := look [], pins := [], nt := 9 }
noncomputable def spec_takes.phis (N : Nat) : List (Nat × Sm D) := []
theorem spec_takes.run (N : Nat) (x : ImplStep × Unit) : runF cx (look (spec_takes.phis N)) spec_takes.A N (bodyOf Tryz.f154) Tryz.f154.results.toList spec_takes.sg x = spec_takes N x.1 := by
  have h : runF cx (look (spec_takes.phis N)) spec_takes.A N (bodyOf Tryz.f154) Tryz.f154.results.toList spec_takes.sg x = spec_takes.B N x.1 := by kernel_rfl
  rw [h]
  try rfl
noncomputable def spec_takes.sm (N : Nat) : Sm D := (⟨spec_takes.sg, fun (x : ImplStep × Unit) => spec_takes N x.1⟩ : Sm D)
theorem spec_takes.sound (N : Nat) : Sound cx Tryz.prog gam 154 (spec_takes.sm N) := fn_sound (A := spec_takes.A) (Φ := (look (spec_takes.phis N))) pok (G := gam) ΦOk.nil mixed N Tryz.func154 (c := (bodyOf Tryz.f154)) (by kernel_rfl) spec_takes.sg (by kernel_rfl) (by kernel_rfl) (by kernel_rfl) (spec_takes.run N)

@[reducible] def spec_validForm.sg : Sg := { ms := [{ k := (.sl (.st 141)), fl := [none] }, { k := (.int .i64) }, { k := (.int .i64) }, { k := (.int .i64) }], keep := [false, false, false, false], rs := [{ k := .bool }] }
@[reducible] def spec_validForm.lvL0 : Lv := { id := 0, slots := [0, 1, 2, 3, 9, 10], ms := [{ k := (.sl (.st 141)), fl := [none] }, { k := (.int .i64) }, { k := (.int .i64) }, { k := (.int .i64) }, { k := (.int .i64) }, { k := (.int .i64) }] }
noncomputable def spec_validForm.A : Ann := { dp := fun d => isIn [] d, lp := look [(0, spec_validForm.lvL0)], jn := look [], pins := [], nt := 48 }
noncomputable def spec_validForm.phis (N : Nat) : List (Nat × Sm D) := [(153, spec_validStep.sm N), (154, spec_takes.sm N)]
noncomputable def spec_validForm.a0 (N : Nat) (n : Nat) (y : (List (ImplStep)) × Int × Int × Int × Int × Int × Unit) : Option (Bool × Unit) := loopAt cx (look (spec_validForm.phis N)) spec_validForm.A N n (encL cx spec_validForm.lvL0.ms y).1 (encL cx spec_validForm.lvL0.ms y).2 (bodyOf Tryz.f139) 0 (Kfin cx spec_validForm.A spec_validForm.sg Tryz.f139.results.toList) [1, 1, 1, 0, 1, 1] []
theorem spec_validForm.r0 (N : Nat) : ∀ (n : Nat) (y : (List (ImplStep)) × Int × Int × Int × Int × Int × Unit), spec_validForm.a0 N n y = spec_validForm.L0 N n y
  | 0, y => by kernel_rfl
  | n + 1, y => by
    have h : spec_validForm.a0 N (n + 1) y = spec_validForm.B0 N (fun z => spec_validForm.a0 N n z) y := by kernel_rfl
    have e : (fun z => spec_validForm.a0 N n z) = spec_validForm.L0 N n := funext fun z => spec_validForm.r0 N n z
    rw [h]
    try rw [e]
    first | done | rfl
theorem spec_validForm.run (N : Nat) (x : (List (ImplStep)) × Int × Int × Int × Unit) : runF cx (look (spec_validForm.phis N)) spec_validForm.A N (bodyOf Tryz.f139) Tryz.f139.results.toList spec_validForm.sg x = spec_validForm N x.1 x.2.1 x.2.2.1 x.2.2.2.1 := by
  have h : runF cx (look (spec_validForm.phis N)) spec_validForm.A N (bodyOf Tryz.f139) Tryz.f139.results.toList spec_validForm.sg x = spec_validForm.B N (fun z => spec_validForm.a0 N N z) x.1 x.2.1 x.2.2.1 x.2.2.2.1 := by kernel_rfl
  have e0 : (fun z => spec_validForm.a0 N N z) = spec_validForm.L0 N N := funext fun z => spec_validForm.r0 N N z
  rw [h, e0]
  try rfl
noncomputable def spec_validForm.sm (N : Nat) : Sm D := (⟨spec_validForm.sg, fun (x : (List (ImplStep)) × Int × Int × Int × Unit) => spec_validForm N x.1 x.2.1 x.2.2.1 x.2.2.2.1⟩ : Sm D)
theorem spec_validForm.sound (N : Nat) : Sound cx Tryz.prog gam 139 (spec_validForm.sm N) := fn_sound (A := spec_validForm.A) (Φ := (look (spec_validForm.phis N))) pok (G := gam) (ΦOk.cons (spec_validStep.sound N) (fnOk_of (f := 153) (by kernel_rfl)) (ΦOk.cons (spec_takes.sound N) (fnOk_of (f := 154) (by kernel_rfl)) ΦOk.nil)) mixed N Tryz.func139 (c := (bodyOf Tryz.f139)) (by kernel_rfl) spec_validForm.sg (by kernel_rfl) (by kernel_rfl) (by kernel_rfl) (spec_validForm.run N)

@[reducible] def spec_validUpdate.sg : Sg := { ms := [{ k := (.st 100) }], keep := [false], rs := [{ k := .bool }] }
noncomputable def spec_validUpdate.A : Ann := { dp := fun d => isIn [] d, lp := look [], jn := look [], pins := [], nt := 21 }
noncomputable def spec_validUpdate.phis (N : Nat) : List (Nat × Sm D) := [(91, spec_validPlace.sm N), (50, spec_inRange.sm N), (139, spec_validForm.sm N)]
theorem spec_validUpdate.run (N : Nat) (x : ImplUpdate × Unit) : runF cx (look (spec_validUpdate.phis N)) spec_validUpdate.A N (bodyOf Tryz.f113) Tryz.f113.results.toList spec_validUpdate.sg x = spec_validUpdate N x.1 := by
  have h : runF cx (look (spec_validUpdate.phis N)) spec_validUpdate.A N (bodyOf Tryz.f113) Tryz.f113.results.toList spec_validUpdate.sg x = spec_validUpdate.B N x.1 := by kernel_rfl
  rw [h]
  try rfl
noncomputable def spec_validUpdate.sm (N : Nat) : Sm D := (⟨spec_validUpdate.sg, fun (x : ImplUpdate × Unit) => spec_validUpdate N x.1⟩ : Sm D)
theorem spec_validUpdate.sound (N : Nat) : Sound cx Tryz.prog gam 113 (spec_validUpdate.sm N) := fn_sound (A := spec_validUpdate.A) (Φ := (look (spec_validUpdate.phis N))) pok (G := gam) (ΦOk.cons (spec_validPlace.sound N) (fnOk_of (f := 91) (by kernel_rfl)) (ΦOk.cons (spec_inRange.sound N) (fnOk_of (f := 50) (by kernel_rfl)) (ΦOk.cons (spec_validForm.sound N) (fnOk_of (f := 139) (by kernel_rfl)) ΦOk.nil))) mixed N Tryz.func113 (c := (bodyOf Tryz.f113)) (by kernel_rfl) spec_validUpdate.sg (by kernel_rfl) (by kernel_rfl) (by kernel_rfl) (spec_validUpdate.run N)

@[reducible] def spec_validUpdates.sg : Sg := { ms := [{ k := (.sl (.st 100)), fl := [none] }], keep := [false], rs := [{ k := .bool }] }
@[reducible] def spec_validUpdates.lvL0 : Lv := { id := 0, slots := [0, 3], ms := [{ k := (.sl (.st 100)), fl := [none] }, { k := (.int .i64) }] }
noncomputable def spec_validUpdates.A : Ann := { dp := fun d => isIn [] d, lp := look [(0, spec_validUpdates.lvL0)], jn := look [], pins := [], nt := 19 }
noncomputable def spec_validUpdates.phis (N : Nat) : List (Nat × Sm D) := [(113, spec_validUpdate.sm N)]
noncomputable def spec_validUpdates.a0 (N : Nat) (n : Nat) (y : (List (ImplUpdate)) × Int × Unit) : Option (Bool × Unit) := loopAt cx (look (spec_validUpdates.phis N)) spec_validUpdates.A N n (encL cx spec_validUpdates.lvL0.ms y).1 (encL cx spec_validUpdates.lvL0.ms y).2 (bodyOf Tryz.f69) 0 (Kfin cx spec_validUpdates.A spec_validUpdates.sg Tryz.f69.results.toList) [1, 1, 0, 1, 1] []
theorem spec_validUpdates.r0 (N : Nat) : ∀ (n : Nat) (y : (List (ImplUpdate)) × Int × Unit), spec_validUpdates.a0 N n y = spec_validUpdates.L0 N n y
  | 0, y => by kernel_rfl
  | n + 1, y => by
    have h : spec_validUpdates.a0 N (n + 1) y = spec_validUpdates.B0 N (fun z => spec_validUpdates.a0 N n z) y := by kernel_rfl
    have e : (fun z => spec_validUpdates.a0 N n z) = spec_validUpdates.L0 N n := funext fun z => spec_validUpdates.r0 N n z
    rw [h]
    try rw [e]
    first | done | rfl
theorem spec_validUpdates.run (N : Nat) (x : (List (ImplUpdate)) × Unit) : runF cx (look (spec_validUpdates.phis N)) spec_validUpdates.A N (bodyOf Tryz.f69) Tryz.f69.results.toList spec_validUpdates.sg x = spec_validUpdates N x.1 := by
  have h : runF cx (look (spec_validUpdates.phis N)) spec_validUpdates.A N (bodyOf Tryz.f69) Tryz.f69.results.toList spec_validUpdates.sg x = spec_validUpdates.B N (fun z => spec_validUpdates.a0 N N z) x.1 := by kernel_rfl
  have e0 : (fun z => spec_validUpdates.a0 N N z) = spec_validUpdates.L0 N N := funext fun z => spec_validUpdates.r0 N N z
  rw [h, e0]
  try rfl
noncomputable def spec_validUpdates.sm (N : Nat) : Sm D := (⟨spec_validUpdates.sg, fun (x : (List (ImplUpdate)) × Unit) => spec_validUpdates N x.1⟩ : Sm D)
theorem spec_validUpdates.sound (N : Nat) : Sound cx Tryz.prog gam 69 (spec_validUpdates.sm N) := fn_sound (A := spec_validUpdates.A) (Φ := (look (spec_validUpdates.phis N))) pok (G := gam) (ΦOk.cons (spec_validUpdate.sound N) (fnOk_of (f := 113) (by kernel_rfl)) ΦOk.nil) mixed N Tryz.func69 (c := (bodyOf Tryz.f69)) (by kernel_rfl) spec_validUpdates.sg (by kernel_rfl) (by kernel_rfl) (by kernel_rfl) (spec_validUpdates.run N)

@[reducible] def spec_applies.sg : Sg := { ms := [{ k := (.sl (.st 127)), fl := [none] }, { k := (.st 100) }], keep := [false, false], rs := [{ k := .bool }] }
noncomputable def spec_applies.A : Ann := { dp := fun d => isIn [] d, lp := look [], jn := look [], pins := [], nt := 17 }
noncomputable def spec_applies.phis (N : Nat) : List (Nat × Sm D) := [(139, spec_validForm.sm N)]
theorem spec_applies.run (N : Nat) (x : (List (ImplValue)) × ImplUpdate × Unit) : runF cx (look (spec_applies.phis N)) spec_applies.A N (bodyOf Tryz.f155) Tryz.f155.results.toList spec_applies.sg x = spec_applies N x.1 x.2.1 := by
  have h : runF cx (look (spec_applies.phis N)) spec_applies.A N (bodyOf Tryz.f155) Tryz.f155.results.toList spec_applies.sg x = spec_applies.B N x.1 x.2.1 := by kernel_rfl
  rw [h]
  try rfl
noncomputable def spec_applies.sm (N : Nat) : Sm D := (⟨spec_applies.sg, fun (x : (List (ImplValue)) × ImplUpdate × Unit) => spec_applies N x.1 x.2.1⟩ : Sm D)
theorem spec_applies.sound (N : Nat) : Sound cx Tryz.prog gam 155 (spec_applies.sm N) := fn_sound (A := spec_applies.A) (Φ := (look (spec_applies.phis N))) pok (G := gam) (ΦOk.cons (spec_validForm.sound N) (fnOk_of (f := 139) (by kernel_rfl)) ΦOk.nil) mixed N Tryz.func155 (c := (bodyOf Tryz.f155)) (by kernel_rfl) spec_applies.sg (by kernel_rfl) (by kernel_rfl) (by kernel_rfl) (spec_applies.run N)

@[reducible] def spec_number.sg : Sg := { ms := [{ k := (.int .i64) }], keep := [false], rs := [{ k := (.st 127) }] }
noncomputable def spec_number.A : Ann := { dp := fun d => isIn [] d, lp := look [], jn := look [], pins := [], nt := 9 }
noncomputable def spec_number.phis (N : Nat) : List (Nat × Sm D) := [(50, spec_inRange.sm N)]
theorem spec_number.run (N : Nat) (x : Int × Unit) : runF cx (look (spec_number.phis N)) spec_number.A N (bodyOf Tryz.f168) Tryz.f168.results.toList spec_number.sg x = spec_number N x.1 := by
  have h : runF cx (look (spec_number.phis N)) spec_number.A N (bodyOf Tryz.f168) Tryz.f168.results.toList spec_number.sg x = spec_number.B N x.1 := by kernel_rfl
  rw [h]
  try rfl
noncomputable def spec_number.sm (N : Nat) : Sm D := (⟨spec_number.sg, fun (x : Int × Unit) => spec_number N x.1⟩ : Sm D)
theorem spec_number.sound (N : Nat) : Sound cx Tryz.prog gam 168 (spec_number.sm N) := fn_sound (A := spec_number.A) (Φ := (look (spec_number.phis N))) pok (G := gam) (ΦOk.cons (spec_inRange.sound N) (fnOk_of (f := 50) (by kernel_rfl)) ΦOk.nil) mixed N Tryz.func168 (c := (bodyOf Tryz.f168)) (by kernel_rfl) spec_number.sg (by kernel_rfl) (by kernel_rfl) (by kernel_rfl) (spec_number.run N)

@[reducible] def spec_boolean.sg : Sg := { ms := [{ k := .bool }], keep := [false], rs := [{ k := (.st 127) }] }
noncomputable def spec_boolean.A : Ann := { dp := fun d => isIn [] d, lp := look [], jn := look [], pins := [], nt := 6 }
noncomputable def spec_boolean.phis (N : Nat) : List (Nat × Sm D) := [(168, spec_number.sm N)]
theorem spec_boolean.run (N : Nat) (x : Bool × Unit) : runF cx (look (spec_boolean.phis N)) spec_boolean.A N (bodyOf Tryz.f166) Tryz.f166.results.toList spec_boolean.sg x = spec_boolean N x.1 := by
  have h : runF cx (look (spec_boolean.phis N)) spec_boolean.A N (bodyOf Tryz.f166) Tryz.f166.results.toList spec_boolean.sg x = spec_boolean.B N x.1 := by kernel_rfl
  rw [h]
  try rfl
noncomputable def spec_boolean.sm (N : Nat) : Sm D := (⟨spec_boolean.sg, fun (x : Bool × Unit) => spec_boolean N x.1⟩ : Sm D)
theorem spec_boolean.sound (N : Nat) : Sound cx Tryz.prog gam 166 (spec_boolean.sm N) := fn_sound (A := spec_boolean.A) (Φ := (look (spec_boolean.phis N))) pok (G := gam) (ΦOk.cons (spec_number.sound N) (fnOk_of (f := 168) (by kernel_rfl)) ΦOk.nil) mixed N Tryz.func166 (c := (bodyOf Tryz.f166)) (by kernel_rfl) spec_boolean.sg (by kernel_rfl) (by kernel_rfl) (by kernel_rfl) (spec_boolean.run N)

@[reducible] def spec_truth.sg : Sg := { ms := [{ k := (.st 127) }], keep := [false], rs := [{ k := .bool }] }
noncomputable def spec_truth.A : Ann := { dp := fun d => isIn [] d, lp := look [], jn := look [], pins := [], nt := 11 }
noncomputable def spec_truth.phis (N : Nat) : List (Nat × Sm D) := []
theorem spec_truth.run (N : Nat) (x : ImplValue × Unit) : runF cx (look (spec_truth.phis N)) spec_truth.A N (bodyOf Tryz.f163) Tryz.f163.results.toList spec_truth.sg x = spec_truth N x.1 := by
  have h : runF cx (look (spec_truth.phis N)) spec_truth.A N (bodyOf Tryz.f163) Tryz.f163.results.toList spec_truth.sg x = spec_truth.B N x.1 := by kernel_rfl
  rw [h]
  try rfl
noncomputable def spec_truth.sm (N : Nat) : Sm D := (⟨spec_truth.sg, fun (x : ImplValue × Unit) => spec_truth N x.1⟩ : Sm D)
theorem spec_truth.sound (N : Nat) : Sound cx Tryz.prog gam 163 (spec_truth.sm N) := fn_sound (A := spec_truth.A) (Φ := (look (spec_truth.phis N))) pok (G := gam) ΦOk.nil mixed N Tryz.func163 (c := (bodyOf Tryz.f163)) (by kernel_rfl) spec_truth.sg (by kernel_rfl) (by kernel_rfl) (by kernel_rfl) (spec_truth.run N)

@[reducible] def spec_decimal.sg : Sg := { ms := [{ k := (.int .i64) }], keep := [false], rs := [{ k := .str }] }
noncomputable def spec_decimal.A : Ann := { dp := fun d => isIn [] d, lp := look [], jn := look [], pins := [], nt := 22 }
noncomputable def spec_decimal.phis (N : Nat) (d : Nat) : List (Nat × Sm D) := [(170, (⟨spec_decimal.sg, fun (x : Int × Unit) => spec_decimal.R N d x.1⟩ : Sm D))]
theorem spec_decimal.run (N : Nat) (d : Nat) (x : Int × Unit) : runF cx (look (spec_decimal.phis N d)) spec_decimal.A N (bodyOf Tryz.f170) Tryz.f170.results.toList spec_decimal.sg x = spec_decimal.R N (d + 1) x.1 := by
  have h : runF cx (look (spec_decimal.phis N d)) spec_decimal.A N (bodyOf Tryz.f170) Tryz.f170.results.toList spec_decimal.sg x = spec_decimal.B N (spec_decimal.R N d) x.1 := by kernel_rfl
  rw [h]
  try rfl
theorem spec_decimal.step (N : Nat) (d : Nat) (h_spec_decimal : Sound cx Tryz.prog gam 170 (⟨spec_decimal.sg, fun (x : Int × Unit) => spec_decimal.R N d x.1⟩ : Sm D)) : Sound cx Tryz.prog gam 170 (⟨spec_decimal.sg, fun (x : Int × Unit) => spec_decimal.R N (d + 1) x.1⟩ : Sm D) := fn_sound (A := spec_decimal.A) (Φ := (look (spec_decimal.phis N d))) pok (G := gam) (ΦOk.cons h_spec_decimal (fnOk_of (f := 170) (by kernel_rfl)) ΦOk.nil) mixed N Tryz.func170 (c := (bodyOf Tryz.f170)) (by kernel_rfl) spec_decimal.sg (by kernel_rfl) (by kernel_rfl) (by kernel_rfl) (spec_decimal.run N d)

theorem spec_decimal.scc (N : Nat) : ∀ d, Sound cx Tryz.prog gam 170 (⟨spec_decimal.sg, fun (x : Int × Unit) => spec_decimal.R N d x.1⟩ : Sm D)
  | 0 => none_sound 170 spec_decimal.sg
  | d + 1 => by
    have ih := spec_decimal.scc N d
    exact spec_decimal.step N d ih
noncomputable def spec_decimal.sm (N : Nat) : Sm D := (⟨spec_decimal.sg, fun (x : Int × Unit) => spec_decimal.R N N x.1⟩ : Sm D)
theorem spec_decimal.sound (N : Nat) : Sound cx Tryz.prog gam 170 (spec_decimal.sm N) := (spec_decimal.scc N N)
@[reducible] def spec_show.sg : Sg := { ms := [{ k := (.st 127) }], keep := [false], rs := [{ k := .str }] }
noncomputable def spec_show.A : Ann := { dp := fun d => isIn [] d, lp := look [], jn := look [], pins := [], nt := 14 }
noncomputable def spec_show.phis (N : Nat) : List (Nat × Sm D) := [(170, spec_decimal.sm N)]
theorem spec_show.run (N : Nat) (x : ImplValue × Unit) : runF cx (look (spec_show.phis N)) spec_show.A N (bodyOf Tryz.f167) Tryz.f167.results.toList spec_show.sg x = spec_show N x.1 := by
  have h : runF cx (look (spec_show.phis N)) spec_show.A N (bodyOf Tryz.f167) Tryz.f167.results.toList spec_show.sg x = spec_show.B N x.1 := by kernel_rfl
  rw [h]
  try rfl
noncomputable def spec_show.sm (N : Nat) : Sm D := (⟨spec_show.sg, fun (x : ImplValue × Unit) => spec_show N x.1⟩ : Sm D)
theorem spec_show.sound (N : Nat) : Sound cx Tryz.prog gam 167 (spec_show.sm N) := fn_sound (A := spec_show.A) (Φ := (look (spec_show.phis N))) pok (G := gam) (ΦOk.cons (spec_decimal.sound N) (fnOk_of (f := 170) (by kernel_rfl)) ΦOk.nil) mixed N Tryz.func167 (c := (bodyOf Tryz.f167)) (by kernel_rfl) spec_show.sg (by kernel_rfl) (by kernel_rfl) (by kernel_rfl) (spec_show.run N)

@[reducible] def spec_do.sg : Sg := { ms := [{ k := (.int .i64) }, { k := (.st 127) }, { k := (.st 127) }], keep := [false, false, false], rs := [{ k := (.st 127) }] }
noncomputable def spec_do.A : Ann := { dp := fun d => isIn [] d, lp := look [], jn := look [], pins := [], nt := 82 }
noncomputable def spec_do.phis (N : Nat) : List (Nat × Sm D) := [(166, spec_boolean.sm N), (163, spec_truth.sm N), (167, spec_show.sm N), (152, spec_validWord.sm N), (168, spec_number.sm N)]
theorem spec_do.run (N : Nat) (x : Int × ImplValue × ImplValue × Unit) : runF cx (look (spec_do.phis N)) spec_do.A N (bodyOf Tryz.f162) Tryz.f162.results.toList spec_do.sg x = spec_do N x.1 x.2.1 x.2.2.1 := by
  have h : runF cx (look (spec_do.phis N)) spec_do.A N (bodyOf Tryz.f162) Tryz.f162.results.toList spec_do.sg x = spec_do.B N x.1 x.2.1 x.2.2.1 := by kernel_rfl
  rw [h]
  try rfl
noncomputable def spec_do.sm (N : Nat) : Sm D := (⟨spec_do.sg, fun (x : Int × ImplValue × ImplValue × Unit) => spec_do N x.1 x.2.1 x.2.2.1⟩ : Sm D)
theorem spec_do.sound (N : Nat) : Sound cx Tryz.prog gam 162 (spec_do.sm N) := fn_sound (A := spec_do.A) (Φ := (look (spec_do.phis N))) pok (G := gam) (ΦOk.cons (spec_boolean.sound N) (fnOk_of (f := 166) (by kernel_rfl)) (ΦOk.cons (spec_truth.sound N) (fnOk_of (f := 163) (by kernel_rfl)) (ΦOk.cons (spec_show.sound N) (fnOk_of (f := 167) (by kernel_rfl)) (ΦOk.cons (spec_validWord.sound N) (fnOk_of (f := 152) (by kernel_rfl)) (ΦOk.cons (spec_number.sound N) (fnOk_of (f := 168) (by kernel_rfl)) ΦOk.nil))))) mixed N Tryz.func162 (c := (bodyOf Tryz.f162)) (by kernel_rfl) spec_do.sg (by kernel_rfl) (by kernel_rfl) (by kernel_rfl) (spec_do.run N)

end
end Go.Ev
