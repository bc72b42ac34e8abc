/- Each function that the law reaches does what its plain form says; no condition beyond the table of the library. -/
import Derived.Test.YtfgdaioblgfipaaDoorEvT0
set_option linter.all false
set_option linter.unusedVariables false
set_option linter.unusedSimpArgs false
set_option maxRecDepth 100000
set_option maxHeartbeats 0
namespace Go.Ev
noncomputable section
open Go.Proofs
@[reducible] def laws_szEnv.sg : Sg := { ms := [{ k := (.st 45) }, { k := (.int .i64) }], keep := [false, false], rs := [{ k := (.int .i64) }] }
noncomputable def laws_szEnv.A : Ann := { dp := fun d => isIn [] d, lp := look [], jn := look [], pins := [], nt := 30 }
noncomputable def laws_szEnv.phis (N : Nat) : List (Nat × Sm D) := [(57, laws_szValueS.sm N), (58, laws_szIntS.sm N)]
theorem laws_szEnv.run (N : Nat) (x : LawsEnv × Int × Unit) : runF cx (look (laws_szEnv.phis N)) laws_szEnv.A N (bodyOf Tryd.f22) Tryd.f22.results.toList laws_szEnv.sg x = laws_szEnv N x.1 x.2.1 := by
  have h : runF cx (look (laws_szEnv.phis N)) laws_szEnv.A N (bodyOf Tryd.f22) Tryd.f22.results.toList laws_szEnv.sg x = laws_szEnv.B N x.1 x.2.1 := by kernel_rfl
  rw [h]
  try rfl
noncomputable def laws_szEnv.sm (N : Nat) : Sm D := (⟨laws_szEnv.sg, fun (x : LawsEnv × Int × Unit) => laws_szEnv N x.1 x.2.1⟩ : Sm D)
theorem laws_szEnv.sound (N : Nat) : Sound cx Tryd.prog gam 22 (laws_szEnv.sm N) := fn_sound (A := laws_szEnv.A) (Φ := (look (laws_szEnv.phis N))) pok (G := gam) (ΦOk.cons (laws_szValueS.sound N) (fnOk_of (f := 57) (by kernel_rfl)) (ΦOk.cons (laws_szIntS.sound N) (fnOk_of (f := 58) (by kernel_rfl)) ΦOk.nil)) mixed N Tryd.func22 (c := (bodyOf Tryd.f22)) (by kernel_rfl) laws_szEnv.sg (by kernel_rfl) (by kernel_rfl) (by kernel_rfl) (laws_szEnv.run N)

@[reducible] def laws_toValue.sg : Sg := { ms := [{ k := (.st 49) }], keep := [false], rs := [{ k := (.st 49) }] }
noncomputable def laws_toValue.A : Ann := { dp := fun d => isIn [] d, lp := look [], jn := look [], pins := [], nt := 14 }
noncomputable def laws_toValue.phis (N : Nat) : List (Nat × Sm D) := []
theorem laws_toValue.run (N : Nat) (x : ImplValue × Unit) : runF cx (look (laws_toValue.phis N)) laws_toValue.A N (bodyOf Tryd.f100) Tryd.f100.results.toList laws_toValue.sg x = laws_toValue N x.1 := by
  have h : runF cx (look (laws_toValue.phis N)) laws_toValue.A N (bodyOf Tryd.f100) Tryd.f100.results.toList laws_toValue.sg x = laws_toValue.B N x.1 := by kernel_rfl
  rw [h]
  try rfl
noncomputable def laws_toValue.sm (N : Nat) : Sm D := (⟨laws_toValue.sg, fun (x : ImplValue × Unit) => laws_toValue N x.1⟩ : Sm D)
theorem laws_toValue.sound (N : Nat) : Sound cx Tryd.prog gam 100 (laws_toValue.sm N) := fn_sound (A := laws_toValue.A) (Φ := (look (laws_toValue.phis N))) pok (G := gam) ΦOk.nil mixed N Tryd.func100 (c := (bodyOf Tryd.f100)) (by kernel_rfl) laws_toValue.sg (by kernel_rfl) (by kernel_rfl) (by kernel_rfl) (laws_toValue.run N)

@[reducible] def laws_toStep.sg : Sg := { ms := [{ k := (.st 82) }], keep := [false], rs := [{ k := (.st 87) }] }
noncomputable def laws_toStep.A : Ann := { dp := fun d => isIn [] d, lp := look [], jn := look [], pins := [], nt := 15 }
noncomputable def laws_toStep.phis (N : Nat) : List (Nat × Sm D) := [(100, laws_toValue.sm N)]
theorem laws_toStep.run (N : Nat) (x : LawsStep × Unit) : runF cx (look (laws_toStep.phis N)) laws_toStep.A N (bodyOf Tryd.f62) Tryd.f62.results.toList laws_toStep.sg x = laws_toStep N x.1 := by
  have h : runF cx (look (laws_toStep.phis N)) laws_toStep.A N (bodyOf Tryd.f62) Tryd.f62.results.toList laws_toStep.sg x = laws_toStep.B N x.1 := by kernel_rfl
  rw [h]
  try rfl
noncomputable def laws_toStep.sm (N : Nat) : Sm D := (⟨laws_toStep.sg, fun (x : LawsStep × Unit) => laws_toStep N x.1⟩ : Sm D)
theorem laws_toStep.sound (N : Nat) : Sound cx Tryd.prog gam 62 (laws_toStep.sm N) := fn_sound (A := laws_toStep.A) (Φ := (look (laws_toStep.phis N))) pok (G := gam) (ΦOk.cons (laws_toValue.sound N) (fnOk_of (f := 100) (by kernel_rfl)) ΦOk.nil) mixed N Tryd.func62 (c := (bodyOf Tryd.f62)) (by kernel_rfl) laws_toStep.sg (by kernel_rfl) (by kernel_rfl) (by kernel_rfl) (laws_toStep.run N)

@[reducible] def laws_toStepS.sg : Sg := { ms := [{ k := (.sl (.st 82)), fl := [none] }], keep := [false], rs := [{ k := (.sl (.st 87)), fl := [none] }], hold := true }
@[reducible] def laws_toStepS.lvL0 : Lv := { id := 0, slots := [0, 3, 4], ms := [{ k := (.sl (.st 82)), fl := [none] }, { k := (.sl (.st 87)), fl := [some (false, 620)] }, { k := (.int .i64) }] }
noncomputable def laws_toStepS.A : Ann := { dp := fun d => isIn [] d, lp := look [(0, laws_toStepS.lvL0)], jn := look [], pins := [], nt := 23 }
noncomputable def laws_toStepS.phis (N : Nat) : List (Nat × Sm D) := [(62, laws_toStep.sm N)]
noncomputable def laws_toStepS.a0 (N : Nat) (n : Nat) (y : (List (LawsStep)) × (List (ImplStep)) × Int × Unit) : Option ((List (ImplStep)) × Unit) := loopAt cx (look (laws_toStepS.phis N)) laws_toStepS.A N n (encL cx laws_toStepS.lvL0.ms y).1 (encL cx laws_toStepS.lvL0.ms y).2 (bodyOf Tryd.f24) 0 (Kfin cx laws_toStepS.A laws_toStepS.sg Tryd.f24.results.toList) [1, 1, 0, 1, 1] []
theorem laws_toStepS.r0 (N : Nat) : ∀ (n : Nat) (y : (List (LawsStep)) × (List (ImplStep)) × Int × Unit), laws_toStepS.a0 N n y = laws_toStepS.L0 N n y
  | 0, y => by kernel_rfl
  | n + 1, y => by
    have h : laws_toStepS.a0 N (n + 1) y = laws_toStepS.B0 N (fun z => laws_toStepS.a0 N n z) y := by kernel_rfl
    have e : (fun z => laws_toStepS.a0 N n z) = laws_toStepS.L0 N n := funext fun z => laws_toStepS.r0 N n z
    rw [h]
    try rw [e]
    first | done | rfl
theorem laws_toStepS.run (N : Nat) (x : (List (LawsStep)) × Unit) : runF cx (look (laws_toStepS.phis N)) laws_toStepS.A N (bodyOf Tryd.f24) Tryd.f24.results.toList laws_toStepS.sg x = laws_toStepS N x.1 := by
  have h : runF cx (look (laws_toStepS.phis N)) laws_toStepS.A N (bodyOf Tryd.f24) Tryd.f24.results.toList laws_toStepS.sg x = laws_toStepS.B N (fun z => laws_toStepS.a0 N N z) x.1 := by kernel_rfl
  have e0 : (fun z => laws_toStepS.a0 N N z) = laws_toStepS.L0 N N := funext fun z => laws_toStepS.r0 N N z
  rw [h, e0]
  try rfl
noncomputable def laws_toStepS.sm (N : Nat) : Sm D := (⟨laws_toStepS.sg, fun (x : (List (LawsStep)) × Unit) => laws_toStepS N x.1⟩ : Sm D)
theorem laws_toStepS.sound (N : Nat) : Sound cx Tryd.prog gam 24 (laws_toStepS.sm N) := fn_sound (A := laws_toStepS.A) (Φ := (look (laws_toStepS.phis N))) pok (G := gam) (ΦOk.cons (laws_toStep.sound N) (fnOk_of (f := 62) (by kernel_rfl)) ΦOk.nil) mixed N Tryd.func24 (c := (bodyOf Tryd.f24)) (by kernel_rfl) laws_toStepS.sg (by kernel_rfl) (by kernel_rfl) (by kernel_rfl) (laws_toStepS.run N)

@[reducible] def laws_toValueS.sg : Sg := { ms := [{ k := (.sl (.st 49)), fl := [none] }], keep := [false], rs := [{ k := (.sl (.st 49)), fl := [none] }], hold := true }
@[reducible] def laws_toValueS.lvL0 : Lv := { id := 0, slots := [0, 3, 4], ms := [{ k := (.sl (.st 49)), fl := [none] }, { k := (.sl (.st 49)), fl := [some (false, 620)] }, { k := (.int .i64) }] }
noncomputable def laws_toValueS.A : Ann := { dp := fun d => isIn [] d, lp := look [(0, laws_toValueS.lvL0)], jn := look [], pins := [], nt := 23 }
noncomputable def laws_toValueS.phis (N : Nat) : List (Nat × Sm D) := [(100, laws_toValue.sm N)]
noncomputable def laws_toValueS.a0 (N : Nat) (n : Nat) (y : (List (ImplValue)) × (List (ImplValue)) × Int × Unit) : Option ((List (ImplValue)) × Unit) := loopAt cx (look (laws_toValueS.phis N)) laws_toValueS.A N n (encL cx laws_toValueS.lvL0.ms y).1 (encL cx laws_toValueS.lvL0.ms y).2 (bodyOf Tryd.f63) 0 (Kfin cx laws_toValueS.A laws_toValueS.sg Tryd.f63.results.toList) [1, 1, 0, 1, 1] []
theorem laws_toValueS.r0 (N : Nat) : ∀ (n : Nat) (y : (List (ImplValue)) × (List (ImplValue)) × Int × Unit), laws_toValueS.a0 N n y = laws_toValueS.L0 N n y
  | 0, y => by kernel_rfl
  | n + 1, y => by
    have h : laws_toValueS.a0 N (n + 1) y = laws_toValueS.B0 N (fun z => laws_toValueS.a0 N n z) y := by kernel_rfl
    have e : (fun z => laws_toValueS.a0 N n z) = laws_toValueS.L0 N n := funext fun z => laws_toValueS.r0 N n z
    rw [h]
    try rw [e]
    first | done | rfl
theorem laws_toValueS.run (N : Nat) (x : (List (ImplValue)) × Unit) : runF cx (look (laws_toValueS.phis N)) laws_toValueS.A N (bodyOf Tryd.f63) Tryd.f63.results.toList laws_toValueS.sg x = laws_toValueS N x.1 := by
  have h : runF cx (look (laws_toValueS.phis N)) laws_toValueS.A N (bodyOf Tryd.f63) Tryd.f63.results.toList laws_toValueS.sg x = laws_toValueS.B N (fun z => laws_toValueS.a0 N N z) x.1 := by kernel_rfl
  have e0 : (fun z => laws_toValueS.a0 N N z) = laws_toValueS.L0 N N := funext fun z => laws_toValueS.r0 N N z
  rw [h, e0]
  try rfl
noncomputable def laws_toValueS.sm (N : Nat) : Sm D := (⟨laws_toValueS.sg, fun (x : (List (ImplValue)) × Unit) => laws_toValueS N x.1⟩ : Sm D)
theorem laws_toValueS.sound (N : Nat) : Sound cx Tryd.prog gam 63 (laws_toValueS.sm N) := fn_sound (A := laws_toValueS.A) (Φ := (look (laws_toValueS.phis N))) pok (G := gam) (ΦOk.cons (laws_toValue.sound N) (fnOk_of (f := 100) (by kernel_rfl)) ΦOk.nil) mixed N Tryd.func63 (c := (bodyOf Tryd.f63)) (by kernel_rfl) laws_toValueS.sg (by kernel_rfl) (by kernel_rfl) (by kernel_rfl) (laws_toValueS.run N)

@[reducible] def laws_toIntS.sg : Sg := { ms := [{ k := (.sl (.int .i64)), fl := [none] }], keep := [false], rs := [{ k := (.sl (.int .i64)), fl := [none] }], hold := true }
@[reducible] def laws_toIntS.lvL0 : Lv := { id := 0, slots := [0, 3, 4], ms := [{ k := (.sl (.int .i64)), fl := [none] }, { k := (.sl (.int .i64)), fl := [some (false, 620)] }, { k := (.int .i64) }] }
noncomputable def laws_toIntS.A : Ann := { dp := fun d => isIn [] d, lp := look [(0, laws_toIntS.lvL0)], jn := look [], pins := [], nt := 22 }
noncomputable def laws_toIntS.phis (N : Nat) : List (Nat × Sm D) := []
noncomputable def laws_toIntS.a0 (N : Nat) (n : Nat) (y : (List (Int)) × (List (Int)) × Int × Unit) : Option ((List (Int)) × Unit) := loopAt cx (look (laws_toIntS.phis N)) laws_toIntS.A N n (encL cx laws_toIntS.lvL0.ms y).1 (encL cx laws_toIntS.lvL0.ms y).2 (bodyOf Tryd.f64) 0 (Kfin cx laws_toIntS.A laws_toIntS.sg Tryd.f64.results.toList) [1, 1, 0, 1, 1] []
theorem laws_toIntS.r0 (N : Nat) : ∀ (n : Nat) (y : (List (Int)) × (List (Int)) × Int × Unit), laws_toIntS.a0 N n y = laws_toIntS.L0 N n y
  | 0, y => by kernel_rfl
  | n + 1, y => by
    have h : laws_toIntS.a0 N (n + 1) y = laws_toIntS.B0 N (fun z => laws_toIntS.a0 N n z) y := by kernel_rfl
    have e : (fun z => laws_toIntS.a0 N n z) = laws_toIntS.L0 N n := funext fun z => laws_toIntS.r0 N n z
    rw [h]
    try rw [e]
    first | done | rfl
theorem laws_toIntS.run (N : Nat) (x : (List (Int)) × Unit) : runF cx (look (laws_toIntS.phis N)) laws_toIntS.A N (bodyOf Tryd.f64) Tryd.f64.results.toList laws_toIntS.sg x = laws_toIntS N x.1 := by
  have h : runF cx (look (laws_toIntS.phis N)) laws_toIntS.A N (bodyOf Tryd.f64) Tryd.f64.results.toList laws_toIntS.sg x = laws_toIntS.B N (fun z => laws_toIntS.a0 N N z) x.1 := by kernel_rfl
  have e0 : (fun z => laws_toIntS.a0 N N z) = laws_toIntS.L0 N N := funext fun z => laws_toIntS.r0 N N z
  rw [h, e0]
  try rfl
noncomputable def laws_toIntS.sm (N : Nat) : Sm D := (⟨laws_toIntS.sg, fun (x : (List (Int)) × Unit) => laws_toIntS N x.1⟩ : Sm D)
theorem laws_toIntS.sound (N : Nat) : Sound cx Tryd.prog gam 64 (laws_toIntS.sm N) := fn_sound (A := laws_toIntS.A) (Φ := (look (laws_toIntS.phis N))) pok (G := gam) ΦOk.nil mixed N Tryd.func64 (c := (bodyOf Tryd.f64)) (by kernel_rfl) laws_toIntS.sg (by kernel_rfl) (by kernel_rfl) (by kernel_rfl) (laws_toIntS.run N)

@[reducible] def laws_toEnv.sg : Sg := { ms := [{ k := (.st 45) }], keep := [false], rs := [{ k := (.st 54) }], hold := true }
noncomputable def laws_toEnv.A : Ann := { dp := fun d => isIn [] d, lp := look [], jn := look [], pins := [], nt := 21 }
noncomputable def laws_toEnv.phis (N : Nat) : List (Nat × Sm D) := [(63, laws_toValueS.sm N), (64, laws_toIntS.sm N)]
theorem laws_toEnv.run (N : Nat) (x : LawsEnv × Unit) : runF cx (look (laws_toEnv.phis N)) laws_toEnv.A N (bodyOf Tryd.f25) Tryd.f25.results.toList laws_toEnv.sg x = laws_toEnv N x.1 := by
  have h : runF cx (look (laws_toEnv.phis N)) laws_toEnv.A N (bodyOf Tryd.f25) Tryd.f25.results.toList laws_toEnv.sg x = laws_toEnv.B N x.1 := by kernel_rfl
  rw [h]
  try rfl
noncomputable def laws_toEnv.sm (N : Nat) : Sm D := (⟨laws_toEnv.sg, fun (x : LawsEnv × Unit) => laws_toEnv N x.1⟩ : Sm D)
theorem laws_toEnv.sound (N : Nat) : Sound cx Tryd.prog gam 25 (laws_toEnv.sm N) := fn_sound (A := laws_toEnv.A) (Φ := (look (laws_toEnv.phis N))) pok (G := gam) (ΦOk.cons (laws_toValueS.sound N) (fnOk_of (f := 63) (by kernel_rfl)) (ΦOk.cons (laws_toIntS.sound N) (fnOk_of (f := 64) (by kernel_rfl)) ΦOk.nil)) mixed N Tryd.func25 (c := (bodyOf Tryd.f25)) (by kernel_rfl) laws_toEnv.sg (by kernel_rfl) (by kernel_rfl) (by kernel_rfl) (laws_toEnv.run N)

@[reducible] def spec_validValues.sg : Sg := { ms := [{ k := (.sl (.st 49)), fl := [none] }], keep := [false], rs := [{ k := .bool }] }
@[reducible] def spec_validValues.lvL0 : Lv := { id := 0, slots := [0, 3], ms := [{ k := (.sl (.st 49)), fl := [none] }, { k := (.int .i64) }] }
noncomputable def spec_validValues.A : Ann := { dp := fun d => isIn [] d, lp := look [(0, spec_validValues.lvL0)], jn := look [], pins := [], nt := 16 }
noncomputable def spec_validValues.phis (N : Nat) : List (Nat × Sm D) := [(123, spec_validValue.sm N)]
noncomputable def spec_validValues.a0 (N : Nat) (n : Nat) (y : (List (ImplValue)) × Int × Unit) : Option (Bool × Unit) := loopAt cx (look (spec_validValues.phis N)) spec_validValues.A N n (encL cx spec_validValues.lvL0.ms y).1 (encL cx spec_validValues.lvL0.ms y).2 (bodyOf Tryd.f94) 0 (Kfin cx spec_validValues.A spec_validValues.sg Tryd.f94.results.toList) [1, 0, 1, 1] []
theorem spec_validValues.r0 (N : Nat) : ∀ (n : Nat) (y : (List (ImplValue)) × Int × Unit), spec_validValues.a0 N n y = spec_validValues.L0 N n y
  | 0, y => by kernel_rfl
  | n + 1, y => by
    have h : spec_validValues.a0 N (n + 1) y = spec_validValues.B0 N (fun z => spec_validValues.a0 N n z) y := by kernel_rfl
    have e : (fun z => spec_validValues.a0 N n z) = spec_validValues.L0 N n := funext fun z => spec_validValues.r0 N n z
    rw [h]
    try rw [e]
    first | done | rfl
theorem spec_validValues.run (N : Nat) (x : (List (ImplValue)) × Unit) : runF cx (look (spec_validValues.phis N)) spec_validValues.A N (bodyOf Tryd.f94) Tryd.f94.results.toList spec_validValues.sg x = spec_validValues N x.1 := by
  have h : runF cx (look (spec_validValues.phis N)) spec_validValues.A N (bodyOf Tryd.f94) Tryd.f94.results.toList spec_validValues.sg x = spec_validValues.B N (fun z => spec_validValues.a0 N N z) x.1 := by kernel_rfl
  have e0 : (fun z => spec_validValues.a0 N N z) = spec_validValues.L0 N N := funext fun z => spec_validValues.r0 N N z
  rw [h, e0]
  try rfl
noncomputable def spec_validValues.sm (N : Nat) : Sm D := (⟨spec_validValues.sg, fun (x : (List (ImplValue)) × Unit) => spec_validValues N x.1⟩ : Sm D)
theorem spec_validValues.sound (N : Nat) : Sound cx Tryd.prog gam 94 (spec_validValues.sm N) := fn_sound (A := spec_validValues.A) (Φ := (look (spec_validValues.phis N))) pok (G := gam) (ΦOk.cons (spec_validValue.sound N) (fnOk_of (f := 123) (by kernel_rfl)) ΦOk.nil) mixed N Tryd.func94 (c := (bodyOf Tryd.f94)) (by kernel_rfl) spec_validValues.sg (by kernel_rfl) (by kernel_rfl) (by kernel_rfl) (spec_validValues.run N)

@[reducible] def spec_validEnv.sg : Sg := { ms := [{ k := (.st 54) }], keep := [false], rs := [{ k := .bool }] }
@[reducible] def spec_validEnv.lvL0 : Lv := { id := 0, slots := [1, 3], ms := [{ ptr := true, id := 600, t := 55, k := (.st 54), fl := [none, none, none, none] }, { k := (.int .i64) }] }
noncomputable def spec_validEnv.A : Ann := { dp := fun d => isIn [] d, lp := look [(0, spec_validEnv.lvL0)], jn := look [], pins := [], nt := 53 }
noncomputable def spec_validEnv.phis (N : Nat) : List (Nat × Sm D) := [(85, spec_inRange.sm N), (94, spec_validValues.sm N)]
noncomputable def spec_validEnv.a0 (N : Nat) (n : Nat) (y : ImplEnv × Int × Unit) : Option (Bool × Unit) := loopAt cx (look (spec_validEnv.phis N)) spec_validEnv.A N n (encL cx spec_validEnv.lvL0.ms y).1 (encL cx spec_validEnv.lvL0.ms y).2 (bodyOf Tryd.f59) 0 (Kfin cx spec_validEnv.A spec_validEnv.sg Tryd.f59.results.toList) [1, 1, 0, 1, 1] []
theorem spec_validEnv.r0 (N : Nat) : ∀ (n : Nat) (y : ImplEnv × Int × Unit), spec_validEnv.a0 N n y = spec_validEnv.L0 N n y
  | 0, y => by kernel_rfl
  | n + 1, y => by
    have h : spec_validEnv.a0 N (n + 1) y = spec_validEnv.B0 N (fun z => spec_validEnv.a0 N n z) y := by kernel_rfl
    have e : (fun z => spec_validEnv.a0 N n z) = spec_validEnv.L0 N n := funext fun z => spec_validEnv.r0 N n z
    rw [h]
    try rw [e]
    first | done | rfl
theorem spec_validEnv.run (N : Nat) (x : ImplEnv × Unit) : runF cx (look (spec_validEnv.phis N)) spec_validEnv.A N (bodyOf Tryd.f59) Tryd.f59.results.toList spec_validEnv.sg x = spec_validEnv N x.1 := by
  have h : runF cx (look (spec_validEnv.phis N)) spec_validEnv.A N (bodyOf Tryd.f59) Tryd.f59.results.toList spec_validEnv.sg x = spec_validEnv.B N (fun z => spec_validEnv.a0 N N z) x.1 := by kernel_rfl
  have e0 : (fun z => spec_validEnv.a0 N N z) = spec_validEnv.L0 N N := funext fun z => spec_validEnv.r0 N N z
  rw [h, e0]
  try rfl
noncomputable def spec_validEnv.sm (N : Nat) : Sm D := (⟨spec_validEnv.sg, fun (x : ImplEnv × Unit) => spec_validEnv N x.1⟩ : Sm D)
theorem spec_validEnv.sound (N : Nat) : Sound cx Tryd.prog gam 59 (spec_validEnv.sm N) := fn_sound (A := spec_validEnv.A) (Φ := (look (spec_validEnv.phis N))) pok (G := gam) (ΦOk.cons (spec_inRange.sound N) (fnOk_of (f := 85) (by kernel_rfl)) (ΦOk.cons (spec_validValues.sound N) (fnOk_of (f := 94) (by kernel_rfl)) ΦOk.nil)) mixed N Tryd.func59 (c := (bodyOf Tryd.f59)) (by kernel_rfl) spec_validEnv.sg (by kernel_rfl) (by kernel_rfl) (by kernel_rfl) (spec_validEnv.run N)

@[reducible] def spec_number.sg : Sg := { ms := [{ k := (.int .i64) }], keep := [false], rs := [{ k := (.st 49) }] }
noncomputable def spec_number.A : Ann := { dp := fun d => isIn [] d, lp := look [], jn := look [], pins := [], nt := 9 }
noncomputable def spec_number.phis (N : Nat) : List (Nat × Sm D) := [(85, spec_inRange.sm N)]
theorem spec_number.run (N : Nat) (x : Int × Unit) : runF cx (look (spec_number.phis N)) spec_number.A N (bodyOf Tryd.f127) Tryd.f127.results.toList spec_number.sg x = spec_number N x.1 := by
  have h : runF cx (look (spec_number.phis N)) spec_number.A N (bodyOf Tryd.f127) Tryd.f127.results.toList spec_number.sg x = spec_number.B N x.1 := by kernel_rfl
  rw [h]
  try rfl
noncomputable def spec_number.sm (N : Nat) : Sm D := (⟨spec_number.sg, fun (x : Int × Unit) => spec_number N x.1⟩ : Sm D)
theorem spec_number.sound (N : Nat) : Sound cx Tryd.prog gam 127 (spec_number.sm N) := fn_sound (A := spec_number.A) (Φ := (look (spec_number.phis N))) pok (G := gam) (ΦOk.cons (spec_inRange.sound N) (fnOk_of (f := 85) (by kernel_rfl)) ΦOk.nil) mixed N Tryd.func127 (c := (bodyOf Tryd.f127)) (by kernel_rfl) spec_number.sg (by kernel_rfl) (by kernel_rfl) (by kernel_rfl) (spec_number.run N)

@[reducible] def spec_boolean.sg : Sg := { ms := [{ k := .bool }], keep := [false], rs := [{ k := (.st 49) }] }
noncomputable def spec_boolean.A : Ann := { dp := fun d => isIn [] d, lp := look [], jn := look [], pins := [], nt := 6 }
noncomputable def spec_boolean.phis (N : Nat) : List (Nat × Sm D) := [(127, spec_number.sm N)]
theorem spec_boolean.run (N : Nat) (x : Bool × Unit) : runF cx (look (spec_boolean.phis N)) spec_boolean.A N (bodyOf Tryd.f124) Tryd.f124.results.toList spec_boolean.sg x = spec_boolean N x.1 := by
  have h : runF cx (look (spec_boolean.phis N)) spec_boolean.A N (bodyOf Tryd.f124) Tryd.f124.results.toList spec_boolean.sg x = spec_boolean.B N x.1 := by kernel_rfl
  rw [h]
  try rfl
noncomputable def spec_boolean.sm (N : Nat) : Sm D := (⟨spec_boolean.sg, fun (x : Bool × Unit) => spec_boolean N x.1⟩ : Sm D)
theorem spec_boolean.sound (N : Nat) : Sound cx Tryd.prog gam 124 (spec_boolean.sm N) := fn_sound (A := spec_boolean.A) (Φ := (look (spec_boolean.phis N))) pok (G := gam) (ΦOk.cons (spec_number.sound N) (fnOk_of (f := 127) (by kernel_rfl)) ΦOk.nil) mixed N Tryd.func124 (c := (bodyOf Tryd.f124)) (by kernel_rfl) spec_boolean.sg (by kernel_rfl) (by kernel_rfl) (by kernel_rfl) (spec_boolean.run N)

@[reducible] def spec_truth.sg : Sg := { ms := [{ k := (.st 49) }], keep := [false], rs := [{ k := .bool }] }
noncomputable def spec_truth.A : Ann := { dp := fun d => isIn [] d, lp := look [], jn := look [], pins := [], nt := 11 }
noncomputable def spec_truth.phis (N : Nat) : List (Nat × Sm D) := []
theorem spec_truth.run (N : Nat) (x : ImplValue × Unit) : runF cx (look (spec_truth.phis N)) spec_truth.A N (bodyOf Tryd.f98) Tryd.f98.results.toList spec_truth.sg x = spec_truth N x.1 := by
  have h : runF cx (look (spec_truth.phis N)) spec_truth.A N (bodyOf Tryd.f98) Tryd.f98.results.toList spec_truth.sg x = spec_truth.B N x.1 := by kernel_rfl
  rw [h]
  try rfl
noncomputable def spec_truth.sm (N : Nat) : Sm D := (⟨spec_truth.sg, fun (x : ImplValue × Unit) => spec_truth N x.1⟩ : Sm D)
theorem spec_truth.sound (N : Nat) : Sound cx Tryd.prog gam 98 (spec_truth.sm N) := fn_sound (A := spec_truth.A) (Φ := (look (spec_truth.phis N))) pok (G := gam) ΦOk.nil mixed N Tryd.func98 (c := (bodyOf Tryd.f98)) (by kernel_rfl) spec_truth.sg (by kernel_rfl) (by kernel_rfl) (by kernel_rfl) (spec_truth.run N)

@[reducible] def spec_show.sg : Sg := { ms := [{ k := (.st 49) }], keep := [false], rs := [{ k := .str }] }
noncomputable def spec_show.A : Ann := { dp := fun d => isIn [] d, lp := look [], jn := look [], pins := [], nt := 14 }
noncomputable def spec_show.phis (N : Nat) : List (Nat × Sm D) := [(109, spec_decimal.sm N)]
theorem spec_show.run (N : Nat) (x : ImplValue × Unit) : runF cx (look (spec_show.phis N)) spec_show.A N (bodyOf Tryd.f125) Tryd.f125.results.toList spec_show.sg x = spec_show N x.1 := by
  have h : runF cx (look (spec_show.phis N)) spec_show.A N (bodyOf Tryd.f125) Tryd.f125.results.toList spec_show.sg x = spec_show.B N x.1 := by kernel_rfl
  rw [h]
  try rfl
noncomputable def spec_show.sm (N : Nat) : Sm D := (⟨spec_show.sg, fun (x : ImplValue × Unit) => spec_show N x.1⟩ : Sm D)
theorem spec_show.sound (N : Nat) : Sound cx Tryd.prog gam 125 (spec_show.sm N) := fn_sound (A := spec_show.A) (Φ := (look (spec_show.phis N))) pok (G := gam) (ΦOk.cons (spec_decimal.sound N) (fnOk_of (f := 109) (by kernel_rfl)) ΦOk.nil) mixed N Tryd.func125 (c := (bodyOf Tryd.f125)) (by kernel_rfl) spec_show.sg (by kernel_rfl) (by kernel_rfl) (by kernel_rfl) (spec_show.run N)

@[reducible] def spec_do.sg : Sg := { ms := [{ k := (.int .i64) }, { k := (.st 49) }, { k := (.st 49) }], keep := [false, false, false], rs := [{ k := (.st 49) }] }
noncomputable def spec_do.A : Ann := { dp := fun d => isIn [] d, lp := look [], jn := look [], pins := [], nt := 82 }
noncomputable def spec_do.phis (N : Nat) : List (Nat × Sm D) := [(124, spec_boolean.sm N), (98, spec_truth.sm N), (125, spec_show.sm N), (126, spec_validWord.sm N), (127, spec_number.sm N)]
theorem spec_do.run (N : Nat) (x : Int × ImplValue × ImplValue × Unit) : runF cx (look (spec_do.phis N)) spec_do.A N (bodyOf Tryd.f97) Tryd.f97.results.toList spec_do.sg x = spec_do N x.1 x.2.1 x.2.2.1 := by
  have h : runF cx (look (spec_do.phis N)) spec_do.A N (bodyOf Tryd.f97) Tryd.f97.results.toList spec_do.sg x = spec_do.B N x.1 x.2.1 x.2.2.1 := by kernel_rfl
  rw [h]
  try rfl
noncomputable def spec_do.sm (N : Nat) : Sm D := (⟨spec_do.sg, fun (x : Int × ImplValue × ImplValue × Unit) => spec_do N x.1 x.2.1 x.2.2.1⟩ : Sm D)
theorem spec_do.sound (N : Nat) : Sound cx Tryd.prog gam 97 (spec_do.sm N) := fn_sound (A := spec_do.A) (Φ := (look (spec_do.phis N))) pok (G := gam) (ΦOk.cons (spec_boolean.sound N) (fnOk_of (f := 124) (by kernel_rfl)) (ΦOk.cons (spec_truth.sound N) (fnOk_of (f := 98) (by kernel_rfl)) (ΦOk.cons (spec_show.sound N) (fnOk_of (f := 125) (by kernel_rfl)) (ΦOk.cons (spec_validWord.sound N) (fnOk_of (f := 126) (by kernel_rfl)) (ΦOk.cons (spec_number.sound N) (fnOk_of (f := 127) (by kernel_rfl)) ΦOk.nil))))) mixed N Tryd.func97 (c := (bodyOf Tryd.f97)) (by kernel_rfl) spec_do.sg (by kernel_rfl) (by kernel_rfl) (by kernel_rfl) (spec_do.run N)

@[reducible] def spec_told.sg : Sg := { ms := [{ k := (.st 87) }, { k := (.st 54) }], keep := [false, false], rs := [{ k := (.st 49) }] }
noncomputable def spec_told.A : Ann := { dp := fun d => isIn [] d, lp := look [], jn := look [], pins := [], nt := 47 }
noncomputable def spec_told.phis (N : Nat) : List (Nat × Sm D) := [(127, spec_number.sm N)]
theorem spec_told.run (N : Nat) (x : ImplStep × ImplEnv × Unit) : runF cx (look (spec_told.phis N)) spec_told.A N (bodyOf Tryd.f99) Tryd.f99.results.toList spec_told.sg x = spec_told N x.1 x.2.1 := by
  have h : runF cx (look (spec_told.phis N)) spec_told.A N (bodyOf Tryd.f99) Tryd.f99.results.toList spec_told.sg x = spec_told.B N x.1 x.2.1 := by kernel_rfl
  rw [h]
  try rfl
noncomputable def spec_told.sm (N : Nat) : Sm D := (⟨spec_told.sg, fun (x : ImplStep × ImplEnv × Unit) => spec_told N x.1 x.2.1⟩ : Sm D)
theorem spec_told.sound (N : Nat) : Sound cx Tryd.prog gam 99 (spec_told.sm N) := fn_sound (A := spec_told.A) (Φ := (look (spec_told.phis N))) pok (G := gam) (ΦOk.cons (spec_number.sound N) (fnOk_of (f := 127) (by kernel_rfl)) ΦOk.nil) mixed N Tryd.func99 (c := (bodyOf Tryd.f99)) (by kernel_rfl) spec_told.sg (by kernel_rfl) (by kernel_rfl) (by kernel_rfl) (spec_told.run N)

@[reducible] def spec_eval.sg : Sg := { ms := [{ k := (.sl (.st 87)), fl := [none] }, { k := (.st 54) }], keep := [false, false], rs := [{ k := (.st 49) }] }
@[reducible] def spec_eval.lvJ15 : Lv := { id := 15, slots := [0, 3, 4, 5, 6, 7, 8], ms := [{ k := (.sl (.st 87)), fl := [none] }, { ptr := true, id := 620, t := 55, k := (.st 54), fl := [none, none, none, none] }, { ptr := true, id := 640, t := 50, k := (.st 49), fl := [none, none, none] }, { k := (.sl (.st 49)), fl := [some (false, 660)] }, { k := (.int .i64) }, { k := (.int .i64) }, { ptr := true, id := 720, t := 50, k := (.st 49), fl := [none, none, none] }] }
@[reducible] def spec_eval.lvL0 : Lv := { id := 0, slots := [0, 3, 4, 5, 6], ms := [{ k := (.sl (.st 87)), fl := [none] }, { ptr := true, id := 620, t := 55, k := (.st 54), fl := [none, none, none, none] }, { ptr := true, id := 640, t := 50, k := (.st 49), fl := [none, none, none] }, { k := (.sl (.st 49)), fl := [some (false, 660)] }, { k := (.int .i64) }] }
noncomputable def spec_eval.A : Ann := { dp := fun d => isIn [] d, lp := look [(0, spec_eval.lvL0)], jn := look [(15, spec_eval.lvJ15)], pins := [], nt := 79 }
noncomputable def spec_eval.phis (N : Nat) : List (Nat × Sm D) := [(96, spec_takes.sm N), (97, spec_do.sm N), (98, spec_truth.sm N), (99, spec_told.sm N)]
noncomputable def spec_eval.a0 (N : Nat) (n : Nat) (y : (List (ImplStep)) × ImplEnv × ImplValue × (List (ImplValue)) × Int × Unit) : Option (ImplValue × Unit) := loopAt cx (look (spec_eval.phis N)) spec_eval.A N n (encL cx spec_eval.lvL0.ms y).1 (encL cx spec_eval.lvL0.ms y).2 (bodyOf Tryd.f61) 0 (Kfin cx spec_eval.A spec_eval.sg Tryd.f61.results.toList) [1, 1, 0, 1, 1] []
theorem spec_eval.r0 (N : Nat) : ∀ (n : Nat) (y : (List (ImplStep)) × ImplEnv × ImplValue × (List (ImplValue)) × Int × Unit), spec_eval.a0 N n y = spec_eval.L0 N n y
  | 0, y => by kernel_rfl
  | n + 1, y => by
    have h : spec_eval.a0 N (n + 1) y = spec_eval.B0 N (fun z => spec_eval.a0 N n z) y := by kernel_rfl
    have e : (fun z => spec_eval.a0 N n z) = spec_eval.L0 N n := funext fun z => spec_eval.r0 N n z
    rw [h]
    try rw [e]
    first | done | rfl
theorem spec_eval.run (N : Nat) (x : (List (ImplStep)) × ImplEnv × Unit) : runF cx (look (spec_eval.phis N)) spec_eval.A N (bodyOf Tryd.f61) Tryd.f61.results.toList spec_eval.sg x = spec_eval N x.1 x.2.1 := by
  have h : runF cx (look (spec_eval.phis N)) spec_eval.A N (bodyOf Tryd.f61) Tryd.f61.results.toList spec_eval.sg x = spec_eval.B N (fun z => spec_eval.a0 N N z) x.1 x.2.1 := by kernel_rfl
  have e0 : (fun z => spec_eval.a0 N N z) = spec_eval.L0 N N := funext fun z => spec_eval.r0 N N z
  rw [h, e0]
  try rfl
noncomputable def spec_eval.sm (N : Nat) : Sm D := (⟨spec_eval.sg, fun (x : (List (ImplStep)) × ImplEnv × Unit) => spec_eval N x.1 x.2.1⟩ : Sm D)
theorem spec_eval.sound (N : Nat) : Sound cx Tryd.prog gam 61 (spec_eval.sm N) := fn_sound (A := spec_eval.A) (Φ := (look (spec_eval.phis N))) pok (G := gam) (ΦOk.cons (spec_takes.sound N) (fnOk_of (f := 96) (by kernel_rfl)) (ΦOk.cons (spec_do.sound N) (fnOk_of (f := 97) (by kernel_rfl)) (ΦOk.cons (spec_truth.sound N) (fnOk_of (f := 98) (by kernel_rfl)) (ΦOk.cons (spec_told.sound N) (fnOk_of (f := 99) (by kernel_rfl)) ΦOk.nil)))) mixed N Tryd.func61 (c := (bodyOf Tryd.f61)) (by kernel_rfl) spec_eval.sg (by kernel_rfl) (by kernel_rfl) (by kernel_rfl) (spec_eval.run N)

@[reducible] def spec_FormValue.sg : Sg := { ms := [{ k := (.sl (.st 87)), fl := [none] }, { k := (.st 54) }], keep := [false, false], rs := [{ k := (.st 49) }] }
noncomputable def spec_FormValue.A : Ann := { dp := fun d => isIn [] d, lp := look [], jn := look [], pins := [], nt := 26 }
noncomputable def spec_FormValue.phis (N : Nat) : List (Nat × Sm D) := [(59, spec_validEnv.sm N), (60, spec_validForm.sm N), (61, spec_eval.sm N)]
theorem spec_FormValue.run (N : Nat) (x : (List (ImplStep)) × ImplEnv × Unit) : runF cx (look (spec_FormValue.phis N)) spec_FormValue.A N (bodyOf Tryd.f23) Tryd.f23.results.toList spec_FormValue.sg x = spec_FormValue N x.1 x.2.1 := by
  have h : runF cx (look (spec_FormValue.phis N)) spec_FormValue.A N (bodyOf Tryd.f23) Tryd.f23.results.toList spec_FormValue.sg x = spec_FormValue.B N x.1 x.2.1 := by kernel_rfl
  rw [h]
  try rfl
noncomputable def spec_FormValue.sm (N : Nat) : Sm D := (⟨spec_FormValue.sg, fun (x : (List (ImplStep)) × ImplEnv × Unit) => spec_FormValue N x.1 x.2.1⟩ : Sm D)
theorem spec_FormValue.sound (N : Nat) : Sound cx Tryd.prog gam 23 (spec_FormValue.sm N) := fn_sound (A := spec_FormValue.A) (Φ := (look (spec_FormValue.phis N))) pok (G := gam) (ΦOk.cons (spec_validEnv.sound N) (fnOk_of (f := 59) (by kernel_rfl)) (ΦOk.cons (spec_validForm.sound N) (fnOk_of (f := 60) (by kernel_rfl)) (ΦOk.cons (spec_eval.sound N) (fnOk_of (f := 61) (by kernel_rfl)) ΦOk.nil))) mixed N Tryd.func23 (c := (bodyOf Tryd.f23)) (by kernel_rfl) spec_FormValue.sg (by kernel_rfl) (by kernel_rfl) (by kernel_rfl) (spec_FormValue.run N)

@[reducible] def impl_envOk.sg : Sg := { ms := [{ k := (.st 54) }], keep := [false], rs := [{ k := .bool }] }
@[reducible] def impl_envOk.lvL0 : Lv := { id := 0, slots := [1, 6, 7, 8], ms := [{ ptr := true, id := 600, t := 55, k := (.st 54), fl := [none, none, none, none] }, { k := (.sl (.int .i64)), fl := [none] }, { k := (.int .i64) }, { k := (.int .i64) }] }
noncomputable def impl_envOk.A : Ann := { dp := fun d => isIn [] d, lp := look [(0, impl_envOk.lvL0)], jn := look [], pins := [], nt := 53 }
noncomputable def impl_envOk.phis (N : Nat) : List (Nat × Sm D) := [(43, impl_within.sm N), (73, impl_valsOk.sm N)]
noncomputable def impl_envOk.a0 (N : Nat) (n : Nat) (y : ImplEnv × (List (Int)) × Int × Int × Unit) : Option (Bool × Unit) := loopAt cx (look (impl_envOk.phis N)) impl_envOk.A N n (encL cx impl_envOk.lvL0.ms y).1 (encL cx impl_envOk.lvL0.ms y).2 (bodyOf Tryd.f65) 0 (Kfin cx impl_envOk.A impl_envOk.sg Tryd.f65.results.toList) [1, 0, 1, 1] []
theorem impl_envOk.r0 (N : Nat) : ∀ (n : Nat) (y : ImplEnv × (List (Int)) × Int × Int × Unit), impl_envOk.a0 N n y = impl_envOk.L0 N n y
  | 0, y => by kernel_rfl
  | n + 1, y => by
    have h : impl_envOk.a0 N (n + 1) y = impl_envOk.B0 N (fun z => impl_envOk.a0 N n z) y := by kernel_rfl
    have e : (fun z => impl_envOk.a0 N n z) = impl_envOk.L0 N n := funext fun z => impl_envOk.r0 N n z
    rw [h]
    try rw [e]
    first | done | rfl
theorem impl_envOk.run (N : Nat) (x : ImplEnv × Unit) : runF cx (look (impl_envOk.phis N)) impl_envOk.A N (bodyOf Tryd.f65) Tryd.f65.results.toList impl_envOk.sg x = impl_envOk N x.1 := by
  have h : runF cx (look (impl_envOk.phis N)) impl_envOk.A N (bodyOf Tryd.f65) Tryd.f65.results.toList impl_envOk.sg x = impl_envOk.B N (fun z => impl_envOk.a0 N N z) x.1 := by kernel_rfl
  have e0 : (fun z => impl_envOk.a0 N N z) = impl_envOk.L0 N N := funext fun z => impl_envOk.r0 N N z
  rw [h, e0]
  try rfl
noncomputable def impl_envOk.sm (N : Nat) : Sm D := (⟨impl_envOk.sg, fun (x : ImplEnv × Unit) => impl_envOk N x.1⟩ : Sm D)
theorem impl_envOk.sound (N : Nat) : Sound cx Tryd.prog gam 65 (impl_envOk.sm N) := fn_sound (A := impl_envOk.A) (Φ := (look (impl_envOk.phis N))) pok (G := gam) (ΦOk.cons (impl_within.sound N) (fnOk_of (f := 43) (by kernel_rfl)) (ΦOk.cons (impl_valsOk.sound N) (fnOk_of (f := 73) (by kernel_rfl)) ΦOk.nil)) mixed N Tryd.func65 (c := (bodyOf Tryd.f65)) (by kernel_rfl) impl_envOk.sg (by kernel_rfl) (by kernel_rfl) (by kernel_rfl) (impl_envOk.run N)

@[reducible] def impl_FormValue.sg : Sg := { ms := [{ k := (.sl (.st 87)), fl := [none] }, { k := (.st 54) }], keep := [false, false], rs := [{ k := (.st 49) }] }
noncomputable def impl_FormValue.A : Ann := { dp := fun d => isIn [] d, lp := look [], jn := look [], pins := [], nt := 26 }
noncomputable def impl_FormValue.phis (N : Nat) : List (Nat × Sm D) := [(65, impl_envOk.sm N), (44, impl_FormOk.sm N), (66, impl_formRun.sm N)]
theorem impl_FormValue.run (N : Nat) (x : (List (ImplStep)) × ImplEnv × Unit) : runF cx (look (impl_FormValue.phis N)) impl_FormValue.A N (bodyOf Tryd.f26) Tryd.f26.results.toList impl_FormValue.sg x = impl_FormValue N x.1 x.2.1 := by
  have h : runF cx (look (impl_FormValue.phis N)) impl_FormValue.A N (bodyOf Tryd.f26) Tryd.f26.results.toList impl_FormValue.sg x = impl_FormValue.B N x.1 x.2.1 := by kernel_rfl
  rw [h]
  try rfl
noncomputable def impl_FormValue.sm (N : Nat) : Sm D := (⟨impl_FormValue.sg, fun (x : (List (ImplStep)) × ImplEnv × Unit) => impl_FormValue N x.1 x.2.1⟩ : Sm D)
theorem impl_FormValue.sound (N : Nat) : Sound cx Tryd.prog gam 26 (impl_FormValue.sm N) := fn_sound (A := impl_FormValue.A) (Φ := (look (impl_FormValue.phis N))) pok (G := gam) (ΦOk.cons (impl_envOk.sound N) (fnOk_of (f := 65) (by kernel_rfl)) (ΦOk.cons (impl_FormOk.sound N) (fnOk_of (f := 44) (by kernel_rfl)) (ΦOk.cons (impl_formRun.sound N) (fnOk_of (f := 66) (by kernel_rfl)) ΦOk.nil))) mixed N Tryd.func26 (c := (bodyOf Tryd.f26)) (by kernel_rfl) impl_FormValue.sg (by kernel_rfl) (by kernel_rfl) (by kernel_rfl) (impl_FormValue.run N)

@[reducible] def laws_eqValue.sg : Sg := { ms := [{ k := (.st 49) }, { k := (.st 49) }], keep := [false, false], rs := [{ k := .bool }] }
noncomputable def laws_eqValue.A : Ann := { dp := fun d => isIn [] d, lp := look [], jn := look [], pins := [], nt := 20 }
noncomputable def laws_eqValue.phis (N : Nat) : List (Nat × Sm D) := []
theorem laws_eqValue.run (N : Nat) (x : ImplValue × ImplValue × Unit) : runF cx (look (laws_eqValue.phis N)) laws_eqValue.A N (bodyOf Tryd.f27) Tryd.f27.results.toList laws_eqValue.sg x = laws_eqValue N x.1 x.2.1 := by
  have h : runF cx (look (laws_eqValue.phis N)) laws_eqValue.A N (bodyOf Tryd.f27) Tryd.f27.results.toList laws_eqValue.sg x = laws_eqValue.B N x.1 x.2.1 := by kernel_rfl
  rw [h]
  try rfl
noncomputable def laws_eqValue.sm (N : Nat) : Sm D := (⟨laws_eqValue.sg, fun (x : ImplValue × ImplValue × Unit) => laws_eqValue N x.1 x.2.1⟩ : Sm D)
theorem laws_eqValue.sound (N : Nat) : Sound cx Tryd.prog gam 27 (laws_eqValue.sm N) := fn_sound (A := laws_eqValue.A) (Φ := (look (laws_eqValue.phis N))) pok (G := gam) ΦOk.nil mixed N Tryd.func27 (c := (bodyOf Tryd.f27)) (by kernel_rfl) laws_eqValue.sg (by kernel_rfl) (by kernel_rfl) (by kernel_rfl) (laws_eqValue.run N)

@[reducible] def laws_eqStep.sg : Sg := { ms := [{ k := (.st 87) }, { k := (.st 87) }], keep := [false, false], rs := [{ k := .bool }] }
noncomputable def laws_eqStep.A : Ann := { dp := fun d => isIn [] d, lp := look [], jn := look [], pins := [], nt := 21 }
noncomputable def laws_eqStep.phis (N : Nat) : List (Nat × Sm D) := [(27, laws_eqValue.sm N)]
theorem laws_eqStep.run (N : Nat) (x : ImplStep × ImplStep × Unit) : runF cx (look (laws_eqStep.phis N)) laws_eqStep.A N (bodyOf Tryd.f67) Tryd.f67.results.toList laws_eqStep.sg x = laws_eqStep N x.1 x.2.1 := by
  have h : runF cx (look (laws_eqStep.phis N)) laws_eqStep.A N (bodyOf Tryd.f67) Tryd.f67.results.toList laws_eqStep.sg x = laws_eqStep.B N x.1 x.2.1 := by kernel_rfl
  rw [h]
  try rfl
noncomputable def laws_eqStep.sm (N : Nat) : Sm D := (⟨laws_eqStep.sg, fun (x : ImplStep × ImplStep × Unit) => laws_eqStep N x.1 x.2.1⟩ : Sm D)
theorem laws_eqStep.sound (N : Nat) : Sound cx Tryd.prog gam 67 (laws_eqStep.sm N) := fn_sound (A := laws_eqStep.A) (Φ := (look (laws_eqStep.phis N))) pok (G := gam) (ΦOk.cons (laws_eqValue.sound N) (fnOk_of (f := 27) (by kernel_rfl)) ΦOk.nil) mixed N Tryd.func67 (c := (bodyOf Tryd.f67)) (by kernel_rfl) laws_eqStep.sg (by kernel_rfl) (by kernel_rfl) (by kernel_rfl) (laws_eqStep.run N)

@[reducible] def laws_eqStepS.sg : Sg := { ms := [{ k := (.sl (.st 87)), fl := [none] }, { k := (.sl (.st 87)), fl := [none] }], keep := [false, false], rs := [{ k := .bool }] }
@[reducible] def laws_eqStepS.lvL0 : Lv := { id := 0, slots := [0, 1, 5], ms := [{ k := (.sl (.st 87)), fl := [none] }, { k := (.sl (.st 87)), fl := [none] }, { k := (.int .i64) }] }
noncomputable def laws_eqStepS.A : Ann := { dp := fun d => isIn [] d, lp := look [(0, laws_eqStepS.lvL0)], jn := look [], pins := [], nt := 27 }
noncomputable def laws_eqStepS.phis (N : Nat) : List (Nat × Sm D) := [(67, laws_eqStep.sm N)]
noncomputable def laws_eqStepS.a0 (N : Nat) (n : Nat) (y : (List (ImplStep)) × (List (ImplStep)) × Int × Unit) : Option (Bool × Unit) := loopAt cx (look (laws_eqStepS.phis N)) laws_eqStepS.A N n (encL cx laws_eqStepS.lvL0.ms y).1 (encL cx laws_eqStepS.lvL0.ms y).2 (bodyOf Tryd.f28) 0 (Kfin cx laws_eqStepS.A laws_eqStepS.sg Tryd.f28.results.toList) [1, 1, 0, 1, 1] []
theorem laws_eqStepS.r0 (N : Nat) : ∀ (n : Nat) (y : (List (ImplStep)) × (List (ImplStep)) × Int × Unit), laws_eqStepS.a0 N n y = laws_eqStepS.L0 N n y
  | 0, y => by kernel_rfl
  | n + 1, y => by
    have h : laws_eqStepS.a0 N (n + 1) y = laws_eqStepS.B0 N (fun z => laws_eqStepS.a0 N n z) y := by kernel_rfl
    have e : (fun z => laws_eqStepS.a0 N n z) = laws_eqStepS.L0 N n := funext fun z => laws_eqStepS.r0 N n z
    rw [h]
    try rw [e]
    first | done | rfl
theorem laws_eqStepS.run (N : Nat) (x : (List (ImplStep)) × (List (ImplStep)) × Unit) : runF cx (look (laws_eqStepS.phis N)) laws_eqStepS.A N (bodyOf Tryd.f28) Tryd.f28.results.toList laws_eqStepS.sg x = laws_eqStepS N x.1 x.2.1 := by
  have h : runF cx (look (laws_eqStepS.phis N)) laws_eqStepS.A N (bodyOf Tryd.f28) Tryd.f28.results.toList laws_eqStepS.sg x = laws_eqStepS.B N (fun z => laws_eqStepS.a0 N N z) x.1 x.2.1 := by kernel_rfl
  have e0 : (fun z => laws_eqStepS.a0 N N z) = laws_eqStepS.L0 N N := funext fun z => laws_eqStepS.r0 N N z
  rw [h, e0]
  try rfl
noncomputable def laws_eqStepS.sm (N : Nat) : Sm D := (⟨laws_eqStepS.sg, fun (x : (List (ImplStep)) × (List (ImplStep)) × Unit) => laws_eqStepS N x.1 x.2.1⟩ : Sm D)
theorem laws_eqStepS.sound (N : Nat) : Sound cx Tryd.prog gam 28 (laws_eqStepS.sm N) := fn_sound (A := laws_eqStepS.A) (Φ := (look (laws_eqStepS.phis N))) pok (G := gam) (ΦOk.cons (laws_eqStep.sound N) (fnOk_of (f := 67) (by kernel_rfl)) ΦOk.nil) mixed N Tryd.func28 (c := (bodyOf Tryd.f28)) (by kernel_rfl) laws_eqStepS.sg (by kernel_rfl) (by kernel_rfl) (by kernel_rfl) (laws_eqStepS.run N)

@[reducible] def laws_eqValueS.sg : Sg := { ms := [{ k := (.sl (.st 49)), fl := [none] }, { k := (.sl (.st 49)), fl := [none] }], keep := [false, false], rs := [{ k := .bool }] }
@[reducible] def laws_eqValueS.lvL0 : Lv := { id := 0, slots := [0, 1, 5], ms := [{ k := (.sl (.st 49)), fl := [none] }, { k := (.sl (.st 49)), fl := [none] }, { k := (.int .i64) }] }
noncomputable def laws_eqValueS.A : Ann := { dp := fun d => isIn [] d, lp := look [(0, laws_eqValueS.lvL0)], jn := look [], pins := [], nt := 27 }
noncomputable def laws_eqValueS.phis (N : Nat) : List (Nat × Sm D) := [(27, laws_eqValue.sm N)]
noncomputable def laws_eqValueS.a0 (N : Nat) (n : Nat) (y : (List (ImplValue)) × (List (ImplValue)) × Int × Unit) : Option (Bool × Unit) := loopAt cx (look (laws_eqValueS.phis N)) laws_eqValueS.A N n (encL cx laws_eqValueS.lvL0.ms y).1 (encL cx laws_eqValueS.lvL0.ms y).2 (bodyOf Tryd.f68) 0 (Kfin cx laws_eqValueS.A laws_eqValueS.sg Tryd.f68.results.toList) [1, 1, 0, 1, 1] []
theorem laws_eqValueS.r0 (N : Nat) : ∀ (n : Nat) (y : (List (ImplValue)) × (List (ImplValue)) × Int × Unit), laws_eqValueS.a0 N n y = laws_eqValueS.L0 N n y
  | 0, y => by kernel_rfl
  | n + 1, y => by
    have h : laws_eqValueS.a0 N (n + 1) y = laws_eqValueS.B0 N (fun z => laws_eqValueS.a0 N n z) y := by kernel_rfl
    have e : (fun z => laws_eqValueS.a0 N n z) = laws_eqValueS.L0 N n := funext fun z => laws_eqValueS.r0 N n z
    rw [h]
    try rw [e]
    first | done | rfl
theorem laws_eqValueS.run (N : Nat) (x : (List (ImplValue)) × (List (ImplValue)) × Unit) : runF cx (look (laws_eqValueS.phis N)) laws_eqValueS.A N (bodyOf Tryd.f68) Tryd.f68.results.toList laws_eqValueS.sg x = laws_eqValueS N x.1 x.2.1 := by
  have h : runF cx (look (laws_eqValueS.phis N)) laws_eqValueS.A N (bodyOf Tryd.f68) Tryd.f68.results.toList laws_eqValueS.sg x = laws_eqValueS.B N (fun z => laws_eqValueS.a0 N N z) x.1 x.2.1 := by kernel_rfl
  have e0 : (fun z => laws_eqValueS.a0 N N z) = laws_eqValueS.L0 N N := funext fun z => laws_eqValueS.r0 N N z
  rw [h, e0]
  try rfl
noncomputable def laws_eqValueS.sm (N : Nat) : Sm D := (⟨laws_eqValueS.sg, fun (x : (List (ImplValue)) × (List (ImplValue)) × Unit) => laws_eqValueS N x.1 x.2.1⟩ : Sm D)
theorem laws_eqValueS.sound (N : Nat) : Sound cx Tryd.prog gam 68 (laws_eqValueS.sm N) := fn_sound (A := laws_eqValueS.A) (Φ := (look (laws_eqValueS.phis N))) pok (G := gam) (ΦOk.cons (laws_eqValue.sound N) (fnOk_of (f := 27) (by kernel_rfl)) ΦOk.nil) mixed N Tryd.func68 (c := (bodyOf Tryd.f68)) (by kernel_rfl) laws_eqValueS.sg (by kernel_rfl) (by kernel_rfl) (by kernel_rfl) (laws_eqValueS.run N)

@[reducible] def laws_eqIntS.sg : Sg := { ms := [{ k := (.sl (.int .i64)), fl := [none] }, { k := (.sl (.int .i64)), fl := [none] }], keep := [false, false], rs := [{ k := .bool }] }
@[reducible] def laws_eqIntS.lvL0 : Lv := { id := 0, slots := [0, 1, 5], ms := [{ k := (.sl (.int .i64)), fl := [none] }, { k := (.sl (.int .i64)), fl := [none] }, { k := (.int .i64) }] }
noncomputable def laws_eqIntS.A : Ann := { dp := fun d => isIn [] d, lp := look [(0, laws_eqIntS.lvL0)], jn := look [], pins := [], nt := 26 }
noncomputable def laws_eqIntS.phis (N : Nat) : List (Nat × Sm D) := []
noncomputable def laws_eqIntS.a0 (N : Nat) (n : Nat) (y : (List (Int)) × (List (Int)) × Int × Unit) : Option (Bool × Unit) := loopAt cx (look (laws_eqIntS.phis N)) laws_eqIntS.A N n (encL cx laws_eqIntS.lvL0.ms y).1 (encL cx laws_eqIntS.lvL0.ms y).2 (bodyOf Tryd.f69) 0 (Kfin cx laws_eqIntS.A laws_eqIntS.sg Tryd.f69.results.toList) [1, 1, 0, 1, 1] []
theorem laws_eqIntS.r0 (N : Nat) : ∀ (n : Nat) (y : (List (Int)) × (List (Int)) × Int × Unit), laws_eqIntS.a0 N n y = laws_eqIntS.L0 N n y
  | 0, y => by kernel_rfl
  | n + 1, y => by
    have h : laws_eqIntS.a0 N (n + 1) y = laws_eqIntS.B0 N (fun z => laws_eqIntS.a0 N n z) y := by kernel_rfl
    have e : (fun z => laws_eqIntS.a0 N n z) = laws_eqIntS.L0 N n := funext fun z => laws_eqIntS.r0 N n z
    rw [h]
    try rw [e]
    first | done | rfl
theorem laws_eqIntS.run (N : Nat) (x : (List (Int)) × (List (Int)) × Unit) : runF cx (look (laws_eqIntS.phis N)) laws_eqIntS.A N (bodyOf Tryd.f69) Tryd.f69.results.toList laws_eqIntS.sg x = laws_eqIntS N x.1 x.2.1 := by
  have h : runF cx (look (laws_eqIntS.phis N)) laws_eqIntS.A N (bodyOf Tryd.f69) Tryd.f69.results.toList laws_eqIntS.sg x = laws_eqIntS.B N (fun z => laws_eqIntS.a0 N N z) x.1 x.2.1 := by kernel_rfl
  have e0 : (fun z => laws_eqIntS.a0 N N z) = laws_eqIntS.L0 N N := funext fun z => laws_eqIntS.r0 N N z
  rw [h, e0]
  try rfl
noncomputable def laws_eqIntS.sm (N : Nat) : Sm D := (⟨laws_eqIntS.sg, fun (x : (List (Int)) × (List (Int)) × Unit) => laws_eqIntS N x.1 x.2.1⟩ : Sm D)
theorem laws_eqIntS.sound (N : Nat) : Sound cx Tryd.prog gam 69 (laws_eqIntS.sm N) := fn_sound (A := laws_eqIntS.A) (Φ := (look (laws_eqIntS.phis N))) pok (G := gam) ΦOk.nil mixed N Tryd.func69 (c := (bodyOf Tryd.f69)) (by kernel_rfl) laws_eqIntS.sg (by kernel_rfl) (by kernel_rfl) (by kernel_rfl) (laws_eqIntS.run N)

end
end Go.Ev
