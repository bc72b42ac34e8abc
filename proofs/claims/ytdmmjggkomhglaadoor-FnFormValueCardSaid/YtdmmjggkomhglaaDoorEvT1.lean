/- Each function that the law reaches does what its plain form says; no condition beyond the table of the library. -/
import Derived.Test.YtdmmjggkomhglaaDoorEvT0
set_option linter.all false
set_option linter.unusedVariables false
set_option linter.unusedSimpArgs false
set_option maxRecDepth 100000
set_option maxHeartbeats 0
namespace Go.Ev
noncomputable section
open Go.Proofs
@[reducible] def impl_truth.sg : Sg := { ms := [{ k := .bool }], keep := [false], rs := [{ k := (.st 30) }] }
noncomputable def impl_truth.A : Ann := { dp := fun d => isIn [] d, lp := look [], jn := look [], pins := [], nt := 6 }
noncomputable def impl_truth.phis (N : Nat) : List (Nat × Sm D) := [(31, impl_number.sm N)]
theorem impl_truth.run (N : Nat) (x : Bool × Unit) : runF cx (look (impl_truth.phis N)) impl_truth.A N (bodyOf Tryd.f46) Tryd.f46.results.toList impl_truth.sg x = impl_truth N x.1 := by
  have h : runF cx (look (impl_truth.phis N)) impl_truth.A N (bodyOf Tryd.f46) Tryd.f46.results.toList impl_truth.sg x = impl_truth.B N x.1 := by kernel_rfl
  rw [h]
  try rfl
noncomputable def impl_truth.sm (N : Nat) : Sm D := (⟨impl_truth.sg, fun (x : Bool × Unit) => impl_truth N x.1⟩ : Sm D)
theorem impl_truth.sound (N : Nat) : Sound cx Tryd.prog gam 46 (impl_truth.sm N) := fn_sound (A := impl_truth.A) (Φ := (look (impl_truth.phis N))) pok (G := gam) (ΦOk.cons (impl_number.sound N) (fnOk_of (f := 31) (by kernel_rfl)) ΦOk.nil) mixed N Tryd.func46 (c := (bodyOf Tryd.f46)) (by kernel_rfl) impl_truth.sg (by kernel_rfl) (by kernel_rfl) (by kernel_rfl) (impl_truth.run N)

@[reducible] def impl_ValShow.sg : Sg := { ms := [{ k := (.st 30) }], keep := [false], rs := [{ k := .str }] }
noncomputable def impl_ValShow.A : Ann := { dp := fun d => isIn [] d, lp := look [], jn := look [], pins := [], nt := 19 }
noncomputable def impl_ValShow.phis (N : Nat) : List (Nat × Sm D) := [(11, impl_ValOk.sm N), (65, LibItoa.sm N)]
theorem impl_ValShow.run (N : Nat) (x : ImplValue × Unit) : runF cx (look (impl_ValShow.phis N)) impl_ValShow.A N (bodyOf Tryd.f47) Tryd.f47.results.toList impl_ValShow.sg x = impl_ValShow N x.1 := by
  have h : runF cx (look (impl_ValShow.phis N)) impl_ValShow.A N (bodyOf Tryd.f47) Tryd.f47.results.toList impl_ValShow.sg x = impl_ValShow.B N x.1 := by kernel_rfl
  rw [h]
  try rfl
noncomputable def impl_ValShow.sm (N : Nat) : Sm D := (⟨impl_ValShow.sg, fun (x : ImplValue × Unit) => impl_ValShow N x.1⟩ : Sm D)
theorem impl_ValShow.sound (N : Nat) : Sound cx Tryd.prog gam 47 (impl_ValShow.sm N) := fn_sound (A := impl_ValShow.A) (Φ := (look (impl_ValShow.phis N))) pok (G := gam) (ΦOk.cons (impl_ValOk.sound N) (fnOk_of (f := 11) (by kernel_rfl)) (ΦOk.cons (LibItoa.sound N) (fnOk_of (f := 65) (by kernel_rfl)) ΦOk.nil)) mixed N Tryd.func47 (c := (bodyOf Tryd.f47)) (by kernel_rfl) impl_ValShow.sg (by kernel_rfl) (by kernel_rfl) (by kernel_rfl) (impl_ValShow.run N)

@[reducible] def impl_ValTrue.sg : Sg := { ms := [{ k := (.st 30) }], keep := [false], rs := [{ k := .bool }] }
noncomputable def impl_ValTrue.A : Ann := { dp := fun d => isIn [] d, lp := look [], jn := look [], pins := [], nt := 25 }
noncomputable def impl_ValTrue.phis (N : Nat) : List (Nat × Sm D) := [(11, impl_ValOk.sm N)]
theorem impl_ValTrue.run (N : Nat) (x : ImplValue × Unit) : runF cx (look (impl_ValTrue.phis N)) impl_ValTrue.A N (bodyOf Tryd.f33) Tryd.f33.results.toList impl_ValTrue.sg x = impl_ValTrue N x.1 := by
  have h : runF cx (look (impl_ValTrue.phis N)) impl_ValTrue.A N (bodyOf Tryd.f33) Tryd.f33.results.toList impl_ValTrue.sg x = impl_ValTrue.B N x.1 := by kernel_rfl
  rw [h]
  try rfl
noncomputable def impl_ValTrue.sm (N : Nat) : Sm D := (⟨impl_ValTrue.sg, fun (x : ImplValue × Unit) => impl_ValTrue N x.1⟩ : Sm D)
theorem impl_ValTrue.sound (N : Nat) : Sound cx Tryd.prog gam 33 (impl_ValTrue.sm N) := fn_sound (A := impl_ValTrue.A) (Φ := (look (impl_ValTrue.phis N))) pok (G := gam) (ΦOk.cons (impl_ValOk.sound N) (fnOk_of (f := 11) (by kernel_rfl)) ΦOk.nil) mixed N Tryd.func33 (c := (bodyOf Tryd.f33)) (by kernel_rfl) impl_ValTrue.sg (by kernel_rfl) (by kernel_rfl) (by kernel_rfl) (impl_ValTrue.run N)

@[reducible] def impl_ValDo.sg : Sg := { ms := [{ k := (.int .i64) }, { k := (.st 30) }, { k := (.st 30) }], keep := [false, false, false], rs := [{ k := (.st 30) }] }
@[reducible] def impl_ValDo.lvJ19 : Lv := { id := 19, slots := [6, 7], ms := [{ ptr := true, id := 600, t := 31, k := (.st 30), fl := [none, none, none] }, { k := (.int .i64) }] }
noncomputable def impl_ValDo.A : Ann := { dp := fun d => isIn [] d, lp := look [], jn := look [(19, impl_ValDo.lvJ19)], pins := [], nt := 93 }
noncomputable def impl_ValDo.phis (N : Nat) : List (Nat × Sm D) := [(11, impl_ValOk.sm N), (46, impl_truth.sm N), (22, impl_within.sm N), (31, impl_number.sm N), (47, impl_ValShow.sm N), (33, impl_ValTrue.sm N)]
theorem impl_ValDo.run (N : Nat) (x : Int × ImplValue × ImplValue × Unit) : runF cx (look (impl_ValDo.phis N)) impl_ValDo.A N (bodyOf Tryd.f32) Tryd.f32.results.toList impl_ValDo.sg x = impl_ValDo N x.1 x.2.1 x.2.2.1 := by
  have h : runF cx (look (impl_ValDo.phis N)) impl_ValDo.A N (bodyOf Tryd.f32) Tryd.f32.results.toList impl_ValDo.sg x = impl_ValDo.B N x.1 x.2.1 x.2.2.1 := by kernel_rfl
  rw [h]
  try rfl
noncomputable def impl_ValDo.sm (N : Nat) : Sm D := (⟨impl_ValDo.sg, fun (x : Int × ImplValue × ImplValue × Unit) => impl_ValDo N x.1 x.2.1 x.2.2.1⟩ : Sm D)
theorem impl_ValDo.sound (N : Nat) : Sound cx Tryd.prog gam 32 (impl_ValDo.sm N) := fn_sound (A := impl_ValDo.A) (Φ := (look (impl_ValDo.phis N))) pok (G := gam) (ΦOk.cons (impl_ValOk.sound N) (fnOk_of (f := 11) (by kernel_rfl)) (ΦOk.cons (impl_truth.sound N) (fnOk_of (f := 46) (by kernel_rfl)) (ΦOk.cons (impl_within.sound N) (fnOk_of (f := 22) (by kernel_rfl)) (ΦOk.cons (impl_number.sound N) (fnOk_of (f := 31) (by kernel_rfl)) (ΦOk.cons (impl_ValShow.sound N) (fnOk_of (f := 47) (by kernel_rfl)) (ΦOk.cons (impl_ValTrue.sound N) (fnOk_of (f := 33) (by kernel_rfl)) ΦOk.nil)))))) mixed N Tryd.func32 (c := (bodyOf Tryd.f32)) (by kernel_rfl) impl_ValDo.sg (by kernel_rfl) (by kernel_rfl) (by kernel_rfl) (impl_ValDo.run N)

@[reducible] def impl_formRun.sg : Sg := { ms := [{ k := (.sl (.st 45)), fl := [none] }, { k := (.st 26) }], keep := [false, false], rs := [{ k := (.st 30) }] }
@[reducible] def impl_formRun.lvJ23 : Lv := { id := 23, slots := [3, 4, 5, 8, 9, 11, 12, 13], ms := [{ ptr := true, id := 600, t := 27, k := (.st 26), fl := [none, none, none, none] }, { ptr := true, id := 620, t := 31, k := (.st 30), fl := [none, none, none] }, { k := (.sl (.st 30)), fl := [some (false, 640)] }, { k := (.int .i64) }, { ptr := true, id := 680, t := 31, k := (.st 30), fl := [none, none, none] }, { k := (.sl (.st 45)), fl := [none] }, { k := (.int .i64) }, { k := (.int .i64) }] }
@[reducible] def impl_formRun.lvL0 : Lv := { id := 0, slots := [3, 4, 5, 11, 12, 13], ms := [{ ptr := true, id := 600, t := 27, k := (.st 26), fl := [none, none, none, none] }, { ptr := true, id := 620, t := 31, k := (.st 30), fl := [none, none, none] }, { k := (.sl (.st 30)), fl := [some (false, 640)] }, { k := (.sl (.st 45)), fl := [none] }, { k := (.int .i64) }, { k := (.int .i64) }] }
noncomputable def impl_formRun.A : Ann := { dp := fun d => isIn [] d, lp := look [(0, impl_formRun.lvL0)], jn := look [(23, impl_formRun.lvJ23)], pins := [], nt := 128 }
noncomputable def impl_formRun.phis (N : Nat) : List (Nat × Sm D) := [(31, impl_number.sm N), (32, impl_ValDo.sm N), (33, impl_ValTrue.sm N)]
noncomputable def impl_formRun.a0 (N : Nat) (n : Nat) (y : ImplEnv × ImplValue × (List (ImplValue)) × (List (ImplStep)) × Int × Int × Unit) : Option (ImplValue × Unit) := loopAt cx (look (impl_formRun.phis N)) impl_formRun.A N n (encL cx impl_formRun.lvL0.ms y).1 (encL cx impl_formRun.lvL0.ms y).2 (bodyOf Tryd.f18) 0 (Kfin cx impl_formRun.A impl_formRun.sg Tryd.f18.results.toList) [1, 1, 0, 1, 1] []
theorem impl_formRun.r0 (N : Nat) : ∀ (n : Nat) (y : ImplEnv × ImplValue × (List (ImplValue)) × (List (ImplStep)) × Int × Int × Unit), impl_formRun.a0 N n y = impl_formRun.L0 N n y
  | 0, y => by kernel_rfl
  | n + 1, y => by
    have h : impl_formRun.a0 N (n + 1) y = impl_formRun.B0 N (fun z => impl_formRun.a0 N n z) y := by kernel_rfl
    have e : (fun z => impl_formRun.a0 N n z) = impl_formRun.L0 N n := funext fun z => impl_formRun.r0 N n z
    rw [h]
    try rw [e]
    first | done | rfl
theorem impl_formRun.run (N : Nat) (x : (List (ImplStep)) × ImplEnv × Unit) : runF cx (look (impl_formRun.phis N)) impl_formRun.A N (bodyOf Tryd.f18) Tryd.f18.results.toList impl_formRun.sg x = impl_formRun N x.1 x.2.1 := by
  have h : runF cx (look (impl_formRun.phis N)) impl_formRun.A N (bodyOf Tryd.f18) Tryd.f18.results.toList impl_formRun.sg x = impl_formRun.B N (fun z => impl_formRun.a0 N N z) x.1 x.2.1 := by kernel_rfl
  have e0 : (fun z => impl_formRun.a0 N N z) = impl_formRun.L0 N N := funext fun z => impl_formRun.r0 N N z
  rw [h, e0]
  try rfl
noncomputable def impl_formRun.sm (N : Nat) : Sm D := (⟨impl_formRun.sg, fun (x : (List (ImplStep)) × ImplEnv × Unit) => impl_formRun N x.1 x.2.1⟩ : Sm D)
theorem impl_formRun.sound (N : Nat) : Sound cx Tryd.prog gam 18 (impl_formRun.sm N) := fn_sound (A := impl_formRun.A) (Φ := (look (impl_formRun.phis N))) pok (G := gam) (ΦOk.cons (impl_number.sound N) (fnOk_of (f := 31) (by kernel_rfl)) (ΦOk.cons (impl_ValDo.sound N) (fnOk_of (f := 32) (by kernel_rfl)) (ΦOk.cons (impl_ValTrue.sound N) (fnOk_of (f := 33) (by kernel_rfl)) ΦOk.nil))) mixed N Tryd.func18 (c := (bodyOf Tryd.f18)) (by kernel_rfl) impl_formRun.sg (by kernel_rfl) (by kernel_rfl) (by kernel_rfl) (impl_formRun.run N)

@[reducible] def impl_FormValue.sg : Sg := { ms := [{ k := (.sl (.st 45)), fl := [none] }, { k := (.st 26) }], keep := [false, false], rs := [{ k := (.st 30) }] }
noncomputable def impl_FormValue.A : Ann := { dp := fun d => isIn [] d, lp := look [], jn := look [], pins := [], nt := 26 }
noncomputable def impl_FormValue.phis (N : Nat) : List (Nat × Sm D) := [(17, impl_envOk.sm N), (7, impl_FormOk.sm N), (18, impl_formRun.sm N)]
theorem impl_FormValue.run (N : Nat) (x : (List (ImplStep)) × ImplEnv × Unit) : runF cx (look (impl_FormValue.phis N)) impl_FormValue.A N (bodyOf Tryd.f5) Tryd.f5.results.toList impl_FormValue.sg x = impl_FormValue N x.1 x.2.1 := by
  have h : runF cx (look (impl_FormValue.phis N)) impl_FormValue.A N (bodyOf Tryd.f5) Tryd.f5.results.toList impl_FormValue.sg x = impl_FormValue.B N x.1 x.2.1 := by kernel_rfl
  rw [h]
  try rfl
noncomputable def impl_FormValue.sm (N : Nat) : Sm D := (⟨impl_FormValue.sg, fun (x : (List (ImplStep)) × ImplEnv × Unit) => impl_FormValue N x.1 x.2.1⟩ : Sm D)
theorem impl_FormValue.sound (N : Nat) : Sound cx Tryd.prog gam 5 (impl_FormValue.sm N) := fn_sound (A := impl_FormValue.A) (Φ := (look (impl_FormValue.phis N))) pok (G := gam) (ΦOk.cons (impl_envOk.sound N) (fnOk_of (f := 17) (by kernel_rfl)) (ΦOk.cons (impl_FormOk.sound N) (fnOk_of (f := 7) (by kernel_rfl)) (ΦOk.cons (impl_formRun.sound N) (fnOk_of (f := 18) (by kernel_rfl)) ΦOk.nil))) mixed N Tryd.func5 (c := (bodyOf Tryd.f5)) (by kernel_rfl) impl_FormValue.sg (by kernel_rfl) (by kernel_rfl) (by kernel_rfl) (impl_FormValue.run N)

@[reducible] def spec_validValues.sg : Sg := { ms := [{ k := (.sl (.st 30)), fl := [none] }], keep := [false], rs := [{ k := .bool }] }
@[reducible] def spec_validValues.lvL0 : Lv := { id := 0, slots := [0, 3], ms := [{ k := (.sl (.st 30)), fl := [none] }, { k := (.int .i64) }] }
noncomputable def spec_validValues.A : Ann := { dp := fun d => isIn [] d, lp := look [(0, spec_validValues.lvL0)], jn := look [], pins := [], nt := 16 }
noncomputable def spec_validValues.phis (N : Nat) : List (Nat × Sm D) := [(45, spec_validValue.sm N)]
noncomputable def spec_validValues.a0 (N : Nat) (n : Nat) (y : (List (ImplValue)) × Int × Unit) : Option (Bool × Unit) := loopAt cx (look (spec_validValues.phis N)) spec_validValues.A N n (encL cx spec_validValues.lvL0.ms y).1 (encL cx spec_validValues.lvL0.ms y).2 (bodyOf Tryd.f35) 0 (Kfin cx spec_validValues.A spec_validValues.sg Tryd.f35.results.toList) [1, 0, 1, 1] []
theorem spec_validValues.r0 (N : Nat) : ∀ (n : Nat) (y : (List (ImplValue)) × Int × Unit), spec_validValues.a0 N n y = spec_validValues.L0 N n y
  | 0, y => by kernel_rfl
  | n + 1, y => by
    have h : spec_validValues.a0 N (n + 1) y = spec_validValues.B0 N (fun z => spec_validValues.a0 N n z) y := by kernel_rfl
    have e : (fun z => spec_validValues.a0 N n z) = spec_validValues.L0 N n := funext fun z => spec_validValues.r0 N n z
    rw [h]
    try rw [e]
    first | done | rfl
theorem spec_validValues.run (N : Nat) (x : (List (ImplValue)) × Unit) : runF cx (look (spec_validValues.phis N)) spec_validValues.A N (bodyOf Tryd.f35) Tryd.f35.results.toList spec_validValues.sg x = spec_validValues N x.1 := by
  have h : runF cx (look (spec_validValues.phis N)) spec_validValues.A N (bodyOf Tryd.f35) Tryd.f35.results.toList spec_validValues.sg x = spec_validValues.B N (fun z => spec_validValues.a0 N N z) x.1 := by kernel_rfl
  have e0 : (fun z => spec_validValues.a0 N N z) = spec_validValues.L0 N N := funext fun z => spec_validValues.r0 N N z
  rw [h, e0]
  try rfl
noncomputable def spec_validValues.sm (N : Nat) : Sm D := (⟨spec_validValues.sg, fun (x : (List (ImplValue)) × Unit) => spec_validValues N x.1⟩ : Sm D)
theorem spec_validValues.sound (N : Nat) : Sound cx Tryd.prog gam 35 (spec_validValues.sm N) := fn_sound (A := spec_validValues.A) (Φ := (look (spec_validValues.phis N))) pok (G := gam) (ΦOk.cons (spec_validValue.sound N) (fnOk_of (f := 45) (by kernel_rfl)) ΦOk.nil) mixed N Tryd.func35 (c := (bodyOf Tryd.f35)) (by kernel_rfl) spec_validValues.sg (by kernel_rfl) (by kernel_rfl) (by kernel_rfl) (spec_validValues.run N)

@[reducible] def spec_validEnv.sg : Sg := { ms := [{ k := (.st 26) }], keep := [false], rs := [{ k := .bool }] }
@[reducible] def spec_validEnv.lvL0 : Lv := { id := 0, slots := [1, 3], ms := [{ ptr := true, id := 600, t := 27, k := (.st 26), fl := [none, none, none, none] }, { k := (.int .i64) }] }
noncomputable def spec_validEnv.A : Ann := { dp := fun d => isIn [] d, lp := look [(0, spec_validEnv.lvL0)], jn := look [], pins := [], nt := 53 }
noncomputable def spec_validEnv.phis (N : Nat) : List (Nat × Sm D) := [(34, spec_inRange.sm N), (35, spec_validValues.sm N)]
noncomputable def spec_validEnv.a0 (N : Nat) (n : Nat) (y : ImplEnv × Int × Unit) : Option (Bool × Unit) := loopAt cx (look (spec_validEnv.phis N)) spec_validEnv.A N n (encL cx spec_validEnv.lvL0.ms y).1 (encL cx spec_validEnv.lvL0.ms y).2 (bodyOf Tryd.f19) 0 (Kfin cx spec_validEnv.A spec_validEnv.sg Tryd.f19.results.toList) [1, 1, 0, 1, 1] []
theorem spec_validEnv.r0 (N : Nat) : ∀ (n : Nat) (y : ImplEnv × Int × Unit), spec_validEnv.a0 N n y = spec_validEnv.L0 N n y
  | 0, y => by kernel_rfl
  | n + 1, y => by
    have h : spec_validEnv.a0 N (n + 1) y = spec_validEnv.B0 N (fun z => spec_validEnv.a0 N n z) y := by kernel_rfl
    have e : (fun z => spec_validEnv.a0 N n z) = spec_validEnv.L0 N n := funext fun z => spec_validEnv.r0 N n z
    rw [h]
    try rw [e]
    first | done | rfl
theorem spec_validEnv.run (N : Nat) (x : ImplEnv × Unit) : runF cx (look (spec_validEnv.phis N)) spec_validEnv.A N (bodyOf Tryd.f19) Tryd.f19.results.toList spec_validEnv.sg x = spec_validEnv N x.1 := by
  have h : runF cx (look (spec_validEnv.phis N)) spec_validEnv.A N (bodyOf Tryd.f19) Tryd.f19.results.toList spec_validEnv.sg x = spec_validEnv.B N (fun z => spec_validEnv.a0 N N z) x.1 := by kernel_rfl
  have e0 : (fun z => spec_validEnv.a0 N N z) = spec_validEnv.L0 N N := funext fun z => spec_validEnv.r0 N N z
  rw [h, e0]
  try rfl
noncomputable def spec_validEnv.sm (N : Nat) : Sm D := (⟨spec_validEnv.sg, fun (x : ImplEnv × Unit) => spec_validEnv N x.1⟩ : Sm D)
theorem spec_validEnv.sound (N : Nat) : Sound cx Tryd.prog gam 19 (spec_validEnv.sm N) := fn_sound (A := spec_validEnv.A) (Φ := (look (spec_validEnv.phis N))) pok (G := gam) (ΦOk.cons (spec_inRange.sound N) (fnOk_of (f := 34) (by kernel_rfl)) (ΦOk.cons (spec_validValues.sound N) (fnOk_of (f := 35) (by kernel_rfl)) ΦOk.nil)) mixed N Tryd.func19 (c := (bodyOf Tryd.f19)) (by kernel_rfl) spec_validEnv.sg (by kernel_rfl) (by kernel_rfl) (by kernel_rfl) (spec_validEnv.run N)

@[reducible] def spec_validStep.sg : Sg := { ms := [{ k := (.st 45) }, { k := (.int .i64) }, { k := (.int .i64) }, { k := (.int .i64) }], keep := [false, false, false, false], rs := [{ k := .bool }] }
noncomputable def spec_validStep.A : Ann := { dp := fun d => isIn [] d, lp := look [], jn := look [], pins := [], nt := 93 }
noncomputable def spec_validStep.phis (N : Nat) : List (Nat × Sm D) := [(45, spec_validValue.sm N), (34, spec_inRange.sm N)]
theorem spec_validStep.run (N : Nat) (x : ImplStep × Int × Int × Int × Unit) : runF cx (look (spec_validStep.phis N)) spec_validStep.A N (bodyOf Tryd.f36) Tryd.f36.results.toList spec_validStep.sg x = spec_validStep N x.1 x.2.1 x.2.2.1 x.2.2.2.1 := by
  have h : runF cx (look (spec_validStep.phis N)) spec_validStep.A N (bodyOf Tryd.f36) Tryd.f36.results.toList spec_validStep.sg x = spec_validStep.B N x.1 x.2.1 x.2.2.1 x.2.2.2.1 := by kernel_rfl
  rw [h]
  try rfl
noncomputable def spec_validStep.sm (N : Nat) : Sm D := (⟨spec_validStep.sg, fun (x : ImplStep × Int × Int × Int × Unit) => spec_validStep N x.1 x.2.1 x.2.2.1 x.2.2.2.1⟩ : Sm D)
theorem spec_validStep.sound (N : Nat) : Sound cx Tryd.prog gam 36 (spec_validStep.sm N) := fn_sound (A := spec_validStep.A) (Φ := (look (spec_validStep.phis N))) pok (G := gam) (ΦOk.cons (spec_validValue.sound N) (fnOk_of (f := 45) (by kernel_rfl)) (ΦOk.cons (spec_inRange.sound N) (fnOk_of (f := 34) (by kernel_rfl)) ΦOk.nil)) mixed N Tryd.func36 (c := (bodyOf Tryd.f36)) (by kernel_rfl) spec_validStep.sg (by kernel_rfl) (by kernel_rfl) (by kernel_rfl) (spec_validStep.run N)

@[reducible] def spec_takes.sg : Sg := { ms := [{ k := (.st 45) }], keep := [false], rs := [{ k := (.int .i64) }] }
noncomputable def spec_takes.A : Ann := { dp := fun d => isIn [] d, lp := look [], jn := look [], pins := [], nt := 9 }
noncomputable def spec_takes.phis (N : Nat) : List (Nat × Sm D) := []
theorem spec_takes.run (N : Nat) (x : ImplStep × Unit) : runF cx (look (spec_takes.phis N)) spec_takes.A N (bodyOf Tryd.f37) Tryd.f37.results.toList spec_takes.sg x = spec_takes N x.1 := by
  have h : runF cx (look (spec_takes.phis N)) spec_takes.A N (bodyOf Tryd.f37) Tryd.f37.results.toList spec_takes.sg x = spec_takes.B N x.1 := by kernel_rfl
  rw [h]
  try rfl
noncomputable def spec_takes.sm (N : Nat) : Sm D := (⟨spec_takes.sg, fun (x : ImplStep × Unit) => spec_takes N x.1⟩ : Sm D)
theorem spec_takes.sound (N : Nat) : Sound cx Tryd.prog gam 37 (spec_takes.sm N) := fn_sound (A := spec_takes.A) (Φ := (look (spec_takes.phis N))) pok (G := gam) ΦOk.nil mixed N Tryd.func37 (c := (bodyOf Tryd.f37)) (by kernel_rfl) spec_takes.sg (by kernel_rfl) (by kernel_rfl) (by kernel_rfl) (spec_takes.run N)

@[reducible] def spec_validForm.sg : Sg := { ms := [{ k := (.sl (.st 45)), fl := [none] }, { k := (.int .i64) }, { k := (.int .i64) }, { k := (.int .i64) }], keep := [false, false, false, false], rs := [{ k := .bool }] }
@[reducible] def spec_validForm.lvL0 : Lv := { id := 0, slots := [0, 1, 2, 3, 9, 10], ms := [{ k := (.sl (.st 45)), fl := [none] }, { k := (.int .i64) }, { k := (.int .i64) }, { k := (.int .i64) }, { k := (.int .i64) }, { k := (.int .i64) }] }
noncomputable def spec_validForm.A : Ann := { dp := fun d => isIn [] d, lp := look [(0, spec_validForm.lvL0)], jn := look [], pins := [], nt := 48 }
noncomputable def spec_validForm.phis (N : Nat) : List (Nat × Sm D) := [(36, spec_validStep.sm N), (37, spec_takes.sm N)]
noncomputable def spec_validForm.a0 (N : Nat) (n : Nat) (y : (List (ImplStep)) × Int × Int × Int × Int × Int × Unit) : Option (Bool × Unit) := loopAt cx (look (spec_validForm.phis N)) spec_validForm.A N n (encL cx spec_validForm.lvL0.ms y).1 (encL cx spec_validForm.lvL0.ms y).2 (bodyOf Tryd.f20) 0 (Kfin cx spec_validForm.A spec_validForm.sg Tryd.f20.results.toList) [1, 1, 1, 0, 1, 1] []
theorem spec_validForm.r0 (N : Nat) : ∀ (n : Nat) (y : (List (ImplStep)) × Int × Int × Int × Int × Int × Unit), spec_validForm.a0 N n y = spec_validForm.L0 N n y
  | 0, y => by kernel_rfl
  | n + 1, y => by
    have h : spec_validForm.a0 N (n + 1) y = spec_validForm.B0 N (fun z => spec_validForm.a0 N n z) y := by kernel_rfl
    have e : (fun z => spec_validForm.a0 N n z) = spec_validForm.L0 N n := funext fun z => spec_validForm.r0 N n z
    rw [h]
    try rw [e]
    first | done | rfl
theorem spec_validForm.run (N : Nat) (x : (List (ImplStep)) × Int × Int × Int × Unit) : runF cx (look (spec_validForm.phis N)) spec_validForm.A N (bodyOf Tryd.f20) Tryd.f20.results.toList spec_validForm.sg x = spec_validForm N x.1 x.2.1 x.2.2.1 x.2.2.2.1 := by
  have h : runF cx (look (spec_validForm.phis N)) spec_validForm.A N (bodyOf Tryd.f20) Tryd.f20.results.toList spec_validForm.sg x = spec_validForm.B N (fun z => spec_validForm.a0 N N z) x.1 x.2.1 x.2.2.1 x.2.2.2.1 := by kernel_rfl
  have e0 : (fun z => spec_validForm.a0 N N z) = spec_validForm.L0 N N := funext fun z => spec_validForm.r0 N N z
  rw [h, e0]
  try rfl
noncomputable def spec_validForm.sm (N : Nat) : Sm D := (⟨spec_validForm.sg, fun (x : (List (ImplStep)) × Int × Int × Int × Unit) => spec_validForm N x.1 x.2.1 x.2.2.1 x.2.2.2.1⟩ : Sm D)
theorem spec_validForm.sound (N : Nat) : Sound cx Tryd.prog gam 20 (spec_validForm.sm N) := fn_sound (A := spec_validForm.A) (Φ := (look (spec_validForm.phis N))) pok (G := gam) (ΦOk.cons (spec_validStep.sound N) (fnOk_of (f := 36) (by kernel_rfl)) (ΦOk.cons (spec_takes.sound N) (fnOk_of (f := 37) (by kernel_rfl)) ΦOk.nil)) mixed N Tryd.func20 (c := (bodyOf Tryd.f20)) (by kernel_rfl) spec_validForm.sg (by kernel_rfl) (by kernel_rfl) (by kernel_rfl) (spec_validForm.run N)

@[reducible] def spec_number.sg : Sg := { ms := [{ k := (.int .i64) }], keep := [false], rs := [{ k := (.st 30) }] }
noncomputable def spec_number.A : Ann := { dp := fun d => isIn [] d, lp := look [], jn := look [], pins := [], nt := 9 }
noncomputable def spec_number.phis (N : Nat) : List (Nat × Sm D) := [(34, spec_inRange.sm N)]
theorem spec_number.run (N : Nat) (x : Int × Unit) : runF cx (look (spec_number.phis N)) spec_number.A N (bodyOf Tryd.f51) Tryd.f51.results.toList spec_number.sg x = spec_number N x.1 := by
  have h : runF cx (look (spec_number.phis N)) spec_number.A N (bodyOf Tryd.f51) Tryd.f51.results.toList spec_number.sg x = spec_number.B N x.1 := by kernel_rfl
  rw [h]
  try rfl
noncomputable def spec_number.sm (N : Nat) : Sm D := (⟨spec_number.sg, fun (x : Int × Unit) => spec_number N x.1⟩ : Sm D)
theorem spec_number.sound (N : Nat) : Sound cx Tryd.prog gam 51 (spec_number.sm N) := fn_sound (A := spec_number.A) (Φ := (look (spec_number.phis N))) pok (G := gam) (ΦOk.cons (spec_inRange.sound N) (fnOk_of (f := 34) (by kernel_rfl)) ΦOk.nil) mixed N Tryd.func51 (c := (bodyOf Tryd.f51)) (by kernel_rfl) spec_number.sg (by kernel_rfl) (by kernel_rfl) (by kernel_rfl) (spec_number.run N)

@[reducible] def spec_boolean.sg : Sg := { ms := [{ k := .bool }], keep := [false], rs := [{ k := (.st 30) }] }
noncomputable def spec_boolean.A : Ann := { dp := fun d => isIn [] d, lp := look [], jn := look [], pins := [], nt := 6 }
noncomputable def spec_boolean.phis (N : Nat) : List (Nat × Sm D) := [(51, spec_number.sm N)]
theorem spec_boolean.run (N : Nat) (x : Bool × Unit) : runF cx (look (spec_boolean.phis N)) spec_boolean.A N (bodyOf Tryd.f48) Tryd.f48.results.toList spec_boolean.sg x = spec_boolean N x.1 := by
  have h : runF cx (look (spec_boolean.phis N)) spec_boolean.A N (bodyOf Tryd.f48) Tryd.f48.results.toList spec_boolean.sg x = spec_boolean.B N x.1 := by kernel_rfl
  rw [h]
  try rfl
noncomputable def spec_boolean.sm (N : Nat) : Sm D := (⟨spec_boolean.sg, fun (x : Bool × Unit) => spec_boolean N x.1⟩ : Sm D)
theorem spec_boolean.sound (N : Nat) : Sound cx Tryd.prog gam 48 (spec_boolean.sm N) := fn_sound (A := spec_boolean.A) (Φ := (look (spec_boolean.phis N))) pok (G := gam) (ΦOk.cons (spec_number.sound N) (fnOk_of (f := 51) (by kernel_rfl)) ΦOk.nil) mixed N Tryd.func48 (c := (bodyOf Tryd.f48)) (by kernel_rfl) spec_boolean.sg (by kernel_rfl) (by kernel_rfl) (by kernel_rfl) (spec_boolean.run N)

@[reducible] def spec_truth.sg : Sg := { ms := [{ k := (.st 30) }], keep := [false], rs := [{ k := .bool }] }
noncomputable def spec_truth.A : Ann := { dp := fun d => isIn [] d, lp := look [], jn := look [], pins := [], nt := 11 }
noncomputable def spec_truth.phis (N : Nat) : List (Nat × Sm D) := []
theorem spec_truth.run (N : Nat) (x : ImplValue × Unit) : runF cx (look (spec_truth.phis N)) spec_truth.A N (bodyOf Tryd.f39) Tryd.f39.results.toList spec_truth.sg x = spec_truth N x.1 := by
  have h : runF cx (look (spec_truth.phis N)) spec_truth.A N (bodyOf Tryd.f39) Tryd.f39.results.toList spec_truth.sg x = spec_truth.B N x.1 := by kernel_rfl
  rw [h]
  try rfl
noncomputable def spec_truth.sm (N : Nat) : Sm D := (⟨spec_truth.sg, fun (x : ImplValue × Unit) => spec_truth N x.1⟩ : Sm D)
theorem spec_truth.sound (N : Nat) : Sound cx Tryd.prog gam 39 (spec_truth.sm N) := fn_sound (A := spec_truth.A) (Φ := (look (spec_truth.phis N))) pok (G := gam) ΦOk.nil mixed N Tryd.func39 (c := (bodyOf Tryd.f39)) (by kernel_rfl) spec_truth.sg (by kernel_rfl) (by kernel_rfl) (by kernel_rfl) (spec_truth.run N)

@[reducible] def spec_decimal.sg : Sg := { ms := [{ k := (.int .i64) }], keep := [false], rs := [{ k := .str }] }
noncomputable def spec_decimal.A : Ann := { dp := fun d => isIn [] d, lp := look [], jn := look [], pins := [], nt := 22 }
noncomputable def spec_decimal.phis (N : Nat) (d : Nat) : List (Nat × Sm D) := [(66, (⟨spec_decimal.sg, fun (x : Int × Unit) => spec_decimal.R N d x.1⟩ : Sm D))]
theorem spec_decimal.run (N : Nat) (d : Nat) (x : Int × Unit) : runF cx (look (spec_decimal.phis N d)) spec_decimal.A N (bodyOf Tryd.f66) Tryd.f66.results.toList spec_decimal.sg x = spec_decimal.R N (d + 1) x.1 := by
  have h : runF cx (look (spec_decimal.phis N d)) spec_decimal.A N (bodyOf Tryd.f66) Tryd.f66.results.toList spec_decimal.sg x = spec_decimal.B N (spec_decimal.R N d) x.1 := by kernel_rfl
  rw [h]
  try rfl
theorem spec_decimal.step (N : Nat) (d : Nat) (h_spec_decimal : Sound cx Tryd.prog gam 66 (⟨spec_decimal.sg, fun (x : Int × Unit) => spec_decimal.R N d x.1⟩ : Sm D)) : Sound cx Tryd.prog gam 66 (⟨spec_decimal.sg, fun (x : Int × Unit) => spec_decimal.R N (d + 1) x.1⟩ : Sm D) := fn_sound (A := spec_decimal.A) (Φ := (look (spec_decimal.phis N d))) pok (G := gam) (ΦOk.cons h_spec_decimal (fnOk_of (f := 66) (by kernel_rfl)) ΦOk.nil) mixed N Tryd.func66 (c := (bodyOf Tryd.f66)) (by kernel_rfl) spec_decimal.sg (by kernel_rfl) (by kernel_rfl) (by kernel_rfl) (spec_decimal.run N d)

theorem spec_decimal.scc (N : Nat) : ∀ d, Sound cx Tryd.prog gam 66 (⟨spec_decimal.sg, fun (x : Int × Unit) => spec_decimal.R N d x.1⟩ : Sm D)
  | 0 => none_sound 66 spec_decimal.sg
  | d + 1 => by
    have ih := spec_decimal.scc N d
    exact spec_decimal.step N d ih
noncomputable def spec_decimal.sm (N : Nat) : Sm D := (⟨spec_decimal.sg, fun (x : Int × Unit) => spec_decimal.R N N x.1⟩ : Sm D)
theorem spec_decimal.sound (N : Nat) : Sound cx Tryd.prog gam 66 (spec_decimal.sm N) := (spec_decimal.scc N N)
@[reducible] def spec_show.sg : Sg := { ms := [{ k := (.st 30) }], keep := [false], rs := [{ k := .str }] }
noncomputable def spec_show.A : Ann := { dp := fun d => isIn [] d, lp := look [], jn := look [], pins := [], nt := 14 }
noncomputable def spec_show.phis (N : Nat) : List (Nat × Sm D) := [(66, spec_decimal.sm N)]
theorem spec_show.run (N : Nat) (x : ImplValue × Unit) : runF cx (look (spec_show.phis N)) spec_show.A N (bodyOf Tryd.f49) Tryd.f49.results.toList spec_show.sg x = spec_show N x.1 := by
  have h : runF cx (look (spec_show.phis N)) spec_show.A N (bodyOf Tryd.f49) Tryd.f49.results.toList spec_show.sg x = spec_show.B N x.1 := by kernel_rfl
  rw [h]
  try rfl
noncomputable def spec_show.sm (N : Nat) : Sm D := (⟨spec_show.sg, fun (x : ImplValue × Unit) => spec_show N x.1⟩ : Sm D)
theorem spec_show.sound (N : Nat) : Sound cx Tryd.prog gam 49 (spec_show.sm N) := fn_sound (A := spec_show.A) (Φ := (look (spec_show.phis N))) pok (G := gam) (ΦOk.cons (spec_decimal.sound N) (fnOk_of (f := 66) (by kernel_rfl)) ΦOk.nil) mixed N Tryd.func49 (c := (bodyOf Tryd.f49)) (by kernel_rfl) spec_show.sg (by kernel_rfl) (by kernel_rfl) (by kernel_rfl) (spec_show.run N)

@[reducible] def spec_do.sg : Sg := { ms := [{ k := (.int .i64) }, { k := (.st 30) }, { k := (.st 30) }], keep := [false, false, false], rs := [{ k := (.st 30) }] }
noncomputable def spec_do.A : Ann := { dp := fun d => isIn [] d, lp := look [], jn := look [], pins := [], nt := 82 }
noncomputable def spec_do.phis (N : Nat) : List (Nat × Sm D) := [(48, spec_boolean.sm N), (39, spec_truth.sm N), (49, spec_show.sm N), (50, spec_validWord.sm N), (51, spec_number.sm N)]
theorem spec_do.run (N : Nat) (x : Int × ImplValue × ImplValue × Unit) : runF cx (look (spec_do.phis N)) spec_do.A N (bodyOf Tryd.f38) Tryd.f38.results.toList spec_do.sg x = spec_do N x.1 x.2.1 x.2.2.1 := by
  have h : runF cx (look (spec_do.phis N)) spec_do.A N (bodyOf Tryd.f38) Tryd.f38.results.toList spec_do.sg x = spec_do.B N x.1 x.2.1 x.2.2.1 := by kernel_rfl
  rw [h]
  try rfl
noncomputable def spec_do.sm (N : Nat) : Sm D := (⟨spec_do.sg, fun (x : Int × ImplValue × ImplValue × Unit) => spec_do N x.1 x.2.1 x.2.2.1⟩ : Sm D)
theorem spec_do.sound (N : Nat) : Sound cx Tryd.prog gam 38 (spec_do.sm N) := fn_sound (A := spec_do.A) (Φ := (look (spec_do.phis N))) pok (G := gam) (ΦOk.cons (spec_boolean.sound N) (fnOk_of (f := 48) (by kernel_rfl)) (ΦOk.cons (spec_truth.sound N) (fnOk_of (f := 39) (by kernel_rfl)) (ΦOk.cons (spec_show.sound N) (fnOk_of (f := 49) (by kernel_rfl)) (ΦOk.cons (spec_validWord.sound N) (fnOk_of (f := 50) (by kernel_rfl)) (ΦOk.cons (spec_number.sound N) (fnOk_of (f := 51) (by kernel_rfl)) ΦOk.nil))))) mixed N Tryd.func38 (c := (bodyOf Tryd.f38)) (by kernel_rfl) spec_do.sg (by kernel_rfl) (by kernel_rfl) (by kernel_rfl) (spec_do.run N)

@[reducible] def spec_told.sg : Sg := { ms := [{ k := (.st 45) }, { k := (.st 26) }], keep := [false, false], rs := [{ k := (.st 30) }] }
noncomputable def spec_told.A : Ann := { dp := fun d => isIn [] d, lp := look [], jn := look [], pins := [], nt := 47 }
noncomputable def spec_told.phis (N : Nat) : List (Nat × Sm D) := [(51, spec_number.sm N)]
theorem spec_told.run (N : Nat) (x : ImplStep × ImplEnv × Unit) : runF cx (look (spec_told.phis N)) spec_told.A N (bodyOf Tryd.f40) Tryd.f40.results.toList spec_told.sg x = spec_told N x.1 x.2.1 := by
  have h : runF cx (look (spec_told.phis N)) spec_told.A N (bodyOf Tryd.f40) Tryd.f40.results.toList spec_told.sg x = spec_told.B N x.1 x.2.1 := by kernel_rfl
  rw [h]
  try rfl
noncomputable def spec_told.sm (N : Nat) : Sm D := (⟨spec_told.sg, fun (x : ImplStep × ImplEnv × Unit) => spec_told N x.1 x.2.1⟩ : Sm D)
theorem spec_told.sound (N : Nat) : Sound cx Tryd.prog gam 40 (spec_told.sm N) := fn_sound (A := spec_told.A) (Φ := (look (spec_told.phis N))) pok (G := gam) (ΦOk.cons (spec_number.sound N) (fnOk_of (f := 51) (by kernel_rfl)) ΦOk.nil) mixed N Tryd.func40 (c := (bodyOf Tryd.f40)) (by kernel_rfl) spec_told.sg (by kernel_rfl) (by kernel_rfl) (by kernel_rfl) (spec_told.run N)

@[reducible] def spec_eval.sg : Sg := { ms := [{ k := (.sl (.st 45)), fl := [none] }, { k := (.st 26) }], keep := [false, false], rs := [{ k := (.st 30) }] }
@[reducible] def spec_eval.lvJ15 : Lv := { id := 15, slots := [0, 3, 4, 5, 6, 7, 8], ms := [{ k := (.sl (.st 45)), fl := [none] }, { ptr := true, id := 620, t := 27, k := (.st 26), fl := [none, none, none, none] }, { ptr := true, id := 640, t := 31, k := (.st 30), fl := [none, none, none] }, { k := (.sl (.st 30)), fl := [some (false, 660)] }, { k := (.int .i64) }, { k := (.int .i64) }, { ptr := true, id := 720, t := 31, k := (.st 30), fl := [none, none, none] }] }
@[reducible] def spec_eval.lvL0 : Lv := { id := 0, slots := [0, 3, 4, 5, 6], ms := [{ k := (.sl (.st 45)), fl := [none] }, { ptr := true, id := 620, t := 27, k := (.st 26), fl := [none, none, none, none] }, { ptr := true, id := 640, t := 31, k := (.st 30), fl := [none, none, none] }, { k := (.sl (.st 30)), fl := [some (false, 660)] }, { k := (.int .i64) }] }
noncomputable def spec_eval.A : Ann := { dp := fun d => isIn [] d, lp := look [(0, spec_eval.lvL0)], jn := look [(15, spec_eval.lvJ15)], pins := [], nt := 79 }
noncomputable def spec_eval.phis (N : Nat) : List (Nat × Sm D) := [(37, spec_takes.sm N), (38, spec_do.sm N), (39, spec_truth.sm N), (40, spec_told.sm N)]
noncomputable def spec_eval.a0 (N : Nat) (n : Nat) (y : (List (ImplStep)) × ImplEnv × ImplValue × (List (ImplValue)) × Int × Unit) : Option (ImplValue × Unit) := loopAt cx (look (spec_eval.phis N)) spec_eval.A N n (encL cx spec_eval.lvL0.ms y).1 (encL cx spec_eval.lvL0.ms y).2 (bodyOf Tryd.f21) 0 (Kfin cx spec_eval.A spec_eval.sg Tryd.f21.results.toList) [1, 1, 0, 1, 1] []
theorem spec_eval.r0 (N : Nat) : ∀ (n : Nat) (y : (List (ImplStep)) × ImplEnv × ImplValue × (List (ImplValue)) × Int × Unit), spec_eval.a0 N n y = spec_eval.L0 N n y
  | 0, y => by kernel_rfl
  | n + 1, y => by
    have h : spec_eval.a0 N (n + 1) y = spec_eval.B0 N (fun z => spec_eval.a0 N n z) y := by kernel_rfl
    have e : (fun z => spec_eval.a0 N n z) = spec_eval.L0 N n := funext fun z => spec_eval.r0 N n z
    rw [h]
    try rw [e]
    first | done | rfl
theorem spec_eval.run (N : Nat) (x : (List (ImplStep)) × ImplEnv × Unit) : runF cx (look (spec_eval.phis N)) spec_eval.A N (bodyOf Tryd.f21) Tryd.f21.results.toList spec_eval.sg x = spec_eval N x.1 x.2.1 := by
  have h : runF cx (look (spec_eval.phis N)) spec_eval.A N (bodyOf Tryd.f21) Tryd.f21.results.toList spec_eval.sg x = spec_eval.B N (fun z => spec_eval.a0 N N z) x.1 x.2.1 := by kernel_rfl
  have e0 : (fun z => spec_eval.a0 N N z) = spec_eval.L0 N N := funext fun z => spec_eval.r0 N N z
  rw [h, e0]
  try rfl
noncomputable def spec_eval.sm (N : Nat) : Sm D := (⟨spec_eval.sg, fun (x : (List (ImplStep)) × ImplEnv × Unit) => spec_eval N x.1 x.2.1⟩ : Sm D)
theorem spec_eval.sound (N : Nat) : Sound cx Tryd.prog gam 21 (spec_eval.sm N) := fn_sound (A := spec_eval.A) (Φ := (look (spec_eval.phis N))) pok (G := gam) (ΦOk.cons (spec_takes.sound N) (fnOk_of (f := 37) (by kernel_rfl)) (ΦOk.cons (spec_do.sound N) (fnOk_of (f := 38) (by kernel_rfl)) (ΦOk.cons (spec_truth.sound N) (fnOk_of (f := 39) (by kernel_rfl)) (ΦOk.cons (spec_told.sound N) (fnOk_of (f := 40) (by kernel_rfl)) ΦOk.nil)))) mixed N Tryd.func21 (c := (bodyOf Tryd.f21)) (by kernel_rfl) spec_eval.sg (by kernel_rfl) (by kernel_rfl) (by kernel_rfl) (spec_eval.run N)

@[reducible] def spec_FormValue.sg : Sg := { ms := [{ k := (.sl (.st 45)), fl := [none] }, { k := (.st 26) }], keep := [false, false], rs := [{ k := (.st 30) }] }
noncomputable def spec_FormValue.A : Ann := { dp := fun d => isIn [] d, lp := look [], jn := look [], pins := [], nt := 26 }
noncomputable def spec_FormValue.phis (N : Nat) : List (Nat × Sm D) := [(19, spec_validEnv.sm N), (20, spec_validForm.sm N), (21, spec_eval.sm N)]
theorem spec_FormValue.run (N : Nat) (x : (List (ImplStep)) × ImplEnv × Unit) : runF cx (look (spec_FormValue.phis N)) spec_FormValue.A N (bodyOf Tryd.f6) Tryd.f6.results.toList spec_FormValue.sg x = spec_FormValue N x.1 x.2.1 := by
  have h : runF cx (look (spec_FormValue.phis N)) spec_FormValue.A N (bodyOf Tryd.f6) Tryd.f6.results.toList spec_FormValue.sg x = spec_FormValue.B N x.1 x.2.1 := by kernel_rfl
  rw [h]
  try rfl
noncomputable def spec_FormValue.sm (N : Nat) : Sm D := (⟨spec_FormValue.sg, fun (x : (List (ImplStep)) × ImplEnv × Unit) => spec_FormValue N x.1 x.2.1⟩ : Sm D)
theorem spec_FormValue.sound (N : Nat) : Sound cx Tryd.prog gam 6 (spec_FormValue.sm N) := fn_sound (A := spec_FormValue.A) (Φ := (look (spec_FormValue.phis N))) pok (G := gam) (ΦOk.cons (spec_validEnv.sound N) (fnOk_of (f := 19) (by kernel_rfl)) (ΦOk.cons (spec_validForm.sound N) (fnOk_of (f := 20) (by kernel_rfl)) (ΦOk.cons (spec_eval.sound N) (fnOk_of (f := 21) (by kernel_rfl)) ΦOk.nil))) mixed N Tryd.func6 (c := (bodyOf Tryd.f6)) (by kernel_rfl) spec_FormValue.sg (by kernel_rfl) (by kernel_rfl) (by kernel_rfl) (spec_FormValue.run N)

@[reducible] def spec_EnvOk.sg : Sg := { ms := [{ k := (.st 26) }], keep := [false], rs := [{ k := .bool }] }
noncomputable def spec_EnvOk.A : Ann := { dp := fun d => isIn [] d, lp := look [], jn := look [], pins := [], nt := 5 }
noncomputable def spec_EnvOk.phis (N : Nat) : List (Nat × Sm D) := [(19, spec_validEnv.sm N)]
theorem spec_EnvOk.run (N : Nat) (x : ImplEnv × Unit) : runF cx (look (spec_EnvOk.phis N)) spec_EnvOk.A N (bodyOf Tryd.f8) Tryd.f8.results.toList spec_EnvOk.sg x = spec_EnvOk N x.1 := by
  have h : runF cx (look (spec_EnvOk.phis N)) spec_EnvOk.A N (bodyOf Tryd.f8) Tryd.f8.results.toList spec_EnvOk.sg x = spec_EnvOk.B N x.1 := by kernel_rfl
  rw [h]
  try rfl
noncomputable def spec_EnvOk.sm (N : Nat) : Sm D := (⟨spec_EnvOk.sg, fun (x : ImplEnv × Unit) => spec_EnvOk N x.1⟩ : Sm D)
theorem spec_EnvOk.sound (N : Nat) : Sound cx Tryd.prog gam 8 (spec_EnvOk.sm N) := fn_sound (A := spec_EnvOk.A) (Φ := (look (spec_EnvOk.phis N))) pok (G := gam) (ΦOk.cons (spec_validEnv.sound N) (fnOk_of (f := 19) (by kernel_rfl)) ΦOk.nil) mixed N Tryd.func8 (c := (bodyOf Tryd.f8)) (by kernel_rfl) spec_EnvOk.sg (by kernel_rfl) (by kernel_rfl) (by kernel_rfl) (spec_EnvOk.run N)

@[reducible] def impl_FormNeeds.sg : Sg := { ms := [{ k := (.sl (.st 45)), fl := [none] }, { k := (.int .i64) }], keep := [false, false], rs := [{ k := (.sl (.int .i64)), fl := [none] }], hold := true }
@[reducible] def impl_FormNeeds.lvL0 : Lv := { id := 0, slots := [1, 5, 16, 17, 18], ms := [{ k := (.int .i64) }, { k := (.sl (.int .i64)), fl := [some (false, 620)] }, { k := (.sl (.st 45)), fl := [none] }, { k := (.int .i64) }, { k := (.int .i64) }] }
noncomputable def impl_FormNeeds.A : Ann := { dp := fun d => isIn [] d, lp := look [(0, impl_FormNeeds.lvL0)], jn := look [], pins := [], nt := 42 }
noncomputable def impl_FormNeeds.phis (N : Nat) : List (Nat × Sm D) := [(22, impl_within.sm N), (7, impl_FormOk.sm N), (25, LibHas.sm N), (26, LibSort.sm N)]
noncomputable def impl_FormNeeds.a0 (N : Nat) (n : Nat) (y : Int × (List (Int)) × (List (ImplStep)) × Int × Int × Unit) : Option ((List (Int)) × Unit) := loopAt cx (look (impl_FormNeeds.phis N)) impl_FormNeeds.A N n (encL cx impl_FormNeeds.lvL0.ms y).1 (encL cx impl_FormNeeds.lvL0.ms y).2 (bodyOf Tryd.f10) 0 (Kfin cx impl_FormNeeds.A impl_FormNeeds.sg Tryd.f10.results.toList) [1, 1, 1, 0, 1, 1] []
theorem impl_FormNeeds.r0 (N : Nat) : ∀ (n : Nat) (y : Int × (List (Int)) × (List (ImplStep)) × Int × Int × Unit), impl_FormNeeds.a0 N n y = impl_FormNeeds.L0 N n y
  | 0, y => by kernel_rfl
  | n + 1, y => by
    have h : impl_FormNeeds.a0 N (n + 1) y = impl_FormNeeds.B0 N (fun z => impl_FormNeeds.a0 N n z) y := by kernel_rfl
    have e : (fun z => impl_FormNeeds.a0 N n z) = impl_FormNeeds.L0 N n := funext fun z => impl_FormNeeds.r0 N n z
    rw [h]
    try rw [e]
    first | done | rfl
theorem impl_FormNeeds.run (N : Nat) (x : (List (ImplStep)) × Int × Unit) : runF cx (look (impl_FormNeeds.phis N)) impl_FormNeeds.A N (bodyOf Tryd.f10) Tryd.f10.results.toList impl_FormNeeds.sg x = impl_FormNeeds N x.1 x.2.1 := by
  have h : runF cx (look (impl_FormNeeds.phis N)) impl_FormNeeds.A N (bodyOf Tryd.f10) Tryd.f10.results.toList impl_FormNeeds.sg x = impl_FormNeeds.B N (fun z => impl_FormNeeds.a0 N N z) x.1 x.2.1 := by kernel_rfl
  have e0 : (fun z => impl_FormNeeds.a0 N N z) = impl_FormNeeds.L0 N N := funext fun z => impl_FormNeeds.r0 N N z
  rw [h, e0]
  try rfl
noncomputable def impl_FormNeeds.sm (N : Nat) : Sm D := (⟨impl_FormNeeds.sg, fun (x : (List (ImplStep)) × Int × Unit) => impl_FormNeeds N x.1 x.2.1⟩ : Sm D)
theorem impl_FormNeeds.sound (N : Nat) : Sound cx Tryd.prog gam 10 (impl_FormNeeds.sm N) := fn_sound (A := impl_FormNeeds.A) (Φ := (look (impl_FormNeeds.phis N))) pok (G := gam) (ΦOk.cons (impl_within.sound N) (fnOk_of (f := 22) (by kernel_rfl)) (ΦOk.cons (impl_FormOk.sound N) (fnOk_of (f := 7) (by kernel_rfl)) (ΦOk.cons (LibHas.sound N) (fnOk_of (f := 25) (by kernel_rfl)) (ΦOk.cons (LibSort.sound N) (fnOk_of (f := 26) (by kernel_rfl)) ΦOk.nil)))) mixed N Tryd.func10 (c := (bodyOf Tryd.f10)) (by kernel_rfl) impl_FormNeeds.sg (by kernel_rfl) (by kernel_rfl) (by kernel_rfl) (impl_FormNeeds.run N)

@[reducible] def spec_hasInt.sg : Sg := { ms := [{ k := (.sl (.int .i64)), fl := [none] }, { k := (.int .i64) }], keep := [false, false], rs := [{ k := .bool }] }
@[reducible] def spec_hasInt.lvL0 : Lv := { id := 0, slots := [0, 1, 5], ms := [{ k := (.sl (.int .i64)), fl := [none] }, { k := (.int .i64) }, { k := (.int .i64) }] }
noncomputable def spec_hasInt.A : Ann := { dp := fun d => isIn [] d, lp := look [(0, spec_hasInt.lvL0)], jn := look [], pins := [], nt := 18 }
noncomputable def spec_hasInt.phis (N : Nat) : List (Nat × Sm D) := []
noncomputable def spec_hasInt.a0 (N : Nat) (n : Nat) (y : (List (Int)) × Int × Int × Unit) : Option (Bool × Unit) := loopAt cx (look (spec_hasInt.phis N)) spec_hasInt.A N n (encL cx spec_hasInt.lvL0.ms y).1 (encL cx spec_hasInt.lvL0.ms y).2 (bodyOf Tryd.f24) 0 (Kfin cx spec_hasInt.A spec_hasInt.sg Tryd.f24.results.toList) [1, 0, 1, 1] []
theorem spec_hasInt.r0 (N : Nat) : ∀ (n : Nat) (y : (List (Int)) × Int × Int × Unit), spec_hasInt.a0 N n y = spec_hasInt.L0 N n y
  | 0, y => by kernel_rfl
  | n + 1, y => by
    have h : spec_hasInt.a0 N (n + 1) y = spec_hasInt.B0 N (fun z => spec_hasInt.a0 N n z) y := by kernel_rfl
    have e : (fun z => spec_hasInt.a0 N n z) = spec_hasInt.L0 N n := funext fun z => spec_hasInt.r0 N n z
    rw [h]
    try rw [e]
    first | done | rfl
theorem spec_hasInt.run (N : Nat) (x : (List (Int)) × Int × Unit) : runF cx (look (spec_hasInt.phis N)) spec_hasInt.A N (bodyOf Tryd.f24) Tryd.f24.results.toList spec_hasInt.sg x = spec_hasInt N x.1 x.2.1 := by
  have h : runF cx (look (spec_hasInt.phis N)) spec_hasInt.A N (bodyOf Tryd.f24) Tryd.f24.results.toList spec_hasInt.sg x = spec_hasInt.B N (fun z => spec_hasInt.a0 N N z) x.1 x.2.1 := by kernel_rfl
  have e0 : (fun z => spec_hasInt.a0 N N z) = spec_hasInt.L0 N N := funext fun z => spec_hasInt.r0 N N z
  rw [h, e0]
  try rfl
noncomputable def spec_hasInt.sm (N : Nat) : Sm D := (⟨spec_hasInt.sg, fun (x : (List (Int)) × Int × Unit) => spec_hasInt N x.1 x.2.1⟩ : Sm D)
theorem spec_hasInt.sound (N : Nat) : Sound cx Tryd.prog gam 24 (spec_hasInt.sm N) := fn_sound (A := spec_hasInt.A) (Φ := (look (spec_hasInt.phis N))) pok (G := gam) ΦOk.nil mixed N Tryd.func24 (c := (bodyOf Tryd.f24)) (by kernel_rfl) spec_hasInt.sg (by kernel_rfl) (by kernel_rfl) (by kernel_rfl) (spec_hasInt.run N)

end
end Go.Ev
