/- Each function that the law reaches does what its plain form says; no condition beyond the table of the library. -/
import Derived.Test.YtfgdaioblgfipaaDoorEvF
set_option linter.all false
set_option linter.unusedVariables false
set_option linter.unusedSimpArgs false
set_option maxRecDepth 100000
set_option maxHeartbeats 0
namespace Go.Ev
noncomputable section
open Go.Proofs
@[reducible] def spec_inRange.sg : Sg := { ms := [{ k := (.int .i64) }, { k := (.int .i64) }, { k := (.int .i64) }], keep := [false, false, false], rs := [{ k := .bool }] }
noncomputable def spec_inRange.A : Ann := { dp := fun d => isIn [] d, lp := look [], jn := look [], pins := [], nt := 15 }
noncomputable def spec_inRange.phis (N : Nat) : List (Nat × Sm D) := []
theorem spec_inRange.run (N : Nat) (x : Int × Int × Int × Unit) : runF cx (look (spec_inRange.phis N)) spec_inRange.A N (bodyOf Tryd.f85) Tryd.f85.results.toList spec_inRange.sg x = spec_inRange N x.1 x.2.1 x.2.2.1 := by
  have h : runF cx (look (spec_inRange.phis N)) spec_inRange.A N (bodyOf Tryd.f85) Tryd.f85.results.toList spec_inRange.sg x = spec_inRange.B N x.1 x.2.1 x.2.2.1 := by kernel_rfl
  rw [h]
  try rfl
noncomputable def spec_inRange.sm (N : Nat) : Sm D := (⟨spec_inRange.sg, fun (x : Int × Int × Int × Unit) => spec_inRange N x.1 x.2.1 x.2.2.1⟩ : Sm D)
theorem spec_inRange.sound (N : Nat) : Sound cx Tryd.prog gam 85 (spec_inRange.sm N) := fn_sound (A := spec_inRange.A) (Φ := (look (spec_inRange.phis N))) pok (G := gam) ΦOk.nil mixed N Tryd.func85 (c := (bodyOf Tryd.f85)) (by kernel_rfl) spec_inRange.sg (by kernel_rfl) (by kernel_rfl) (by kernel_rfl) (spec_inRange.run N)

@[reducible] def spec_plainByte.sg : Sg := { ms := [{ k := (.int .u8) }], keep := [false], rs := [{ k := .bool }] }
noncomputable def spec_plainByte.A : Ann := { dp := fun d => isIn [] d, lp := look [], jn := look [], pins := [], nt := 21 }
noncomputable def spec_plainByte.phis (N : Nat) : List (Nat × Sm D) := []
theorem spec_plainByte.run (N : Nat) (x : Int × Unit) : runF cx (look (spec_plainByte.phis N)) spec_plainByte.A N (bodyOf Tryd.f136) Tryd.f136.results.toList spec_plainByte.sg x = spec_plainByte N x.1 := by
  have h : runF cx (look (spec_plainByte.phis N)) spec_plainByte.A N (bodyOf Tryd.f136) Tryd.f136.results.toList spec_plainByte.sg x = spec_plainByte.B N x.1 := by kernel_rfl
  rw [h]
  try rfl
noncomputable def spec_plainByte.sm (N : Nat) : Sm D := (⟨spec_plainByte.sg, fun (x : Int × Unit) => spec_plainByte N x.1⟩ : Sm D)
theorem spec_plainByte.sound (N : Nat) : Sound cx Tryd.prog gam 136 (spec_plainByte.sm N) := fn_sound (A := spec_plainByte.A) (Φ := (look (spec_plainByte.phis N))) pok (G := gam) ΦOk.nil mixed N Tryd.func136 (c := (bodyOf Tryd.f136)) (by kernel_rfl) spec_plainByte.sg (by kernel_rfl) (by kernel_rfl) (by kernel_rfl) (spec_plainByte.run N)

@[reducible] def spec_validWord.sg : Sg := { ms := [{ k := .str }], keep := [false], rs := [{ k := .bool }] }
@[reducible] def spec_validWord.lvL0 : Lv := { id := 0, slots := [0, 3], ms := [{ k := .str }, { k := (.int .i64) }] }
noncomputable def spec_validWord.A : Ann := { dp := fun d => isIn [] d, lp := look [(0, spec_validWord.lvL0)], jn := look [], pins := [], nt := 18 }
noncomputable def spec_validWord.phis (N : Nat) : List (Nat × Sm D) := [(136, spec_plainByte.sm N)]
noncomputable def spec_validWord.a0 (N : Nat) (n : Nat) (y : (List UInt8) × Int × Unit) : Option (Bool × Unit) := loopAt cx (look (spec_validWord.phis N)) spec_validWord.A N n (encL cx spec_validWord.lvL0.ms y).1 (encL cx spec_validWord.lvL0.ms y).2 (bodyOf Tryd.f126) 0 (Kfin cx spec_validWord.A spec_validWord.sg Tryd.f126.results.toList) [1, 1, 0, 1, 1] []
theorem spec_validWord.r0 (N : Nat) : ∀ (n : Nat) (y : (List UInt8) × Int × Unit), spec_validWord.a0 N n y = spec_validWord.L0 N n y
  | 0, y => by kernel_rfl
  | n + 1, y => by
    have h : spec_validWord.a0 N (n + 1) y = spec_validWord.B0 N (fun z => spec_validWord.a0 N n z) y := by kernel_rfl
    have e : (fun z => spec_validWord.a0 N n z) = spec_validWord.L0 N n := funext fun z => spec_validWord.r0 N n z
    rw [h]
    try rw [e]
    first | done | rfl
theorem spec_validWord.run (N : Nat) (x : (List UInt8) × Unit) : runF cx (look (spec_validWord.phis N)) spec_validWord.A N (bodyOf Tryd.f126) Tryd.f126.results.toList spec_validWord.sg x = spec_validWord N x.1 := by
  have h : runF cx (look (spec_validWord.phis N)) spec_validWord.A N (bodyOf Tryd.f126) Tryd.f126.results.toList spec_validWord.sg x = spec_validWord.B N (fun z => spec_validWord.a0 N N z) x.1 := by kernel_rfl
  have e0 : (fun z => spec_validWord.a0 N N z) = spec_validWord.L0 N N := funext fun z => spec_validWord.r0 N N z
  rw [h, e0]
  try rfl
noncomputable def spec_validWord.sm (N : Nat) : Sm D := (⟨spec_validWord.sg, fun (x : (List UInt8) × Unit) => spec_validWord N x.1⟩ : Sm D)
theorem spec_validWord.sound (N : Nat) : Sound cx Tryd.prog gam 126 (spec_validWord.sm N) := fn_sound (A := spec_validWord.A) (Φ := (look (spec_validWord.phis N))) pok (G := gam) (ΦOk.cons (spec_plainByte.sound N) (fnOk_of (f := 136) (by kernel_rfl)) ΦOk.nil) mixed N Tryd.func126 (c := (bodyOf Tryd.f126)) (by kernel_rfl) spec_validWord.sg (by kernel_rfl) (by kernel_rfl) (by kernel_rfl) (spec_validWord.run N)

@[reducible] def spec_validValue.sg : Sg := { ms := [{ k := (.st 49) }], keep := [false], rs := [{ k := .bool }] }
noncomputable def spec_validValue.A : Ann := { dp := fun d => isIn [] d, lp := look [], jn := look [], pins := [], nt := 35 }
noncomputable def spec_validValue.phis (N : Nat) : List (Nat × Sm D) := [(85, spec_inRange.sm N), (126, spec_validWord.sm N)]
theorem spec_validValue.run (N : Nat) (x : ImplValue × Unit) : runF cx (look (spec_validValue.phis N)) spec_validValue.A N (bodyOf Tryd.f123) Tryd.f123.results.toList spec_validValue.sg x = spec_validValue N x.1 := by
  have h : runF cx (look (spec_validValue.phis N)) spec_validValue.A N (bodyOf Tryd.f123) Tryd.f123.results.toList spec_validValue.sg x = spec_validValue.B N x.1 := by kernel_rfl
  rw [h]
  try rfl
noncomputable def spec_validValue.sm (N : Nat) : Sm D := (⟨spec_validValue.sg, fun (x : ImplValue × Unit) => spec_validValue N x.1⟩ : Sm D)
theorem spec_validValue.sound (N : Nat) : Sound cx Tryd.prog gam 123 (spec_validValue.sm N) := fn_sound (A := spec_validValue.A) (Φ := (look (spec_validValue.phis N))) pok (G := gam) (ΦOk.cons (spec_inRange.sound N) (fnOk_of (f := 85) (by kernel_rfl)) (ΦOk.cons (spec_validWord.sound N) (fnOk_of (f := 126) (by kernel_rfl)) ΦOk.nil)) mixed N Tryd.func123 (c := (bodyOf Tryd.f123)) (by kernel_rfl) spec_validValue.sg (by kernel_rfl) (by kernel_rfl) (by kernel_rfl) (spec_validValue.run N)

@[reducible] def impl_within.sg : Sg := { ms := [{ k := (.int .i64) }, { k := (.int .i64) }, { k := (.int .i64) }], keep := [false, false, false], rs := [{ k := .bool }] }
noncomputable def impl_within.A : Ann := { dp := fun d => isIn [] d, lp := look [], jn := look [], pins := [], nt := 15 }
noncomputable def impl_within.phis (N : Nat) : List (Nat × Sm D) := []
theorem impl_within.run (N : Nat) (x : Int × Int × Int × Unit) : runF cx (look (impl_within.phis N)) impl_within.A N (bodyOf Tryd.f43) Tryd.f43.results.toList impl_within.sg x = impl_within N x.1 x.2.1 x.2.2.1 := by
  have h : runF cx (look (impl_within.phis N)) impl_within.A N (bodyOf Tryd.f43) Tryd.f43.results.toList impl_within.sg x = impl_within.B N x.1 x.2.1 x.2.2.1 := by kernel_rfl
  rw [h]
  try rfl
noncomputable def impl_within.sm (N : Nat) : Sm D := (⟨impl_within.sg, fun (x : Int × Int × Int × Unit) => impl_within N x.1 x.2.1 x.2.2.1⟩ : Sm D)
theorem impl_within.sound (N : Nat) : Sound cx Tryd.prog gam 43 (impl_within.sm N) := fn_sound (A := impl_within.A) (Φ := (look (impl_within.phis N))) pok (G := gam) ΦOk.nil mixed N Tryd.func43 (c := (bodyOf Tryd.f43)) (by kernel_rfl) impl_within.sg (by kernel_rfl) (by kernel_rfl) (by kernel_rfl) (impl_within.run N)

@[reducible] def impl_word.sg : Sg := { ms := [{ k := .str }], keep := [false], rs := [{ k := .bool }] }
@[reducible] def impl_word.lvL0 : Lv := { id := 0, slots := [0, 3], ms := [{ k := .str }, { k := (.int .i64) }] }
noncomputable def impl_word.A : Ann := { dp := fun d => isIn [] d, lp := look [(0, impl_word.lvL0)], jn := look [], pins := [], nt := 36 }
noncomputable def impl_word.phis (N : Nat) : List (Nat × Sm D) := []
noncomputable def impl_word.a0 (N : Nat) (n : Nat) (y : (List UInt8) × Int × Unit) : Option (Bool × Unit) := loopAt cx (look (impl_word.phis N)) impl_word.A N n (encL cx impl_word.lvL0.ms y).1 (encL cx impl_word.lvL0.ms y).2 (bodyOf Tryd.f121) 0 (Kfin cx impl_word.A impl_word.sg Tryd.f121.results.toList) [1, 0, 1, 1] []
theorem impl_word.r0 (N : Nat) : ∀ (n : Nat) (y : (List UInt8) × Int × Unit), impl_word.a0 N n y = impl_word.L0 N n y
  | 0, y => by kernel_rfl
  | n + 1, y => by
    have h : impl_word.a0 N (n + 1) y = impl_word.B0 N (fun z => impl_word.a0 N n z) y := by kernel_rfl
    have e : (fun z => impl_word.a0 N n z) = impl_word.L0 N n := funext fun z => impl_word.r0 N n z
    rw [h]
    try rw [e]
    first | done | rfl
theorem impl_word.run (N : Nat) (x : (List UInt8) × Unit) : runF cx (look (impl_word.phis N)) impl_word.A N (bodyOf Tryd.f121) Tryd.f121.results.toList impl_word.sg x = impl_word N x.1 := by
  have h : runF cx (look (impl_word.phis N)) impl_word.A N (bodyOf Tryd.f121) Tryd.f121.results.toList impl_word.sg x = impl_word.B N (fun z => impl_word.a0 N N z) x.1 := by kernel_rfl
  have e0 : (fun z => impl_word.a0 N N z) = impl_word.L0 N N := funext fun z => impl_word.r0 N N z
  rw [h, e0]
  try rfl
noncomputable def impl_word.sm (N : Nat) : Sm D := (⟨impl_word.sg, fun (x : (List UInt8) × Unit) => impl_word N x.1⟩ : Sm D)
theorem impl_word.sound (N : Nat) : Sound cx Tryd.prog gam 121 (impl_word.sm N) := fn_sound (A := impl_word.A) (Φ := (look (impl_word.phis N))) pok (G := gam) ΦOk.nil mixed N Tryd.func121 (c := (bodyOf Tryd.f121)) (by kernel_rfl) impl_word.sg (by kernel_rfl) (by kernel_rfl) (by kernel_rfl) (impl_word.run N)

@[reducible] def impl_ValOk.sg : Sg := { ms := [{ k := (.st 49) }], keep := [false], rs := [{ k := .bool }] }
noncomputable def impl_ValOk.A : Ann := { dp := fun d => isIn [] d, lp := look [], jn := look [], pins := [], nt := 35 }
noncomputable def impl_ValOk.phis (N : Nat) : List (Nat × Sm D) := [(43, impl_within.sm N), (121, impl_word.sm N)]
theorem impl_ValOk.run (N : Nat) (x : ImplValue × Unit) : runF cx (look (impl_ValOk.phis N)) impl_ValOk.A N (bodyOf Tryd.f92) Tryd.f92.results.toList impl_ValOk.sg x = impl_ValOk N x.1 := by
  have h : runF cx (look (impl_ValOk.phis N)) impl_ValOk.A N (bodyOf Tryd.f92) Tryd.f92.results.toList impl_ValOk.sg x = impl_ValOk.B N x.1 := by kernel_rfl
  rw [h]
  try rfl
noncomputable def impl_ValOk.sm (N : Nat) : Sm D := (⟨impl_ValOk.sg, fun (x : ImplValue × Unit) => impl_ValOk N x.1⟩ : Sm D)
theorem impl_ValOk.sound (N : Nat) : Sound cx Tryd.prog gam 92 (impl_ValOk.sm N) := fn_sound (A := impl_ValOk.A) (Φ := (look (impl_ValOk.phis N))) pok (G := gam) (ΦOk.cons (impl_within.sound N) (fnOk_of (f := 43) (by kernel_rfl)) (ΦOk.cons (impl_word.sound N) (fnOk_of (f := 121) (by kernel_rfl)) ΦOk.nil)) mixed N Tryd.func92 (c := (bodyOf Tryd.f92)) (by kernel_rfl) impl_ValOk.sg (by kernel_rfl) (by kernel_rfl) (by kernel_rfl) (impl_ValOk.run N)

@[reducible] def impl_formFits.sg : Sg := { ms := [{ k := (.sl (.st 87)), fl := [none] }, { k := (.int .i64) }, { k := (.int .i64) }, { k := (.int .i64) }], keep := [false, false, false, false], rs := [{ k := .bool }] }
@[reducible] def impl_formFits.lvJ27 : Lv := { id := 27, slots := [0, 1, 2, 3, 9, 12, 13, 14, 15, 16], ms := [{ k := (.sl (.st 87)), fl := [none] }, { k := (.int .i64) }, { k := (.int .i64) }, { k := (.int .i64) }, { k := (.int .i64) }, { k := (.int .i64) }, { k := .bool }, { k := (.sl (.st 87)), fl := [none] }, { k := (.int .i64) }, { k := (.int .i64) }] }
@[reducible] def impl_formFits.lvL0 : Lv := { id := 0, slots := [0, 1, 2, 3, 9, 14, 15, 16], ms := [{ k := (.sl (.st 87)), fl := [none] }, { k := (.int .i64) }, { k := (.int .i64) }, { k := (.int .i64) }, { k := (.int .i64) }, { k := (.sl (.st 87)), fl := [none] }, { k := (.int .i64) }, { k := (.int .i64) }] }
noncomputable def impl_formFits.A : Ann := { dp := fun d => isIn [] d, lp := look [(0, impl_formFits.lvL0)], jn := look [(27, impl_formFits.lvJ27)], pins := [], nt := 96 }
noncomputable def impl_formFits.phis (N : Nat) : List (Nat × Sm D) := [(92, impl_ValOk.sm N), (43, impl_within.sm N)]
noncomputable def impl_formFits.a0 (N : Nat) (n : Nat) (y : (List (ImplStep)) × Int × Int × Int × Int × (List (ImplStep)) × Int × Int × Unit) : Option (Bool × Unit) := loopAt cx (look (impl_formFits.phis N)) impl_formFits.A N n (encL cx impl_formFits.lvL0.ms y).1 (encL cx impl_formFits.lvL0.ms y).2 (bodyOf Tryd.f84) 0 (Kfin cx impl_formFits.A impl_formFits.sg Tryd.f84.results.toList) [1, 1, 0, 1, 1] []
theorem impl_formFits.r0 (N : Nat) : ∀ (n : Nat) (y : (List (ImplStep)) × Int × Int × Int × Int × (List (ImplStep)) × Int × Int × Unit), impl_formFits.a0 N n y = impl_formFits.L0 N n y
  | 0, y => by kernel_rfl
  | n + 1, y => by
    have h : impl_formFits.a0 N (n + 1) y = impl_formFits.B0 N (fun z => impl_formFits.a0 N n z) y := by kernel_rfl
    have e : (fun z => impl_formFits.a0 N n z) = impl_formFits.L0 N n := funext fun z => impl_formFits.r0 N n z
    rw [h]
    try rw [e]
    first | done | rfl
theorem impl_formFits.run (N : Nat) (x : (List (ImplStep)) × Int × Int × Int × Unit) : runF cx (look (impl_formFits.phis N)) impl_formFits.A N (bodyOf Tryd.f84) Tryd.f84.results.toList impl_formFits.sg x = impl_formFits N x.1 x.2.1 x.2.2.1 x.2.2.2.1 := by
  have h : runF cx (look (impl_formFits.phis N)) impl_formFits.A N (bodyOf Tryd.f84) Tryd.f84.results.toList impl_formFits.sg x = impl_formFits.B N (fun z => impl_formFits.a0 N N z) x.1 x.2.1 x.2.2.1 x.2.2.2.1 := by kernel_rfl
  have e0 : (fun z => impl_formFits.a0 N N z) = impl_formFits.L0 N N := funext fun z => impl_formFits.r0 N N z
  rw [h, e0]
  try rfl
noncomputable def impl_formFits.sm (N : Nat) : Sm D := (⟨impl_formFits.sg, fun (x : (List (ImplStep)) × Int × Int × Int × Unit) => impl_formFits N x.1 x.2.1 x.2.2.1 x.2.2.2.1⟩ : Sm D)
theorem impl_formFits.sound (N : Nat) : Sound cx Tryd.prog gam 84 (impl_formFits.sm N) := fn_sound (A := impl_formFits.A) (Φ := (look (impl_formFits.phis N))) pok (G := gam) (ΦOk.cons (impl_ValOk.sound N) (fnOk_of (f := 92) (by kernel_rfl)) (ΦOk.cons (impl_within.sound N) (fnOk_of (f := 43) (by kernel_rfl)) ΦOk.nil)) mixed N Tryd.func84 (c := (bodyOf Tryd.f84)) (by kernel_rfl) impl_formFits.sg (by kernel_rfl) (by kernel_rfl) (by kernel_rfl) (impl_formFits.run N)

@[reducible] def impl_FormOk.sg : Sg := { ms := [{ k := (.sl (.st 87)), fl := [none] }, { k := (.int .i64) }, { k := (.int .i64) }, { k := (.int .i64) }], keep := [false, false, false, false], rs := [{ k := .bool }] }
noncomputable def impl_FormOk.A : Ann := { dp := fun d => isIn [] d, lp := look [], jn := look [], pins := [], nt := 26 }
noncomputable def impl_FormOk.phis (N : Nat) : List (Nat × Sm D) := [(43, impl_within.sm N), (84, impl_formFits.sm N)]
theorem impl_FormOk.run (N : Nat) (x : (List (ImplStep)) × Int × Int × Int × Unit) : runF cx (look (impl_FormOk.phis N)) impl_FormOk.A N (bodyOf Tryd.f44) Tryd.f44.results.toList impl_FormOk.sg x = impl_FormOk N x.1 x.2.1 x.2.2.1 x.2.2.2.1 := by
  have h : runF cx (look (impl_FormOk.phis N)) impl_FormOk.A N (bodyOf Tryd.f44) Tryd.f44.results.toList impl_FormOk.sg x = impl_FormOk.B N x.1 x.2.1 x.2.2.1 x.2.2.2.1 := by kernel_rfl
  rw [h]
  try rfl
noncomputable def impl_FormOk.sm (N : Nat) : Sm D := (⟨impl_FormOk.sg, fun (x : (List (ImplStep)) × Int × Int × Int × Unit) => impl_FormOk N x.1 x.2.1 x.2.2.1 x.2.2.2.1⟩ : Sm D)
theorem impl_FormOk.sound (N : Nat) : Sound cx Tryd.prog gam 44 (impl_FormOk.sm N) := fn_sound (A := impl_FormOk.A) (Φ := (look (impl_FormOk.phis N))) pok (G := gam) (ΦOk.cons (impl_within.sound N) (fnOk_of (f := 43) (by kernel_rfl)) (ΦOk.cons (impl_formFits.sound N) (fnOk_of (f := 84) (by kernel_rfl)) ΦOk.nil)) mixed N Tryd.func44 (c := (bodyOf Tryd.f44)) (by kernel_rfl) impl_FormOk.sg (by kernel_rfl) (by kernel_rfl) (by kernel_rfl) (impl_FormOk.run N)

@[reducible] def spec_validStep.sg : Sg := { ms := [{ k := (.st 87) }, { k := (.int .i64) }, { k := (.int .i64) }, { k := (.int .i64) }], keep := [false, false, false, false], rs := [{ k := .bool }] }
noncomputable def spec_validStep.A : Ann := { dp := fun d => isIn [] d, lp := look [], jn := look [], pins := [], nt := 93 }
noncomputable def spec_validStep.phis (N : Nat) : List (Nat × Sm D) := [(123, spec_validValue.sm N), (85, spec_inRange.sm N)]
theorem spec_validStep.run (N : Nat) (x : ImplStep × Int × Int × Int × Unit) : runF cx (look (spec_validStep.phis N)) spec_validStep.A N (bodyOf Tryd.f95) Tryd.f95.results.toList spec_validStep.sg x = spec_validStep N x.1 x.2.1 x.2.2.1 x.2.2.2.1 := by
  have h : runF cx (look (spec_validStep.phis N)) spec_validStep.A N (bodyOf Tryd.f95) Tryd.f95.results.toList spec_validStep.sg x = spec_validStep.B N x.1 x.2.1 x.2.2.1 x.2.2.2.1 := by kernel_rfl
  rw [h]
  try rfl
noncomputable def spec_validStep.sm (N : Nat) : Sm D := (⟨spec_validStep.sg, fun (x : ImplStep × Int × Int × Int × Unit) => spec_validStep N x.1 x.2.1 x.2.2.1 x.2.2.2.1⟩ : Sm D)
theorem spec_validStep.sound (N : Nat) : Sound cx Tryd.prog gam 95 (spec_validStep.sm N) := fn_sound (A := spec_validStep.A) (Φ := (look (spec_validStep.phis N))) pok (G := gam) (ΦOk.cons (spec_validValue.sound N) (fnOk_of (f := 123) (by kernel_rfl)) (ΦOk.cons (spec_inRange.sound N) (fnOk_of (f := 85) (by kernel_rfl)) ΦOk.nil)) mixed N Tryd.func95 (c := (bodyOf Tryd.f95)) (by kernel_rfl) spec_validStep.sg (by kernel_rfl) (by kernel_rfl) (by kernel_rfl) (spec_validStep.run N)

@[reducible] def spec_takes.sg : Sg := { ms := [{ k := (.st 87) }], keep := [false], rs := [{ k := (.int .i64) }] }
noncomputable def spec_takes.A : Ann := { dp := fun d => isIn [] d, lp := look [], jn := look [], pins := [], nt := 9 }
noncomputable def spec_takes.phis (N : Nat) : List (Nat × Sm D) := []
theorem spec_takes.run (N : Nat) (x : ImplStep × Unit) : runF cx (look (spec_takes.phis N)) spec_takes.A N (bodyOf Tryd.f96) Tryd.f96.results.toList spec_takes.sg x = spec_takes N x.1 := by
  have h : runF cx (look (spec_takes.phis N)) spec_takes.A N (bodyOf Tryd.f96) Tryd.f96.results.toList spec_takes.sg x = spec_takes.B N x.1 := by kernel_rfl
  rw [h]
  try rfl
noncomputable def spec_takes.sm (N : Nat) : Sm D := (⟨spec_takes.sg, fun (x : ImplStep × Unit) => spec_takes N x.1⟩ : Sm D)
theorem spec_takes.sound (N : Nat) : Sound cx Tryd.prog gam 96 (spec_takes.sm N) := fn_sound (A := spec_takes.A) (Φ := (look (spec_takes.phis N))) pok (G := gam) ΦOk.nil mixed N Tryd.func96 (c := (bodyOf Tryd.f96)) (by kernel_rfl) spec_takes.sg (by kernel_rfl) (by kernel_rfl) (by kernel_rfl) (spec_takes.run N)

@[reducible] def spec_validForm.sg : Sg := { ms := [{ k := (.sl (.st 87)), fl := [none] }, { k := (.int .i64) }, { k := (.int .i64) }, { k := (.int .i64) }], keep := [false, false, false, false], rs := [{ k := .bool }] }
@[reducible] def spec_validForm.lvL0 : Lv := { id := 0, slots := [0, 1, 2, 3, 9, 10], ms := [{ k := (.sl (.st 87)), fl := [none] }, { k := (.int .i64) }, { k := (.int .i64) }, { k := (.int .i64) }, { k := (.int .i64) }, { k := (.int .i64) }] }
noncomputable def spec_validForm.A : Ann := { dp := fun d => isIn [] d, lp := look [(0, spec_validForm.lvL0)], jn := look [], pins := [], nt := 48 }
noncomputable def spec_validForm.phis (N : Nat) : List (Nat × Sm D) := [(95, spec_validStep.sm N), (96, spec_takes.sm N)]
noncomputable def spec_validForm.a0 (N : Nat) (n : Nat) (y : (List (ImplStep)) × Int × Int × Int × Int × Int × Unit) : Option (Bool × Unit) := loopAt cx (look (spec_validForm.phis N)) spec_validForm.A N n (encL cx spec_validForm.lvL0.ms y).1 (encL cx spec_validForm.lvL0.ms y).2 (bodyOf Tryd.f60) 0 (Kfin cx spec_validForm.A spec_validForm.sg Tryd.f60.results.toList) [1, 1, 1, 0, 1, 1] []
theorem spec_validForm.r0 (N : Nat) : ∀ (n : Nat) (y : (List (ImplStep)) × Int × Int × Int × Int × Int × Unit), spec_validForm.a0 N n y = spec_validForm.L0 N n y
  | 0, y => by kernel_rfl
  | n + 1, y => by
    have h : spec_validForm.a0 N (n + 1) y = spec_validForm.B0 N (fun z => spec_validForm.a0 N n z) y := by kernel_rfl
    have e : (fun z => spec_validForm.a0 N n z) = spec_validForm.L0 N n := funext fun z => spec_validForm.r0 N n z
    rw [h]
    try rw [e]
    first | done | rfl
theorem spec_validForm.run (N : Nat) (x : (List (ImplStep)) × Int × Int × Int × Unit) : runF cx (look (spec_validForm.phis N)) spec_validForm.A N (bodyOf Tryd.f60) Tryd.f60.results.toList spec_validForm.sg x = spec_validForm N x.1 x.2.1 x.2.2.1 x.2.2.2.1 := by
  have h : runF cx (look (spec_validForm.phis N)) spec_validForm.A N (bodyOf Tryd.f60) Tryd.f60.results.toList spec_validForm.sg x = spec_validForm.B N (fun z => spec_validForm.a0 N N z) x.1 x.2.1 x.2.2.1 x.2.2.2.1 := by kernel_rfl
  have e0 : (fun z => spec_validForm.a0 N N z) = spec_validForm.L0 N N := funext fun z => spec_validForm.r0 N N z
  rw [h, e0]
  try rfl
noncomputable def spec_validForm.sm (N : Nat) : Sm D := (⟨spec_validForm.sg, fun (x : (List (ImplStep)) × Int × Int × Int × Unit) => spec_validForm N x.1 x.2.1 x.2.2.1 x.2.2.2.1⟩ : Sm D)
theorem spec_validForm.sound (N : Nat) : Sound cx Tryd.prog gam 60 (spec_validForm.sm N) := fn_sound (A := spec_validForm.A) (Φ := (look (spec_validForm.phis N))) pok (G := gam) (ΦOk.cons (spec_validStep.sound N) (fnOk_of (f := 95) (by kernel_rfl)) (ΦOk.cons (spec_takes.sound N) (fnOk_of (f := 96) (by kernel_rfl)) ΦOk.nil)) mixed N Tryd.func60 (c := (bodyOf Tryd.f60)) (by kernel_rfl) spec_validForm.sg (by kernel_rfl) (by kernel_rfl) (by kernel_rfl) (spec_validForm.run N)

@[reducible] def impl_valsOk.sg : Sg := { ms := [{ k := (.sl (.st 49)), fl := [none] }], keep := [false], rs := [{ k := .bool }] }
@[reducible] def impl_valsOk.lvL0 : Lv := { id := 0, slots := [5, 6, 7], ms := [{ k := (.sl (.st 49)), fl := [none] }, { k := (.int .i64) }, { k := (.int .i64) }] }
noncomputable def impl_valsOk.A : Ann := { dp := fun d => isIn [] d, lp := look [(0, impl_valsOk.lvL0)], jn := look [], pins := [], nt := 15 }
noncomputable def impl_valsOk.phis (N : Nat) : List (Nat × Sm D) := [(92, impl_ValOk.sm N)]
noncomputable def impl_valsOk.a0 (N : Nat) (n : Nat) (y : (List (ImplValue)) × Int × Int × Unit) : Option (Bool × Unit) := loopAt cx (look (impl_valsOk.phis N)) impl_valsOk.A N n (encL cx impl_valsOk.lvL0.ms y).1 (encL cx impl_valsOk.lvL0.ms y).2 (bodyOf Tryd.f73) 0 (Kfin cx impl_valsOk.A impl_valsOk.sg Tryd.f73.results.toList) [1, 0, 1, 1] []
theorem impl_valsOk.r0 (N : Nat) : ∀ (n : Nat) (y : (List (ImplValue)) × Int × Int × Unit), impl_valsOk.a0 N n y = impl_valsOk.L0 N n y
  | 0, y => by kernel_rfl
  | n + 1, y => by
    have h : impl_valsOk.a0 N (n + 1) y = impl_valsOk.B0 N (fun z => impl_valsOk.a0 N n z) y := by kernel_rfl
    have e : (fun z => impl_valsOk.a0 N n z) = impl_valsOk.L0 N n := funext fun z => impl_valsOk.r0 N n z
    rw [h]
    try rw [e]
    first | done | rfl
theorem impl_valsOk.run (N : Nat) (x : (List (ImplValue)) × Unit) : runF cx (look (impl_valsOk.phis N)) impl_valsOk.A N (bodyOf Tryd.f73) Tryd.f73.results.toList impl_valsOk.sg x = impl_valsOk N x.1 := by
  have h : runF cx (look (impl_valsOk.phis N)) impl_valsOk.A N (bodyOf Tryd.f73) Tryd.f73.results.toList impl_valsOk.sg x = impl_valsOk.B N (fun z => impl_valsOk.a0 N N z) x.1 := by kernel_rfl
  have e0 : (fun z => impl_valsOk.a0 N N z) = impl_valsOk.L0 N N := funext fun z => impl_valsOk.r0 N N z
  rw [h, e0]
  try rfl
noncomputable def impl_valsOk.sm (N : Nat) : Sm D := (⟨impl_valsOk.sg, fun (x : (List (ImplValue)) × Unit) => impl_valsOk N x.1⟩ : Sm D)
theorem impl_valsOk.sound (N : Nat) : Sound cx Tryd.prog gam 73 (impl_valsOk.sm N) := fn_sound (A := impl_valsOk.A) (Φ := (look (impl_valsOk.phis N))) pok (G := gam) (ΦOk.cons (impl_ValOk.sound N) (fnOk_of (f := 92) (by kernel_rfl)) ΦOk.nil) mixed N Tryd.func73 (c := (bodyOf Tryd.f73)) (by kernel_rfl) impl_valsOk.sg (by kernel_rfl) (by kernel_rfl) (by kernel_rfl) (impl_valsOk.run N)

@[reducible] def impl_number.sg : Sg := { ms := [{ k := (.int .i64) }], keep := [false], rs := [{ k := (.st 49) }] }
noncomputable def impl_number.A : Ann := { dp := fun d => isIn [] d, lp := look [], jn := look [], pins := [], nt := 5 }
noncomputable def impl_number.phis (N : Nat) : List (Nat × Sm D) := []
theorem impl_number.run (N : Nat) (x : Int × Unit) : runF cx (look (impl_number.phis N)) impl_number.A N (bodyOf Tryd.f101) Tryd.f101.results.toList impl_number.sg x = impl_number N x.1 := by
  have h : runF cx (look (impl_number.phis N)) impl_number.A N (bodyOf Tryd.f101) Tryd.f101.results.toList impl_number.sg x = impl_number.B N x.1 := by kernel_rfl
  rw [h]
  try rfl
noncomputable def impl_number.sm (N : Nat) : Sm D := (⟨impl_number.sg, fun (x : Int × Unit) => impl_number N x.1⟩ : Sm D)
theorem impl_number.sound (N : Nat) : Sound cx Tryd.prog gam 101 (impl_number.sm N) := fn_sound (A := impl_number.A) (Φ := (look (impl_number.phis N))) pok (G := gam) ΦOk.nil mixed N Tryd.func101 (c := (bodyOf Tryd.f101)) (by kernel_rfl) impl_number.sg (by kernel_rfl) (by kernel_rfl) (by kernel_rfl) (impl_number.run N)

@[reducible] def impl_truth.sg : Sg := { ms := [{ k := .bool }], keep := [false], rs := [{ k := (.st 49) }] }
noncomputable def impl_truth.A : Ann := { dp := fun d => isIn [] d, lp := look [], jn := look [], pins := [], nt := 6 }
noncomputable def impl_truth.phis (N : Nat) : List (Nat × Sm D) := [(101, impl_number.sm N)]
theorem impl_truth.run (N : Nat) (x : Bool × Unit) : runF cx (look (impl_truth.phis N)) impl_truth.A N (bodyOf Tryd.f128) Tryd.f128.results.toList impl_truth.sg x = impl_truth N x.1 := by
  have h : runF cx (look (impl_truth.phis N)) impl_truth.A N (bodyOf Tryd.f128) Tryd.f128.results.toList impl_truth.sg x = impl_truth.B N x.1 := by kernel_rfl
  rw [h]
  try rfl
noncomputable def impl_truth.sm (N : Nat) : Sm D := (⟨impl_truth.sg, fun (x : Bool × Unit) => impl_truth N x.1⟩ : Sm D)
theorem impl_truth.sound (N : Nat) : Sound cx Tryd.prog gam 128 (impl_truth.sm N) := fn_sound (A := impl_truth.A) (Φ := (look (impl_truth.phis N))) pok (G := gam) (ΦOk.cons (impl_number.sound N) (fnOk_of (f := 101) (by kernel_rfl)) ΦOk.nil) mixed N Tryd.func128 (c := (bodyOf Tryd.f128)) (by kernel_rfl) impl_truth.sg (by kernel_rfl) (by kernel_rfl) (by kernel_rfl) (impl_truth.run N)

@[reducible] def impl_ValShow.sg : Sg := { ms := [{ k := (.st 49) }], keep := [false], rs := [{ k := .str }] }
noncomputable def impl_ValShow.A : Ann := { dp := fun d => isIn [] d, lp := look [], jn := look [], pins := [], nt := 19 }
noncomputable def impl_ValShow.phis (N : Nat) : List (Nat × Sm D) := [(92, impl_ValOk.sm N), (107, LibItoa.sm N)]
theorem impl_ValShow.run (N : Nat) (x : ImplValue × Unit) : runF cx (look (impl_ValShow.phis N)) impl_ValShow.A N (bodyOf Tryd.f129) Tryd.f129.results.toList impl_ValShow.sg x = impl_ValShow N x.1 := by
  have h : runF cx (look (impl_ValShow.phis N)) impl_ValShow.A N (bodyOf Tryd.f129) Tryd.f129.results.toList impl_ValShow.sg x = impl_ValShow.B N x.1 := by kernel_rfl
  rw [h]
  try rfl
noncomputable def impl_ValShow.sm (N : Nat) : Sm D := (⟨impl_ValShow.sg, fun (x : ImplValue × Unit) => impl_ValShow N x.1⟩ : Sm D)
theorem impl_ValShow.sound (N : Nat) : Sound cx Tryd.prog gam 129 (impl_ValShow.sm N) := fn_sound (A := impl_ValShow.A) (Φ := (look (impl_ValShow.phis N))) pok (G := gam) (ΦOk.cons (impl_ValOk.sound N) (fnOk_of (f := 92) (by kernel_rfl)) (ΦOk.cons (LibItoa.sound N) (fnOk_of (f := 107) (by kernel_rfl)) ΦOk.nil)) mixed N Tryd.func129 (c := (bodyOf Tryd.f129)) (by kernel_rfl) impl_ValShow.sg (by kernel_rfl) (by kernel_rfl) (by kernel_rfl) (impl_ValShow.run N)

@[reducible] def impl_ValTrue.sg : Sg := { ms := [{ k := (.st 49) }], keep := [false], rs := [{ k := .bool }] }
noncomputable def impl_ValTrue.A : Ann := { dp := fun d => isIn [] d, lp := look [], jn := look [], pins := [], nt := 25 }
noncomputable def impl_ValTrue.phis (N : Nat) : List (Nat × Sm D) := [(92, impl_ValOk.sm N)]
theorem impl_ValTrue.run (N : Nat) (x : ImplValue × Unit) : runF cx (look (impl_ValTrue.phis N)) impl_ValTrue.A N (bodyOf Tryd.f103) Tryd.f103.results.toList impl_ValTrue.sg x = impl_ValTrue N x.1 := by
  have h : runF cx (look (impl_ValTrue.phis N)) impl_ValTrue.A N (bodyOf Tryd.f103) Tryd.f103.results.toList impl_ValTrue.sg x = impl_ValTrue.B N x.1 := by kernel_rfl
  rw [h]
  try rfl
noncomputable def impl_ValTrue.sm (N : Nat) : Sm D := (⟨impl_ValTrue.sg, fun (x : ImplValue × Unit) => impl_ValTrue N x.1⟩ : Sm D)
theorem impl_ValTrue.sound (N : Nat) : Sound cx Tryd.prog gam 103 (impl_ValTrue.sm N) := fn_sound (A := impl_ValTrue.A) (Φ := (look (impl_ValTrue.phis N))) pok (G := gam) (ΦOk.cons (impl_ValOk.sound N) (fnOk_of (f := 92) (by kernel_rfl)) ΦOk.nil) mixed N Tryd.func103 (c := (bodyOf Tryd.f103)) (by kernel_rfl) impl_ValTrue.sg (by kernel_rfl) (by kernel_rfl) (by kernel_rfl) (impl_ValTrue.run N)

@[reducible] def impl_ValDo.sg : Sg := { ms := [{ k := (.int .i64) }, { k := (.st 49) }, { k := (.st 49) }], keep := [false, false, false], rs := [{ k := (.st 49) }] }
@[reducible] def impl_ValDo.lvJ19 : Lv := { id := 19, slots := [6, 7], ms := [{ ptr := true, id := 600, t := 50, k := (.st 49), fl := [none, none, none] }, { k := (.int .i64) }] }
noncomputable def impl_ValDo.A : Ann := { dp := fun d => isIn [] d, lp := look [], jn := look [(19, impl_ValDo.lvJ19)], pins := [], nt := 93 }
noncomputable def impl_ValDo.phis (N : Nat) : List (Nat × Sm D) := [(92, impl_ValOk.sm N), (128, impl_truth.sm N), (43, impl_within.sm N), (101, impl_number.sm N), (129, impl_ValShow.sm N), (103, impl_ValTrue.sm N)]
theorem impl_ValDo.run (N : Nat) (x : Int × ImplValue × ImplValue × Unit) : runF cx (look (impl_ValDo.phis N)) impl_ValDo.A N (bodyOf Tryd.f102) Tryd.f102.results.toList impl_ValDo.sg x = impl_ValDo N x.1 x.2.1 x.2.2.1 := by
  have h : runF cx (look (impl_ValDo.phis N)) impl_ValDo.A N (bodyOf Tryd.f102) Tryd.f102.results.toList impl_ValDo.sg x = impl_ValDo.B N x.1 x.2.1 x.2.2.1 := by kernel_rfl
  rw [h]
  try rfl
noncomputable def impl_ValDo.sm (N : Nat) : Sm D := (⟨impl_ValDo.sg, fun (x : Int × ImplValue × ImplValue × Unit) => impl_ValDo N x.1 x.2.1 x.2.2.1⟩ : Sm D)
theorem impl_ValDo.sound (N : Nat) : Sound cx Tryd.prog gam 102 (impl_ValDo.sm N) := fn_sound (A := impl_ValDo.A) (Φ := (look (impl_ValDo.phis N))) pok (G := gam) (ΦOk.cons (impl_ValOk.sound N) (fnOk_of (f := 92) (by kernel_rfl)) (ΦOk.cons (impl_truth.sound N) (fnOk_of (f := 128) (by kernel_rfl)) (ΦOk.cons (impl_within.sound N) (fnOk_of (f := 43) (by kernel_rfl)) (ΦOk.cons (impl_number.sound N) (fnOk_of (f := 101) (by kernel_rfl)) (ΦOk.cons (impl_ValShow.sound N) (fnOk_of (f := 129) (by kernel_rfl)) (ΦOk.cons (impl_ValTrue.sound N) (fnOk_of (f := 103) (by kernel_rfl)) ΦOk.nil)))))) mixed N Tryd.func102 (c := (bodyOf Tryd.f102)) (by kernel_rfl) impl_ValDo.sg (by kernel_rfl) (by kernel_rfl) (by kernel_rfl) (impl_ValDo.run N)

@[reducible] def impl_formRun.sg : Sg := { ms := [{ k := (.sl (.st 87)), fl := [none] }, { k := (.st 54) }], keep := [false, false], rs := [{ k := (.st 49) }] }
@[reducible] def impl_formRun.lvJ23 : Lv := { id := 23, slots := [3, 4, 5, 8, 9, 11, 12, 13], ms := [{ ptr := true, id := 600, t := 55, k := (.st 54), fl := [none, none, none, none] }, { ptr := true, id := 620, t := 50, k := (.st 49), fl := [none, none, none] }, { k := (.sl (.st 49)), fl := [some (false, 640)] }, { k := (.int .i64) }, { ptr := true, id := 680, t := 50, k := (.st 49), fl := [none, none, none] }, { k := (.sl (.st 87)), fl := [none] }, { k := (.int .i64) }, { k := (.int .i64) }] }
@[reducible] def impl_formRun.lvL0 : Lv := { id := 0, slots := [3, 4, 5, 11, 12, 13], ms := [{ ptr := true, id := 600, t := 55, k := (.st 54), fl := [none, none, none, none] }, { ptr := true, id := 620, t := 50, k := (.st 49), fl := [none, none, none] }, { k := (.sl (.st 49)), fl := [some (false, 640)] }, { k := (.sl (.st 87)), fl := [none] }, { k := (.int .i64) }, { k := (.int .i64) }] }
noncomputable def impl_formRun.A : Ann := { dp := fun d => isIn [] d, lp := look [(0, impl_formRun.lvL0)], jn := look [(23, impl_formRun.lvJ23)], pins := [], nt := 128 }
noncomputable def impl_formRun.phis (N : Nat) : List (Nat × Sm D) := [(101, impl_number.sm N), (102, impl_ValDo.sm N), (103, impl_ValTrue.sm N)]
noncomputable def impl_formRun.a0 (N : Nat) (n : Nat) (y : ImplEnv × ImplValue × (List (ImplValue)) × (List (ImplStep)) × Int × Int × Unit) : Option (ImplValue × Unit) := loopAt cx (look (impl_formRun.phis N)) impl_formRun.A N n (encL cx impl_formRun.lvL0.ms y).1 (encL cx impl_formRun.lvL0.ms y).2 (bodyOf Tryd.f66) 0 (Kfin cx impl_formRun.A impl_formRun.sg Tryd.f66.results.toList) [1, 1, 0, 1, 1] []
theorem impl_formRun.r0 (N : Nat) : ∀ (n : Nat) (y : ImplEnv × ImplValue × (List (ImplValue)) × (List (ImplStep)) × Int × Int × Unit), impl_formRun.a0 N n y = impl_formRun.L0 N n y
  | 0, y => by kernel_rfl
  | n + 1, y => by
    have h : impl_formRun.a0 N (n + 1) y = impl_formRun.B0 N (fun z => impl_formRun.a0 N n z) y := by kernel_rfl
    have e : (fun z => impl_formRun.a0 N n z) = impl_formRun.L0 N n := funext fun z => impl_formRun.r0 N n z
    rw [h]
    try rw [e]
    first | done | rfl
theorem impl_formRun.run (N : Nat) (x : (List (ImplStep)) × ImplEnv × Unit) : runF cx (look (impl_formRun.phis N)) impl_formRun.A N (bodyOf Tryd.f66) Tryd.f66.results.toList impl_formRun.sg x = impl_formRun N x.1 x.2.1 := by
  have h : runF cx (look (impl_formRun.phis N)) impl_formRun.A N (bodyOf Tryd.f66) Tryd.f66.results.toList impl_formRun.sg x = impl_formRun.B N (fun z => impl_formRun.a0 N N z) x.1 x.2.1 := by kernel_rfl
  have e0 : (fun z => impl_formRun.a0 N N z) = impl_formRun.L0 N N := funext fun z => impl_formRun.r0 N N z
  rw [h, e0]
  try rfl
noncomputable def impl_formRun.sm (N : Nat) : Sm D := (⟨impl_formRun.sg, fun (x : (List (ImplStep)) × ImplEnv × Unit) => impl_formRun N x.1 x.2.1⟩ : Sm D)
theorem impl_formRun.sound (N : Nat) : Sound cx Tryd.prog gam 66 (impl_formRun.sm N) := fn_sound (A := impl_formRun.A) (Φ := (look (impl_formRun.phis N))) pok (G := gam) (ΦOk.cons (impl_number.sound N) (fnOk_of (f := 101) (by kernel_rfl)) (ΦOk.cons (impl_ValDo.sound N) (fnOk_of (f := 102) (by kernel_rfl)) (ΦOk.cons (impl_ValTrue.sound N) (fnOk_of (f := 103) (by kernel_rfl)) ΦOk.nil))) mixed N Tryd.func66 (c := (bodyOf Tryd.f66)) (by kernel_rfl) impl_formRun.sg (by kernel_rfl) (by kernel_rfl) (by kernel_rfl) (impl_formRun.run N)

@[reducible] def spec_decimal.sg : Sg := { ms := [{ k := (.int .i64) }], keep := [false], rs := [{ k := .str }] }
noncomputable def spec_decimal.A : Ann := { dp := fun d => isIn [] d, lp := look [], jn := look [], pins := [], nt := 22 }
noncomputable def spec_decimal.phis (N : Nat) (d : Nat) : List (Nat × Sm D) := [(109, (⟨spec_decimal.sg, fun (x : Int × Unit) => spec_decimal.R N d x.1⟩ : Sm D))]
theorem spec_decimal.run (N : Nat) (d : Nat) (x : Int × Unit) : runF cx (look (spec_decimal.phis N d)) spec_decimal.A N (bodyOf Tryd.f109) Tryd.f109.results.toList spec_decimal.sg x = spec_decimal.R N (d + 1) x.1 := by
  have h : runF cx (look (spec_decimal.phis N d)) spec_decimal.A N (bodyOf Tryd.f109) Tryd.f109.results.toList spec_decimal.sg x = spec_decimal.B N (spec_decimal.R N d) x.1 := by kernel_rfl
  rw [h]
  try rfl
theorem spec_decimal.step (N : Nat) (d : Nat) (h_spec_decimal : Sound cx Tryd.prog gam 109 (⟨spec_decimal.sg, fun (x : Int × Unit) => spec_decimal.R N d x.1⟩ : Sm D)) : Sound cx Tryd.prog gam 109 (⟨spec_decimal.sg, fun (x : Int × Unit) => spec_decimal.R N (d + 1) x.1⟩ : Sm D) := fn_sound (A := spec_decimal.A) (Φ := (look (spec_decimal.phis N d))) pok (G := gam) (ΦOk.cons h_spec_decimal (fnOk_of (f := 109) (by kernel_rfl)) ΦOk.nil) mixed N Tryd.func109 (c := (bodyOf Tryd.f109)) (by kernel_rfl) spec_decimal.sg (by kernel_rfl) (by kernel_rfl) (by kernel_rfl) (spec_decimal.run N d)

theorem spec_decimal.scc (N : Nat) : ∀ d, Sound cx Tryd.prog gam 109 (⟨spec_decimal.sg, fun (x : Int × Unit) => spec_decimal.R N d x.1⟩ : Sm D)
  | 0 => none_sound 109 spec_decimal.sg
  | d + 1 => by
    have ih := spec_decimal.scc N d
    exact spec_decimal.step N d ih
noncomputable def spec_decimal.sm (N : Nat) : Sm D := (⟨spec_decimal.sg, fun (x : Int × Unit) => spec_decimal.R N N x.1⟩ : Sm D)
theorem spec_decimal.sound (N : Nat) : Sound cx Tryd.prog gam 109 (spec_decimal.sm N) := (spec_decimal.scc N N)
@[reducible] def laws_szValue.sg : Sg := { ms := [{ k := (.st 49) }, { k := (.int .i64) }], keep := [false, false], rs := [{ k := (.int .i64) }] }
noncomputable def laws_szValue.A : Ann := { dp := fun d => isIn [] d, lp := look [], jn := look [], pins := [], nt := 13 }
noncomputable def laws_szValue.phis (N : Nat) : List (Nat × Sm D) := []
theorem laws_szValue.run (N : Nat) (x : ImplValue × Int × Unit) : runF cx (look (laws_szValue.phis N)) laws_szValue.A N (bodyOf Tryd.f93) Tryd.f93.results.toList laws_szValue.sg x = laws_szValue N x.1 x.2.1 := by
  have h : runF cx (look (laws_szValue.phis N)) laws_szValue.A N (bodyOf Tryd.f93) Tryd.f93.results.toList laws_szValue.sg x = laws_szValue.B N x.1 x.2.1 := by kernel_rfl
  rw [h]
  try rfl
noncomputable def laws_szValue.sm (N : Nat) : Sm D := (⟨laws_szValue.sg, fun (x : ImplValue × Int × Unit) => laws_szValue N x.1 x.2.1⟩ : Sm D)
theorem laws_szValue.sound (N : Nat) : Sound cx Tryd.prog gam 93 (laws_szValue.sm N) := fn_sound (A := laws_szValue.A) (Φ := (look (laws_szValue.phis N))) pok (G := gam) ΦOk.nil mixed N Tryd.func93 (c := (bodyOf Tryd.f93)) (by kernel_rfl) laws_szValue.sg (by kernel_rfl) (by kernel_rfl) (by kernel_rfl) (laws_szValue.run N)

@[reducible] def laws_szStep.sg : Sg := { ms := [{ k := (.st 82) }, { k := (.int .i64) }], keep := [false, false], rs := [{ k := (.int .i64) }] }
noncomputable def laws_szStep.A : Ann := { dp := fun d => isIn [] d, lp := look [], jn := look [], pins := [], nt := 12 }
noncomputable def laws_szStep.phis (N : Nat) : List (Nat × Sm D) := [(93, laws_szValue.sm N)]
theorem laws_szStep.run (N : Nat) (x : LawsStep × Int × Unit) : runF cx (look (laws_szStep.phis N)) laws_szStep.A N (bodyOf Tryd.f56) Tryd.f56.results.toList laws_szStep.sg x = laws_szStep N x.1 x.2.1 := by
  have h : runF cx (look (laws_szStep.phis N)) laws_szStep.A N (bodyOf Tryd.f56) Tryd.f56.results.toList laws_szStep.sg x = laws_szStep.B N x.1 x.2.1 := by kernel_rfl
  rw [h]
  try rfl
noncomputable def laws_szStep.sm (N : Nat) : Sm D := (⟨laws_szStep.sg, fun (x : LawsStep × Int × Unit) => laws_szStep N x.1 x.2.1⟩ : Sm D)
theorem laws_szStep.sound (N : Nat) : Sound cx Tryd.prog gam 56 (laws_szStep.sm N) := fn_sound (A := laws_szStep.A) (Φ := (look (laws_szStep.phis N))) pok (G := gam) (ΦOk.cons (laws_szValue.sound N) (fnOk_of (f := 93) (by kernel_rfl)) ΦOk.nil) mixed N Tryd.func56 (c := (bodyOf Tryd.f56)) (by kernel_rfl) laws_szStep.sg (by kernel_rfl) (by kernel_rfl) (by kernel_rfl) (laws_szStep.run N)

@[reducible] def laws_szStepS.sg : Sg := { ms := [{ k := (.sl (.st 82)), fl := [none] }, { k := (.int .i64) }], keep := [false, false], rs := [{ k := (.int .i64) }] }
@[reducible] def laws_szStepS.lvL0 : Lv := { id := 0, slots := [0, 1, 5], ms := [{ k := (.sl (.st 82)), fl := [none] }, { k := (.int .i64) }, { k := (.int .i64) }] }
noncomputable def laws_szStepS.A : Ann := { dp := fun d => isIn [] d, lp := look [(0, laws_szStepS.lvL0)], jn := look [], pins := [], nt := 27 }
noncomputable def laws_szStepS.phis (N : Nat) : List (Nat × Sm D) := [(56, laws_szStep.sm N)]
noncomputable def laws_szStepS.a0 (N : Nat) (n : Nat) (y : (List (LawsStep)) × Int × Int × Unit) : Option (Int × Unit) := loopAt cx (look (laws_szStepS.phis N)) laws_szStepS.A N n (encL cx laws_szStepS.lvL0.ms y).1 (encL cx laws_szStepS.lvL0.ms y).2 (bodyOf Tryd.f21) 0 (Kfin cx laws_szStepS.A laws_szStepS.sg Tryd.f21.results.toList) [1, 1, 1, 0, 1, 1] []
theorem laws_szStepS.r0 (N : Nat) : ∀ (n : Nat) (y : (List (LawsStep)) × Int × Int × Unit), laws_szStepS.a0 N n y = laws_szStepS.L0 N n y
  | 0, y => by kernel_rfl
  | n + 1, y => by
    have h : laws_szStepS.a0 N (n + 1) y = laws_szStepS.B0 N (fun z => laws_szStepS.a0 N n z) y := by kernel_rfl
    have e : (fun z => laws_szStepS.a0 N n z) = laws_szStepS.L0 N n := funext fun z => laws_szStepS.r0 N n z
    rw [h]
    try rw [e]
    first | done | rfl
theorem laws_szStepS.run (N : Nat) (x : (List (LawsStep)) × Int × Unit) : runF cx (look (laws_szStepS.phis N)) laws_szStepS.A N (bodyOf Tryd.f21) Tryd.f21.results.toList laws_szStepS.sg x = laws_szStepS N x.1 x.2.1 := by
  have h : runF cx (look (laws_szStepS.phis N)) laws_szStepS.A N (bodyOf Tryd.f21) Tryd.f21.results.toList laws_szStepS.sg x = laws_szStepS.B N (fun z => laws_szStepS.a0 N N z) x.1 x.2.1 := by kernel_rfl
  have e0 : (fun z => laws_szStepS.a0 N N z) = laws_szStepS.L0 N N := funext fun z => laws_szStepS.r0 N N z
  rw [h, e0]
  try rfl
noncomputable def laws_szStepS.sm (N : Nat) : Sm D := (⟨laws_szStepS.sg, fun (x : (List (LawsStep)) × Int × Unit) => laws_szStepS N x.1 x.2.1⟩ : Sm D)
theorem laws_szStepS.sound (N : Nat) : Sound cx Tryd.prog gam 21 (laws_szStepS.sm N) := fn_sound (A := laws_szStepS.A) (Φ := (look (laws_szStepS.phis N))) pok (G := gam) (ΦOk.cons (laws_szStep.sound N) (fnOk_of (f := 56) (by kernel_rfl)) ΦOk.nil) mixed N Tryd.func21 (c := (bodyOf Tryd.f21)) (by kernel_rfl) laws_szStepS.sg (by kernel_rfl) (by kernel_rfl) (by kernel_rfl) (laws_szStepS.run N)

@[reducible] def laws_szValueS.sg : Sg := { ms := [{ k := (.sl (.st 49)), fl := [none] }, { k := (.int .i64) }], keep := [false, false], rs := [{ k := (.int .i64) }] }
@[reducible] def laws_szValueS.lvL0 : Lv := { id := 0, slots := [0, 1, 5], ms := [{ k := (.sl (.st 49)), fl := [none] }, { k := (.int .i64) }, { k := (.int .i64) }] }
noncomputable def laws_szValueS.A : Ann := { dp := fun d => isIn [] d, lp := look [(0, laws_szValueS.lvL0)], jn := look [], pins := [], nt := 27 }
noncomputable def laws_szValueS.phis (N : Nat) : List (Nat × Sm D) := [(93, laws_szValue.sm N)]
noncomputable def laws_szValueS.a0 (N : Nat) (n : Nat) (y : (List (ImplValue)) × Int × Int × Unit) : Option (Int × Unit) := loopAt cx (look (laws_szValueS.phis N)) laws_szValueS.A N n (encL cx laws_szValueS.lvL0.ms y).1 (encL cx laws_szValueS.lvL0.ms y).2 (bodyOf Tryd.f57) 0 (Kfin cx laws_szValueS.A laws_szValueS.sg Tryd.f57.results.toList) [1, 1, 1, 0, 1, 1] []
theorem laws_szValueS.r0 (N : Nat) : ∀ (n : Nat) (y : (List (ImplValue)) × Int × Int × Unit), laws_szValueS.a0 N n y = laws_szValueS.L0 N n y
  | 0, y => by kernel_rfl
  | n + 1, y => by
    have h : laws_szValueS.a0 N (n + 1) y = laws_szValueS.B0 N (fun z => laws_szValueS.a0 N n z) y := by kernel_rfl
    have e : (fun z => laws_szValueS.a0 N n z) = laws_szValueS.L0 N n := funext fun z => laws_szValueS.r0 N n z
    rw [h]
    try rw [e]
    first | done | rfl
theorem laws_szValueS.run (N : Nat) (x : (List (ImplValue)) × Int × Unit) : runF cx (look (laws_szValueS.phis N)) laws_szValueS.A N (bodyOf Tryd.f57) Tryd.f57.results.toList laws_szValueS.sg x = laws_szValueS N x.1 x.2.1 := by
  have h : runF cx (look (laws_szValueS.phis N)) laws_szValueS.A N (bodyOf Tryd.f57) Tryd.f57.results.toList laws_szValueS.sg x = laws_szValueS.B N (fun z => laws_szValueS.a0 N N z) x.1 x.2.1 := by kernel_rfl
  have e0 : (fun z => laws_szValueS.a0 N N z) = laws_szValueS.L0 N N := funext fun z => laws_szValueS.r0 N N z
  rw [h, e0]
  try rfl
noncomputable def laws_szValueS.sm (N : Nat) : Sm D := (⟨laws_szValueS.sg, fun (x : (List (ImplValue)) × Int × Unit) => laws_szValueS N x.1 x.2.1⟩ : Sm D)
theorem laws_szValueS.sound (N : Nat) : Sound cx Tryd.prog gam 57 (laws_szValueS.sm N) := fn_sound (A := laws_szValueS.A) (Φ := (look (laws_szValueS.phis N))) pok (G := gam) (ΦOk.cons (laws_szValue.sound N) (fnOk_of (f := 93) (by kernel_rfl)) ΦOk.nil) mixed N Tryd.func57 (c := (bodyOf Tryd.f57)) (by kernel_rfl) laws_szValueS.sg (by kernel_rfl) (by kernel_rfl) (by kernel_rfl) (laws_szValueS.run N)

@[reducible] def laws_szIntS.sg : Sg := { ms := [{ k := (.sl (.int .i64)), fl := [none] }, { k := (.int .i64) }], keep := [false, false], rs := [{ k := (.int .i64) }] }
noncomputable def laws_szIntS.A : Ann := { dp := fun d => isIn [] d, lp := look [], jn := look [], pins := [], nt := 12 }
noncomputable def laws_szIntS.phis (N : Nat) : List (Nat × Sm D) := []
theorem laws_szIntS.run (N : Nat) (x : (List (Int)) × Int × Unit) : runF cx (look (laws_szIntS.phis N)) laws_szIntS.A N (bodyOf Tryd.f58) Tryd.f58.results.toList laws_szIntS.sg x = laws_szIntS N x.1 x.2.1 := by
  have h : runF cx (look (laws_szIntS.phis N)) laws_szIntS.A N (bodyOf Tryd.f58) Tryd.f58.results.toList laws_szIntS.sg x = laws_szIntS.B N x.1 x.2.1 := by kernel_rfl
  rw [h]
  try rfl
noncomputable def laws_szIntS.sm (N : Nat) : Sm D := (⟨laws_szIntS.sg, fun (x : (List (Int)) × Int × Unit) => laws_szIntS N x.1 x.2.1⟩ : Sm D)
theorem laws_szIntS.sound (N : Nat) : Sound cx Tryd.prog gam 58 (laws_szIntS.sm N) := fn_sound (A := laws_szIntS.A) (Φ := (look (laws_szIntS.phis N))) pok (G := gam) ΦOk.nil mixed N Tryd.func58 (c := (bodyOf Tryd.f58)) (by kernel_rfl) laws_szIntS.sg (by kernel_rfl) (by kernel_rfl) (by kernel_rfl) (laws_szIntS.run N)

end
end Go.Ev
