/- Each function that the law reaches does what its plain form says; no condition beyond the table of the library. -/
import Derived.Test.YtfgdaioblgfipaaDoorEvT0
set_option linter.all false
set_option linter.unusedVariables false
set_option linter.unusedSimpArgs false
set_option maxRecDepth 100000
set_option maxHeartbeats 0
namespace Go.Ev
noncomputable section
open Go.Proofs
@[reducible] def spec_source_form.sg : Sg := { ms := [{ ptr := true, id := 10, t := 103, k := (.st 102) }, { k := (.int .i64) }, { k := (.int .i64) }, { k := (.int .i64) }, { k := (.int .i64) }], keep := [true, false, false, false, false], rs := [{ k := (.sl (.st 87)), fl := [some (false, 411)] }], hold := true }
noncomputable def spec_source_form.A : Ann := { dp := fun d => isIn [] d, lp := look [], jn := look [], pins := [10], nt := 81 }
noncomputable def spec_source_form.phis (N : Nat) (d : Nat) : List (Nat × Sm D) := [(40, spec_source_pick.sm N), (111, spec_source_leaf.sm N), (79, (⟨spec_source_form.sg, fun (x : SpecSource × Int × Int × Int × Int × Unit) => spec_source_form.R N d x.1 x.2.1 x.2.2.1 x.2.2.2.1 x.2.2.2.2.1⟩ : Sm D))]
theorem spec_source_form.run (N : Nat) (d : Nat) (x : SpecSource × Int × Int × Int × Int × Unit) : runF cx (look (spec_source_form.phis N d)) spec_source_form.A N (bodyOf Tryd.f79) Tryd.f79.results.toList spec_source_form.sg x = spec_source_form.R N (d + 1) x.1 x.2.1 x.2.2.1 x.2.2.2.1 x.2.2.2.2.1 := by
  have h : runF cx (look (spec_source_form.phis N d)) spec_source_form.A N (bodyOf Tryd.f79) Tryd.f79.results.toList spec_source_form.sg x = spec_source_form.B N (spec_source_form.R N d) x.1 x.2.1 x.2.2.1 x.2.2.2.1 x.2.2.2.2.1 := by kernel_rfl
  rw [h]
  try rfl
theorem spec_source_form.step (N : Nat) (d : Nat) (h_spec_source_form : Sound cx Tryd.prog gam 79 (⟨spec_source_form.sg, fun (x : SpecSource × Int × Int × Int × Int × Unit) => spec_source_form.R N d x.1 x.2.1 x.2.2.1 x.2.2.2.1 x.2.2.2.2.1⟩ : Sm D)) : Sound cx Tryd.prog gam 79 (⟨spec_source_form.sg, fun (x : SpecSource × Int × Int × Int × Int × Unit) => spec_source_form.R N (d + 1) x.1 x.2.1 x.2.2.1 x.2.2.2.1 x.2.2.2.2.1⟩ : Sm D) := fn_sound (A := spec_source_form.A) (Φ := (look (spec_source_form.phis N d))) pok (G := gam) (ΦOk.cons (spec_source_pick.sound N) (fnOk_of (f := 40) (by kernel_rfl)) (ΦOk.cons (spec_source_leaf.sound N) (fnOk_of (f := 111) (by kernel_rfl)) (ΦOk.cons h_spec_source_form (fnOk_of (f := 79) (by kernel_rfl)) ΦOk.nil))) mixed N Tryd.func79 (c := (bodyOf Tryd.f79)) (by kernel_rfl) spec_source_form.sg (by kernel_rfl) (by kernel_rfl) (by kernel_rfl) (spec_source_form.run N d)

theorem spec_source_form.scc (N : Nat) : ∀ d, Sound cx Tryd.prog gam 79 (⟨spec_source_form.sg, fun (x : SpecSource × Int × Int × Int × Int × Unit) => spec_source_form.R N d x.1 x.2.1 x.2.2.1 x.2.2.2.1 x.2.2.2.2.1⟩ : Sm D)
  | 0 => none_sound 79 spec_source_form.sg
  | d + 1 => by
    have ih := spec_source_form.scc N d
    exact spec_source_form.step N d ih
noncomputable def spec_source_form.sm (N : Nat) : Sm D := (⟨spec_source_form.sg, fun (x : SpecSource × Int × Int × Int × Int × Unit) => spec_source_form.R N N x.1 x.2.1 x.2.2.1 x.2.2.2.1 x.2.2.2.2.1⟩ : Sm D)
theorem spec_source_form.sound (N : Nat) : Sound cx Tryd.prog gam 79 (spec_source_form.sm N) := (spec_source_form.scc N N)
@[reducible] def spec_source_update.sg : Sg := { ms := [{ ptr := true, id := 10, t := 103, k := (.st 102) }, { k := (.sl (.st 98)), fl := [none] }], keep := [true, false], rs := [{ k := (.st 25) }], hold := true }
@[reducible] def spec_source_update.lvJ8 : Lv := { id := 8, slots := [0, 4, 5, 6], ms := [{ ptr := true, id := 10, t := 103, k := (.st 102), fl := [none, none, none] }, { ptr := true, id := 620, t := 26, k := (.st 25), fl := [some (false, 621), none, some (false, 623), none] }, { ptr := true, id := 640, t := 26, k := (.st 25), fl := [none, none, some (false, 643), none] }, { k := (.int .i64) }] }
noncomputable def spec_source_update.A : Ann := { dp := fun d => isIn [] d, lp := look [], jn := look [(8, spec_source_update.lvJ8)], pins := [10], nt := 56 }
noncomputable def spec_source_update.phis (N : Nat) : List (Nat × Sm D) := [(40, spec_source_pick.sm N), (78, spec_source_slots.sm N), (79, spec_source_form.sm N), (80, spec_source_rarely.sm N), (41, spec_source_one.sm N)]
theorem spec_source_update.run (N : Nat) (x : SpecSource × (List (ImplCell)) × Unit) : runF cx (look (spec_source_update.phis N)) spec_source_update.A N (bodyOf Tryd.f38) Tryd.f38.results.toList spec_source_update.sg x = spec_source_update N x.1 x.2.1 := by
  have h : runF cx (look (spec_source_update.phis N)) spec_source_update.A N (bodyOf Tryd.f38) Tryd.f38.results.toList spec_source_update.sg x = spec_source_update.B N x.1 x.2.1 := by kernel_rfl
  rw [h]
  try rfl
noncomputable def spec_source_update.sm (N : Nat) : Sm D := (⟨spec_source_update.sg, fun (x : SpecSource × (List (ImplCell)) × Unit) => spec_source_update N x.1 x.2.1⟩ : Sm D)
theorem spec_source_update.sound (N : Nat) : Sound cx Tryd.prog gam 38 (spec_source_update.sm N) := fn_sound (A := spec_source_update.A) (Φ := (look (spec_source_update.phis N))) pok (G := gam) (ΦOk.cons (spec_source_pick.sound N) (fnOk_of (f := 40) (by kernel_rfl)) (ΦOk.cons (spec_source_slots.sound N) (fnOk_of (f := 78) (by kernel_rfl)) (ΦOk.cons (spec_source_form.sound N) (fnOk_of (f := 79) (by kernel_rfl)) (ΦOk.cons (spec_source_rarely.sound N) (fnOk_of (f := 80) (by kernel_rfl)) (ΦOk.cons (spec_source_one.sound N) (fnOk_of (f := 41) (by kernel_rfl)) ΦOk.nil))))) mixed N Tryd.func38 (c := (bodyOf Tryd.f38)) (by kernel_rfl) spec_source_update.sg (by kernel_rfl) (by kernel_rfl) (by kernel_rfl) (spec_source_update.run N)

@[reducible] def impl_within.sg : Sg := { ms := [{ k := (.int .i64) }, { k := (.int .i64) }, { k := (.int .i64) }], keep := [false, false, false], rs := [{ k := .bool }] }
noncomputable def impl_within.A : Ann := { dp := fun d => isIn [] d, lp := look [], jn := look [], pins := [], nt := 15 }
noncomputable def impl_within.phis (N : Nat) : List (Nat × Sm D) := []
theorem impl_within.run (N : Nat) (x : Int × Int × Int × Unit) : runF cx (look (impl_within.phis N)) impl_within.A N (bodyOf Tryd.f43) Tryd.f43.results.toList impl_within.sg x = impl_within N x.1 x.2.1 x.2.2.1 := by
  have h : runF cx (look (impl_within.phis N)) impl_within.A N (bodyOf Tryd.f43) Tryd.f43.results.toList impl_within.sg x = impl_within.B N x.1 x.2.1 x.2.2.1 := by kernel_rfl
  rw [h]
  try rfl
noncomputable def impl_within.sm (N : Nat) : Sm D := (⟨impl_within.sg, fun (x : Int × Int × Int × Unit) => impl_within N x.1 x.2.1 x.2.2.1⟩ : Sm D)
theorem impl_within.sound (N : Nat) : Sound cx Tryd.prog gam 43 (impl_within.sm N) := fn_sound (A := impl_within.A) (Φ := (look (impl_within.phis N))) pok (G := gam) ΦOk.nil mixed N Tryd.func43 (c := (bodyOf Tryd.f43)) (by kernel_rfl) impl_within.sg (by kernel_rfl) (by kernel_rfl) (by kernel_rfl) (impl_within.run N)

@[reducible] def impl_PlaceOk.sg : Sg := { ms := [{ k := (.sl (.st 109)), fl := [none] }], keep := [false], rs := [{ k := .bool }] }
@[reducible] def impl_PlaceOk.lvL0 : Lv := { id := 0, slots := [0, 5, 6, 7], ms := [{ k := (.sl (.st 109)), fl := [none] }, { k := (.sl (.st 109)), fl := [none] }, { k := (.int .i64) }, { k := (.int .i64) }] }
noncomputable def impl_PlaceOk.A : Ann := { dp := fun d => isIn [] d, lp := look [(0, impl_PlaceOk.lvL0)], jn := look [], pins := [], nt := 25 }
noncomputable def impl_PlaceOk.phis (N : Nat) : List (Nat × Sm D) := [(43, impl_within.sm N)]
noncomputable def impl_PlaceOk.a0 (N : Nat) (n : Nat) (y : (List (ImplSlot)) × (List (ImplSlot)) × Int × Int × Unit) : Option (Bool × Unit) := loopAt cx (look (impl_PlaceOk.phis N)) impl_PlaceOk.A N n (encL cx impl_PlaceOk.lvL0.ms y).1 (encL cx impl_PlaceOk.lvL0.ms y).2 (bodyOf Tryd.f42) 0 (Kfin cx impl_PlaceOk.A impl_PlaceOk.sg Tryd.f42.results.toList) [1, 0, 1, 1] []
theorem impl_PlaceOk.r0 (N : Nat) : ∀ (n : Nat) (y : (List (ImplSlot)) × (List (ImplSlot)) × Int × Int × Unit), impl_PlaceOk.a0 N n y = impl_PlaceOk.L0 N n y
  | 0, y => by kernel_rfl
  | n + 1, y => by
    have h : impl_PlaceOk.a0 N (n + 1) y = impl_PlaceOk.B0 N (fun z => impl_PlaceOk.a0 N n z) y := by kernel_rfl
    have e : (fun z => impl_PlaceOk.a0 N n z) = impl_PlaceOk.L0 N n := funext fun z => impl_PlaceOk.r0 N n z
    rw [h]
    try rw [e]
    first | done | rfl
theorem impl_PlaceOk.run (N : Nat) (x : (List (ImplSlot)) × Unit) : runF cx (look (impl_PlaceOk.phis N)) impl_PlaceOk.A N (bodyOf Tryd.f42) Tryd.f42.results.toList impl_PlaceOk.sg x = impl_PlaceOk N x.1 := by
  have h : runF cx (look (impl_PlaceOk.phis N)) impl_PlaceOk.A N (bodyOf Tryd.f42) Tryd.f42.results.toList impl_PlaceOk.sg x = impl_PlaceOk.B N (fun z => impl_PlaceOk.a0 N N z) x.1 := by kernel_rfl
  have e0 : (fun z => impl_PlaceOk.a0 N N z) = impl_PlaceOk.L0 N N := funext fun z => impl_PlaceOk.r0 N N z
  rw [h, e0]
  try rfl
noncomputable def impl_PlaceOk.sm (N : Nat) : Sm D := (⟨impl_PlaceOk.sg, fun (x : (List (ImplSlot)) × Unit) => impl_PlaceOk N x.1⟩ : Sm D)
theorem impl_PlaceOk.sound (N : Nat) : Sound cx Tryd.prog gam 42 (impl_PlaceOk.sm N) := fn_sound (A := impl_PlaceOk.A) (Φ := (look (impl_PlaceOk.phis N))) pok (G := gam) (ΦOk.cons (impl_within.sound N) (fnOk_of (f := 43) (by kernel_rfl)) ΦOk.nil) mixed N Tryd.func42 (c := (bodyOf Tryd.f42)) (by kernel_rfl) impl_PlaceOk.sg (by kernel_rfl) (by kernel_rfl) (by kernel_rfl) (impl_PlaceOk.run N)

@[reducible] def impl_word.sg : Sg := { ms := [{ k := .str }], keep := [false], rs := [{ k := .bool }] }
@[reducible] def impl_word.lvL0 : Lv := { id := 0, slots := [0, 3], ms := [{ k := .str }, { k := (.int .i64) }] }
noncomputable def impl_word.A : Ann := { dp := fun d => isIn [] d, lp := look [(0, impl_word.lvL0)], jn := look [], pins := [], nt := 36 }
noncomputable def impl_word.phis (N : Nat) : List (Nat × Sm D) := []
noncomputable def impl_word.a0 (N : Nat) (n : Nat) (y : (List UInt8) × Int × Unit) : Option (Bool × Unit) := loopAt cx (look (impl_word.phis N)) impl_word.A N n (encL cx impl_word.lvL0.ms y).1 (encL cx impl_word.lvL0.ms y).2 (bodyOf Tryd.f121) 0 (Kfin cx impl_word.A impl_word.sg Tryd.f121.results.toList) [1, 0, 1, 1] []
theorem impl_word.r0 (N : Nat) : ∀ (n : Nat) (y : (List UInt8) × Int × Unit), impl_word.a0 N n y = impl_word.L0 N n y
  | 0, y => by kernel_rfl
  | n + 1, y => by
    have h : impl_word.a0 N (n + 1) y = impl_word.B0 N (fun z => impl_word.a0 N n z) y := by kernel_rfl
    have e : (fun z => impl_word.a0 N n z) = impl_word.L0 N n := funext fun z => impl_word.r0 N n z
    rw [h]
    try rw [e]
    first | done | rfl
theorem impl_word.run (N : Nat) (x : (List UInt8) × Unit) : runF cx (look (impl_word.phis N)) impl_word.A N (bodyOf Tryd.f121) Tryd.f121.results.toList impl_word.sg x = impl_word N x.1 := by
  have h : runF cx (look (impl_word.phis N)) impl_word.A N (bodyOf Tryd.f121) Tryd.f121.results.toList impl_word.sg x = impl_word.B N (fun z => impl_word.a0 N N z) x.1 := by kernel_rfl
  have e0 : (fun z => impl_word.a0 N N z) = impl_word.L0 N N := funext fun z => impl_word.r0 N N z
  rw [h, e0]
  try rfl
noncomputable def impl_word.sm (N : Nat) : Sm D := (⟨impl_word.sg, fun (x : (List UInt8) × Unit) => impl_word N x.1⟩ : Sm D)
theorem impl_word.sound (N : Nat) : Sound cx Tryd.prog gam 121 (impl_word.sm N) := fn_sound (A := impl_word.A) (Φ := (look (impl_word.phis N))) pok (G := gam) ΦOk.nil mixed N Tryd.func121 (c := (bodyOf Tryd.f121)) (by kernel_rfl) impl_word.sg (by kernel_rfl) (by kernel_rfl) (by kernel_rfl) (impl_word.run N)

@[reducible] def impl_ValOk.sg : Sg := { ms := [{ k := (.st 49) }], keep := [false], rs := [{ k := .bool }] }
noncomputable def impl_ValOk.A : Ann := { dp := fun d => isIn [] d, lp := look [], jn := look [], pins := [], nt := 35 }
noncomputable def impl_ValOk.phis (N : Nat) : List (Nat × Sm D) := [(43, impl_within.sm N), (121, impl_word.sm N)]
theorem impl_ValOk.run (N : Nat) (x : ImplValue × Unit) : runF cx (look (impl_ValOk.phis N)) impl_ValOk.A N (bodyOf Tryd.f92) Tryd.f92.results.toList impl_ValOk.sg x = impl_ValOk N x.1 := by
  have h : runF cx (look (impl_ValOk.phis N)) impl_ValOk.A N (bodyOf Tryd.f92) Tryd.f92.results.toList impl_ValOk.sg x = impl_ValOk.B N x.1 := by kernel_rfl
  rw [h]
  try rfl
noncomputable def impl_ValOk.sm (N : Nat) : Sm D := (⟨impl_ValOk.sg, fun (x : ImplValue × Unit) => impl_ValOk N x.1⟩ : Sm D)
theorem impl_ValOk.sound (N : Nat) : Sound cx Tryd.prog gam 92 (impl_ValOk.sm N) := fn_sound (A := impl_ValOk.A) (Φ := (look (impl_ValOk.phis N))) pok (G := gam) (ΦOk.cons (impl_within.sound N) (fnOk_of (f := 43) (by kernel_rfl)) (ΦOk.cons (impl_word.sound N) (fnOk_of (f := 121) (by kernel_rfl)) ΦOk.nil)) mixed N Tryd.func92 (c := (bodyOf Tryd.f92)) (by kernel_rfl) impl_ValOk.sg (by kernel_rfl) (by kernel_rfl) (by kernel_rfl) (impl_ValOk.run N)

@[reducible] def impl_formFits.sg : Sg := { ms := [{ k := (.sl (.st 87)), fl := [none] }, { k := (.int .i64) }, { k := (.int .i64) }, { k := (.int .i64) }], keep := [false, false, false, false], rs := [{ k := .bool }] }
@[reducible] def impl_formFits.lvJ27 : Lv := { id := 27, slots := [0, 1, 2, 3, 9, 12, 13, 14, 15, 16], ms := [{ k := (.sl (.st 87)), fl := [none] }, { k := (.int .i64) }, { k := (.int .i64) }, { k := (.int .i64) }, { k := (.int .i64) }, { k := (.int .i64) }, { k := .bool }, { k := (.sl (.st 87)), fl := [none] }, { k := (.int .i64) }, { k := (.int .i64) }] }
@[reducible] def impl_formFits.lvL0 : Lv := { id := 0, slots := [0, 1, 2, 3, 9, 14, 15, 16], ms := [{ k := (.sl (.st 87)), fl := [none] }, { k := (.int .i64) }, { k := (.int .i64) }, { k := (.int .i64) }, { k := (.int .i64) }, { k := (.sl (.st 87)), fl := [none] }, { k := (.int .i64) }, { k := (.int .i64) }] }
noncomputable def impl_formFits.A : Ann := { dp := fun d => isIn [] d, lp := look [(0, impl_formFits.lvL0)], jn := look [(27, impl_formFits.lvJ27)], pins := [], nt := 96 }
noncomputable def impl_formFits.phis (N : Nat) : List (Nat × Sm D) := [(92, impl_ValOk.sm N), (43, impl_within.sm N)]
noncomputable def impl_formFits.a0 (N : Nat) (n : Nat) (y : (List (ImplStep)) × Int × Int × Int × Int × (List (ImplStep)) × Int × Int × Unit) : Option (Bool × Unit) := loopAt cx (look (impl_formFits.phis N)) impl_formFits.A N n (encL cx impl_formFits.lvL0.ms y).1 (encL cx impl_formFits.lvL0.ms y).2 (bodyOf Tryd.f84) 0 (Kfin cx impl_formFits.A impl_formFits.sg Tryd.f84.results.toList) [1, 1, 0, 1, 1] []
theorem impl_formFits.r0 (N : Nat) : ∀ (n : Nat) (y : (List (ImplStep)) × Int × Int × Int × Int × (List (ImplStep)) × Int × Int × Unit), impl_formFits.a0 N n y = impl_formFits.L0 N n y
  | 0, y => by kernel_rfl
  | n + 1, y => by
    have h : impl_formFits.a0 N (n + 1) y = impl_formFits.B0 N (fun z => impl_formFits.a0 N n z) y := by kernel_rfl
    have e : (fun z => impl_formFits.a0 N n z) = impl_formFits.L0 N n := funext fun z => impl_formFits.r0 N n z
    rw [h]
    try rw [e]
    first | done | rfl
theorem impl_formFits.run (N : Nat) (x : (List (ImplStep)) × Int × Int × Int × Unit) : runF cx (look (impl_formFits.phis N)) impl_formFits.A N (bodyOf Tryd.f84) Tryd.f84.results.toList impl_formFits.sg x = impl_formFits N x.1 x.2.1 x.2.2.1 x.2.2.2.1 := by
  have h : runF cx (look (impl_formFits.phis N)) impl_formFits.A N (bodyOf Tryd.f84) Tryd.f84.results.toList impl_formFits.sg x = impl_formFits.B N (fun z => impl_formFits.a0 N N z) x.1 x.2.1 x.2.2.1 x.2.2.2.1 := by kernel_rfl
  have e0 : (fun z => impl_formFits.a0 N N z) = impl_formFits.L0 N N := funext fun z => impl_formFits.r0 N N z
  rw [h, e0]
  try rfl
noncomputable def impl_formFits.sm (N : Nat) : Sm D := (⟨impl_formFits.sg, fun (x : (List (ImplStep)) × Int × Int × Int × Unit) => impl_formFits N x.1 x.2.1 x.2.2.1 x.2.2.2.1⟩ : Sm D)
theorem impl_formFits.sound (N : Nat) : Sound cx Tryd.prog gam 84 (impl_formFits.sm N) := fn_sound (A := impl_formFits.A) (Φ := (look (impl_formFits.phis N))) pok (G := gam) (ΦOk.cons (impl_ValOk.sound N) (fnOk_of (f := 92) (by kernel_rfl)) (ΦOk.cons (impl_within.sound N) (fnOk_of (f := 43) (by kernel_rfl)) ΦOk.nil)) mixed N Tryd.func84 (c := (bodyOf Tryd.f84)) (by kernel_rfl) impl_formFits.sg (by kernel_rfl) (by kernel_rfl) (by kernel_rfl) (impl_formFits.run N)

@[reducible] def impl_FormOk.sg : Sg := { ms := [{ k := (.sl (.st 87)), fl := [none] }, { k := (.int .i64) }, { k := (.int .i64) }, { k := (.int .i64) }], keep := [false, false, false, false], rs := [{ k := .bool }] }
noncomputable def impl_FormOk.A : Ann := { dp := fun d => isIn [] d, lp := look [], jn := look [], pins := [], nt := 26 }
noncomputable def impl_FormOk.phis (N : Nat) : List (Nat × Sm D) := [(43, impl_within.sm N), (84, impl_formFits.sm N)]
theorem impl_FormOk.run (N : Nat) (x : (List (ImplStep)) × Int × Int × Int × Unit) : runF cx (look (impl_FormOk.phis N)) impl_FormOk.A N (bodyOf Tryd.f44) Tryd.f44.results.toList impl_FormOk.sg x = impl_FormOk N x.1 x.2.1 x.2.2.1 x.2.2.2.1 := by
  have h : runF cx (look (impl_FormOk.phis N)) impl_FormOk.A N (bodyOf Tryd.f44) Tryd.f44.results.toList impl_FormOk.sg x = impl_FormOk.B N x.1 x.2.1 x.2.2.1 x.2.2.2.1 := by kernel_rfl
  rw [h]
  try rfl
noncomputable def impl_FormOk.sm (N : Nat) : Sm D := (⟨impl_FormOk.sg, fun (x : (List (ImplStep)) × Int × Int × Int × Unit) => impl_FormOk N x.1 x.2.1 x.2.2.1 x.2.2.2.1⟩ : Sm D)
theorem impl_FormOk.sound (N : Nat) : Sound cx Tryd.prog gam 44 (impl_FormOk.sm N) := fn_sound (A := impl_FormOk.A) (Φ := (look (impl_FormOk.phis N))) pok (G := gam) (ΦOk.cons (impl_within.sound N) (fnOk_of (f := 43) (by kernel_rfl)) (ΦOk.cons (impl_formFits.sound N) (fnOk_of (f := 84) (by kernel_rfl)) ΦOk.nil)) mixed N Tryd.func44 (c := (bodyOf Tryd.f44)) (by kernel_rfl) impl_FormOk.sg (by kernel_rfl) (by kernel_rfl) (by kernel_rfl) (impl_FormOk.run N)

@[reducible] def impl_UpdateOk.sg : Sg := { ms := [{ k := (.st 25) }], keep := [false], rs := [{ k := .bool }] }
noncomputable def impl_UpdateOk.A : Ann := { dp := fun d => isIn [] d, lp := look [], jn := look [], pins := [], nt := 21 }
noncomputable def impl_UpdateOk.phis (N : Nat) : List (Nat × Sm D) := [(42, impl_PlaceOk.sm N), (43, impl_within.sm N), (44, impl_FormOk.sm N)]
theorem impl_UpdateOk.run (N : Nat) (x : ImplUpdate × Unit) : runF cx (look (impl_UpdateOk.phis N)) impl_UpdateOk.A N (bodyOf Tryd.f10) Tryd.f10.results.toList impl_UpdateOk.sg x = impl_UpdateOk N x.1 := by
  have h : runF cx (look (impl_UpdateOk.phis N)) impl_UpdateOk.A N (bodyOf Tryd.f10) Tryd.f10.results.toList impl_UpdateOk.sg x = impl_UpdateOk.B N x.1 := by kernel_rfl
  rw [h]
  try rfl
noncomputable def impl_UpdateOk.sm (N : Nat) : Sm D := (⟨impl_UpdateOk.sg, fun (x : ImplUpdate × Unit) => impl_UpdateOk N x.1⟩ : Sm D)
theorem impl_UpdateOk.sound (N : Nat) : Sound cx Tryd.prog gam 10 (impl_UpdateOk.sm N) := fn_sound (A := impl_UpdateOk.A) (Φ := (look (impl_UpdateOk.phis N))) pok (G := gam) (ΦOk.cons (impl_PlaceOk.sound N) (fnOk_of (f := 42) (by kernel_rfl)) (ΦOk.cons (impl_within.sound N) (fnOk_of (f := 43) (by kernel_rfl)) (ΦOk.cons (impl_FormOk.sound N) (fnOk_of (f := 44) (by kernel_rfl)) ΦOk.nil))) mixed N Tryd.func10 (c := (bodyOf Tryd.f10)) (by kernel_rfl) impl_UpdateOk.sg (by kernel_rfl) (by kernel_rfl) (by kernel_rfl) (impl_UpdateOk.run N)

@[reducible] def spec_validStep.sg : Sg := { ms := [{ k := (.st 87) }, { k := (.int .i64) }, { k := (.int .i64) }, { k := (.int .i64) }], keep := [false, false, false, false], rs := [{ k := .bool }] }
noncomputable def spec_validStep.A : Ann := { dp := fun d => isIn [] d, lp := look [], jn := look [], pins := [], nt := 93 }
noncomputable def spec_validStep.phis (N : Nat) : List (Nat × Sm D) := [(123, spec_validValue.sm N), (85, spec_inRange.sm N)]
theorem spec_validStep.run (N : Nat) (x : ImplStep × Int × Int × Int × Unit) : runF cx (look (spec_validStep.phis N)) spec_validStep.A N (bodyOf Tryd.f95) Tryd.f95.results.toList spec_validStep.sg x = spec_validStep N x.1 x.2.1 x.2.2.1 x.2.2.2.1 := by
  have h : runF cx (look (spec_validStep.phis N)) spec_validStep.A N (bodyOf Tryd.f95) Tryd.f95.results.toList spec_validStep.sg x = spec_validStep.B N x.1 x.2.1 x.2.2.1 x.2.2.2.1 := by kernel_rfl
  rw [h]
  try rfl
noncomputable def spec_validStep.sm (N : Nat) : Sm D := (⟨spec_validStep.sg, fun (x : ImplStep × Int × Int × Int × Unit) => spec_validStep N x.1 x.2.1 x.2.2.1 x.2.2.2.1⟩ : Sm D)
theorem spec_validStep.sound (N : Nat) : Sound cx Tryd.prog gam 95 (spec_validStep.sm N) := fn_sound (A := spec_validStep.A) (Φ := (look (spec_validStep.phis N))) pok (G := gam) (ΦOk.cons (spec_validValue.sound N) (fnOk_of (f := 123) (by kernel_rfl)) (ΦOk.cons (spec_inRange.sound N) (fnOk_of (f := 85) (by kernel_rfl)) ΦOk.nil)) mixed N Tryd.func95 (c := (bodyOf Tryd.f95)) (by kernel_rfl) spec_validStep.sg (by kernel_rfl) (by kernel_rfl) (by kernel_rfl) (spec_validStep.run N)

@[reducible] def spec_takes.sg : Sg := { ms := [{ k := (.st 87) }], keep := [false], rs := [{ k := (.int .i64) }] }
noncomputable def spec_takes.A : Ann := { dp := fun d => isIn [] d, lp := look [], jn := look [], pins := [], nt := 9 }
noncomputable def spec_takes.phis (N : Nat) : List (Nat × Sm D) := []
theorem spec_takes.run (N : Nat) (x : ImplStep × Unit) : runF cx (look (spec_takes.phis N)) spec_takes.A N (bodyOf Tryd.f96) Tryd.f96.results.toList spec_takes.sg x = spec_takes N x.1 := by
  have h : runF cx (look (spec_takes.phis N)) spec_takes.A N (bodyOf Tryd.f96) Tryd.f96.results.toList spec_takes.sg x = spec_takes.B N x.1 := by kernel_rfl
  rw [h]
  try rfl
noncomputable def spec_takes.sm (N : Nat) : Sm D := (⟨spec_takes.sg, fun (x : ImplStep × Unit) => spec_takes N x.1⟩ : Sm D)
theorem spec_takes.sound (N : Nat) : Sound cx Tryd.prog gam 96 (spec_takes.sm N) := fn_sound (A := spec_takes.A) (Φ := (look (spec_takes.phis N))) pok (G := gam) ΦOk.nil mixed N Tryd.func96 (c := (bodyOf Tryd.f96)) (by kernel_rfl) spec_takes.sg (by kernel_rfl) (by kernel_rfl) (by kernel_rfl) (spec_takes.run N)

@[reducible] def spec_validForm.sg : Sg := { ms := [{ k := (.sl (.st 87)), fl := [none] }, { k := (.int .i64) }, { k := (.int .i64) }, { k := (.int .i64) }], keep := [false, false, false, false], rs := [{ k := .bool }] }
@[reducible] def spec_validForm.lvL0 : Lv := { id := 0, slots := [0, 1, 2, 3, 9, 10], ms := [{ k := (.sl (.st 87)), fl := [none] }, { k := (.int .i64) }, { k := (.int .i64) }, { k := (.int .i64) }, { k := (.int .i64) }, { k := (.int .i64) }] }
noncomputable def spec_validForm.A : Ann := { dp := fun d => isIn [] d, lp := look [(0, spec_validForm.lvL0)], jn := look [], pins := [], nt := 48 }
noncomputable def spec_validForm.phis (N : Nat) : List (Nat × Sm D) := [(95, spec_validStep.sm N), (96, spec_takes.sm N)]
noncomputable def spec_validForm.a0 (N : Nat) (n : Nat) (y : (List (ImplStep)) × Int × Int × Int × Int × Int × Unit) : Option (Bool × Unit) := loopAt cx (look (spec_validForm.phis N)) spec_validForm.A N n (encL cx spec_validForm.lvL0.ms y).1 (encL cx spec_validForm.lvL0.ms y).2 (bodyOf Tryd.f60) 0 (Kfin cx spec_validForm.A spec_validForm.sg Tryd.f60.results.toList) [1, 1, 1, 0, 1, 1] []
theorem spec_validForm.r0 (N : Nat) : ∀ (n : Nat) (y : (List (ImplStep)) × Int × Int × Int × Int × Int × Unit), spec_validForm.a0 N n y = spec_validForm.L0 N n y
  | 0, y => by kernel_rfl
  | n + 1, y => by
    have h : spec_validForm.a0 N (n + 1) y = spec_validForm.B0 N (fun z => spec_validForm.a0 N n z) y := by kernel_rfl
    have e : (fun z => spec_validForm.a0 N n z) = spec_validForm.L0 N n := funext fun z => spec_validForm.r0 N n z
    rw [h]
    try rw [e]
    first | done | rfl
theorem spec_validForm.run (N : Nat) (x : (List (ImplStep)) × Int × Int × Int × Unit) : runF cx (look (spec_validForm.phis N)) spec_validForm.A N (bodyOf Tryd.f60) Tryd.f60.results.toList spec_validForm.sg x = spec_validForm N x.1 x.2.1 x.2.2.1 x.2.2.2.1 := by
  have h : runF cx (look (spec_validForm.phis N)) spec_validForm.A N (bodyOf Tryd.f60) Tryd.f60.results.toList spec_validForm.sg x = spec_validForm.B N (fun z => spec_validForm.a0 N N z) x.1 x.2.1 x.2.2.1 x.2.2.2.1 := by kernel_rfl
  have e0 : (fun z => spec_validForm.a0 N N z) = spec_validForm.L0 N N := funext fun z => spec_validForm.r0 N N z
  rw [h, e0]
  try rfl
noncomputable def spec_validForm.sm (N : Nat) : Sm D := (⟨spec_validForm.sg, fun (x : (List (ImplStep)) × Int × Int × Int × Unit) => spec_validForm N x.1 x.2.1 x.2.2.1 x.2.2.2.1⟩ : Sm D)
theorem spec_validForm.sound (N : Nat) : Sound cx Tryd.prog gam 60 (spec_validForm.sm N) := fn_sound (A := spec_validForm.A) (Φ := (look (spec_validForm.phis N))) pok (G := gam) (ΦOk.cons (spec_validStep.sound N) (fnOk_of (f := 95) (by kernel_rfl)) (ΦOk.cons (spec_takes.sound N) (fnOk_of (f := 96) (by kernel_rfl)) ΦOk.nil)) mixed N Tryd.func60 (c := (bodyOf Tryd.f60)) (by kernel_rfl) spec_validForm.sg (by kernel_rfl) (by kernel_rfl) (by kernel_rfl) (spec_validForm.run N)

@[reducible] def spec_validUpdate.sg : Sg := { ms := [{ k := (.st 25) }], keep := [false], rs := [{ k := .bool }] }
noncomputable def spec_validUpdate.A : Ann := { dp := fun d => isIn [] d, lp := look [], jn := look [], pins := [], nt := 21 }
noncomputable def spec_validUpdate.phis (N : Nat) : List (Nat × Sm D) := [(82, spec_validPlace.sm N), (85, spec_inRange.sm N), (60, spec_validForm.sm N)]
theorem spec_validUpdate.run (N : Nat) (x : ImplUpdate × Unit) : runF cx (look (spec_validUpdate.phis N)) spec_validUpdate.A N (bodyOf Tryd.f45) Tryd.f45.results.toList spec_validUpdate.sg x = spec_validUpdate N x.1 := by
  have h : runF cx (look (spec_validUpdate.phis N)) spec_validUpdate.A N (bodyOf Tryd.f45) Tryd.f45.results.toList spec_validUpdate.sg x = spec_validUpdate.B N x.1 := by kernel_rfl
  rw [h]
  try rfl
noncomputable def spec_validUpdate.sm (N : Nat) : Sm D := (⟨spec_validUpdate.sg, fun (x : ImplUpdate × Unit) => spec_validUpdate N x.1⟩ : Sm D)
theorem spec_validUpdate.sound (N : Nat) : Sound cx Tryd.prog gam 45 (spec_validUpdate.sm N) := fn_sound (A := spec_validUpdate.A) (Φ := (look (spec_validUpdate.phis N))) pok (G := gam) (ΦOk.cons (spec_validPlace.sound N) (fnOk_of (f := 82) (by kernel_rfl)) (ΦOk.cons (spec_inRange.sound N) (fnOk_of (f := 85) (by kernel_rfl)) (ΦOk.cons (spec_validForm.sound N) (fnOk_of (f := 60) (by kernel_rfl)) ΦOk.nil))) mixed N Tryd.func45 (c := (bodyOf Tryd.f45)) (by kernel_rfl) spec_validUpdate.sg (by kernel_rfl) (by kernel_rfl) (by kernel_rfl) (spec_validUpdate.run N)

@[reducible] def impl_valsOk.sg : Sg := { ms := [{ k := (.sl (.st 49)), fl := [none] }], keep := [false], rs := [{ k := .bool }] }
@[reducible] def impl_valsOk.lvL0 : Lv := { id := 0, slots := [5, 6, 7], ms := [{ k := (.sl (.st 49)), fl := [none] }, { k := (.int .i64) }, { k := (.int .i64) }] }
noncomputable def impl_valsOk.A : Ann := { dp := fun d => isIn [] d, lp := look [(0, impl_valsOk.lvL0)], jn := look [], pins := [], nt := 15 }
noncomputable def impl_valsOk.phis (N : Nat) : List (Nat × Sm D) := [(92, impl_ValOk.sm N)]
noncomputable def impl_valsOk.a0 (N : Nat) (n : Nat) (y : (List (ImplValue)) × Int × Int × Unit) : Option (Bool × Unit) := loopAt cx (look (impl_valsOk.phis N)) impl_valsOk.A N n (encL cx impl_valsOk.lvL0.ms y).1 (encL cx impl_valsOk.lvL0.ms y).2 (bodyOf Tryd.f73) 0 (Kfin cx impl_valsOk.A impl_valsOk.sg Tryd.f73.results.toList) [1, 0, 1, 1] []
theorem impl_valsOk.r0 (N : Nat) : ∀ (n : Nat) (y : (List (ImplValue)) × Int × Int × Unit), impl_valsOk.a0 N n y = impl_valsOk.L0 N n y
  | 0, y => by kernel_rfl
  | n + 1, y => by
    have h : impl_valsOk.a0 N (n + 1) y = impl_valsOk.B0 N (fun z => impl_valsOk.a0 N n z) y := by kernel_rfl
    have e : (fun z => impl_valsOk.a0 N n z) = impl_valsOk.L0 N n := funext fun z => impl_valsOk.r0 N n z
    rw [h]
    try rw [e]
    first | done | rfl
theorem impl_valsOk.run (N : Nat) (x : (List (ImplValue)) × Unit) : runF cx (look (impl_valsOk.phis N)) impl_valsOk.A N (bodyOf Tryd.f73) Tryd.f73.results.toList impl_valsOk.sg x = impl_valsOk N x.1 := by
  have h : runF cx (look (impl_valsOk.phis N)) impl_valsOk.A N (bodyOf Tryd.f73) Tryd.f73.results.toList impl_valsOk.sg x = impl_valsOk.B N (fun z => impl_valsOk.a0 N N z) x.1 := by kernel_rfl
  have e0 : (fun z => impl_valsOk.a0 N N z) = impl_valsOk.L0 N N := funext fun z => impl_valsOk.r0 N N z
  rw [h, e0]
  try rfl
noncomputable def impl_valsOk.sm (N : Nat) : Sm D := (⟨impl_valsOk.sg, fun (x : (List (ImplValue)) × Unit) => impl_valsOk N x.1⟩ : Sm D)
theorem impl_valsOk.sound (N : Nat) : Sound cx Tryd.prog gam 73 (impl_valsOk.sm N) := fn_sound (A := impl_valsOk.A) (Φ := (look (impl_valsOk.phis N))) pok (G := gam) (ΦOk.cons (impl_ValOk.sound N) (fnOk_of (f := 92) (by kernel_rfl)) ΦOk.nil) mixed N Tryd.func73 (c := (bodyOf Tryd.f73)) (by kernel_rfl) impl_valsOk.sg (by kernel_rfl) (by kernel_rfl) (by kernel_rfl) (impl_valsOk.run N)

@[reducible] def impl_placeCmp.sg : Sg := { ms := [{ k := (.sl (.st 109)), fl := [none] }, { k := (.sl (.st 109)), fl := [none] }], keep := [false, false], rs := [{ k := (.int .i64) }] }
@[reducible] def impl_placeCmp.lvL0 : Lv := { id := 0, slots := [0, 1, 12, 13], ms := [{ k := (.sl (.st 109)), fl := [none] }, { k := (.sl (.st 109)), fl := [none] }, { k := (.int .i64) }, { k := (.int .i64) }] }
noncomputable def impl_placeCmp.A : Ann := { dp := fun d => isIn [] d, lp := look [(0, impl_placeCmp.lvL0)], jn := look [], pins := [], nt := 59 }
noncomputable def impl_placeCmp.phis (N : Nat) : List (Nat × Sm D) := []
noncomputable def impl_placeCmp.a0 (N : Nat) (n : Nat) (y : (List (ImplSlot)) × (List (ImplSlot)) × Int × Int × Unit) : Option (Int × Unit) := loopAt cx (look (impl_placeCmp.phis N)) impl_placeCmp.A N n (encL cx impl_placeCmp.lvL0.ms y).1 (encL cx impl_placeCmp.lvL0.ms y).2 (bodyOf Tryd.f74) 0 (Kfin cx impl_placeCmp.A impl_placeCmp.sg Tryd.f74.results.toList) [1, 0, 1, 1] []
theorem impl_placeCmp.r0 (N : Nat) : ∀ (n : Nat) (y : (List (ImplSlot)) × (List (ImplSlot)) × Int × Int × Unit), impl_placeCmp.a0 N n y = impl_placeCmp.L0 N n y
  | 0, y => by kernel_rfl
  | n + 1, y => by
    have h : impl_placeCmp.a0 N (n + 1) y = impl_placeCmp.B0 N (fun z => impl_placeCmp.a0 N n z) y := by kernel_rfl
    have e : (fun z => impl_placeCmp.a0 N n z) = impl_placeCmp.L0 N n := funext fun z => impl_placeCmp.r0 N n z
    rw [h]
    try rw [e]
    first | done | rfl
theorem impl_placeCmp.run (N : Nat) (x : (List (ImplSlot)) × (List (ImplSlot)) × Unit) : runF cx (look (impl_placeCmp.phis N)) impl_placeCmp.A N (bodyOf Tryd.f74) Tryd.f74.results.toList impl_placeCmp.sg x = impl_placeCmp N x.1 x.2.1 := by
  have h : runF cx (look (impl_placeCmp.phis N)) impl_placeCmp.A N (bodyOf Tryd.f74) Tryd.f74.results.toList impl_placeCmp.sg x = impl_placeCmp.B N (fun z => impl_placeCmp.a0 N N z) x.1 x.2.1 := by kernel_rfl
  have e0 : (fun z => impl_placeCmp.a0 N N z) = impl_placeCmp.L0 N N := funext fun z => impl_placeCmp.r0 N N z
  rw [h, e0]
  try rfl
noncomputable def impl_placeCmp.sm (N : Nat) : Sm D := (⟨impl_placeCmp.sg, fun (x : (List (ImplSlot)) × (List (ImplSlot)) × Unit) => impl_placeCmp N x.1 x.2.1⟩ : Sm D)
theorem impl_placeCmp.sound (N : Nat) : Sound cx Tryd.prog gam 74 (impl_placeCmp.sm N) := fn_sound (A := impl_placeCmp.A) (Φ := (look (impl_placeCmp.phis N))) pok (G := gam) ΦOk.nil mixed N Tryd.func74 (c := (bodyOf Tryd.f74)) (by kernel_rfl) impl_placeCmp.sg (by kernel_rfl) (by kernel_rfl) (by kernel_rfl) (impl_placeCmp.run N)

@[reducible] def impl_StoreOk.sg : Sg := { ms := [{ k := (.sl (.st 98)), fl := [none] }], keep := [false], rs := [{ k := .bool }] }
@[reducible] def impl_StoreOk.lvL0 : Lv := { id := 0, slots := [0, 5, 6, 7], ms := [{ k := (.sl (.st 98)), fl := [none] }, { k := (.sl (.st 98)), fl := [none] }, { k := (.int .i64) }, { k := (.int .i64) }] }
noncomputable def impl_StoreOk.A : Ann := { dp := fun d => isIn [] d, lp := look [(0, impl_StoreOk.lvL0)], jn := look [], pins := [], nt := 48 }
noncomputable def impl_StoreOk.phis (N : Nat) : List (Nat × Sm D) := [(42, impl_PlaceOk.sm N), (73, impl_valsOk.sm N), (74, impl_placeCmp.sm N)]
noncomputable def impl_StoreOk.a0 (N : Nat) (n : Nat) (y : (List (ImplCell)) × (List (ImplCell)) × Int × Int × Unit) : Option (Bool × Unit) := loopAt cx (look (impl_StoreOk.phis N)) impl_StoreOk.A N n (encL cx impl_StoreOk.lvL0.ms y).1 (encL cx impl_StoreOk.lvL0.ms y).2 (bodyOf Tryd.f32) 0 (Kfin cx impl_StoreOk.A impl_StoreOk.sg Tryd.f32.results.toList) [1, 0, 1, 1] []
theorem impl_StoreOk.r0 (N : Nat) : ∀ (n : Nat) (y : (List (ImplCell)) × (List (ImplCell)) × Int × Int × Unit), impl_StoreOk.a0 N n y = impl_StoreOk.L0 N n y
  | 0, y => by kernel_rfl
  | n + 1, y => by
    have h : impl_StoreOk.a0 N (n + 1) y = impl_StoreOk.B0 N (fun z => impl_StoreOk.a0 N n z) y := by kernel_rfl
    have e : (fun z => impl_StoreOk.a0 N n z) = impl_StoreOk.L0 N n := funext fun z => impl_StoreOk.r0 N n z
    rw [h]
    try rw [e]
    first | done | rfl
theorem impl_StoreOk.run (N : Nat) (x : (List (ImplCell)) × Unit) : runF cx (look (impl_StoreOk.phis N)) impl_StoreOk.A N (bodyOf Tryd.f32) Tryd.f32.results.toList impl_StoreOk.sg x = impl_StoreOk N x.1 := by
  have h : runF cx (look (impl_StoreOk.phis N)) impl_StoreOk.A N (bodyOf Tryd.f32) Tryd.f32.results.toList impl_StoreOk.sg x = impl_StoreOk.B N (fun z => impl_StoreOk.a0 N N z) x.1 := by kernel_rfl
  have e0 : (fun z => impl_StoreOk.a0 N N z) = impl_StoreOk.L0 N N := funext fun z => impl_StoreOk.r0 N N z
  rw [h, e0]
  try rfl
noncomputable def impl_StoreOk.sm (N : Nat) : Sm D := (⟨impl_StoreOk.sg, fun (x : (List (ImplCell)) × Unit) => impl_StoreOk N x.1⟩ : Sm D)
theorem impl_StoreOk.sound (N : Nat) : Sound cx Tryd.prog gam 32 (impl_StoreOk.sm N) := fn_sound (A := impl_StoreOk.A) (Φ := (look (impl_StoreOk.phis N))) pok (G := gam) (ΦOk.cons (impl_PlaceOk.sound N) (fnOk_of (f := 42) (by kernel_rfl)) (ΦOk.cons (impl_valsOk.sound N) (fnOk_of (f := 73) (by kernel_rfl)) (ΦOk.cons (impl_placeCmp.sound N) (fnOk_of (f := 74) (by kernel_rfl)) ΦOk.nil))) mixed N Tryd.func32 (c := (bodyOf Tryd.f32)) (by kernel_rfl) impl_StoreOk.sg (by kernel_rfl) (by kernel_rfl) (by kernel_rfl) (impl_StoreOk.run N)

@[reducible] def impl_updatesOk.sg : Sg := { ms := [{ k := (.sl (.st 25)), fl := [none] }], keep := [false], rs := [{ k := .bool }] }
@[reducible] def impl_updatesOk.lvL0 : Lv := { id := 0, slots := [5, 6, 7], ms := [{ k := (.sl (.st 25)), fl := [none] }, { k := (.int .i64) }, { k := (.int .i64) }] }
noncomputable def impl_updatesOk.A : Ann := { dp := fun d => isIn [] d, lp := look [(0, impl_updatesOk.lvL0)], jn := look [], pins := [], nt := 15 }
noncomputable def impl_updatesOk.phis (N : Nat) : List (Nat × Sm D) := [(10, impl_UpdateOk.sm N)]
noncomputable def impl_updatesOk.a0 (N : Nat) (n : Nat) (y : (List (ImplUpdate)) × Int × Int × Unit) : Option (Bool × Unit) := loopAt cx (look (impl_updatesOk.phis N)) impl_updatesOk.A N n (encL cx impl_updatesOk.lvL0.ms y).1 (encL cx impl_updatesOk.lvL0.ms y).2 (bodyOf Tryd.f46) 0 (Kfin cx impl_updatesOk.A impl_updatesOk.sg Tryd.f46.results.toList) [1, 0, 1, 1] []
theorem impl_updatesOk.r0 (N : Nat) : ∀ (n : Nat) (y : (List (ImplUpdate)) × Int × Int × Unit), impl_updatesOk.a0 N n y = impl_updatesOk.L0 N n y
  | 0, y => by kernel_rfl
  | n + 1, y => by
    have h : impl_updatesOk.a0 N (n + 1) y = impl_updatesOk.B0 N (fun z => impl_updatesOk.a0 N n z) y := by kernel_rfl
    have e : (fun z => impl_updatesOk.a0 N n z) = impl_updatesOk.L0 N n := funext fun z => impl_updatesOk.r0 N n z
    rw [h]
    try rw [e]
    first | done | rfl
theorem impl_updatesOk.run (N : Nat) (x : (List (ImplUpdate)) × Unit) : runF cx (look (impl_updatesOk.phis N)) impl_updatesOk.A N (bodyOf Tryd.f46) Tryd.f46.results.toList impl_updatesOk.sg x = impl_updatesOk N x.1 := by
  have h : runF cx (look (impl_updatesOk.phis N)) impl_updatesOk.A N (bodyOf Tryd.f46) Tryd.f46.results.toList impl_updatesOk.sg x = impl_updatesOk.B N (fun z => impl_updatesOk.a0 N N z) x.1 := by kernel_rfl
  have e0 : (fun z => impl_updatesOk.a0 N N z) = impl_updatesOk.L0 N N := funext fun z => impl_updatesOk.r0 N N z
  rw [h, e0]
  try rfl
noncomputable def impl_updatesOk.sm (N : Nat) : Sm D := (⟨impl_updatesOk.sg, fun (x : (List (ImplUpdate)) × Unit) => impl_updatesOk N x.1⟩ : Sm D)
theorem impl_updatesOk.sound (N : Nat) : Sound cx Tryd.prog gam 46 (impl_updatesOk.sm N) := fn_sound (A := impl_updatesOk.A) (Φ := (look (impl_updatesOk.phis N))) pok (G := gam) (ΦOk.cons (impl_UpdateOk.sound N) (fnOk_of (f := 10) (by kernel_rfl)) ΦOk.nil) mixed N Tryd.func46 (c := (bodyOf Tryd.f46)) (by kernel_rfl) impl_updatesOk.sg (by kernel_rfl) (by kernel_rfl) (by kernel_rfl) (impl_updatesOk.run N)

@[reducible] def impl_placeCopy.sg : Sg := { ms := [{ k := (.sl (.st 109)), fl := [none] }], keep := [false], rs := [{ k := (.sl (.st 109)), fl := [some (false, 411)] }] }
noncomputable def impl_placeCopy.A : Ann := { dp := fun d => isIn [] d, lp := look [], jn := look [], pins := [], nt := 5 }
noncomputable def impl_placeCopy.phis (N : Nat) : List (Nat × Sm D) := []
theorem impl_placeCopy.run (N : Nat) (x : (List (ImplSlot)) × Unit) : runF cx (look (impl_placeCopy.phis N)) impl_placeCopy.A N (bodyOf Tryd.f132) Tryd.f132.results.toList impl_placeCopy.sg x = impl_placeCopy N x.1 := by
  have h : runF cx (look (impl_placeCopy.phis N)) impl_placeCopy.A N (bodyOf Tryd.f132) Tryd.f132.results.toList impl_placeCopy.sg x = impl_placeCopy.B N x.1 := by kernel_rfl
  rw [h]
  try rfl
noncomputable def impl_placeCopy.sm (N : Nat) : Sm D := (⟨impl_placeCopy.sg, fun (x : (List (ImplSlot)) × Unit) => impl_placeCopy N x.1⟩ : Sm D)
theorem impl_placeCopy.sound (N : Nat) : Sound cx Tryd.prog gam 132 (impl_placeCopy.sm N) := fn_sound (A := impl_placeCopy.A) (Φ := (look (impl_placeCopy.phis N))) pok (G := gam) ΦOk.nil mixed N Tryd.func132 (c := (bodyOf Tryd.f132)) (by kernel_rfl) impl_placeCopy.sg (by kernel_rfl) (by kernel_rfl) (by kernel_rfl) (impl_placeCopy.run N)

@[reducible] def impl_valsCopy.sg : Sg := { ms := [{ k := (.sl (.st 49)), fl := [none] }], keep := [false], rs := [{ k := (.sl (.st 49)), fl := [some (false, 411)] }] }
noncomputable def impl_valsCopy.A : Ann := { dp := fun d => isIn [] d, lp := look [], jn := look [], pins := [], nt := 5 }
noncomputable def impl_valsCopy.phis (N : Nat) : List (Nat × Sm D) := []
theorem impl_valsCopy.run (N : Nat) (x : (List (ImplValue)) × Unit) : runF cx (look (impl_valsCopy.phis N)) impl_valsCopy.A N (bodyOf Tryd.f133) Tryd.f133.results.toList impl_valsCopy.sg x = impl_valsCopy N x.1 := by
  have h : runF cx (look (impl_valsCopy.phis N)) impl_valsCopy.A N (bodyOf Tryd.f133) Tryd.f133.results.toList impl_valsCopy.sg x = impl_valsCopy.B N x.1 := by kernel_rfl
  rw [h]
  try rfl
noncomputable def impl_valsCopy.sm (N : Nat) : Sm D := (⟨impl_valsCopy.sg, fun (x : (List (ImplValue)) × Unit) => impl_valsCopy N x.1⟩ : Sm D)
theorem impl_valsCopy.sound (N : Nat) : Sound cx Tryd.prog gam 133 (impl_valsCopy.sm N) := fn_sound (A := impl_valsCopy.A) (Φ := (look (impl_valsCopy.phis N))) pok (G := gam) ΦOk.nil mixed N Tryd.func133 (c := (bodyOf Tryd.f133)) (by kernel_rfl) impl_valsCopy.sg (by kernel_rfl) (by kernel_rfl) (by kernel_rfl) (impl_valsCopy.run N)

@[reducible] def impl_cellCopy.sg : Sg := { ms := [{ k := (.st 98) }], keep := [false], rs := [{ k := (.st 98), fl := [some (false, 411), some (false, 412)] }] }
noncomputable def impl_cellCopy.A : Ann := { dp := fun d => isIn [] d, lp := look [], jn := look [], pins := [], nt := 10 }
noncomputable def impl_cellCopy.phis (N : Nat) : List (Nat × Sm D) := [(132, impl_placeCopy.sm N), (133, impl_valsCopy.sm N)]
theorem impl_cellCopy.run (N : Nat) (x : ImplCell × Unit) : runF cx (look (impl_cellCopy.phis N)) impl_cellCopy.A N (bodyOf Tryd.f116) Tryd.f116.results.toList impl_cellCopy.sg x = impl_cellCopy N x.1 := by
  have h : runF cx (look (impl_cellCopy.phis N)) impl_cellCopy.A N (bodyOf Tryd.f116) Tryd.f116.results.toList impl_cellCopy.sg x = impl_cellCopy.B N x.1 := by kernel_rfl
  rw [h]
  try rfl
noncomputable def impl_cellCopy.sm (N : Nat) : Sm D := (⟨impl_cellCopy.sg, fun (x : ImplCell × Unit) => impl_cellCopy N x.1⟩ : Sm D)
theorem impl_cellCopy.sound (N : Nat) : Sound cx Tryd.prog gam 116 (impl_cellCopy.sm N) := fn_sound (A := impl_cellCopy.A) (Φ := (look (impl_cellCopy.phis N))) pok (G := gam) (ΦOk.cons (impl_placeCopy.sound N) (fnOk_of (f := 132) (by kernel_rfl)) (ΦOk.cons (impl_valsCopy.sound N) (fnOk_of (f := 133) (by kernel_rfl)) ΦOk.nil)) mixed N Tryd.func116 (c := (bodyOf Tryd.f116)) (by kernel_rfl) impl_cellCopy.sg (by kernel_rfl) (by kernel_rfl) (by kernel_rfl) (impl_cellCopy.run N)

@[reducible] def impl_storeCopy.sg : Sg := { ms := [{ k := (.sl (.st 98)), fl := [none] }], keep := [false], rs := [{ k := (.sl (.st 98)), fl := [some (true, 411)] }] }
@[reducible] def impl_storeCopy.lvL0 : Lv := { id := 0, slots := [3, 6, 7, 8], ms := [{ k := (.sl (.st 98)), fl := [some (true, 600)] }, { k := (.sl (.st 98)), fl := [none] }, { k := (.int .i64) }, { k := (.int .i64) }] }
noncomputable def impl_storeCopy.A : Ann := { dp := fun _ => true, lp := look [(0, impl_storeCopy.lvL0)], jn := look [], pins := [], nt := 19 }
noncomputable def impl_storeCopy.phis (N : Nat) : List (Nat × Sm D) := [(116, impl_cellCopy.sm N)]
noncomputable def impl_storeCopy.a0 (N : Nat) (n : Nat) (y : (List (ImplCell)) × (List (ImplCell)) × Int × Int × Unit) : Option ((List (ImplCell)) × Unit) := loopAt cx (look (impl_storeCopy.phis N)) impl_storeCopy.A N n (encL cx impl_storeCopy.lvL0.ms y).1 (encL cx impl_storeCopy.lvL0.ms y).2 (bodyOf Tryd.f86) 0 (Kfin cx impl_storeCopy.A impl_storeCopy.sg Tryd.f86.results.toList) [1, 1, 0, 1, 1] []
theorem impl_storeCopy.r0 (N : Nat) : ∀ (n : Nat) (y : (List (ImplCell)) × (List (ImplCell)) × Int × Int × Unit), impl_storeCopy.a0 N n y = impl_storeCopy.L0 N n y
  | 0, y => by kernel_rfl
  | n + 1, y => by
    have h : impl_storeCopy.a0 N (n + 1) y = impl_storeCopy.B0 N (fun z => impl_storeCopy.a0 N n z) y := by kernel_rfl
    have e : (fun z => impl_storeCopy.a0 N n z) = impl_storeCopy.L0 N n := funext fun z => impl_storeCopy.r0 N n z
    rw [h]
    try rw [e]
    first | done | rfl
theorem impl_storeCopy.run (N : Nat) (x : (List (ImplCell)) × Unit) : runF cx (look (impl_storeCopy.phis N)) impl_storeCopy.A N (bodyOf Tryd.f86) Tryd.f86.results.toList impl_storeCopy.sg x = impl_storeCopy N x.1 := by
  have h : runF cx (look (impl_storeCopy.phis N)) impl_storeCopy.A N (bodyOf Tryd.f86) Tryd.f86.results.toList impl_storeCopy.sg x = impl_storeCopy.B N (fun z => impl_storeCopy.a0 N N z) x.1 := by kernel_rfl
  have e0 : (fun z => impl_storeCopy.a0 N N z) = impl_storeCopy.L0 N N := funext fun z => impl_storeCopy.r0 N N z
  rw [h, e0]
  try rfl
noncomputable def impl_storeCopy.sm (N : Nat) : Sm D := (⟨impl_storeCopy.sg, fun (x : (List (ImplCell)) × Unit) => impl_storeCopy N x.1⟩ : Sm D)
theorem impl_storeCopy.sound (N : Nat) : Sound cx Tryd.prog gam 86 (impl_storeCopy.sm N) := fn_sound (A := impl_storeCopy.A) (Φ := (look (impl_storeCopy.phis N))) pok (G := gam) (ΦOk.cons (impl_cellCopy.sound N) (fnOk_of (f := 116) (by kernel_rfl)) ΦOk.nil) mixed N Tryd.func86 (c := (bodyOf Tryd.f86)) (by kernel_rfl) impl_storeCopy.sg (by kernel_rfl) (by kernel_rfl) (by kernel_rfl) (impl_storeCopy.run N)

end
end Go.Ev
