/- Each function that the law reaches does what its plain form says; no condition beyond the table of the library. -/
import Derived.Test.YtadoojpcjfglgaaGreatDoorEvT1
set_option linter.all false
set_option linter.unusedVariables false
set_option linter.unusedSimpArgs false
set_option maxRecDepth 100000
set_option maxHeartbeats 0
namespace Go.Ev
noncomputable section
open Go.Proofs
@[reducible] def impl_word.sg : Sg := { ms := [{ k := .str }], keep := [false], rs := [{ k := .bool }] }
@[reducible] def impl_word.lvL0 : Lv := { id := 0, slots := [0, 3], ms := [{ k := .str }, { k := (.int .i64) }] }
noncomputable def impl_word.A : Ann := { dp := fun d => isIn [] d, lp := look [(0, impl_word.lvL0)], jn := look [], pins := [], nt := 36 }
noncomputable def impl_word.phis (N : Nat) : List (Nat × Sm D) := []
noncomputable def impl_word.a0 (N : Nat) (n : Nat) (y : (List UInt8) × Int × Unit) : Option (Bool × Unit) := loopAt cx (look (impl_word.phis N)) impl_word.A N n (encL cx impl_word.lvL0.ms y).1 (encL cx impl_word.lvL0.ms y).2 (bodyOf Tryz.f130) 0 (Kfin cx impl_word.A impl_word.sg Tryz.f130.results.toList) [1, 0, 1, 1] []
theorem impl_word.r0 (N : Nat) : ∀ (n : Nat) (y : (List UInt8) × Int × Unit), impl_word.a0 N n y = impl_word.L0 N n y
  | 0, y => by kernel_rfl
  | n + 1, y => by
    have h : impl_word.a0 N (n + 1) y = impl_word.B0 N (fun z => impl_word.a0 N n z) y := by kernel_rfl
    have e : (fun z => impl_word.a0 N n z) = impl_word.L0 N n := funext fun z => impl_word.r0 N n z
    rw [h]
    try rw [e]
    first | done | rfl
theorem impl_word.run (N : Nat) (x : (List UInt8) × Unit) : runF cx (look (impl_word.phis N)) impl_word.A N (bodyOf Tryz.f130) Tryz.f130.results.toList impl_word.sg x = impl_word N x.1 := by
  have h : runF cx (look (impl_word.phis N)) impl_word.A N (bodyOf Tryz.f130) Tryz.f130.results.toList impl_word.sg x = impl_word.B N (fun z => impl_word.a0 N N z) x.1 := by kernel_rfl
  have e0 : (fun z => impl_word.a0 N N z) = impl_word.L0 N N := funext fun z => impl_word.r0 N N z
  rw [h, e0]
  try rfl
noncomputable def impl_word.sm (N : Nat) : Sm D := (⟨impl_word.sg, fun (x : (List UInt8) × Unit) => impl_word N x.1⟩ : Sm D)
theorem impl_word.sound (N : Nat) : Sound cx Tryz.prog gam 130 (impl_word.sm N) := fn_sound (A := impl_word.A) (Φ := (look (impl_word.phis N))) pok (G := gam) ΦOk.nil mixed N Tryz.func130 (c := (bodyOf Tryz.f130)) (by kernel_rfl) impl_word.sg (by kernel_rfl) (by kernel_rfl) (by kernel_rfl) (impl_word.run N)

@[reducible] def impl_ValOk.sg : Sg := { ms := [{ k := (.st 127) }], keep := [false], rs := [{ k := .bool }] }
noncomputable def impl_ValOk.A : Ann := { dp := fun d => isIn [] d, lp := look [], jn := look [], pins := [], nt := 35 }
noncomputable def impl_ValOk.phis (N : Nat) : List (Nat × Sm D) := [(47, impl_within.sm N), (130, impl_word.sm N)]
theorem impl_ValOk.run (N : Nat) (x : ImplValue × Unit) : runF cx (look (impl_ValOk.phis N)) impl_ValOk.A N (bodyOf Tryz.f101) Tryz.f101.results.toList impl_ValOk.sg x = impl_ValOk N x.1 := by
  have h : runF cx (look (impl_ValOk.phis N)) impl_ValOk.A N (bodyOf Tryz.f101) Tryz.f101.results.toList impl_ValOk.sg x = impl_ValOk.B N x.1 := by kernel_rfl
  rw [h]
  try rfl
noncomputable def impl_ValOk.sm (N : Nat) : Sm D := (⟨impl_ValOk.sg, fun (x : ImplValue × Unit) => impl_ValOk N x.1⟩ : Sm D)
theorem impl_ValOk.sound (N : Nat) : Sound cx Tryz.prog gam 101 (impl_ValOk.sm N) := fn_sound (A := impl_ValOk.A) (Φ := (look (impl_ValOk.phis N))) pok (G := gam) (ΦOk.cons (impl_within.sound N) (fnOk_of (f := 47) (by kernel_rfl)) (ΦOk.cons (impl_word.sound N) (fnOk_of (f := 130) (by kernel_rfl)) ΦOk.nil)) mixed N Tryz.func101 (c := (bodyOf Tryz.f101)) (by kernel_rfl) impl_ValOk.sg (by kernel_rfl) (by kernel_rfl) (by kernel_rfl) (impl_ValOk.run N)

@[reducible] def impl_valsOk.sg : Sg := { ms := [{ k := (.sl (.st 127)), fl := [none] }], keep := [false], rs := [{ k := .bool }] }
@[reducible] def impl_valsOk.lvL0 : Lv := { id := 0, slots := [5, 6, 7], ms := [{ k := (.sl (.st 127)), fl := [none] }, { k := (.int .i64) }, { k := (.int .i64) }] }
noncomputable def impl_valsOk.A : Ann := { dp := fun d => isIn [] d, lp := look [(0, impl_valsOk.lvL0)], jn := look [], pins := [], nt := 15 }
noncomputable def impl_valsOk.phis (N : Nat) : List (Nat × Sm D) := [(101, impl_ValOk.sm N)]
noncomputable def impl_valsOk.a0 (N : Nat) (n : Nat) (y : (List (ImplValue)) × Int × Int × Unit) : Option (Bool × Unit) := loopAt cx (look (impl_valsOk.phis N)) impl_valsOk.A N n (encL cx impl_valsOk.lvL0.ms y).1 (encL cx impl_valsOk.lvL0.ms y).2 (bodyOf Tryz.f56) 0 (Kfin cx impl_valsOk.A impl_valsOk.sg Tryz.f56.results.toList) [1, 0, 1, 1] []
theorem impl_valsOk.r0 (N : Nat) : ∀ (n : Nat) (y : (List (ImplValue)) × Int × Int × Unit), impl_valsOk.a0 N n y = impl_valsOk.L0 N n y
  | 0, y => by kernel_rfl
  | n + 1, y => by
    have h : impl_valsOk.a0 N (n + 1) y = impl_valsOk.B0 N (fun z => impl_valsOk.a0 N n z) y := by kernel_rfl
    have e : (fun z => impl_valsOk.a0 N n z) = impl_valsOk.L0 N n := funext fun z => impl_valsOk.r0 N n z
    rw [h]
    try rw [e]
    first | done | rfl
theorem impl_valsOk.run (N : Nat) (x : (List (ImplValue)) × Unit) : runF cx (look (impl_valsOk.phis N)) impl_valsOk.A N (bodyOf Tryz.f56) Tryz.f56.results.toList impl_valsOk.sg x = impl_valsOk N x.1 := by
  have h : runF cx (look (impl_valsOk.phis N)) impl_valsOk.A N (bodyOf Tryz.f56) Tryz.f56.results.toList impl_valsOk.sg x = impl_valsOk.B N (fun z => impl_valsOk.a0 N N z) x.1 := by kernel_rfl
  have e0 : (fun z => impl_valsOk.a0 N N z) = impl_valsOk.L0 N N := funext fun z => impl_valsOk.r0 N N z
  rw [h, e0]
  try rfl
noncomputable def impl_valsOk.sm (N : Nat) : Sm D := (⟨impl_valsOk.sg, fun (x : (List (ImplValue)) × Unit) => impl_valsOk N x.1⟩ : Sm D)
theorem impl_valsOk.sound (N : Nat) : Sound cx Tryz.prog gam 56 (impl_valsOk.sm N) := fn_sound (A := impl_valsOk.A) (Φ := (look (impl_valsOk.phis N))) pok (G := gam) (ΦOk.cons (impl_ValOk.sound N) (fnOk_of (f := 101) (by kernel_rfl)) ΦOk.nil) mixed N Tryz.func56 (c := (bodyOf Tryz.f56)) (by kernel_rfl) impl_valsOk.sg (by kernel_rfl) (by kernel_rfl) (by kernel_rfl) (impl_valsOk.run N)

@[reducible] def impl_placeCmp.sg : Sg := { ms := [{ k := (.sl (.st 125)), fl := [none] }, { k := (.sl (.st 125)), fl := [none] }], keep := [false, false], rs := [{ k := (.int .i64) }] }
@[reducible] def impl_placeCmp.lvL0 : Lv := { id := 0, slots := [0, 1, 12, 13], ms := [{ k := (.sl (.st 125)), fl := [none] }, { k := (.sl (.st 125)), fl := [none] }, { k := (.int .i64) }, { k := (.int .i64) }] }
noncomputable def impl_placeCmp.A : Ann := { dp := fun d => isIn [] d, lp := look [(0, impl_placeCmp.lvL0)], jn := look [], pins := [], nt := 59 }
noncomputable def impl_placeCmp.phis (N : Nat) : List (Nat × Sm D) := []
noncomputable def impl_placeCmp.a0 (N : Nat) (n : Nat) (y : (List (ImplSlot)) × (List (ImplSlot)) × Int × Int × Unit) : Option (Int × Unit) := loopAt cx (look (impl_placeCmp.phis N)) impl_placeCmp.A N n (encL cx impl_placeCmp.lvL0.ms y).1 (encL cx impl_placeCmp.lvL0.ms y).2 (bodyOf Tryz.f57) 0 (Kfin cx impl_placeCmp.A impl_placeCmp.sg Tryz.f57.results.toList) [1, 0, 1, 1] []
theorem impl_placeCmp.r0 (N : Nat) : ∀ (n : Nat) (y : (List (ImplSlot)) × (List (ImplSlot)) × Int × Int × Unit), impl_placeCmp.a0 N n y = impl_placeCmp.L0 N n y
  | 0, y => by kernel_rfl
  | n + 1, y => by
    have h : impl_placeCmp.a0 N (n + 1) y = impl_placeCmp.B0 N (fun z => impl_placeCmp.a0 N n z) y := by kernel_rfl
    have e : (fun z => impl_placeCmp.a0 N n z) = impl_placeCmp.L0 N n := funext fun z => impl_placeCmp.r0 N n z
    rw [h]
    try rw [e]
    first | done | rfl
theorem impl_placeCmp.run (N : Nat) (x : (List (ImplSlot)) × (List (ImplSlot)) × Unit) : runF cx (look (impl_placeCmp.phis N)) impl_placeCmp.A N (bodyOf Tryz.f57) Tryz.f57.results.toList impl_placeCmp.sg x = impl_placeCmp N x.1 x.2.1 := by
  have h : runF cx (look (impl_placeCmp.phis N)) impl_placeCmp.A N (bodyOf Tryz.f57) Tryz.f57.results.toList impl_placeCmp.sg x = impl_placeCmp.B N (fun z => impl_placeCmp.a0 N N z) x.1 x.2.1 := by kernel_rfl
  have e0 : (fun z => impl_placeCmp.a0 N N z) = impl_placeCmp.L0 N N := funext fun z => impl_placeCmp.r0 N N z
  rw [h, e0]
  try rfl
noncomputable def impl_placeCmp.sm (N : Nat) : Sm D := (⟨impl_placeCmp.sg, fun (x : (List (ImplSlot)) × (List (ImplSlot)) × Unit) => impl_placeCmp N x.1 x.2.1⟩ : Sm D)
theorem impl_placeCmp.sound (N : Nat) : Sound cx Tryz.prog gam 57 (impl_placeCmp.sm N) := fn_sound (A := impl_placeCmp.A) (Φ := (look (impl_placeCmp.phis N))) pok (G := gam) ΦOk.nil mixed N Tryz.func57 (c := (bodyOf Tryz.f57)) (by kernel_rfl) impl_placeCmp.sg (by kernel_rfl) (by kernel_rfl) (by kernel_rfl) (impl_placeCmp.run N)

@[reducible] def impl_StoreOk.sg : Sg := { ms := [{ k := (.sl (.st 80)), fl := [none] }], keep := [false], rs := [{ k := .bool }] }
@[reducible] def impl_StoreOk.lvL0 : Lv := { id := 0, slots := [0, 5, 6, 7], ms := [{ k := (.sl (.st 80)), fl := [none] }, { k := (.sl (.st 80)), fl := [none] }, { k := (.int .i64) }, { k := (.int .i64) }] }
noncomputable def impl_StoreOk.A : Ann := { dp := fun d => isIn [] d, lp := look [(0, impl_StoreOk.lvL0)], jn := look [], pins := [], nt := 48 }
noncomputable def impl_StoreOk.phis (N : Nat) : List (Nat × Sm D) := [(55, impl_PlaceOk.sm N), (56, impl_valsOk.sm N), (57, impl_placeCmp.sm N)]
noncomputable def impl_StoreOk.a0 (N : Nat) (n : Nat) (y : (List (ImplCell)) × (List (ImplCell)) × Int × Int × Unit) : Option (Bool × Unit) := loopAt cx (look (impl_StoreOk.phis N)) impl_StoreOk.A N n (encL cx impl_StoreOk.lvL0.ms y).1 (encL cx impl_StoreOk.lvL0.ms y).2 (bodyOf Tryz.f14) 0 (Kfin cx impl_StoreOk.A impl_StoreOk.sg Tryz.f14.results.toList) [1, 0, 1, 1] []
theorem impl_StoreOk.r0 (N : Nat) : ∀ (n : Nat) (y : (List (ImplCell)) × (List (ImplCell)) × Int × Int × Unit), impl_StoreOk.a0 N n y = impl_StoreOk.L0 N n y
  | 0, y => by kernel_rfl
  | n + 1, y => by
    have h : impl_StoreOk.a0 N (n + 1) y = impl_StoreOk.B0 N (fun z => impl_StoreOk.a0 N n z) y := by kernel_rfl
    have e : (fun z => impl_StoreOk.a0 N n z) = impl_StoreOk.L0 N n := funext fun z => impl_StoreOk.r0 N n z
    rw [h]
    try rw [e]
    first | done | rfl
theorem impl_StoreOk.run (N : Nat) (x : (List (ImplCell)) × Unit) : runF cx (look (impl_StoreOk.phis N)) impl_StoreOk.A N (bodyOf Tryz.f14) Tryz.f14.results.toList impl_StoreOk.sg x = impl_StoreOk N x.1 := by
  have h : runF cx (look (impl_StoreOk.phis N)) impl_StoreOk.A N (bodyOf Tryz.f14) Tryz.f14.results.toList impl_StoreOk.sg x = impl_StoreOk.B N (fun z => impl_StoreOk.a0 N N z) x.1 := by kernel_rfl
  have e0 : (fun z => impl_StoreOk.a0 N N z) = impl_StoreOk.L0 N N := funext fun z => impl_StoreOk.r0 N N z
  rw [h, e0]
  try rfl
noncomputable def impl_StoreOk.sm (N : Nat) : Sm D := (⟨impl_StoreOk.sg, fun (x : (List (ImplCell)) × Unit) => impl_StoreOk N x.1⟩ : Sm D)
theorem impl_StoreOk.sound (N : Nat) : Sound cx Tryz.prog gam 14 (impl_StoreOk.sm N) := fn_sound (A := impl_StoreOk.A) (Φ := (look (impl_StoreOk.phis N))) pok (G := gam) (ΦOk.cons (impl_PlaceOk.sound N) (fnOk_of (f := 55) (by kernel_rfl)) (ΦOk.cons (impl_valsOk.sound N) (fnOk_of (f := 56) (by kernel_rfl)) (ΦOk.cons (impl_placeCmp.sound N) (fnOk_of (f := 57) (by kernel_rfl)) ΦOk.nil))) mixed N Tryz.func14 (c := (bodyOf Tryz.f14)) (by kernel_rfl) impl_StoreOk.sg (by kernel_rfl) (by kernel_rfl) (by kernel_rfl) (impl_StoreOk.run N)

@[reducible] def impl_formFits.sg : Sg := { ms := [{ k := (.sl (.st 141)), fl := [none] }, { k := (.int .i64) }, { k := (.int .i64) }, { k := (.int .i64) }], keep := [false, false, false, false], rs := [{ k := .bool }] }
@[reducible] def impl_formFits.lvJ27 : Lv := { id := 27, slots := [0, 1, 2, 3, 9, 12, 13, 14, 15, 16], ms := [{ k := (.sl (.st 141)), fl := [none] }, { k := (.int .i64) }, { k := (.int .i64) }, { k := (.int .i64) }, { k := (.int .i64) }, { k := (.int .i64) }, { k := .bool }, { k := (.sl (.st 141)), fl := [none] }, { k := (.int .i64) }, { k := (.int .i64) }] }
@[reducible] def impl_formFits.lvL0 : Lv := { id := 0, slots := [0, 1, 2, 3, 9, 14, 15, 16], ms := [{ k := (.sl (.st 141)), fl := [none] }, { k := (.int .i64) }, { k := (.int .i64) }, { k := (.int .i64) }, { k := (.int .i64) }, { k := (.sl (.st 141)), fl := [none] }, { k := (.int .i64) }, { k := (.int .i64) }] }
noncomputable def impl_formFits.A : Ann := { dp := fun d => isIn [] d, lp := look [(0, impl_formFits.lvL0)], jn := look [(27, impl_formFits.lvJ27)], pins := [], nt := 96 }
noncomputable def impl_formFits.phis (N : Nat) : List (Nat × Sm D) := [(101, impl_ValOk.sm N), (47, impl_within.sm N)]
noncomputable def impl_formFits.a0 (N : Nat) (n : Nat) (y : (List (ImplStep)) × Int × Int × Int × Int × (List (ImplStep)) × Int × Int × Unit) : Option (Bool × Unit) := loopAt cx (look (impl_formFits.phis N)) impl_formFits.A N n (encL cx impl_formFits.lvL0.ms y).1 (encL cx impl_formFits.lvL0.ms y).2 (bodyOf Tryz.f148) 0 (Kfin cx impl_formFits.A impl_formFits.sg Tryz.f148.results.toList) [1, 1, 0, 1, 1] []
theorem impl_formFits.r0 (N : Nat) : ∀ (n : Nat) (y : (List (ImplStep)) × Int × Int × Int × Int × (List (ImplStep)) × Int × Int × Unit), impl_formFits.a0 N n y = impl_formFits.L0 N n y
  | 0, y => by kernel_rfl
  | n + 1, y => by
    have h : impl_formFits.a0 N (n + 1) y = impl_formFits.B0 N (fun z => impl_formFits.a0 N n z) y := by kernel_rfl
    have e : (fun z => impl_formFits.a0 N n z) = impl_formFits.L0 N n := funext fun z => impl_formFits.r0 N n z
    rw [h]
    try rw [e]
    first | done | rfl
theorem impl_formFits.run (N : Nat) (x : (List (ImplStep)) × Int × Int × Int × Unit) : runF cx (look (impl_formFits.phis N)) impl_formFits.A N (bodyOf Tryz.f148) Tryz.f148.results.toList impl_formFits.sg x = impl_formFits N x.1 x.2.1 x.2.2.1 x.2.2.2.1 := by
  have h : runF cx (look (impl_formFits.phis N)) impl_formFits.A N (bodyOf Tryz.f148) Tryz.f148.results.toList impl_formFits.sg x = impl_formFits.B N (fun z => impl_formFits.a0 N N z) x.1 x.2.1 x.2.2.1 x.2.2.2.1 := by kernel_rfl
  have e0 : (fun z => impl_formFits.a0 N N z) = impl_formFits.L0 N N := funext fun z => impl_formFits.r0 N N z
  rw [h, e0]
  try rfl
noncomputable def impl_formFits.sm (N : Nat) : Sm D := (⟨impl_formFits.sg, fun (x : (List (ImplStep)) × Int × Int × Int × Unit) => impl_formFits N x.1 x.2.1 x.2.2.1 x.2.2.2.1⟩ : Sm D)
theorem impl_formFits.sound (N : Nat) : Sound cx Tryz.prog gam 148 (impl_formFits.sm N) := fn_sound (A := impl_formFits.A) (Φ := (look (impl_formFits.phis N))) pok (G := gam) (ΦOk.cons (impl_ValOk.sound N) (fnOk_of (f := 101) (by kernel_rfl)) (ΦOk.cons (impl_within.sound N) (fnOk_of (f := 47) (by kernel_rfl)) ΦOk.nil)) mixed N Tryz.func148 (c := (bodyOf Tryz.f148)) (by kernel_rfl) impl_formFits.sg (by kernel_rfl) (by kernel_rfl) (by kernel_rfl) (impl_formFits.run N)

@[reducible] def impl_FormOk.sg : Sg := { ms := [{ k := (.sl (.st 141)), fl := [none] }, { k := (.int .i64) }, { k := (.int .i64) }, { k := (.int .i64) }], keep := [false, false, false, false], rs := [{ k := .bool }] }
noncomputable def impl_FormOk.A : Ann := { dp := fun d => isIn [] d, lp := look [], jn := look [], pins := [], nt := 26 }
noncomputable def impl_FormOk.phis (N : Nat) : List (Nat × Sm D) := [(47, impl_within.sm N), (148, impl_formFits.sm N)]
theorem impl_FormOk.run (N : Nat) (x : (List (ImplStep)) × Int × Int × Int × Unit) : runF cx (look (impl_FormOk.phis N)) impl_FormOk.A N (bodyOf Tryz.f129) Tryz.f129.results.toList impl_FormOk.sg x = impl_FormOk N x.1 x.2.1 x.2.2.1 x.2.2.2.1 := by
  have h : runF cx (look (impl_FormOk.phis N)) impl_FormOk.A N (bodyOf Tryz.f129) Tryz.f129.results.toList impl_FormOk.sg x = impl_FormOk.B N x.1 x.2.1 x.2.2.1 x.2.2.2.1 := by kernel_rfl
  rw [h]
  try rfl
noncomputable def impl_FormOk.sm (N : Nat) : Sm D := (⟨impl_FormOk.sg, fun (x : (List (ImplStep)) × Int × Int × Int × Unit) => impl_FormOk N x.1 x.2.1 x.2.2.1 x.2.2.2.1⟩ : Sm D)
theorem impl_FormOk.sound (N : Nat) : Sound cx Tryz.prog gam 129 (impl_FormOk.sm N) := fn_sound (A := impl_FormOk.A) (Φ := (look (impl_FormOk.phis N))) pok (G := gam) (ΦOk.cons (impl_within.sound N) (fnOk_of (f := 47) (by kernel_rfl)) (ΦOk.cons (impl_formFits.sound N) (fnOk_of (f := 148) (by kernel_rfl)) ΦOk.nil)) mixed N Tryz.func129 (c := (bodyOf Tryz.f129)) (by kernel_rfl) impl_FormOk.sg (by kernel_rfl) (by kernel_rfl) (by kernel_rfl) (impl_FormOk.run N)

@[reducible] def impl_UpdateOk.sg : Sg := { ms := [{ k := (.st 100) }], keep := [false], rs := [{ k := .bool }] }
noncomputable def impl_UpdateOk.A : Ann := { dp := fun d => isIn [] d, lp := look [], jn := look [], pins := [], nt := 21 }
noncomputable def impl_UpdateOk.phis (N : Nat) : List (Nat × Sm D) := [(55, impl_PlaceOk.sm N), (47, impl_within.sm N), (129, impl_FormOk.sm N)]
theorem impl_UpdateOk.run (N : Nat) (x : ImplUpdate × Unit) : runF cx (look (impl_UpdateOk.phis N)) impl_UpdateOk.A N (bodyOf Tryz.f100) Tryz.f100.results.toList impl_UpdateOk.sg x = impl_UpdateOk N x.1 := by
  have h : runF cx (look (impl_UpdateOk.phis N)) impl_UpdateOk.A N (bodyOf Tryz.f100) Tryz.f100.results.toList impl_UpdateOk.sg x = impl_UpdateOk.B N x.1 := by kernel_rfl
  rw [h]
  try rfl
noncomputable def impl_UpdateOk.sm (N : Nat) : Sm D := (⟨impl_UpdateOk.sg, fun (x : ImplUpdate × Unit) => impl_UpdateOk N x.1⟩ : Sm D)
theorem impl_UpdateOk.sound (N : Nat) : Sound cx Tryz.prog gam 100 (impl_UpdateOk.sm N) := fn_sound (A := impl_UpdateOk.A) (Φ := (look (impl_UpdateOk.phis N))) pok (G := gam) (ΦOk.cons (impl_PlaceOk.sound N) (fnOk_of (f := 55) (by kernel_rfl)) (ΦOk.cons (impl_within.sound N) (fnOk_of (f := 47) (by kernel_rfl)) (ΦOk.cons (impl_FormOk.sound N) (fnOk_of (f := 129) (by kernel_rfl)) ΦOk.nil))) mixed N Tryz.func100 (c := (bodyOf Tryz.f100)) (by kernel_rfl) impl_UpdateOk.sg (by kernel_rfl) (by kernel_rfl) (by kernel_rfl) (impl_UpdateOk.run N)

@[reducible] def impl_updatesOk.sg : Sg := { ms := [{ k := (.sl (.st 100)), fl := [none] }], keep := [false], rs := [{ k := .bool }] }
@[reducible] def impl_updatesOk.lvL0 : Lv := { id := 0, slots := [5, 6, 7], ms := [{ k := (.sl (.st 100)), fl := [none] }, { k := (.int .i64) }, { k := (.int .i64) }] }
noncomputable def impl_updatesOk.A : Ann := { dp := fun d => isIn [] d, lp := look [(0, impl_updatesOk.lvL0)], jn := look [], pins := [], nt := 15 }
noncomputable def impl_updatesOk.phis (N : Nat) : List (Nat × Sm D) := [(100, impl_UpdateOk.sm N)]
noncomputable def impl_updatesOk.a0 (N : Nat) (n : Nat) (y : (List (ImplUpdate)) × Int × Int × Unit) : Option (Bool × Unit) := loopAt cx (look (impl_updatesOk.phis N)) impl_updatesOk.A N n (encL cx impl_updatesOk.lvL0.ms y).1 (encL cx impl_updatesOk.lvL0.ms y).2 (bodyOf Tryz.f54) 0 (Kfin cx impl_updatesOk.A impl_updatesOk.sg Tryz.f54.results.toList) [1, 0, 1, 1] []
theorem impl_updatesOk.r0 (N : Nat) : ∀ (n : Nat) (y : (List (ImplUpdate)) × Int × Int × Unit), impl_updatesOk.a0 N n y = impl_updatesOk.L0 N n y
  | 0, y => by kernel_rfl
  | n + 1, y => by
    have h : impl_updatesOk.a0 N (n + 1) y = impl_updatesOk.B0 N (fun z => impl_updatesOk.a0 N n z) y := by kernel_rfl
    have e : (fun z => impl_updatesOk.a0 N n z) = impl_updatesOk.L0 N n := funext fun z => impl_updatesOk.r0 N n z
    rw [h]
    try rw [e]
    first | done | rfl
theorem impl_updatesOk.run (N : Nat) (x : (List (ImplUpdate)) × Unit) : runF cx (look (impl_updatesOk.phis N)) impl_updatesOk.A N (bodyOf Tryz.f54) Tryz.f54.results.toList impl_updatesOk.sg x = impl_updatesOk N x.1 := by
  have h : runF cx (look (impl_updatesOk.phis N)) impl_updatesOk.A N (bodyOf Tryz.f54) Tryz.f54.results.toList impl_updatesOk.sg x = impl_updatesOk.B N (fun z => impl_updatesOk.a0 N N z) x.1 := by kernel_rfl
  have e0 : (fun z => impl_updatesOk.a0 N N z) = impl_updatesOk.L0 N N := funext fun z => impl_updatesOk.r0 N N z
  rw [h, e0]
  try rfl
noncomputable def impl_updatesOk.sm (N : Nat) : Sm D := (⟨impl_updatesOk.sg, fun (x : (List (ImplUpdate)) × Unit) => impl_updatesOk N x.1⟩ : Sm D)
theorem impl_updatesOk.sound (N : Nat) : Sound cx Tryz.prog gam 54 (impl_updatesOk.sm N) := fn_sound (A := impl_updatesOk.A) (Φ := (look (impl_updatesOk.phis N))) pok (G := gam) (ΦOk.cons (impl_UpdateOk.sound N) (fnOk_of (f := 100) (by kernel_rfl)) ΦOk.nil) mixed N Tryz.func54 (c := (bodyOf Tryz.f54)) (by kernel_rfl) impl_updatesOk.sg (by kernel_rfl) (by kernel_rfl) (by kernel_rfl) (impl_updatesOk.run N)

@[reducible] def impl_LineOk.sg : Sg := { ms := [{ k := (.st 25) }], keep := [false], rs := [{ k := .bool }] }
noncomputable def impl_LineOk.A : Ann := { dp := fun d => isIn [] d, lp := look [], jn := look [], pins := [], nt := 17 }
noncomputable def impl_LineOk.phis (N : Nat) : List (Nat × Sm D) := [(14, impl_StoreOk.sm N), (54, impl_updatesOk.sm N)]
theorem impl_LineOk.run (N : Nat) (x : ImplLine × Unit) : runF cx (look (impl_LineOk.phis N)) impl_LineOk.A N (bodyOf Tryz.f13) Tryz.f13.results.toList impl_LineOk.sg x = impl_LineOk N x.1 := by
  have h : runF cx (look (impl_LineOk.phis N)) impl_LineOk.A N (bodyOf Tryz.f13) Tryz.f13.results.toList impl_LineOk.sg x = impl_LineOk.B N x.1 := by kernel_rfl
  rw [h]
  try rfl
noncomputable def impl_LineOk.sm (N : Nat) : Sm D := (⟨impl_LineOk.sg, fun (x : ImplLine × Unit) => impl_LineOk N x.1⟩ : Sm D)
theorem impl_LineOk.sound (N : Nat) : Sound cx Tryz.prog gam 13 (impl_LineOk.sm N) := fn_sound (A := impl_LineOk.A) (Φ := (look (impl_LineOk.phis N))) pok (G := gam) (ΦOk.cons (impl_StoreOk.sound N) (fnOk_of (f := 14) (by kernel_rfl)) (ΦOk.cons (impl_updatesOk.sound N) (fnOk_of (f := 54) (by kernel_rfl)) ΦOk.nil)) mixed N Tryz.func13 (c := (bodyOf Tryz.f13)) (by kernel_rfl) impl_LineOk.sg (by kernel_rfl) (by kernel_rfl) (by kernel_rfl) (impl_LineOk.run N)

@[reducible] def impl_placeCopy.sg : Sg := { ms := [{ k := (.sl (.st 125)), fl := [none] }], keep := [false], rs := [{ k := (.sl (.st 125)), fl := [some (false, 411)] }] }
noncomputable def impl_placeCopy.A : Ann := { dp := fun d => isIn [] d, lp := look [], jn := look [], pins := [], nt := 5 }
noncomputable def impl_placeCopy.phis (N : Nat) : List (Nat × Sm D) := []
theorem impl_placeCopy.run (N : Nat) (x : (List (ImplSlot)) × Unit) : runF cx (look (impl_placeCopy.phis N)) impl_placeCopy.A N (bodyOf Tryz.f131) Tryz.f131.results.toList impl_placeCopy.sg x = impl_placeCopy N x.1 := by
  have h : runF cx (look (impl_placeCopy.phis N)) impl_placeCopy.A N (bodyOf Tryz.f131) Tryz.f131.results.toList impl_placeCopy.sg x = impl_placeCopy.B N x.1 := by kernel_rfl
  rw [h]
  try rfl
noncomputable def impl_placeCopy.sm (N : Nat) : Sm D := (⟨impl_placeCopy.sg, fun (x : (List (ImplSlot)) × Unit) => impl_placeCopy N x.1⟩ : Sm D)
theorem impl_placeCopy.sound (N : Nat) : Sound cx Tryz.prog gam 131 (impl_placeCopy.sm N) := fn_sound (A := impl_placeCopy.A) (Φ := (look (impl_placeCopy.phis N))) pok (G := gam) ΦOk.nil mixed N Tryz.func131 (c := (bodyOf Tryz.f131)) (by kernel_rfl) impl_placeCopy.sg (by kernel_rfl) (by kernel_rfl) (by kernel_rfl) (impl_placeCopy.run N)

@[reducible] def impl_valsCopy.sg : Sg := { ms := [{ k := (.sl (.st 127)), fl := [none] }], keep := [false], rs := [{ k := (.sl (.st 127)), fl := [some (false, 411)] }] }
noncomputable def impl_valsCopy.A : Ann := { dp := fun d => isIn [] d, lp := look [], jn := look [], pins := [], nt := 5 }
noncomputable def impl_valsCopy.phis (N : Nat) : List (Nat × Sm D) := []
theorem impl_valsCopy.run (N : Nat) (x : (List (ImplValue)) × Unit) : runF cx (look (impl_valsCopy.phis N)) impl_valsCopy.A N (bodyOf Tryz.f147) Tryz.f147.results.toList impl_valsCopy.sg x = impl_valsCopy N x.1 := by
  have h : runF cx (look (impl_valsCopy.phis N)) impl_valsCopy.A N (bodyOf Tryz.f147) Tryz.f147.results.toList impl_valsCopy.sg x = impl_valsCopy.B N x.1 := by kernel_rfl
  rw [h]
  try rfl
noncomputable def impl_valsCopy.sm (N : Nat) : Sm D := (⟨impl_valsCopy.sg, fun (x : (List (ImplValue)) × Unit) => impl_valsCopy N x.1⟩ : Sm D)
theorem impl_valsCopy.sound (N : Nat) : Sound cx Tryz.prog gam 147 (impl_valsCopy.sm N) := fn_sound (A := impl_valsCopy.A) (Φ := (look (impl_valsCopy.phis N))) pok (G := gam) ΦOk.nil mixed N Tryz.func147 (c := (bodyOf Tryz.f147)) (by kernel_rfl) impl_valsCopy.sg (by kernel_rfl) (by kernel_rfl) (by kernel_rfl) (impl_valsCopy.run N)

@[reducible] def impl_cellCopy.sg : Sg := { ms := [{ k := (.st 80) }], keep := [false], rs := [{ k := (.st 80), fl := [some (false, 411), some (false, 412)] }] }
noncomputable def impl_cellCopy.A : Ann := { dp := fun d => isIn [] d, lp := look [], jn := look [], pins := [], nt := 10 }
noncomputable def impl_cellCopy.phis (N : Nat) : List (Nat × Sm D) := [(131, impl_placeCopy.sm N), (147, impl_valsCopy.sm N)]
theorem impl_cellCopy.run (N : Nat) (x : ImplCell × Unit) : runF cx (look (impl_cellCopy.phis N)) impl_cellCopy.A N (bodyOf Tryz.f125) Tryz.f125.results.toList impl_cellCopy.sg x = impl_cellCopy N x.1 := by
  have h : runF cx (look (impl_cellCopy.phis N)) impl_cellCopy.A N (bodyOf Tryz.f125) Tryz.f125.results.toList impl_cellCopy.sg x = impl_cellCopy.B N x.1 := by kernel_rfl
  rw [h]
  try rfl
noncomputable def impl_cellCopy.sm (N : Nat) : Sm D := (⟨impl_cellCopy.sg, fun (x : ImplCell × Unit) => impl_cellCopy N x.1⟩ : Sm D)
theorem impl_cellCopy.sound (N : Nat) : Sound cx Tryz.prog gam 125 (impl_cellCopy.sm N) := fn_sound (A := impl_cellCopy.A) (Φ := (look (impl_cellCopy.phis N))) pok (G := gam) (ΦOk.cons (impl_placeCopy.sound N) (fnOk_of (f := 131) (by kernel_rfl)) (ΦOk.cons (impl_valsCopy.sound N) (fnOk_of (f := 147) (by kernel_rfl)) ΦOk.nil)) mixed N Tryz.func125 (c := (bodyOf Tryz.f125)) (by kernel_rfl) impl_cellCopy.sg (by kernel_rfl) (by kernel_rfl) (by kernel_rfl) (impl_cellCopy.run N)

@[reducible] def impl_storeCopy.sg : Sg := { ms := [{ k := (.sl (.st 80)), fl := [none] }], keep := [false], rs := [{ k := (.sl (.st 80)), fl := [some (true, 411)] }] }
@[reducible] def impl_storeCopy.lvL0 : Lv := { id := 0, slots := [3, 6, 7, 8], ms := [{ k := (.sl (.st 80)), fl := [some (true, 600)] }, { k := (.sl (.st 80)), fl := [none] }, { k := (.int .i64) }, { k := (.int .i64) }] }
noncomputable def impl_storeCopy.A : Ann := { dp := fun _ => true, lp := look [(0, impl_storeCopy.lvL0)], jn := look [], pins := [], nt := 19 }
noncomputable def impl_storeCopy.phis (N : Nat) : List (Nat × Sm D) := [(125, impl_cellCopy.sm N)]
noncomputable def impl_storeCopy.a0 (N : Nat) (n : Nat) (y : (List (ImplCell)) × (List (ImplCell)) × Int × Int × Unit) : Option ((List (ImplCell)) × Unit) := loopAt cx (look (impl_storeCopy.phis N)) impl_storeCopy.A N n (encL cx impl_storeCopy.lvL0.ms y).1 (encL cx impl_storeCopy.lvL0.ms y).2 (bodyOf Tryz.f93) 0 (Kfin cx impl_storeCopy.A impl_storeCopy.sg Tryz.f93.results.toList) [1, 1, 0, 1, 1] []
theorem impl_storeCopy.r0 (N : Nat) : ∀ (n : Nat) (y : (List (ImplCell)) × (List (ImplCell)) × Int × Int × Unit), impl_storeCopy.a0 N n y = impl_storeCopy.L0 N n y
  | 0, y => by kernel_rfl
  | n + 1, y => by
    have h : impl_storeCopy.a0 N (n + 1) y = impl_storeCopy.B0 N (fun z => impl_storeCopy.a0 N n z) y := by kernel_rfl
    have e : (fun z => impl_storeCopy.a0 N n z) = impl_storeCopy.L0 N n := funext fun z => impl_storeCopy.r0 N n z
    rw [h]
    try rw [e]
    first | done | rfl
theorem impl_storeCopy.run (N : Nat) (x : (List (ImplCell)) × Unit) : runF cx (look (impl_storeCopy.phis N)) impl_storeCopy.A N (bodyOf Tryz.f93) Tryz.f93.results.toList impl_storeCopy.sg x = impl_storeCopy N x.1 := by
  have h : runF cx (look (impl_storeCopy.phis N)) impl_storeCopy.A N (bodyOf Tryz.f93) Tryz.f93.results.toList impl_storeCopy.sg x = impl_storeCopy.B N (fun z => impl_storeCopy.a0 N N z) x.1 := by kernel_rfl
  have e0 : (fun z => impl_storeCopy.a0 N N z) = impl_storeCopy.L0 N N := funext fun z => impl_storeCopy.r0 N N z
  rw [h, e0]
  try rfl
noncomputable def impl_storeCopy.sm (N : Nat) : Sm D := (⟨impl_storeCopy.sg, fun (x : (List (ImplCell)) × Unit) => impl_storeCopy N x.1⟩ : Sm D)
theorem impl_storeCopy.sound (N : Nat) : Sound cx Tryz.prog gam 93 (impl_storeCopy.sm N) := fn_sound (A := impl_storeCopy.A) (Φ := (look (impl_storeCopy.phis N))) pok (G := gam) (ΦOk.cons (impl_cellCopy.sound N) (fnOk_of (f := 125) (by kernel_rfl)) ΦOk.nil) mixed N Tryz.func93 (c := (bodyOf Tryz.f93)) (by kernel_rfl) impl_storeCopy.sg (by kernel_rfl) (by kernel_rfl) (by kernel_rfl) (impl_storeCopy.run N)

@[reducible] def impl_storeFind.sg : Sg := { ms := [{ k := (.sl (.st 80)), fl := [none] }, { k := (.sl (.st 125)), fl := [none] }], keep := [false, false], rs := [{ k := (.int .i64) }] }
@[reducible] def impl_storeFind.lvL0 : Lv := { id := 0, slots := [1, 7, 8, 9], ms := [{ k := (.sl (.st 125)), fl := [none] }, { k := (.sl (.st 80)), fl := [none] }, { k := (.int .i64) }, { k := (.int .i64) }] }
noncomputable def impl_storeFind.A : Ann := { dp := fun d => isIn [] d, lp := look [(0, impl_storeFind.lvL0)], jn := look [], pins := [], nt := 21 }
noncomputable def impl_storeFind.phis (N : Nat) : List (Nat × Sm D) := [(57, impl_placeCmp.sm N)]
noncomputable def impl_storeFind.a0 (N : Nat) (n : Nat) (y : (List (ImplSlot)) × (List (ImplCell)) × Int × Int × Unit) : Option (Int × Unit) := loopAt cx (look (impl_storeFind.phis N)) impl_storeFind.A N n (encL cx impl_storeFind.lvL0.ms y).1 (encL cx impl_storeFind.lvL0.ms y).2 (bodyOf Tryz.f103) 0 (Kfin cx impl_storeFind.A impl_storeFind.sg Tryz.f103.results.toList) [1, 0, 1, 1] []
theorem impl_storeFind.r0 (N : Nat) : ∀ (n : Nat) (y : (List (ImplSlot)) × (List (ImplCell)) × Int × Int × Unit), impl_storeFind.a0 N n y = impl_storeFind.L0 N n y
  | 0, y => by kernel_rfl
  | n + 1, y => by
    have h : impl_storeFind.a0 N (n + 1) y = impl_storeFind.B0 N (fun z => impl_storeFind.a0 N n z) y := by kernel_rfl
    have e : (fun z => impl_storeFind.a0 N n z) = impl_storeFind.L0 N n := funext fun z => impl_storeFind.r0 N n z
    rw [h]
    try rw [e]
    first | done | rfl
theorem impl_storeFind.run (N : Nat) (x : (List (ImplCell)) × (List (ImplSlot)) × Unit) : runF cx (look (impl_storeFind.phis N)) impl_storeFind.A N (bodyOf Tryz.f103) Tryz.f103.results.toList impl_storeFind.sg x = impl_storeFind N x.1 x.2.1 := by
  have h : runF cx (look (impl_storeFind.phis N)) impl_storeFind.A N (bodyOf Tryz.f103) Tryz.f103.results.toList impl_storeFind.sg x = impl_storeFind.B N (fun z => impl_storeFind.a0 N N z) x.1 x.2.1 := by kernel_rfl
  have e0 : (fun z => impl_storeFind.a0 N N z) = impl_storeFind.L0 N N := funext fun z => impl_storeFind.r0 N N z
  rw [h, e0]
  try rfl
noncomputable def impl_storeFind.sm (N : Nat) : Sm D := (⟨impl_storeFind.sg, fun (x : (List (ImplCell)) × (List (ImplSlot)) × Unit) => impl_storeFind N x.1 x.2.1⟩ : Sm D)
theorem impl_storeFind.sound (N : Nat) : Sound cx Tryz.prog gam 103 (impl_storeFind.sm N) := fn_sound (A := impl_storeFind.A) (Φ := (look (impl_storeFind.phis N))) pok (G := gam) (ΦOk.cons (impl_placeCmp.sound N) (fnOk_of (f := 57) (by kernel_rfl)) ΦOk.nil) mixed N Tryz.func103 (c := (bodyOf Tryz.f103)) (by kernel_rfl) impl_storeFind.sg (by kernel_rfl) (by kernel_rfl) (by kernel_rfl) (impl_storeFind.run N)

@[reducible] def impl_updateAt.sg : Sg := { ms := [{ k := (.sl (.st 80)), fl := [none] }, { k := (.st 100) }], keep := [false, false], rs := [{ k := (.int .i64) }] }
noncomputable def impl_updateAt.A : Ann := { dp := fun d => isIn [] d, lp := look [], jn := look [], pins := [], nt := 36 }
noncomputable def impl_updateAt.phis (N : Nat) : List (Nat × Sm D) := [(103, impl_storeFind.sm N), (148, impl_formFits.sm N)]
theorem impl_updateAt.run (N : Nat) (x : (List (ImplCell)) × ImplUpdate × Unit) : runF cx (look (impl_updateAt.phis N)) impl_updateAt.A N (bodyOf Tryz.f126) Tryz.f126.results.toList impl_updateAt.sg x = impl_updateAt N x.1 x.2.1 := by
  have h : runF cx (look (impl_updateAt.phis N)) impl_updateAt.A N (bodyOf Tryz.f126) Tryz.f126.results.toList impl_updateAt.sg x = impl_updateAt.B N x.1 x.2.1 := by kernel_rfl
  rw [h]
  try rfl
noncomputable def impl_updateAt.sm (N : Nat) : Sm D := (⟨impl_updateAt.sg, fun (x : (List (ImplCell)) × ImplUpdate × Unit) => impl_updateAt N x.1 x.2.1⟩ : Sm D)
theorem impl_updateAt.sound (N : Nat) : Sound cx Tryz.prog gam 126 (impl_updateAt.sm N) := fn_sound (A := impl_updateAt.A) (Φ := (look (impl_updateAt.phis N))) pok (G := gam) (ΦOk.cons (impl_storeFind.sound N) (fnOk_of (f := 103) (by kernel_rfl)) (ΦOk.cons (impl_formFits.sound N) (fnOk_of (f := 148) (by kernel_rfl)) ΦOk.nil)) mixed N Tryz.func126 (c := (bodyOf Tryz.f126)) (by kernel_rfl) impl_updateAt.sg (by kernel_rfl) (by kernel_rfl) (by kernel_rfl) (impl_updateAt.run N)

@[reducible] def impl_number.sg : Sg := { ms := [{ k := (.int .i64) }], keep := [false], rs := [{ k := (.st 127) }] }
noncomputable def impl_number.A : Ann := { dp := fun d => isIn [] d, lp := look [], jn := look [], pins := [], nt := 5 }
noncomputable def impl_number.phis (N : Nat) : List (Nat × Sm D) := []
theorem impl_number.run (N : Nat) (x : Int × Unit) : runF cx (look (impl_number.phis N)) impl_number.A N (bodyOf Tryz.f149) Tryz.f149.results.toList impl_number.sg x = impl_number N x.1 := by
  have h : runF cx (look (impl_number.phis N)) impl_number.A N (bodyOf Tryz.f149) Tryz.f149.results.toList impl_number.sg x = impl_number.B N x.1 := by kernel_rfl
  rw [h]
  try rfl
noncomputable def impl_number.sm (N : Nat) : Sm D := (⟨impl_number.sg, fun (x : Int × Unit) => impl_number N x.1⟩ : Sm D)
theorem impl_number.sound (N : Nat) : Sound cx Tryz.prog gam 149 (impl_number.sm N) := fn_sound (A := impl_number.A) (Φ := (look (impl_number.phis N))) pok (G := gam) ΦOk.nil mixed N Tryz.func149 (c := (bodyOf Tryz.f149)) (by kernel_rfl) impl_number.sg (by kernel_rfl) (by kernel_rfl) (by kernel_rfl) (impl_number.run N)

@[reducible] def impl_truth.sg : Sg := { ms := [{ k := .bool }], keep := [false], rs := [{ k := (.st 127) }] }
noncomputable def impl_truth.A : Ann := { dp := fun d => isIn [] d, lp := look [], jn := look [], pins := [], nt := 6 }
noncomputable def impl_truth.phis (N : Nat) : List (Nat × Sm D) := [(149, impl_number.sm N)]
theorem impl_truth.run (N : Nat) (x : Bool × Unit) : runF cx (look (impl_truth.phis N)) impl_truth.A N (bodyOf Tryz.f159) Tryz.f159.results.toList impl_truth.sg x = impl_truth N x.1 := by
  have h : runF cx (look (impl_truth.phis N)) impl_truth.A N (bodyOf Tryz.f159) Tryz.f159.results.toList impl_truth.sg x = impl_truth.B N x.1 := by kernel_rfl
  rw [h]
  try rfl
noncomputable def impl_truth.sm (N : Nat) : Sm D := (⟨impl_truth.sg, fun (x : Bool × Unit) => impl_truth N x.1⟩ : Sm D)
theorem impl_truth.sound (N : Nat) : Sound cx Tryz.prog gam 159 (impl_truth.sm N) := fn_sound (A := impl_truth.A) (Φ := (look (impl_truth.phis N))) pok (G := gam) (ΦOk.cons (impl_number.sound N) (fnOk_of (f := 149) (by kernel_rfl)) ΦOk.nil) mixed N Tryz.func159 (c := (bodyOf Tryz.f159)) (by kernel_rfl) impl_truth.sg (by kernel_rfl) (by kernel_rfl) (by kernel_rfl) (impl_truth.run N)

@[reducible] def impl_ValShow.sg : Sg := { ms := [{ k := (.st 127) }], keep := [false], rs := [{ k := .str }] }
noncomputable def impl_ValShow.A : Ann := { dp := fun d => isIn [] d, lp := look [], jn := look [], pins := [], nt := 19 }
noncomputable def impl_ValShow.phis (N : Nat) : List (Nat × Sm D) := [(101, impl_ValOk.sm N), (165, LibItoa.sm N)]
theorem impl_ValShow.run (N : Nat) (x : ImplValue × Unit) : runF cx (look (impl_ValShow.phis N)) impl_ValShow.A N (bodyOf Tryz.f160) Tryz.f160.results.toList impl_ValShow.sg x = impl_ValShow N x.1 := by
  have h : runF cx (look (impl_ValShow.phis N)) impl_ValShow.A N (bodyOf Tryz.f160) Tryz.f160.results.toList impl_ValShow.sg x = impl_ValShow.B N x.1 := by kernel_rfl
  rw [h]
  try rfl
noncomputable def impl_ValShow.sm (N : Nat) : Sm D := (⟨impl_ValShow.sg, fun (x : ImplValue × Unit) => impl_ValShow N x.1⟩ : Sm D)
theorem impl_ValShow.sound (N : Nat) : Sound cx Tryz.prog gam 160 (impl_ValShow.sm N) := fn_sound (A := impl_ValShow.A) (Φ := (look (impl_ValShow.phis N))) pok (G := gam) (ΦOk.cons (impl_ValOk.sound N) (fnOk_of (f := 101) (by kernel_rfl)) (ΦOk.cons (LibItoa.sound N) (fnOk_of (f := 165) (by kernel_rfl)) ΦOk.nil)) mixed N Tryz.func160 (c := (bodyOf Tryz.f160)) (by kernel_rfl) impl_ValShow.sg (by kernel_rfl) (by kernel_rfl) (by kernel_rfl) (impl_ValShow.run N)

@[reducible] def impl_ValTrue.sg : Sg := { ms := [{ k := (.st 127) }], keep := [false], rs := [{ k := .bool }] }
noncomputable def impl_ValTrue.A : Ann := { dp := fun d => isIn [] d, lp := look [], jn := look [], pins := [], nt := 25 }
noncomputable def impl_ValTrue.phis (N : Nat) : List (Nat × Sm D) := [(101, impl_ValOk.sm N)]
theorem impl_ValTrue.run (N : Nat) (x : ImplValue × Unit) : runF cx (look (impl_ValTrue.phis N)) impl_ValTrue.A N (bodyOf Tryz.f151) Tryz.f151.results.toList impl_ValTrue.sg x = impl_ValTrue N x.1 := by
  have h : runF cx (look (impl_ValTrue.phis N)) impl_ValTrue.A N (bodyOf Tryz.f151) Tryz.f151.results.toList impl_ValTrue.sg x = impl_ValTrue.B N x.1 := by kernel_rfl
  rw [h]
  try rfl
noncomputable def impl_ValTrue.sm (N : Nat) : Sm D := (⟨impl_ValTrue.sg, fun (x : ImplValue × Unit) => impl_ValTrue N x.1⟩ : Sm D)
theorem impl_ValTrue.sound (N : Nat) : Sound cx Tryz.prog gam 151 (impl_ValTrue.sm N) := fn_sound (A := impl_ValTrue.A) (Φ := (look (impl_ValTrue.phis N))) pok (G := gam) (ΦOk.cons (impl_ValOk.sound N) (fnOk_of (f := 101) (by kernel_rfl)) ΦOk.nil) mixed N Tryz.func151 (c := (bodyOf Tryz.f151)) (by kernel_rfl) impl_ValTrue.sg (by kernel_rfl) (by kernel_rfl) (by kernel_rfl) (impl_ValTrue.run N)

@[reducible] def impl_ValDo.sg : Sg := { ms := [{ k := (.int .i64) }, { k := (.st 127) }, { k := (.st 127) }], keep := [false, false, false], rs := [{ k := (.st 127) }] }
@[reducible] def impl_ValDo.lvJ19 : Lv := { id := 19, slots := [6, 7], ms := [{ ptr := true, id := 600, t := 128, k := (.st 127), fl := [none, none, none] }, { k := (.int .i64) }] }
noncomputable def impl_ValDo.A : Ann := { dp := fun d => isIn [] d, lp := look [], jn := look [(19, impl_ValDo.lvJ19)], pins := [], nt := 93 }
noncomputable def impl_ValDo.phis (N : Nat) : List (Nat × Sm D) := [(101, impl_ValOk.sm N), (159, impl_truth.sm N), (47, impl_within.sm N), (149, impl_number.sm N), (160, impl_ValShow.sm N), (151, impl_ValTrue.sm N)]
theorem impl_ValDo.run (N : Nat) (x : Int × ImplValue × ImplValue × Unit) : runF cx (look (impl_ValDo.phis N)) impl_ValDo.A N (bodyOf Tryz.f150) Tryz.f150.results.toList impl_ValDo.sg x = impl_ValDo N x.1 x.2.1 x.2.2.1 := by
  have h : runF cx (look (impl_ValDo.phis N)) impl_ValDo.A N (bodyOf Tryz.f150) Tryz.f150.results.toList impl_ValDo.sg x = impl_ValDo.B N x.1 x.2.1 x.2.2.1 := by kernel_rfl
  rw [h]
  try rfl
noncomputable def impl_ValDo.sm (N : Nat) : Sm D := (⟨impl_ValDo.sg, fun (x : Int × ImplValue × ImplValue × Unit) => impl_ValDo N x.1 x.2.1 x.2.2.1⟩ : Sm D)
theorem impl_ValDo.sound (N : Nat) : Sound cx Tryz.prog gam 150 (impl_ValDo.sm N) := fn_sound (A := impl_ValDo.A) (Φ := (look (impl_ValDo.phis N))) pok (G := gam) (ΦOk.cons (impl_ValOk.sound N) (fnOk_of (f := 101) (by kernel_rfl)) (ΦOk.cons (impl_truth.sound N) (fnOk_of (f := 159) (by kernel_rfl)) (ΦOk.cons (impl_within.sound N) (fnOk_of (f := 47) (by kernel_rfl)) (ΦOk.cons (impl_number.sound N) (fnOk_of (f := 149) (by kernel_rfl)) (ΦOk.cons (impl_ValShow.sound N) (fnOk_of (f := 160) (by kernel_rfl)) (ΦOk.cons (impl_ValTrue.sound N) (fnOk_of (f := 151) (by kernel_rfl)) ΦOk.nil)))))) mixed N Tryz.func150 (c := (bodyOf Tryz.f150)) (by kernel_rfl) impl_ValDo.sg (by kernel_rfl) (by kernel_rfl) (by kernel_rfl) (impl_ValDo.run N)

@[reducible] def impl_formRun.sg : Sg := { ms := [{ k := (.sl (.st 141)), fl := [none] }, { k := (.st 150) }], keep := [false, false], rs := [{ k := (.st 127) }] }
@[reducible] def impl_formRun.lvJ23 : Lv := { id := 23, slots := [3, 4, 5, 8, 9, 11, 12, 13], ms := [{ ptr := true, id := 600, t := 151, k := (.st 150), fl := [none, none, none, none] }, { ptr := true, id := 620, t := 128, k := (.st 127), fl := [none, none, none] }, { k := (.sl (.st 127)), fl := [some (false, 640)] }, { k := (.int .i64) }, { ptr := true, id := 680, t := 128, k := (.st 127), fl := [none, none, none] }, { k := (.sl (.st 141)), fl := [none] }, { k := (.int .i64) }, { k := (.int .i64) }] }
@[reducible] def impl_formRun.lvL0 : Lv := { id := 0, slots := [3, 4, 5, 11, 12, 13], ms := [{ ptr := true, id := 600, t := 151, k := (.st 150), fl := [none, none, none, none] }, { ptr := true, id := 620, t := 128, k := (.st 127), fl := [none, none, none] }, { k := (.sl (.st 127)), fl := [some (false, 640)] }, { k := (.sl (.st 141)), fl := [none] }, { k := (.int .i64) }, { k := (.int .i64) }] }
noncomputable def impl_formRun.A : Ann := { dp := fun d => isIn [] d, lp := look [(0, impl_formRun.lvL0)], jn := look [(23, impl_formRun.lvJ23)], pins := [], nt := 128 }
noncomputable def impl_formRun.phis (N : Nat) : List (Nat × Sm D) := [(149, impl_number.sm N), (150, impl_ValDo.sm N), (151, impl_ValTrue.sm N)]
noncomputable def impl_formRun.a0 (N : Nat) (n : Nat) (y : ImplEnv × ImplValue × (List (ImplValue)) × (List (ImplStep)) × Int × Int × Unit) : Option (ImplValue × Unit) := loopAt cx (look (impl_formRun.phis N)) impl_formRun.A N n (encL cx impl_formRun.lvL0.ms y).1 (encL cx impl_formRun.lvL0.ms y).2 (bodyOf Tryz.f127) 0 (Kfin cx impl_formRun.A impl_formRun.sg Tryz.f127.results.toList) [1, 1, 0, 1, 1] []
theorem impl_formRun.r0 (N : Nat) : ∀ (n : Nat) (y : ImplEnv × ImplValue × (List (ImplValue)) × (List (ImplStep)) × Int × Int × Unit), impl_formRun.a0 N n y = impl_formRun.L0 N n y
  | 0, y => by kernel_rfl
  | n + 1, y => by
    have h : impl_formRun.a0 N (n + 1) y = impl_formRun.B0 N (fun z => impl_formRun.a0 N n z) y := by kernel_rfl
    have e : (fun z => impl_formRun.a0 N n z) = impl_formRun.L0 N n := funext fun z => impl_formRun.r0 N n z
    rw [h]
    try rw [e]
    first | done | rfl
theorem impl_formRun.run (N : Nat) (x : (List (ImplStep)) × ImplEnv × Unit) : runF cx (look (impl_formRun.phis N)) impl_formRun.A N (bodyOf Tryz.f127) Tryz.f127.results.toList impl_formRun.sg x = impl_formRun N x.1 x.2.1 := by
  have h : runF cx (look (impl_formRun.phis N)) impl_formRun.A N (bodyOf Tryz.f127) Tryz.f127.results.toList impl_formRun.sg x = impl_formRun.B N (fun z => impl_formRun.a0 N N z) x.1 x.2.1 := by kernel_rfl
  have e0 : (fun z => impl_formRun.a0 N N z) = impl_formRun.L0 N N := funext fun z => impl_formRun.r0 N N z
  rw [h, e0]
  try rfl
noncomputable def impl_formRun.sm (N : Nat) : Sm D := (⟨impl_formRun.sg, fun (x : (List (ImplStep)) × ImplEnv × Unit) => impl_formRun N x.1 x.2.1⟩ : Sm D)
theorem impl_formRun.sound (N : Nat) : Sound cx Tryz.prog gam 127 (impl_formRun.sm N) := fn_sound (A := impl_formRun.A) (Φ := (look (impl_formRun.phis N))) pok (G := gam) (ΦOk.cons (impl_number.sound N) (fnOk_of (f := 149) (by kernel_rfl)) (ΦOk.cons (impl_ValDo.sound N) (fnOk_of (f := 150) (by kernel_rfl)) (ΦOk.cons (impl_ValTrue.sound N) (fnOk_of (f := 151) (by kernel_rfl)) ΦOk.nil))) mixed N Tryz.func127 (c := (bodyOf Tryz.f127)) (by kernel_rfl) impl_formRun.sg (by kernel_rfl) (by kernel_rfl) (by kernel_rfl) (impl_formRun.run N)

@[reducible] def impl_storeDo.sg : Sg := { ms := [{ k := (.sl (.st 80)), fl := [none] }, { k := (.st 100) }], keep := [false, false], rs := [{ k := (.sl (.st 80)), fl := [some (true, 411)] }] }
noncomputable def impl_storeDo.A : Ann := { dp := fun _ => true, lp := look [], jn := look [], pins := [], nt := 35 }
noncomputable def impl_storeDo.phis (N : Nat) : List (Nat × Sm D) := [(93, impl_storeCopy.sm N), (126, impl_updateAt.sm N), (127, impl_formRun.sm N)]
theorem impl_storeDo.run (N : Nat) (x : (List (ImplCell)) × ImplUpdate × Unit) : runF cx (look (impl_storeDo.phis N)) impl_storeDo.A N (bodyOf Tryz.f95) Tryz.f95.results.toList impl_storeDo.sg x = impl_storeDo N x.1 x.2.1 := by
  have h : runF cx (look (impl_storeDo.phis N)) impl_storeDo.A N (bodyOf Tryz.f95) Tryz.f95.results.toList impl_storeDo.sg x = impl_storeDo.B N x.1 x.2.1 := by kernel_rfl
  rw [h]
  try rfl
noncomputable def impl_storeDo.sm (N : Nat) : Sm D := (⟨impl_storeDo.sg, fun (x : (List (ImplCell)) × ImplUpdate × Unit) => impl_storeDo N x.1 x.2.1⟩ : Sm D)
theorem impl_storeDo.sound (N : Nat) : Sound cx Tryz.prog gam 95 (impl_storeDo.sm N) := fn_sound (A := impl_storeDo.A) (Φ := (look (impl_storeDo.phis N))) pok (G := gam) (ΦOk.cons (impl_storeCopy.sound N) (fnOk_of (f := 93) (by kernel_rfl)) (ΦOk.cons (impl_updateAt.sound N) (fnOk_of (f := 126) (by kernel_rfl)) (ΦOk.cons (impl_formRun.sound N) (fnOk_of (f := 127) (by kernel_rfl)) ΦOk.nil))) mixed N Tryz.func95 (c := (bodyOf Tryz.f95)) (by kernel_rfl) impl_storeDo.sg (by kernel_rfl) (by kernel_rfl) (by kernel_rfl) (impl_storeDo.run N)

end
end Go.Ev
