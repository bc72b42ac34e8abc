/- Each function that the law reaches does what its plain form says; no condition beyond the table of the library. -/
import Derived.Test.YtadoojpcjfglgaaGreatDoorEvT3
set_option linter.all false
set_option linter.unusedVariables false
set_option linter.unusedSimpArgs false
set_option maxRecDepth 100000
set_option maxHeartbeats 0
namespace Go.Ev
noncomputable section
open Go.Proofs
@[reducible] def laws_markText.sg : Sg := { ms := [{ k := (.int .i64) }], keep := [false], rs := [{ k := .str }] }
@[reducible] def laws_markText.lvL0 : Lv := { id := 0, slots := [0, 3], ms := [{ k := (.int .i64) }, { k := .str }] }
noncomputable def laws_markText.A : Ann := { dp := fun d => isIn [] d, lp := look [(0, laws_markText.lvL0)], jn := look [], pins := [], nt := 20 }
noncomputable def laws_markText.phis (N : Nat) : List (Nat × Sm D) := []
noncomputable def laws_markText.a0 (N : Nat) (n : Nat) (y : Int × (List UInt8) × Unit) : Option ((List UInt8) × Unit) := loopAt cx (look (laws_markText.phis N)) laws_markText.A N n (encL cx laws_markText.lvL0.ms y).1 (encL cx laws_markText.lvL0.ms y).2 (bodyOf Tryz.f108) 0 (Kfin cx laws_markText.A laws_markText.sg Tryz.f108.results.toList) [1, 1, 1, 0, 1] []
theorem laws_markText.r0 (N : Nat) : ∀ (n : Nat) (y : Int × (List UInt8) × Unit), laws_markText.a0 N n y = laws_markText.L0 N n y
  | 0, y => by kernel_rfl
  | n + 1, y => by
    have h : laws_markText.a0 N (n + 1) y = laws_markText.B0 N (fun z => laws_markText.a0 N n z) y := by kernel_rfl
    have e : (fun z => laws_markText.a0 N n z) = laws_markText.L0 N n := funext fun z => laws_markText.r0 N n z
    rw [h]
    try rw [e]
    first | done | rfl
theorem laws_markText.run (N : Nat) (x : Int × Unit) : runF cx (look (laws_markText.phis N)) laws_markText.A N (bodyOf Tryz.f108) Tryz.f108.results.toList laws_markText.sg x = laws_markText N x.1 := by
  have h : runF cx (look (laws_markText.phis N)) laws_markText.A N (bodyOf Tryz.f108) Tryz.f108.results.toList laws_markText.sg x = laws_markText.B N (fun z => laws_markText.a0 N N z) x.1 := by kernel_rfl
  have e0 : (fun z => laws_markText.a0 N N z) = laws_markText.L0 N N := funext fun z => laws_markText.r0 N N z
  rw [h, e0]
  try rfl
noncomputable def laws_markText.sm (N : Nat) : Sm D := (⟨laws_markText.sg, fun (x : Int × Unit) => laws_markText N x.1⟩ : Sm D)
theorem laws_markText.sound (N : Nat) : Sound cx Tryz.prog gam 108 (laws_markText.sm N) := fn_sound (A := laws_markText.A) (Φ := (look (laws_markText.phis N))) pok (G := gam) ΦOk.nil mixed N Tryz.func108 (c := (bodyOf Tryz.f108)) (by kernel_rfl) laws_markText.sg (by kernel_rfl) (by kernel_rfl) (by kernel_rfl) (laws_markText.run N)

@[reducible] def laws_markValueS.sg : Sg := { ms := [{ k := (.sl (.st 127)), fl := [some (true, 11)] }, { k := (.int .i64) }], keep := [true, false], rs := [{ k := (.int .i64) }] }
@[reducible] def laws_markValueS.lvL0 : Lv := { id := 0, slots := [0, 1, 5], ms := [{ k := (.sl (.st 127)), fl := [some (true, 11)] }, { k := (.int .i64) }, { k := (.int .i64) }] }
noncomputable def laws_markValueS.A : Ann := { dp := fun d => isIn [] d, lp := look [(0, laws_markValueS.lvL0)], jn := look [], pins := [11], nt := 35 }
noncomputable def laws_markValueS.phis (N : Nat) : List (Nat × Sm D) := [(108, laws_markText.sm N)]
noncomputable def laws_markValueS.a0 (N : Nat) (n : Nat) (y : (List (ImplValue)) × Int × Int × Unit) : Option ((List (ImplValue)) × Int × Unit) := loopAt cx (look (laws_markValueS.phis N)) laws_markValueS.A N n (encL cx laws_markValueS.lvL0.ms y).1 (encL cx laws_markValueS.lvL0.ms y).2 (bodyOf Tryz.f63) 0 (Kfin cx laws_markValueS.A laws_markValueS.sg Tryz.f63.results.toList) [1, 0, 1, 1] []
theorem laws_markValueS.r0 (N : Nat) : ∀ (n : Nat) (y : (List (ImplValue)) × Int × Int × Unit), laws_markValueS.a0 N n y = laws_markValueS.L0 N n y
  | 0, y => by kernel_rfl
  | n + 1, y => by
    have h : laws_markValueS.a0 N (n + 1) y = laws_markValueS.B0 N (fun z => laws_markValueS.a0 N n z) y := by kernel_rfl
    have e : (fun z => laws_markValueS.a0 N n z) = laws_markValueS.L0 N n := funext fun z => laws_markValueS.r0 N n z
    rw [h]
    try rw [e]
    first | done | rfl
theorem laws_markValueS.run (N : Nat) (x : (List (ImplValue)) × Int × Unit) : runF cx (look (laws_markValueS.phis N)) laws_markValueS.A N (bodyOf Tryz.f63) Tryz.f63.results.toList laws_markValueS.sg x = laws_markValueS N x.1 x.2.1 := by
  have h : runF cx (look (laws_markValueS.phis N)) laws_markValueS.A N (bodyOf Tryz.f63) Tryz.f63.results.toList laws_markValueS.sg x = laws_markValueS.B N (fun z => laws_markValueS.a0 N N z) x.1 x.2.1 := by kernel_rfl
  have e0 : (fun z => laws_markValueS.a0 N N z) = laws_markValueS.L0 N N := funext fun z => laws_markValueS.r0 N N z
  rw [h, e0]
  try rfl
noncomputable def laws_markValueS.sm (N : Nat) : Sm D := (⟨laws_markValueS.sg, fun (x : (List (ImplValue)) × Int × Unit) => laws_markValueS N x.1 x.2.1⟩ : Sm D)
theorem laws_markValueS.sound (N : Nat) : Sound cx Tryz.prog gam 63 (laws_markValueS.sm N) := fn_sound (A := laws_markValueS.A) (Φ := (look (laws_markValueS.phis N))) pok (G := gam) (ΦOk.cons (laws_markText.sound N) (fnOk_of (f := 108) (by kernel_rfl)) ΦOk.nil) mixed N Tryz.func63 (c := (bodyOf Tryz.f63)) (by kernel_rfl) laws_markValueS.sg (by kernel_rfl) (by kernel_rfl) (by kernel_rfl) (laws_markValueS.run N)

@[reducible] def laws_markCellS.sg : Sg := { ms := [{ k := (.sl (.st 80)), fl := [some (true, 11)] }, { k := (.int .i64) }], keep := [true, false], rs := [{ k := (.int .i64) }] }
@[reducible] def laws_markCellS.lvL0 : Lv := { id := 0, slots := [0, 1, 5], ms := [{ k := (.sl (.st 80)), fl := [some (true, 11)] }, { k := (.int .i64) }, { k := (.int .i64) }] }
noncomputable def laws_markCellS.A : Ann := { dp := fun d => isIn [] d, lp := look [(0, laws_markCellS.lvL0)], jn := look [], pins := [11], nt := 27 }
noncomputable def laws_markCellS.phis (N : Nat) : List (Nat × Sm D) := [(62, laws_markSlotS.sm N), (63, laws_markValueS.sm N)]
noncomputable def laws_markCellS.a0 (N : Nat) (n : Nat) (y : (List (ImplCell)) × Int × Int × Unit) : Option ((List (ImplCell)) × Int × Unit) := loopAt cx (look (laws_markCellS.phis N)) laws_markCellS.A N n (encL cx laws_markCellS.lvL0.ms y).1 (encL cx laws_markCellS.lvL0.ms y).2 (bodyOf Tryz.f24) 0 (Kfin cx laws_markCellS.A laws_markCellS.sg Tryz.f24.results.toList) [1, 0, 1, 1] []
theorem laws_markCellS.r0 (N : Nat) : ∀ (n : Nat) (y : (List (ImplCell)) × Int × Int × Unit), laws_markCellS.a0 N n y = laws_markCellS.L0 N n y
  | 0, y => by kernel_rfl
  | n + 1, y => by
    have h : laws_markCellS.a0 N (n + 1) y = laws_markCellS.B0 N (fun z => laws_markCellS.a0 N n z) y := by kernel_rfl
    have e : (fun z => laws_markCellS.a0 N n z) = laws_markCellS.L0 N n := funext fun z => laws_markCellS.r0 N n z
    rw [h]
    try rw [e]
    first | done | rfl
theorem laws_markCellS.run (N : Nat) (x : (List (ImplCell)) × Int × Unit) : runF cx (look (laws_markCellS.phis N)) laws_markCellS.A N (bodyOf Tryz.f24) Tryz.f24.results.toList laws_markCellS.sg x = laws_markCellS N x.1 x.2.1 := by
  have h : runF cx (look (laws_markCellS.phis N)) laws_markCellS.A N (bodyOf Tryz.f24) Tryz.f24.results.toList laws_markCellS.sg x = laws_markCellS.B N (fun z => laws_markCellS.a0 N N z) x.1 x.2.1 := by kernel_rfl
  have e0 : (fun z => laws_markCellS.a0 N N z) = laws_markCellS.L0 N N := funext fun z => laws_markCellS.r0 N N z
  rw [h, e0]
  try rfl
noncomputable def laws_markCellS.sm (N : Nat) : Sm D := (⟨laws_markCellS.sg, fun (x : (List (ImplCell)) × Int × Unit) => laws_markCellS N x.1 x.2.1⟩ : Sm D)
theorem laws_markCellS.sound (N : Nat) : Sound cx Tryz.prog gam 24 (laws_markCellS.sm N) := fn_sound (A := laws_markCellS.A) (Φ := (look (laws_markCellS.phis N))) pok (G := gam) (ΦOk.cons (laws_markSlotS.sound N) (fnOk_of (f := 62) (by kernel_rfl)) (ΦOk.cons (laws_markValueS.sound N) (fnOk_of (f := 63) (by kernel_rfl)) ΦOk.nil)) mixed N Tryz.func24 (c := (bodyOf Tryz.f24)) (by kernel_rfl) laws_markCellS.sg (by kernel_rfl) (by kernel_rfl) (by kernel_rfl) (laws_markCellS.run N)

@[reducible] def laws_markStepS.sg : Sg := { ms := [{ k := (.sl (.st 141)), fl := [some (true, 11)] }, { k := (.int .i64) }], keep := [true, false], rs := [{ k := (.int .i64) }] }
@[reducible] def laws_markStepS.lvL0 : Lv := { id := 0, slots := [0, 1, 5], ms := [{ k := (.sl (.st 141)), fl := [some (true, 11)] }, { k := (.int .i64) }, { k := (.int .i64) }] }
noncomputable def laws_markStepS.A : Ann := { dp := fun d => isIn [] d, lp := look [(0, laws_markStepS.lvL0)], jn := look [], pins := [11], nt := 52 }
noncomputable def laws_markStepS.phis (N : Nat) : List (Nat × Sm D) := [(108, laws_markText.sm N)]
noncomputable def laws_markStepS.a0 (N : Nat) (n : Nat) (y : (List (ImplStep)) × Int × Int × Unit) : Option ((List (ImplStep)) × Int × Unit) := loopAt cx (look (laws_markStepS.phis N)) laws_markStepS.A N n (encL cx laws_markStepS.lvL0.ms y).1 (encL cx laws_markStepS.lvL0.ms y).2 (bodyOf Tryz.f75) 0 (Kfin cx laws_markStepS.A laws_markStepS.sg Tryz.f75.results.toList) [1, 0, 1, 1] []
theorem laws_markStepS.r0 (N : Nat) : ∀ (n : Nat) (y : (List (ImplStep)) × Int × Int × Unit), laws_markStepS.a0 N n y = laws_markStepS.L0 N n y
  | 0, y => by kernel_rfl
  | n + 1, y => by
    have h : laws_markStepS.a0 N (n + 1) y = laws_markStepS.B0 N (fun z => laws_markStepS.a0 N n z) y := by kernel_rfl
    have e : (fun z => laws_markStepS.a0 N n z) = laws_markStepS.L0 N n := funext fun z => laws_markStepS.r0 N n z
    rw [h]
    try rw [e]
    first | done | rfl
theorem laws_markStepS.run (N : Nat) (x : (List (ImplStep)) × Int × Unit) : runF cx (look (laws_markStepS.phis N)) laws_markStepS.A N (bodyOf Tryz.f75) Tryz.f75.results.toList laws_markStepS.sg x = laws_markStepS N x.1 x.2.1 := by
  have h : runF cx (look (laws_markStepS.phis N)) laws_markStepS.A N (bodyOf Tryz.f75) Tryz.f75.results.toList laws_markStepS.sg x = laws_markStepS.B N (fun z => laws_markStepS.a0 N N z) x.1 x.2.1 := by kernel_rfl
  have e0 : (fun z => laws_markStepS.a0 N N z) = laws_markStepS.L0 N N := funext fun z => laws_markStepS.r0 N N z
  rw [h, e0]
  try rfl
noncomputable def laws_markStepS.sm (N : Nat) : Sm D := (⟨laws_markStepS.sg, fun (x : (List (ImplStep)) × Int × Unit) => laws_markStepS N x.1 x.2.1⟩ : Sm D)
theorem laws_markStepS.sound (N : Nat) : Sound cx Tryz.prog gam 75 (laws_markStepS.sm N) := fn_sound (A := laws_markStepS.A) (Φ := (look (laws_markStepS.phis N))) pok (G := gam) (ΦOk.cons (laws_markText.sound N) (fnOk_of (f := 108) (by kernel_rfl)) ΦOk.nil) mixed N Tryz.func75 (c := (bodyOf Tryz.f75)) (by kernel_rfl) laws_markStepS.sg (by kernel_rfl) (by kernel_rfl) (by kernel_rfl) (laws_markStepS.run N)

@[reducible] def laws_markUpdateS.sg : Sg := { ms := [{ k := (.sl (.st 100)), fl := [some (true, 11)] }, { k := (.int .i64) }], keep := [true, false], rs := [{ k := (.int .i64) }] }
@[reducible] def laws_markUpdateS.lvL0 : Lv := { id := 0, slots := [0, 1, 5], ms := [{ k := (.sl (.st 100)), fl := [some (true, 11)] }, { k := (.int .i64) }, { k := (.int .i64) }] }
noncomputable def laws_markUpdateS.A : Ann := { dp := fun d => isIn [] d, lp := look [(0, laws_markUpdateS.lvL0)], jn := look [], pins := [11], nt := 41 }
noncomputable def laws_markUpdateS.phis (N : Nat) : List (Nat × Sm D) := [(62, laws_markSlotS.sm N), (75, laws_markStepS.sm N)]
noncomputable def laws_markUpdateS.a0 (N : Nat) (n : Nat) (y : (List (ImplUpdate)) × Int × Int × Unit) : Option ((List (ImplUpdate)) × Int × Unit) := loopAt cx (look (laws_markUpdateS.phis N)) laws_markUpdateS.A N n (encL cx laws_markUpdateS.lvL0.ms y).1 (encL cx laws_markUpdateS.lvL0.ms y).2 (bodyOf Tryz.f33) 0 (Kfin cx laws_markUpdateS.A laws_markUpdateS.sg Tryz.f33.results.toList) [1, 0, 1, 1] []
theorem laws_markUpdateS.r0 (N : Nat) : ∀ (n : Nat) (y : (List (ImplUpdate)) × Int × Int × Unit), laws_markUpdateS.a0 N n y = laws_markUpdateS.L0 N n y
  | 0, y => by kernel_rfl
  | n + 1, y => by
    have h : laws_markUpdateS.a0 N (n + 1) y = laws_markUpdateS.B0 N (fun z => laws_markUpdateS.a0 N n z) y := by kernel_rfl
    have e : (fun z => laws_markUpdateS.a0 N n z) = laws_markUpdateS.L0 N n := funext fun z => laws_markUpdateS.r0 N n z
    rw [h]
    try rw [e]
    first | done | rfl
theorem laws_markUpdateS.run (N : Nat) (x : (List (ImplUpdate)) × Int × Unit) : runF cx (look (laws_markUpdateS.phis N)) laws_markUpdateS.A N (bodyOf Tryz.f33) Tryz.f33.results.toList laws_markUpdateS.sg x = laws_markUpdateS N x.1 x.2.1 := by
  have h : runF cx (look (laws_markUpdateS.phis N)) laws_markUpdateS.A N (bodyOf Tryz.f33) Tryz.f33.results.toList laws_markUpdateS.sg x = laws_markUpdateS.B N (fun z => laws_markUpdateS.a0 N N z) x.1 x.2.1 := by kernel_rfl
  have e0 : (fun z => laws_markUpdateS.a0 N N z) = laws_markUpdateS.L0 N N := funext fun z => laws_markUpdateS.r0 N N z
  rw [h, e0]
  try rfl
noncomputable def laws_markUpdateS.sm (N : Nat) : Sm D := (⟨laws_markUpdateS.sg, fun (x : (List (ImplUpdate)) × Int × Unit) => laws_markUpdateS N x.1 x.2.1⟩ : Sm D)
theorem laws_markUpdateS.sound (N : Nat) : Sound cx Tryz.prog gam 33 (laws_markUpdateS.sm N) := fn_sound (A := laws_markUpdateS.A) (Φ := (look (laws_markUpdateS.phis N))) pok (G := gam) (ΦOk.cons (laws_markSlotS.sound N) (fnOk_of (f := 62) (by kernel_rfl)) (ΦOk.cons (laws_markStepS.sound N) (fnOk_of (f := 75) (by kernel_rfl)) ΦOk.nil)) mixed N Tryz.func33 (c := (bodyOf Tryz.f33)) (by kernel_rfl) laws_markUpdateS.sg (by kernel_rfl) (by kernel_rfl) (by kernel_rfl) (laws_markUpdateS.run N)

@[reducible] def laws_markLine.sg : Sg := { ms := [{ k := (.st 25), fl := [some (true, 11), some (true, 12)] }, { k := (.int .i64) }], keep := [true, false], rs := [{ k := (.int .i64) }] }
noncomputable def laws_markLine.A : Ann := { dp := fun d => isIn [] d, lp := look [], jn := look [], pins := [11, 12], nt := 14 }
noncomputable def laws_markLine.phis (N : Nat) : List (Nat × Sm D) := [(24, laws_markCellS.sm N), (33, laws_markUpdateS.sm N)]
theorem laws_markLine.run (N : Nat) (x : ImplLine × Int × Unit) : runF cx (look (laws_markLine.phis N)) laws_markLine.A N (bodyOf Tryz.f23) Tryz.f23.results.toList laws_markLine.sg x = laws_markLine N x.1 x.2.1 := by
  have h : runF cx (look (laws_markLine.phis N)) laws_markLine.A N (bodyOf Tryz.f23) Tryz.f23.results.toList laws_markLine.sg x = laws_markLine.B N x.1 x.2.1 := by kernel_rfl
  rw [h]
  try rfl
noncomputable def laws_markLine.sm (N : Nat) : Sm D := (⟨laws_markLine.sg, fun (x : ImplLine × Int × Unit) => laws_markLine N x.1 x.2.1⟩ : Sm D)
theorem laws_markLine.sound (N : Nat) : Sound cx Tryz.prog gam 23 (laws_markLine.sm N) := fn_sound (A := laws_markLine.A) (Φ := (look (laws_markLine.phis N))) pok (G := gam) (ΦOk.cons (laws_markCellS.sound N) (fnOk_of (f := 24) (by kernel_rfl)) (ΦOk.cons (laws_markUpdateS.sound N) (fnOk_of (f := 33) (by kernel_rfl)) ΦOk.nil)) mixed N Tryz.func23 (c := (bodyOf Tryz.f23)) (by kernel_rfl) laws_markLine.sg (by kernel_rfl) (by kernel_rfl) (by kernel_rfl) (laws_markLine.run N)

@[reducible] def laws_heldSlotS.sg : Sg := { ms := [{ k := (.sl (.st 125)), fl := [none] }, { k := (.int .i64) }], keep := [false, false], rs := [{ k := (.int .i64) }] }
@[reducible] def laws_heldSlotS.lvL0 : Lv := { id := 0, slots := [0, 1, 5], ms := [{ k := (.sl (.st 125)), fl := [none] }, { k := (.int .i64) }, { k := (.int .i64) }] }
noncomputable def laws_heldSlotS.A : Ann := { dp := fun d => isIn [] d, lp := look [(0, laws_heldSlotS.lvL0)], jn := look [], pins := [], nt := 31 }
noncomputable def laws_heldSlotS.phis (N : Nat) : List (Nat × Sm D) := []
noncomputable def laws_heldSlotS.a0 (N : Nat) (n : Nat) (y : (List (ImplSlot)) × Int × Int × Unit) : Option (Int × Unit) := loopAt cx (look (laws_heldSlotS.phis N)) laws_heldSlotS.A N n (encL cx laws_heldSlotS.lvL0.ms y).1 (encL cx laws_heldSlotS.lvL0.ms y).2 (bodyOf Tryz.f64) 0 (Kfin cx laws_heldSlotS.A laws_heldSlotS.sg Tryz.f64.results.toList) [1, 0, 1, 1] []
theorem laws_heldSlotS.r0 (N : Nat) : ∀ (n : Nat) (y : (List (ImplSlot)) × Int × Int × Unit), laws_heldSlotS.a0 N n y = laws_heldSlotS.L0 N n y
  | 0, y => by kernel_rfl
  | n + 1, y => by
    have h : laws_heldSlotS.a0 N (n + 1) y = laws_heldSlotS.B0 N (fun z => laws_heldSlotS.a0 N n z) y := by kernel_rfl
    have e : (fun z => laws_heldSlotS.a0 N n z) = laws_heldSlotS.L0 N n := funext fun z => laws_heldSlotS.r0 N n z
    rw [h]
    try rw [e]
    first | done | rfl
theorem laws_heldSlotS.run (N : Nat) (x : (List (ImplSlot)) × Int × Unit) : runF cx (look (laws_heldSlotS.phis N)) laws_heldSlotS.A N (bodyOf Tryz.f64) Tryz.f64.results.toList laws_heldSlotS.sg x = laws_heldSlotS N x.1 x.2.1 := by
  have h : runF cx (look (laws_heldSlotS.phis N)) laws_heldSlotS.A N (bodyOf Tryz.f64) Tryz.f64.results.toList laws_heldSlotS.sg x = laws_heldSlotS.B N (fun z => laws_heldSlotS.a0 N N z) x.1 x.2.1 := by kernel_rfl
  have e0 : (fun z => laws_heldSlotS.a0 N N z) = laws_heldSlotS.L0 N N := funext fun z => laws_heldSlotS.r0 N N z
  rw [h, e0]
  try rfl
noncomputable def laws_heldSlotS.sm (N : Nat) : Sm D := (⟨laws_heldSlotS.sg, fun (x : (List (ImplSlot)) × Int × Unit) => laws_heldSlotS N x.1 x.2.1⟩ : Sm D)
theorem laws_heldSlotS.sound (N : Nat) : Sound cx Tryz.prog gam 64 (laws_heldSlotS.sm N) := fn_sound (A := laws_heldSlotS.A) (Φ := (look (laws_heldSlotS.phis N))) pok (G := gam) ΦOk.nil mixed N Tryz.func64 (c := (bodyOf Tryz.f64)) (by kernel_rfl) laws_heldSlotS.sg (by kernel_rfl) (by kernel_rfl) (by kernel_rfl) (laws_heldSlotS.run N)

@[reducible] def laws_heldValueS.sg : Sg := { ms := [{ k := (.sl (.st 127)), fl := [none] }, { k := (.int .i64) }], keep := [false, false], rs := [{ k := (.int .i64) }] }
@[reducible] def laws_heldValueS.lvL0 : Lv := { id := 0, slots := [0, 1, 5], ms := [{ k := (.sl (.st 127)), fl := [none] }, { k := (.int .i64) }, { k := (.int .i64) }] }
noncomputable def laws_heldValueS.A : Ann := { dp := fun d => isIn [] d, lp := look [(0, laws_heldValueS.lvL0)], jn := look [], pins := [], nt := 41 }
noncomputable def laws_heldValueS.phis (N : Nat) : List (Nat × Sm D) := [(108, laws_markText.sm N)]
noncomputable def laws_heldValueS.a0 (N : Nat) (n : Nat) (y : (List (ImplValue)) × Int × Int × Unit) : Option (Int × Unit) := loopAt cx (look (laws_heldValueS.phis N)) laws_heldValueS.A N n (encL cx laws_heldValueS.lvL0.ms y).1 (encL cx laws_heldValueS.lvL0.ms y).2 (bodyOf Tryz.f65) 0 (Kfin cx laws_heldValueS.A laws_heldValueS.sg Tryz.f65.results.toList) [1, 0, 1, 1] []
theorem laws_heldValueS.r0 (N : Nat) : ∀ (n : Nat) (y : (List (ImplValue)) × Int × Int × Unit), laws_heldValueS.a0 N n y = laws_heldValueS.L0 N n y
  | 0, y => by kernel_rfl
  | n + 1, y => by
    have h : laws_heldValueS.a0 N (n + 1) y = laws_heldValueS.B0 N (fun z => laws_heldValueS.a0 N n z) y := by kernel_rfl
    have e : (fun z => laws_heldValueS.a0 N n z) = laws_heldValueS.L0 N n := funext fun z => laws_heldValueS.r0 N n z
    rw [h]
    try rw [e]
    first | done | rfl
theorem laws_heldValueS.run (N : Nat) (x : (List (ImplValue)) × Int × Unit) : runF cx (look (laws_heldValueS.phis N)) laws_heldValueS.A N (bodyOf Tryz.f65) Tryz.f65.results.toList laws_heldValueS.sg x = laws_heldValueS N x.1 x.2.1 := by
  have h : runF cx (look (laws_heldValueS.phis N)) laws_heldValueS.A N (bodyOf Tryz.f65) Tryz.f65.results.toList laws_heldValueS.sg x = laws_heldValueS.B N (fun z => laws_heldValueS.a0 N N z) x.1 x.2.1 := by kernel_rfl
  have e0 : (fun z => laws_heldValueS.a0 N N z) = laws_heldValueS.L0 N N := funext fun z => laws_heldValueS.r0 N N z
  rw [h, e0]
  try rfl
noncomputable def laws_heldValueS.sm (N : Nat) : Sm D := (⟨laws_heldValueS.sg, fun (x : (List (ImplValue)) × Int × Unit) => laws_heldValueS N x.1 x.2.1⟩ : Sm D)
theorem laws_heldValueS.sound (N : Nat) : Sound cx Tryz.prog gam 65 (laws_heldValueS.sm N) := fn_sound (A := laws_heldValueS.A) (Φ := (look (laws_heldValueS.phis N))) pok (G := gam) (ΦOk.cons (laws_markText.sound N) (fnOk_of (f := 108) (by kernel_rfl)) ΦOk.nil) mixed N Tryz.func65 (c := (bodyOf Tryz.f65)) (by kernel_rfl) laws_heldValueS.sg (by kernel_rfl) (by kernel_rfl) (by kernel_rfl) (laws_heldValueS.run N)

@[reducible] def laws_heldCellS.sg : Sg := { ms := [{ k := (.sl (.st 80)), fl := [none] }, { k := (.int .i64) }], keep := [false, false], rs := [{ k := (.int .i64) }] }
@[reducible] def laws_heldCellS.lvL0 : Lv := { id := 0, slots := [0, 1, 5], ms := [{ k := (.sl (.st 80)), fl := [none] }, { k := (.int .i64) }, { k := (.int .i64) }] }
noncomputable def laws_heldCellS.A : Ann := { dp := fun d => isIn [] d, lp := look [(0, laws_heldCellS.lvL0)], jn := look [], pins := [], nt := 31 }
noncomputable def laws_heldCellS.phis (N : Nat) : List (Nat × Sm D) := [(64, laws_heldSlotS.sm N), (65, laws_heldValueS.sm N)]
noncomputable def laws_heldCellS.a0 (N : Nat) (n : Nat) (y : (List (ImplCell)) × Int × Int × Unit) : Option (Int × Unit) := loopAt cx (look (laws_heldCellS.phis N)) laws_heldCellS.A N n (encL cx laws_heldCellS.lvL0.ms y).1 (encL cx laws_heldCellS.lvL0.ms y).2 (bodyOf Tryz.f25) 0 (Kfin cx laws_heldCellS.A laws_heldCellS.sg Tryz.f25.results.toList) [1, 0, 1, 1] []
theorem laws_heldCellS.r0 (N : Nat) : ∀ (n : Nat) (y : (List (ImplCell)) × Int × Int × Unit), laws_heldCellS.a0 N n y = laws_heldCellS.L0 N n y
  | 0, y => by kernel_rfl
  | n + 1, y => by
    have h : laws_heldCellS.a0 N (n + 1) y = laws_heldCellS.B0 N (fun z => laws_heldCellS.a0 N n z) y := by kernel_rfl
    have e : (fun z => laws_heldCellS.a0 N n z) = laws_heldCellS.L0 N n := funext fun z => laws_heldCellS.r0 N n z
    rw [h]
    try rw [e]
    first | done | rfl
theorem laws_heldCellS.run (N : Nat) (x : (List (ImplCell)) × Int × Unit) : runF cx (look (laws_heldCellS.phis N)) laws_heldCellS.A N (bodyOf Tryz.f25) Tryz.f25.results.toList laws_heldCellS.sg x = laws_heldCellS N x.1 x.2.1 := by
  have h : runF cx (look (laws_heldCellS.phis N)) laws_heldCellS.A N (bodyOf Tryz.f25) Tryz.f25.results.toList laws_heldCellS.sg x = laws_heldCellS.B N (fun z => laws_heldCellS.a0 N N z) x.1 x.2.1 := by kernel_rfl
  have e0 : (fun z => laws_heldCellS.a0 N N z) = laws_heldCellS.L0 N N := funext fun z => laws_heldCellS.r0 N N z
  rw [h, e0]
  try rfl
noncomputable def laws_heldCellS.sm (N : Nat) : Sm D := (⟨laws_heldCellS.sg, fun (x : (List (ImplCell)) × Int × Unit) => laws_heldCellS N x.1 x.2.1⟩ : Sm D)
theorem laws_heldCellS.sound (N : Nat) : Sound cx Tryz.prog gam 25 (laws_heldCellS.sm N) := fn_sound (A := laws_heldCellS.A) (Φ := (look (laws_heldCellS.phis N))) pok (G := gam) (ΦOk.cons (laws_heldSlotS.sound N) (fnOk_of (f := 64) (by kernel_rfl)) (ΦOk.cons (laws_heldValueS.sound N) (fnOk_of (f := 65) (by kernel_rfl)) ΦOk.nil)) mixed N Tryz.func25 (c := (bodyOf Tryz.f25)) (by kernel_rfl) laws_heldCellS.sg (by kernel_rfl) (by kernel_rfl) (by kernel_rfl) (laws_heldCellS.run N)

@[reducible] def laws_FnExactLineShow.sg : Sg := { ms := [{ k := (.st 38) }, { k := (.int .i64) }], keep := [false, false], rs := [{ k := .bool }] }
noncomputable def laws_FnExactLineShow.A : Ann := { dp := fun d => isIn [] d, lp := look [], jn := look [], pins := [], nt := 74 }
noncomputable def laws_FnExactLineShow.phis (N : Nat) : List (Nat × Sm D) := [(19, laws_szLine.sm N), (20, laws_toLine.sm N), (11, spec_LineShow.sm N), (10, impl_LineShow.sm N), (21, laws_eqCellS.sm N), (22, laws_eqLine.sm N), (23, laws_markLine.sm N), (24, laws_markCellS.sm N), (25, laws_heldCellS.sm N)]
theorem laws_FnExactLineShow.run (N : Nat) (x : LawsLine × Int × Unit) : runF cx (look (laws_FnExactLineShow.phis N)) laws_FnExactLineShow.A N (bodyOf Tryz.f5) Tryz.f5.results.toList laws_FnExactLineShow.sg x = laws_FnExactLineShow N x.1 x.2.1 := by
  have h : runF cx (look (laws_FnExactLineShow.phis N)) laws_FnExactLineShow.A N (bodyOf Tryz.f5) Tryz.f5.results.toList laws_FnExactLineShow.sg x = laws_FnExactLineShow.B N x.1 x.2.1 := by kernel_rfl
  rw [h]
  try rfl
noncomputable def laws_FnExactLineShow.sm (N : Nat) : Sm D := (⟨laws_FnExactLineShow.sg, fun (x : LawsLine × Int × Unit) => laws_FnExactLineShow N x.1 x.2.1⟩ : Sm D)
theorem laws_FnExactLineShow.sound (N : Nat) : Sound cx Tryz.prog gam 5 (laws_FnExactLineShow.sm N) := fn_sound (A := laws_FnExactLineShow.A) (Φ := (look (laws_FnExactLineShow.phis N))) pok (G := gam) (ΦOk.cons (laws_szLine.sound N) (fnOk_of (f := 19) (by kernel_rfl)) (ΦOk.cons (laws_toLine.sound N) (fnOk_of (f := 20) (by kernel_rfl)) (ΦOk.cons (spec_LineShow.sound N) (fnOk_of (f := 11) (by kernel_rfl)) (ΦOk.cons (impl_LineShow.sound N) (fnOk_of (f := 10) (by kernel_rfl)) (ΦOk.cons (laws_eqCellS.sound N) (fnOk_of (f := 21) (by kernel_rfl)) (ΦOk.cons (laws_eqLine.sound N) (fnOk_of (f := 22) (by kernel_rfl)) (ΦOk.cons (laws_markLine.sound N) (fnOk_of (f := 23) (by kernel_rfl)) (ΦOk.cons (laws_markCellS.sound N) (fnOk_of (f := 24) (by kernel_rfl)) (ΦOk.cons (laws_heldCellS.sound N) (fnOk_of (f := 25) (by kernel_rfl)) ΦOk.nil))))))))) mixed N Tryz.func5 (c := (bodyOf Tryz.f5)) (by kernel_rfl) laws_FnExactLineShow.sg (by kernel_rfl) (by kernel_rfl) (by kernel_rfl) (laws_FnExactLineShow.run N)

end
end Go.Ev
