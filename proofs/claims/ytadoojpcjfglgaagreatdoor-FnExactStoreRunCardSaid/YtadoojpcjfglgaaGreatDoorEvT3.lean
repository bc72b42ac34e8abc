/- Each function that the law reaches does what its plain form says; no condition beyond the table of the library. -/
import Derived.Test.YtadoojpcjfglgaaGreatDoorEvT2
set_option linter.all false
set_option linter.unusedVariables false
set_option linter.unusedSimpArgs false
set_option maxRecDepth 100000
set_option maxHeartbeats 0
namespace Go.Ev
noncomputable section
open Go.Proofs
@[reducible] def laws_toUpdateS.sg : Sg := { ms := [{ k := (.sl (.st 96)), fl := [none] }], keep := [false], rs := [{ k := (.sl (.st 100)), fl := [some (true, 411)] }] }
@[reducible] def laws_toUpdateS.lvL0 : Lv := { id := 0, slots := [0, 3, 4], ms := [{ k := (.sl (.st 96)), fl := [none] }, { k := (.sl (.st 100)), fl := [some (true, 620)] }, { k := (.int .i64) }] }
noncomputable def laws_toUpdateS.A : Ann := { dp := fun _ => true, lp := look [(0, laws_toUpdateS.lvL0)], jn := look [], pins := [], nt := 23 }
noncomputable def laws_toUpdateS.phis (N : Nat) : List (Nat × Sm D) := [(72, laws_toUpdate.sm N)]
noncomputable def laws_toUpdateS.a0 (N : Nat) (n : Nat) (y : (List (LawsUpdate)) × (List (ImplUpdate)) × Int × Unit) : Option ((List (ImplUpdate)) × Unit) := loopAt cx (look (laws_toUpdateS.phis N)) laws_toUpdateS.A N n (encL cx laws_toUpdateS.lvL0.ms y).1 (encL cx laws_toUpdateS.lvL0.ms y).2 (bodyOf Tryz.f30) 0 (Kfin cx laws_toUpdateS.A laws_toUpdateS.sg Tryz.f30.results.toList) [1, 1, 0, 1, 1] []
theorem laws_toUpdateS.r0 (N : Nat) : ∀ (n : Nat) (y : (List (LawsUpdate)) × (List (ImplUpdate)) × Int × Unit), laws_toUpdateS.a0 N n y = laws_toUpdateS.L0 N n y
  | 0, y => by kernel_rfl
  | n + 1, y => by
    have h : laws_toUpdateS.a0 N (n + 1) y = laws_toUpdateS.B0 N (fun z => laws_toUpdateS.a0 N n z) y := by kernel_rfl
    have e : (fun z => laws_toUpdateS.a0 N n z) = laws_toUpdateS.L0 N n := funext fun z => laws_toUpdateS.r0 N n z
    rw [h]
    try rw [e]
    first | done | rfl
theorem laws_toUpdateS.run (N : Nat) (x : (List (LawsUpdate)) × Unit) : runF cx (look (laws_toUpdateS.phis N)) laws_toUpdateS.A N (bodyOf Tryz.f30) Tryz.f30.results.toList laws_toUpdateS.sg x = laws_toUpdateS N x.1 := by
  have h : runF cx (look (laws_toUpdateS.phis N)) laws_toUpdateS.A N (bodyOf Tryz.f30) Tryz.f30.results.toList laws_toUpdateS.sg x = laws_toUpdateS.B N (fun z => laws_toUpdateS.a0 N N z) x.1 := by kernel_rfl
  have e0 : (fun z => laws_toUpdateS.a0 N N z) = laws_toUpdateS.L0 N N := funext fun z => laws_toUpdateS.r0 N N z
  rw [h, e0]
  try rfl
noncomputable def laws_toUpdateS.sm (N : Nat) : Sm D := (⟨laws_toUpdateS.sg, fun (x : (List (LawsUpdate)) × Unit) => laws_toUpdateS N x.1⟩ : Sm D)
theorem laws_toUpdateS.sound (N : Nat) : Sound cx Tryz.prog gam 30 (laws_toUpdateS.sm N) := fn_sound (A := laws_toUpdateS.A) (Φ := (look (laws_toUpdateS.phis N))) pok (G := gam) (ΦOk.cons (laws_toUpdate.sound N) (fnOk_of (f := 72) (by kernel_rfl)) ΦOk.nil) mixed N Tryz.func30 (c := (bodyOf Tryz.f30)) (by kernel_rfl) laws_toUpdateS.sg (by kernel_rfl) (by kernel_rfl) (by kernel_rfl) (laws_toUpdateS.run N)

@[reducible] def laws_eqSlot.sg : Sg := { ms := [{ k := (.st 125) }, { k := (.st 125) }], keep := [false, false], rs := [{ k := .bool }] }
noncomputable def laws_eqSlot.A : Ann := { dp := fun d => isIn [] d, lp := look [], jn := look [], pins := [], nt := 15 }
noncomputable def laws_eqSlot.phis (N : Nat) : List (Nat × Sm D) := []
theorem laws_eqSlot.run (N : Nat) (x : ImplSlot × ImplSlot × Unit) : runF cx (look (laws_eqSlot.phis N)) laws_eqSlot.A N (bodyOf Tryz.f134) Tryz.f134.results.toList laws_eqSlot.sg x = laws_eqSlot N x.1 x.2.1 := by
  have h : runF cx (look (laws_eqSlot.phis N)) laws_eqSlot.A N (bodyOf Tryz.f134) Tryz.f134.results.toList laws_eqSlot.sg x = laws_eqSlot.B N x.1 x.2.1 := by kernel_rfl
  rw [h]
  try rfl
noncomputable def laws_eqSlot.sm (N : Nat) : Sm D := (⟨laws_eqSlot.sg, fun (x : ImplSlot × ImplSlot × Unit) => laws_eqSlot N x.1 x.2.1⟩ : Sm D)
theorem laws_eqSlot.sound (N : Nat) : Sound cx Tryz.prog gam 134 (laws_eqSlot.sm N) := fn_sound (A := laws_eqSlot.A) (Φ := (look (laws_eqSlot.phis N))) pok (G := gam) ΦOk.nil mixed N Tryz.func134 (c := (bodyOf Tryz.f134)) (by kernel_rfl) laws_eqSlot.sg (by kernel_rfl) (by kernel_rfl) (by kernel_rfl) (laws_eqSlot.run N)

@[reducible] def laws_eqSlotS.sg : Sg := { ms := [{ k := (.sl (.st 125)), fl := [none] }, { k := (.sl (.st 125)), fl := [none] }], keep := [false, false], rs := [{ k := .bool }] }
@[reducible] def laws_eqSlotS.lvL0 : Lv := { id := 0, slots := [0, 1, 5], ms := [{ k := (.sl (.st 125)), fl := [none] }, { k := (.sl (.st 125)), fl := [none] }, { k := (.int .i64) }] }
noncomputable def laws_eqSlotS.A : Ann := { dp := fun d => isIn [] d, lp := look [(0, laws_eqSlotS.lvL0)], jn := look [], pins := [], nt := 27 }
noncomputable def laws_eqSlotS.phis (N : Nat) : List (Nat × Sm D) := [(134, laws_eqSlot.sm N)]
noncomputable def laws_eqSlotS.a0 (N : Nat) (n : Nat) (y : (List (ImplSlot)) × (List (ImplSlot)) × Int × Unit) : Option (Bool × Unit) := loopAt cx (look (laws_eqSlotS.phis N)) laws_eqSlotS.A N n (encL cx laws_eqSlotS.lvL0.ms y).1 (encL cx laws_eqSlotS.lvL0.ms y).2 (bodyOf Tryz.f106) 0 (Kfin cx laws_eqSlotS.A laws_eqSlotS.sg Tryz.f106.results.toList) [1, 1, 0, 1, 1] []
theorem laws_eqSlotS.r0 (N : Nat) : ∀ (n : Nat) (y : (List (ImplSlot)) × (List (ImplSlot)) × Int × Unit), laws_eqSlotS.a0 N n y = laws_eqSlotS.L0 N n y
  | 0, y => by kernel_rfl
  | n + 1, y => by
    have h : laws_eqSlotS.a0 N (n + 1) y = laws_eqSlotS.B0 N (fun z => laws_eqSlotS.a0 N n z) y := by kernel_rfl
    have e : (fun z => laws_eqSlotS.a0 N n z) = laws_eqSlotS.L0 N n := funext fun z => laws_eqSlotS.r0 N n z
    rw [h]
    try rw [e]
    first | done | rfl
theorem laws_eqSlotS.run (N : Nat) (x : (List (ImplSlot)) × (List (ImplSlot)) × Unit) : runF cx (look (laws_eqSlotS.phis N)) laws_eqSlotS.A N (bodyOf Tryz.f106) Tryz.f106.results.toList laws_eqSlotS.sg x = laws_eqSlotS N x.1 x.2.1 := by
  have h : runF cx (look (laws_eqSlotS.phis N)) laws_eqSlotS.A N (bodyOf Tryz.f106) Tryz.f106.results.toList laws_eqSlotS.sg x = laws_eqSlotS.B N (fun z => laws_eqSlotS.a0 N N z) x.1 x.2.1 := by kernel_rfl
  have e0 : (fun z => laws_eqSlotS.a0 N N z) = laws_eqSlotS.L0 N N := funext fun z => laws_eqSlotS.r0 N N z
  rw [h, e0]
  try rfl
noncomputable def laws_eqSlotS.sm (N : Nat) : Sm D := (⟨laws_eqSlotS.sg, fun (x : (List (ImplSlot)) × (List (ImplSlot)) × Unit) => laws_eqSlotS N x.1 x.2.1⟩ : Sm D)
theorem laws_eqSlotS.sound (N : Nat) : Sound cx Tryz.prog gam 106 (laws_eqSlotS.sm N) := fn_sound (A := laws_eqSlotS.A) (Φ := (look (laws_eqSlotS.phis N))) pok (G := gam) (ΦOk.cons (laws_eqSlot.sound N) (fnOk_of (f := 134) (by kernel_rfl)) ΦOk.nil) mixed N Tryz.func106 (c := (bodyOf Tryz.f106)) (by kernel_rfl) laws_eqSlotS.sg (by kernel_rfl) (by kernel_rfl) (by kernel_rfl) (laws_eqSlotS.run N)

@[reducible] def laws_eqValue.sg : Sg := { ms := [{ k := (.st 127) }, { k := (.st 127) }], keep := [false, false], rs := [{ k := .bool }] }
noncomputable def laws_eqValue.A : Ann := { dp := fun d => isIn [] d, lp := look [], jn := look [], pins := [], nt := 20 }
noncomputable def laws_eqValue.phis (N : Nat) : List (Nat × Sm D) := []
theorem laws_eqValue.run (N : Nat) (x : ImplValue × ImplValue × Unit) : runF cx (look (laws_eqValue.phis N)) laws_eqValue.A N (bodyOf Tryz.f135) Tryz.f135.results.toList laws_eqValue.sg x = laws_eqValue N x.1 x.2.1 := by
  have h : runF cx (look (laws_eqValue.phis N)) laws_eqValue.A N (bodyOf Tryz.f135) Tryz.f135.results.toList laws_eqValue.sg x = laws_eqValue.B N x.1 x.2.1 := by kernel_rfl
  rw [h]
  try rfl
noncomputable def laws_eqValue.sm (N : Nat) : Sm D := (⟨laws_eqValue.sg, fun (x : ImplValue × ImplValue × Unit) => laws_eqValue N x.1 x.2.1⟩ : Sm D)
theorem laws_eqValue.sound (N : Nat) : Sound cx Tryz.prog gam 135 (laws_eqValue.sm N) := fn_sound (A := laws_eqValue.A) (Φ := (look (laws_eqValue.phis N))) pok (G := gam) ΦOk.nil mixed N Tryz.func135 (c := (bodyOf Tryz.f135)) (by kernel_rfl) laws_eqValue.sg (by kernel_rfl) (by kernel_rfl) (by kernel_rfl) (laws_eqValue.run N)

@[reducible] def laws_eqValueS.sg : Sg := { ms := [{ k := (.sl (.st 127)), fl := [none] }, { k := (.sl (.st 127)), fl := [none] }], keep := [false, false], rs := [{ k := .bool }] }
@[reducible] def laws_eqValueS.lvL0 : Lv := { id := 0, slots := [0, 1, 5], ms := [{ k := (.sl (.st 127)), fl := [none] }, { k := (.sl (.st 127)), fl := [none] }, { k := (.int .i64) }] }
noncomputable def laws_eqValueS.A : Ann := { dp := fun d => isIn [] d, lp := look [(0, laws_eqValueS.lvL0)], jn := look [], pins := [], nt := 27 }
noncomputable def laws_eqValueS.phis (N : Nat) : List (Nat × Sm D) := [(135, laws_eqValue.sm N)]
noncomputable def laws_eqValueS.a0 (N : Nat) (n : Nat) (y : (List (ImplValue)) × (List (ImplValue)) × Int × Unit) : Option (Bool × Unit) := loopAt cx (look (laws_eqValueS.phis N)) laws_eqValueS.A N n (encL cx laws_eqValueS.lvL0.ms y).1 (encL cx laws_eqValueS.lvL0.ms y).2 (bodyOf Tryz.f107) 0 (Kfin cx laws_eqValueS.A laws_eqValueS.sg Tryz.f107.results.toList) [1, 1, 0, 1, 1] []
theorem laws_eqValueS.r0 (N : Nat) : ∀ (n : Nat) (y : (List (ImplValue)) × (List (ImplValue)) × Int × Unit), laws_eqValueS.a0 N n y = laws_eqValueS.L0 N n y
  | 0, y => by kernel_rfl
  | n + 1, y => by
    have h : laws_eqValueS.a0 N (n + 1) y = laws_eqValueS.B0 N (fun z => laws_eqValueS.a0 N n z) y := by kernel_rfl
    have e : (fun z => laws_eqValueS.a0 N n z) = laws_eqValueS.L0 N n := funext fun z => laws_eqValueS.r0 N n z
    rw [h]
    try rw [e]
    first | done | rfl
theorem laws_eqValueS.run (N : Nat) (x : (List (ImplValue)) × (List (ImplValue)) × Unit) : runF cx (look (laws_eqValueS.phis N)) laws_eqValueS.A N (bodyOf Tryz.f107) Tryz.f107.results.toList laws_eqValueS.sg x = laws_eqValueS N x.1 x.2.1 := by
  have h : runF cx (look (laws_eqValueS.phis N)) laws_eqValueS.A N (bodyOf Tryz.f107) Tryz.f107.results.toList laws_eqValueS.sg x = laws_eqValueS.B N (fun z => laws_eqValueS.a0 N N z) x.1 x.2.1 := by kernel_rfl
  have e0 : (fun z => laws_eqValueS.a0 N N z) = laws_eqValueS.L0 N N := funext fun z => laws_eqValueS.r0 N N z
  rw [h, e0]
  try rfl
noncomputable def laws_eqValueS.sm (N : Nat) : Sm D := (⟨laws_eqValueS.sg, fun (x : (List (ImplValue)) × (List (ImplValue)) × Unit) => laws_eqValueS N x.1 x.2.1⟩ : Sm D)
theorem laws_eqValueS.sound (N : Nat) : Sound cx Tryz.prog gam 107 (laws_eqValueS.sm N) := fn_sound (A := laws_eqValueS.A) (Φ := (look (laws_eqValueS.phis N))) pok (G := gam) (ΦOk.cons (laws_eqValue.sound N) (fnOk_of (f := 135) (by kernel_rfl)) ΦOk.nil) mixed N Tryz.func107 (c := (bodyOf Tryz.f107)) (by kernel_rfl) laws_eqValueS.sg (by kernel_rfl) (by kernel_rfl) (by kernel_rfl) (laws_eqValueS.run N)

@[reducible] def laws_eqCell.sg : Sg := { ms := [{ k := (.st 80) }, { k := (.st 80) }], keep := [false, false], rs := [{ k := .bool }] }
noncomputable def laws_eqCell.A : Ann := { dp := fun d => isIn [] d, lp := look [], jn := look [], pins := [], nt := 17 }
noncomputable def laws_eqCell.phis (N : Nat) : List (Nat × Sm D) := [(106, laws_eqSlotS.sm N), (107, laws_eqValueS.sm N)]
theorem laws_eqCell.run (N : Nat) (x : ImplCell × ImplCell × Unit) : runF cx (look (laws_eqCell.phis N)) laws_eqCell.A N (bodyOf Tryz.f61) Tryz.f61.results.toList laws_eqCell.sg x = laws_eqCell N x.1 x.2.1 := by
  have h : runF cx (look (laws_eqCell.phis N)) laws_eqCell.A N (bodyOf Tryz.f61) Tryz.f61.results.toList laws_eqCell.sg x = laws_eqCell.B N x.1 x.2.1 := by kernel_rfl
  rw [h]
  try rfl
noncomputable def laws_eqCell.sm (N : Nat) : Sm D := (⟨laws_eqCell.sg, fun (x : ImplCell × ImplCell × Unit) => laws_eqCell N x.1 x.2.1⟩ : Sm D)
theorem laws_eqCell.sound (N : Nat) : Sound cx Tryz.prog gam 61 (laws_eqCell.sm N) := fn_sound (A := laws_eqCell.A) (Φ := (look (laws_eqCell.phis N))) pok (G := gam) (ΦOk.cons (laws_eqSlotS.sound N) (fnOk_of (f := 106) (by kernel_rfl)) (ΦOk.cons (laws_eqValueS.sound N) (fnOk_of (f := 107) (by kernel_rfl)) ΦOk.nil)) mixed N Tryz.func61 (c := (bodyOf Tryz.f61)) (by kernel_rfl) laws_eqCell.sg (by kernel_rfl) (by kernel_rfl) (by kernel_rfl) (laws_eqCell.run N)

@[reducible] def laws_eqCellS.sg : Sg := { ms := [{ k := (.sl (.st 80)), fl := [none] }, { k := (.sl (.st 80)), fl := [none] }], keep := [false, false], rs := [{ k := .bool }] }
@[reducible] def laws_eqCellS.lvL0 : Lv := { id := 0, slots := [0, 1, 5], ms := [{ k := (.sl (.st 80)), fl := [none] }, { k := (.sl (.st 80)), fl := [none] }, { k := (.int .i64) }] }
noncomputable def laws_eqCellS.A : Ann := { dp := fun d => isIn [] d, lp := look [(0, laws_eqCellS.lvL0)], jn := look [], pins := [], nt := 27 }
noncomputable def laws_eqCellS.phis (N : Nat) : List (Nat × Sm D) := [(61, laws_eqCell.sm N)]
noncomputable def laws_eqCellS.a0 (N : Nat) (n : Nat) (y : (List (ImplCell)) × (List (ImplCell)) × Int × Unit) : Option (Bool × Unit) := loopAt cx (look (laws_eqCellS.phis N)) laws_eqCellS.A N n (encL cx laws_eqCellS.lvL0.ms y).1 (encL cx laws_eqCellS.lvL0.ms y).2 (bodyOf Tryz.f21) 0 (Kfin cx laws_eqCellS.A laws_eqCellS.sg Tryz.f21.results.toList) [1, 1, 0, 1, 1] []
theorem laws_eqCellS.r0 (N : Nat) : ∀ (n : Nat) (y : (List (ImplCell)) × (List (ImplCell)) × Int × Unit), laws_eqCellS.a0 N n y = laws_eqCellS.L0 N n y
  | 0, y => by kernel_rfl
  | n + 1, y => by
    have h : laws_eqCellS.a0 N (n + 1) y = laws_eqCellS.B0 N (fun z => laws_eqCellS.a0 N n z) y := by kernel_rfl
    have e : (fun z => laws_eqCellS.a0 N n z) = laws_eqCellS.L0 N n := funext fun z => laws_eqCellS.r0 N n z
    rw [h]
    try rw [e]
    first | done | rfl
theorem laws_eqCellS.run (N : Nat) (x : (List (ImplCell)) × (List (ImplCell)) × Unit) : runF cx (look (laws_eqCellS.phis N)) laws_eqCellS.A N (bodyOf Tryz.f21) Tryz.f21.results.toList laws_eqCellS.sg x = laws_eqCellS N x.1 x.2.1 := by
  have h : runF cx (look (laws_eqCellS.phis N)) laws_eqCellS.A N (bodyOf Tryz.f21) Tryz.f21.results.toList laws_eqCellS.sg x = laws_eqCellS.B N (fun z => laws_eqCellS.a0 N N z) x.1 x.2.1 := by kernel_rfl
  have e0 : (fun z => laws_eqCellS.a0 N N z) = laws_eqCellS.L0 N N := funext fun z => laws_eqCellS.r0 N N z
  rw [h, e0]
  try rfl
noncomputable def laws_eqCellS.sm (N : Nat) : Sm D := (⟨laws_eqCellS.sg, fun (x : (List (ImplCell)) × (List (ImplCell)) × Unit) => laws_eqCellS N x.1 x.2.1⟩ : Sm D)
theorem laws_eqCellS.sound (N : Nat) : Sound cx Tryz.prog gam 21 (laws_eqCellS.sm N) := fn_sound (A := laws_eqCellS.A) (Φ := (look (laws_eqCellS.phis N))) pok (G := gam) (ΦOk.cons (laws_eqCell.sound N) (fnOk_of (f := 61) (by kernel_rfl)) ΦOk.nil) mixed N Tryz.func21 (c := (bodyOf Tryz.f21)) (by kernel_rfl) laws_eqCellS.sg (by kernel_rfl) (by kernel_rfl) (by kernel_rfl) (laws_eqCellS.run N)

@[reducible] def laws_eqStep.sg : Sg := { ms := [{ k := (.st 141) }, { k := (.st 141) }], keep := [false, false], rs := [{ k := .bool }] }
noncomputable def laws_eqStep.A : Ann := { dp := fun d => isIn [] d, lp := look [], jn := look [], pins := [], nt := 21 }
noncomputable def laws_eqStep.phis (N : Nat) : List (Nat × Sm D) := [(135, laws_eqValue.sm N)]
theorem laws_eqStep.run (N : Nat) (x : ImplStep × ImplStep × Unit) : runF cx (look (laws_eqStep.phis N)) laws_eqStep.A N (bodyOf Tryz.f144) Tryz.f144.results.toList laws_eqStep.sg x = laws_eqStep N x.1 x.2.1 := by
  have h : runF cx (look (laws_eqStep.phis N)) laws_eqStep.A N (bodyOf Tryz.f144) Tryz.f144.results.toList laws_eqStep.sg x = laws_eqStep.B N x.1 x.2.1 := by kernel_rfl
  rw [h]
  try rfl
noncomputable def laws_eqStep.sm (N : Nat) : Sm D := (⟨laws_eqStep.sg, fun (x : ImplStep × ImplStep × Unit) => laws_eqStep N x.1 x.2.1⟩ : Sm D)
theorem laws_eqStep.sound (N : Nat) : Sound cx Tryz.prog gam 144 (laws_eqStep.sm N) := fn_sound (A := laws_eqStep.A) (Φ := (look (laws_eqStep.phis N))) pok (G := gam) (ΦOk.cons (laws_eqValue.sound N) (fnOk_of (f := 135) (by kernel_rfl)) ΦOk.nil) mixed N Tryz.func144 (c := (bodyOf Tryz.f144)) (by kernel_rfl) laws_eqStep.sg (by kernel_rfl) (by kernel_rfl) (by kernel_rfl) (laws_eqStep.run N)

@[reducible] def laws_eqStepS.sg : Sg := { ms := [{ k := (.sl (.st 141)), fl := [none] }, { k := (.sl (.st 141)), fl := [none] }], keep := [false, false], rs := [{ k := .bool }] }
@[reducible] def laws_eqStepS.lvL0 : Lv := { id := 0, slots := [0, 1, 5], ms := [{ k := (.sl (.st 141)), fl := [none] }, { k := (.sl (.st 141)), fl := [none] }, { k := (.int .i64) }] }
noncomputable def laws_eqStepS.A : Ann := { dp := fun d => isIn [] d, lp := look [(0, laws_eqStepS.lvL0)], jn := look [], pins := [], nt := 27 }
noncomputable def laws_eqStepS.phis (N : Nat) : List (Nat × Sm D) := [(144, laws_eqStep.sm N)]
noncomputable def laws_eqStepS.a0 (N : Nat) (n : Nat) (y : (List (ImplStep)) × (List (ImplStep)) × Int × Unit) : Option (Bool × Unit) := loopAt cx (look (laws_eqStepS.phis N)) laws_eqStepS.A N n (encL cx laws_eqStepS.lvL0.ms y).1 (encL cx laws_eqStepS.lvL0.ms y).2 (bodyOf Tryz.f118) 0 (Kfin cx laws_eqStepS.A laws_eqStepS.sg Tryz.f118.results.toList) [1, 1, 0, 1, 1] []
theorem laws_eqStepS.r0 (N : Nat) : ∀ (n : Nat) (y : (List (ImplStep)) × (List (ImplStep)) × Int × Unit), laws_eqStepS.a0 N n y = laws_eqStepS.L0 N n y
  | 0, y => by kernel_rfl
  | n + 1, y => by
    have h : laws_eqStepS.a0 N (n + 1) y = laws_eqStepS.B0 N (fun z => laws_eqStepS.a0 N n z) y := by kernel_rfl
    have e : (fun z => laws_eqStepS.a0 N n z) = laws_eqStepS.L0 N n := funext fun z => laws_eqStepS.r0 N n z
    rw [h]
    try rw [e]
    first | done | rfl
theorem laws_eqStepS.run (N : Nat) (x : (List (ImplStep)) × (List (ImplStep)) × Unit) : runF cx (look (laws_eqStepS.phis N)) laws_eqStepS.A N (bodyOf Tryz.f118) Tryz.f118.results.toList laws_eqStepS.sg x = laws_eqStepS N x.1 x.2.1 := by
  have h : runF cx (look (laws_eqStepS.phis N)) laws_eqStepS.A N (bodyOf Tryz.f118) Tryz.f118.results.toList laws_eqStepS.sg x = laws_eqStepS.B N (fun z => laws_eqStepS.a0 N N z) x.1 x.2.1 := by kernel_rfl
  have e0 : (fun z => laws_eqStepS.a0 N N z) = laws_eqStepS.L0 N N := funext fun z => laws_eqStepS.r0 N N z
  rw [h, e0]
  try rfl
noncomputable def laws_eqStepS.sm (N : Nat) : Sm D := (⟨laws_eqStepS.sg, fun (x : (List (ImplStep)) × (List (ImplStep)) × Unit) => laws_eqStepS N x.1 x.2.1⟩ : Sm D)
theorem laws_eqStepS.sound (N : Nat) : Sound cx Tryz.prog gam 118 (laws_eqStepS.sm N) := fn_sound (A := laws_eqStepS.A) (Φ := (look (laws_eqStepS.phis N))) pok (G := gam) (ΦOk.cons (laws_eqStep.sound N) (fnOk_of (f := 144) (by kernel_rfl)) ΦOk.nil) mixed N Tryz.func118 (c := (bodyOf Tryz.f118)) (by kernel_rfl) laws_eqStepS.sg (by kernel_rfl) (by kernel_rfl) (by kernel_rfl) (laws_eqStepS.run N)

@[reducible] def laws_eqUpdate.sg : Sg := { ms := [{ k := (.st 100) }, { k := (.st 100) }], keep := [false, false], rs := [{ k := .bool }] }
noncomputable def laws_eqUpdate.A : Ann := { dp := fun d => isIn [] d, lp := look [], jn := look [], pins := [], nt := 27 }
noncomputable def laws_eqUpdate.phis (N : Nat) : List (Nat × Sm D) := [(106, laws_eqSlotS.sm N), (118, laws_eqStepS.sm N)]
theorem laws_eqUpdate.run (N : Nat) (x : ImplUpdate × ImplUpdate × Unit) : runF cx (look (laws_eqUpdate.phis N)) laws_eqUpdate.A N (bodyOf Tryz.f74) Tryz.f74.results.toList laws_eqUpdate.sg x = laws_eqUpdate N x.1 x.2.1 := by
  have h : runF cx (look (laws_eqUpdate.phis N)) laws_eqUpdate.A N (bodyOf Tryz.f74) Tryz.f74.results.toList laws_eqUpdate.sg x = laws_eqUpdate.B N x.1 x.2.1 := by kernel_rfl
  rw [h]
  try rfl
noncomputable def laws_eqUpdate.sm (N : Nat) : Sm D := (⟨laws_eqUpdate.sg, fun (x : ImplUpdate × ImplUpdate × Unit) => laws_eqUpdate N x.1 x.2.1⟩ : Sm D)
theorem laws_eqUpdate.sound (N : Nat) : Sound cx Tryz.prog gam 74 (laws_eqUpdate.sm N) := fn_sound (A := laws_eqUpdate.A) (Φ := (look (laws_eqUpdate.phis N))) pok (G := gam) (ΦOk.cons (laws_eqSlotS.sound N) (fnOk_of (f := 106) (by kernel_rfl)) (ΦOk.cons (laws_eqStepS.sound N) (fnOk_of (f := 118) (by kernel_rfl)) ΦOk.nil)) mixed N Tryz.func74 (c := (bodyOf Tryz.f74)) (by kernel_rfl) laws_eqUpdate.sg (by kernel_rfl) (by kernel_rfl) (by kernel_rfl) (laws_eqUpdate.run N)

@[reducible] def laws_eqUpdateS.sg : Sg := { ms := [{ k := (.sl (.st 100)), fl := [none] }, { k := (.sl (.st 100)), fl := [none] }], keep := [false, false], rs := [{ k := .bool }] }
@[reducible] def laws_eqUpdateS.lvL0 : Lv := { id := 0, slots := [0, 1, 5], ms := [{ k := (.sl (.st 100)), fl := [none] }, { k := (.sl (.st 100)), fl := [none] }, { k := (.int .i64) }] }
noncomputable def laws_eqUpdateS.A : Ann := { dp := fun d => isIn [] d, lp := look [(0, laws_eqUpdateS.lvL0)], jn := look [], pins := [], nt := 27 }
noncomputable def laws_eqUpdateS.phis (N : Nat) : List (Nat × Sm D) := [(74, laws_eqUpdate.sm N)]
noncomputable def laws_eqUpdateS.a0 (N : Nat) (n : Nat) (y : (List (ImplUpdate)) × (List (ImplUpdate)) × Int × Unit) : Option (Bool × Unit) := loopAt cx (look (laws_eqUpdateS.phis N)) laws_eqUpdateS.A N n (encL cx laws_eqUpdateS.lvL0.ms y).1 (encL cx laws_eqUpdateS.lvL0.ms y).2 (bodyOf Tryz.f32) 0 (Kfin cx laws_eqUpdateS.A laws_eqUpdateS.sg Tryz.f32.results.toList) [1, 1, 0, 1, 1] []
theorem laws_eqUpdateS.r0 (N : Nat) : ∀ (n : Nat) (y : (List (ImplUpdate)) × (List (ImplUpdate)) × Int × Unit), laws_eqUpdateS.a0 N n y = laws_eqUpdateS.L0 N n y
  | 0, y => by kernel_rfl
  | n + 1, y => by
    have h : laws_eqUpdateS.a0 N (n + 1) y = laws_eqUpdateS.B0 N (fun z => laws_eqUpdateS.a0 N n z) y := by kernel_rfl
    have e : (fun z => laws_eqUpdateS.a0 N n z) = laws_eqUpdateS.L0 N n := funext fun z => laws_eqUpdateS.r0 N n z
    rw [h]
    try rw [e]
    first | done | rfl
theorem laws_eqUpdateS.run (N : Nat) (x : (List (ImplUpdate)) × (List (ImplUpdate)) × Unit) : runF cx (look (laws_eqUpdateS.phis N)) laws_eqUpdateS.A N (bodyOf Tryz.f32) Tryz.f32.results.toList laws_eqUpdateS.sg x = laws_eqUpdateS N x.1 x.2.1 := by
  have h : runF cx (look (laws_eqUpdateS.phis N)) laws_eqUpdateS.A N (bodyOf Tryz.f32) Tryz.f32.results.toList laws_eqUpdateS.sg x = laws_eqUpdateS.B N (fun z => laws_eqUpdateS.a0 N N z) x.1 x.2.1 := by kernel_rfl
  have e0 : (fun z => laws_eqUpdateS.a0 N N z) = laws_eqUpdateS.L0 N N := funext fun z => laws_eqUpdateS.r0 N N z
  rw [h, e0]
  try rfl
noncomputable def laws_eqUpdateS.sm (N : Nat) : Sm D := (⟨laws_eqUpdateS.sg, fun (x : (List (ImplUpdate)) × (List (ImplUpdate)) × Unit) => laws_eqUpdateS N x.1 x.2.1⟩ : Sm D)
theorem laws_eqUpdateS.sound (N : Nat) : Sound cx Tryz.prog gam 32 (laws_eqUpdateS.sm N) := fn_sound (A := laws_eqUpdateS.A) (Φ := (look (laws_eqUpdateS.phis N))) pok (G := gam) (ΦOk.cons (laws_eqUpdate.sound N) (fnOk_of (f := 74) (by kernel_rfl)) ΦOk.nil) mixed N Tryz.func32 (c := (bodyOf Tryz.f32)) (by kernel_rfl) laws_eqUpdateS.sg (by kernel_rfl) (by kernel_rfl) (by kernel_rfl) (laws_eqUpdateS.run N)

@[reducible] def laws_markSlotS.sg : Sg := { ms := [{ k := (.sl (.st 125)), fl := [some (true, 11)] }, { k := (.int .i64) }], keep := [true, false], rs := [{ k := (.int .i64) }] }
@[reducible] def laws_markSlotS.lvL0 : Lv := { id := 0, slots := [0, 1, 5], ms := [{ k := (.sl (.st 125)), fl := [some (true, 11)] }, { k := (.int .i64) }, { k := (.int .i64) }] }
noncomputable def laws_markSlotS.A : Ann := { dp := fun d => isIn [] d, lp := look [(0, laws_markSlotS.lvL0)], jn := look [], pins := [11], nt := 27 }
noncomputable def laws_markSlotS.phis (N : Nat) : List (Nat × Sm D) := []
noncomputable def laws_markSlotS.a0 (N : Nat) (n : Nat) (y : (List (ImplSlot)) × Int × Int × Unit) : Option ((List (ImplSlot)) × Int × Unit) := loopAt cx (look (laws_markSlotS.phis N)) laws_markSlotS.A N n (encL cx laws_markSlotS.lvL0.ms y).1 (encL cx laws_markSlotS.lvL0.ms y).2 (bodyOf Tryz.f62) 0 (Kfin cx laws_markSlotS.A laws_markSlotS.sg Tryz.f62.results.toList) [1, 0, 1, 1] []
theorem laws_markSlotS.r0 (N : Nat) : ∀ (n : Nat) (y : (List (ImplSlot)) × Int × Int × Unit), laws_markSlotS.a0 N n y = laws_markSlotS.L0 N n y
  | 0, y => by kernel_rfl
  | n + 1, y => by
    have h : laws_markSlotS.a0 N (n + 1) y = laws_markSlotS.B0 N (fun z => laws_markSlotS.a0 N n z) y := by kernel_rfl
    have e : (fun z => laws_markSlotS.a0 N n z) = laws_markSlotS.L0 N n := funext fun z => laws_markSlotS.r0 N n z
    rw [h]
    try rw [e]
    first | done | rfl
theorem laws_markSlotS.run (N : Nat) (x : (List (ImplSlot)) × Int × Unit) : runF cx (look (laws_markSlotS.phis N)) laws_markSlotS.A N (bodyOf Tryz.f62) Tryz.f62.results.toList laws_markSlotS.sg x = laws_markSlotS N x.1 x.2.1 := by
  have h : runF cx (look (laws_markSlotS.phis N)) laws_markSlotS.A N (bodyOf Tryz.f62) Tryz.f62.results.toList laws_markSlotS.sg x = laws_markSlotS.B N (fun z => laws_markSlotS.a0 N N z) x.1 x.2.1 := by kernel_rfl
  have e0 : (fun z => laws_markSlotS.a0 N N z) = laws_markSlotS.L0 N N := funext fun z => laws_markSlotS.r0 N N z
  rw [h, e0]
  try rfl
noncomputable def laws_markSlotS.sm (N : Nat) : Sm D := (⟨laws_markSlotS.sg, fun (x : (List (ImplSlot)) × Int × Unit) => laws_markSlotS N x.1 x.2.1⟩ : Sm D)
theorem laws_markSlotS.sound (N : Nat) : Sound cx Tryz.prog gam 62 (laws_markSlotS.sm N) := fn_sound (A := laws_markSlotS.A) (Φ := (look (laws_markSlotS.phis N))) pok (G := gam) ΦOk.nil mixed N Tryz.func62 (c := (bodyOf Tryz.f62)) (by kernel_rfl) laws_markSlotS.sg (by kernel_rfl) (by kernel_rfl) (by kernel_rfl) (laws_markSlotS.run N)

@[reducible] def laws_markText.sg : Sg := { ms := [{ k := (.int .i64) }], keep := [false], rs := [{ k := .str }] }
@[reducible] def laws_markText.lvL0 : Lv := { id := 0, slots := [0, 3], ms := [{ k := (.int .i64) }, { k := .str }] }
noncomputable def laws_markText.A : Ann := { dp := fun d => isIn [] d, lp := look [(0, laws_markText.lvL0)], jn := look [], pins := [], nt := 20 }
noncomputable def laws_markText.phis (N : Nat) : List (Nat × Sm D) := []
noncomputable def laws_markText.a0 (N : Nat) (n : Nat) (y : Int × (List UInt8) × Unit) : Option ((List UInt8) × Unit) := loopAt cx (look (laws_markText.phis N)) laws_markText.A N n (encL cx laws_markText.lvL0.ms y).1 (encL cx laws_markText.lvL0.ms y).2 (bodyOf Tryz.f108) 0 (Kfin cx laws_markText.A laws_markText.sg Tryz.f108.results.toList) [1, 1, 1, 0, 1] []
theorem laws_markText.r0 (N : Nat) : ∀ (n : Nat) (y : Int × (List UInt8) × Unit), laws_markText.a0 N n y = laws_markText.L0 N n y
  | 0, y => by kernel_rfl
  | n + 1, y => by
    have h : laws_markText.a0 N (n + 1) y = laws_markText.B0 N (fun z => laws_markText.a0 N n z) y := by kernel_rfl
    have e : (fun z => laws_markText.a0 N n z) = laws_markText.L0 N n := funext fun z => laws_markText.r0 N n z
    rw [h]
    try rw [e]
    first | done | rfl
theorem laws_markText.run (N : Nat) (x : Int × Unit) : runF cx (look (laws_markText.phis N)) laws_markText.A N (bodyOf Tryz.f108) Tryz.f108.results.toList laws_markText.sg x = laws_markText N x.1 := by
  have h : runF cx (look (laws_markText.phis N)) laws_markText.A N (bodyOf Tryz.f108) Tryz.f108.results.toList laws_markText.sg x = laws_markText.B N (fun z => laws_markText.a0 N N z) x.1 := by kernel_rfl
  have e0 : (fun z => laws_markText.a0 N N z) = laws_markText.L0 N N := funext fun z => laws_markText.r0 N N z
  rw [h, e0]
  try rfl
noncomputable def laws_markText.sm (N : Nat) : Sm D := (⟨laws_markText.sg, fun (x : Int × Unit) => laws_markText N x.1⟩ : Sm D)
theorem laws_markText.sound (N : Nat) : Sound cx Tryz.prog gam 108 (laws_markText.sm N) := fn_sound (A := laws_markText.A) (Φ := (look (laws_markText.phis N))) pok (G := gam) ΦOk.nil mixed N Tryz.func108 (c := (bodyOf Tryz.f108)) (by kernel_rfl) laws_markText.sg (by kernel_rfl) (by kernel_rfl) (by kernel_rfl) (laws_markText.run N)

@[reducible] def laws_markValueS.sg : Sg := { ms := [{ k := (.sl (.st 127)), fl := [some (true, 11)] }, { k := (.int .i64) }], keep := [true, false], rs := [{ k := (.int .i64) }] }
@[reducible] def laws_markValueS.lvL0 : Lv := { id := 0, slots := [0, 1, 5], ms := [{ k := (.sl (.st 127)), fl := [some (true, 11)] }, { k := (.int .i64) }, { k := (.int .i64) }] }
noncomputable def laws_markValueS.A : Ann := { dp := fun d => isIn [] d, lp := look [(0, laws_markValueS.lvL0)], jn := look [], pins := [11], nt := 35 }
noncomputable def laws_markValueS.phis (N : Nat) : List (Nat × Sm D) := [(108, laws_markText.sm N)]
noncomputable def laws_markValueS.a0 (N : Nat) (n : Nat) (y : (List (ImplValue)) × Int × Int × Unit) : Option ((List (ImplValue)) × Int × Unit) := loopAt cx (look (laws_markValueS.phis N)) laws_markValueS.A N n (encL cx laws_markValueS.lvL0.ms y).1 (encL cx laws_markValueS.lvL0.ms y).2 (bodyOf Tryz.f63) 0 (Kfin cx laws_markValueS.A laws_markValueS.sg Tryz.f63.results.toList) [1, 0, 1, 1] []
theorem laws_markValueS.r0 (N : Nat) : ∀ (n : Nat) (y : (List (ImplValue)) × Int × Int × Unit), laws_markValueS.a0 N n y = laws_markValueS.L0 N n y
  | 0, y => by kernel_rfl
  | n + 1, y => by
    have h : laws_markValueS.a0 N (n + 1) y = laws_markValueS.B0 N (fun z => laws_markValueS.a0 N n z) y := by kernel_rfl
    have e : (fun z => laws_markValueS.a0 N n z) = laws_markValueS.L0 N n := funext fun z => laws_markValueS.r0 N n z
    rw [h]
    try rw [e]
    first | done | rfl
theorem laws_markValueS.run (N : Nat) (x : (List (ImplValue)) × Int × Unit) : runF cx (look (laws_markValueS.phis N)) laws_markValueS.A N (bodyOf Tryz.f63) Tryz.f63.results.toList laws_markValueS.sg x = laws_markValueS N x.1 x.2.1 := by
  have h : runF cx (look (laws_markValueS.phis N)) laws_markValueS.A N (bodyOf Tryz.f63) Tryz.f63.results.toList laws_markValueS.sg x = laws_markValueS.B N (fun z => laws_markValueS.a0 N N z) x.1 x.2.1 := by kernel_rfl
  have e0 : (fun z => laws_markValueS.a0 N N z) = laws_markValueS.L0 N N := funext fun z => laws_markValueS.r0 N N z
  rw [h, e0]
  try rfl
noncomputable def laws_markValueS.sm (N : Nat) : Sm D := (⟨laws_markValueS.sg, fun (x : (List (ImplValue)) × Int × Unit) => laws_markValueS N x.1 x.2.1⟩ : Sm D)
theorem laws_markValueS.sound (N : Nat) : Sound cx Tryz.prog gam 63 (laws_markValueS.sm N) := fn_sound (A := laws_markValueS.A) (Φ := (look (laws_markValueS.phis N))) pok (G := gam) (ΦOk.cons (laws_markText.sound N) (fnOk_of (f := 108) (by kernel_rfl)) ΦOk.nil) mixed N Tryz.func63 (c := (bodyOf Tryz.f63)) (by kernel_rfl) laws_markValueS.sg (by kernel_rfl) (by kernel_rfl) (by kernel_rfl) (laws_markValueS.run N)

@[reducible] def laws_markCellS.sg : Sg := { ms := [{ k := (.sl (.st 80)), fl := [some (true, 11)] }, { k := (.int .i64) }], keep := [true, false], rs := [{ k := (.int .i64) }] }
@[reducible] def laws_markCellS.lvL0 : Lv := { id := 0, slots := [0, 1, 5], ms := [{ k := (.sl (.st 80)), fl := [some (true, 11)] }, { k := (.int .i64) }, { k := (.int .i64) }] }
noncomputable def laws_markCellS.A : Ann := { dp := fun d => isIn [] d, lp := look [(0, laws_markCellS.lvL0)], jn := look [], pins := [11], nt := 27 }
noncomputable def laws_markCellS.phis (N : Nat) : List (Nat × Sm D) := [(62, laws_markSlotS.sm N), (63, laws_markValueS.sm N)]
noncomputable def laws_markCellS.a0 (N : Nat) (n : Nat) (y : (List (ImplCell)) × Int × Int × Unit) : Option ((List (ImplCell)) × Int × Unit) := loopAt cx (look (laws_markCellS.phis N)) laws_markCellS.A N n (encL cx laws_markCellS.lvL0.ms y).1 (encL cx laws_markCellS.lvL0.ms y).2 (bodyOf Tryz.f24) 0 (Kfin cx laws_markCellS.A laws_markCellS.sg Tryz.f24.results.toList) [1, 0, 1, 1] []
theorem laws_markCellS.r0 (N : Nat) : ∀ (n : Nat) (y : (List (ImplCell)) × Int × Int × Unit), laws_markCellS.a0 N n y = laws_markCellS.L0 N n y
  | 0, y => by kernel_rfl
  | n + 1, y => by
    have h : laws_markCellS.a0 N (n + 1) y = laws_markCellS.B0 N (fun z => laws_markCellS.a0 N n z) y := by kernel_rfl
    have e : (fun z => laws_markCellS.a0 N n z) = laws_markCellS.L0 N n := funext fun z => laws_markCellS.r0 N n z
    rw [h]
    try rw [e]
    first | done | rfl
theorem laws_markCellS.run (N : Nat) (x : (List (ImplCell)) × Int × Unit) : runF cx (look (laws_markCellS.phis N)) laws_markCellS.A N (bodyOf Tryz.f24) Tryz.f24.results.toList laws_markCellS.sg x = laws_markCellS N x.1 x.2.1 := by
  have h : runF cx (look (laws_markCellS.phis N)) laws_markCellS.A N (bodyOf Tryz.f24) Tryz.f24.results.toList laws_markCellS.sg x = laws_markCellS.B N (fun z => laws_markCellS.a0 N N z) x.1 x.2.1 := by kernel_rfl
  have e0 : (fun z => laws_markCellS.a0 N N z) = laws_markCellS.L0 N N := funext fun z => laws_markCellS.r0 N N z
  rw [h, e0]
  try rfl
noncomputable def laws_markCellS.sm (N : Nat) : Sm D := (⟨laws_markCellS.sg, fun (x : (List (ImplCell)) × Int × Unit) => laws_markCellS N x.1 x.2.1⟩ : Sm D)
theorem laws_markCellS.sound (N : Nat) : Sound cx Tryz.prog gam 24 (laws_markCellS.sm N) := fn_sound (A := laws_markCellS.A) (Φ := (look (laws_markCellS.phis N))) pok (G := gam) (ΦOk.cons (laws_markSlotS.sound N) (fnOk_of (f := 62) (by kernel_rfl)) (ΦOk.cons (laws_markValueS.sound N) (fnOk_of (f := 63) (by kernel_rfl)) ΦOk.nil)) mixed N Tryz.func24 (c := (bodyOf Tryz.f24)) (by kernel_rfl) laws_markCellS.sg (by kernel_rfl) (by kernel_rfl) (by kernel_rfl) (laws_markCellS.run N)

@[reducible] def laws_markStepS.sg : Sg := { ms := [{ k := (.sl (.st 141)), fl := [some (true, 11)] }, { k := (.int .i64) }], keep := [true, false], rs := [{ k := (.int .i64) }] }
@[reducible] def laws_markStepS.lvL0 : Lv := { id := 0, slots := [0, 1, 5], ms := [{ k := (.sl (.st 141)), fl := [some (true, 11)] }, { k := (.int .i64) }, { k := (.int .i64) }] }
noncomputable def laws_markStepS.A : Ann := { dp := fun d => isIn [] d, lp := look [(0, laws_markStepS.lvL0)], jn := look [], pins := [11], nt := 52 }
noncomputable def laws_markStepS.phis (N : Nat) : List (Nat × Sm D) := [(108, laws_markText.sm N)]
noncomputable def laws_markStepS.a0 (N : Nat) (n : Nat) (y : (List (ImplStep)) × Int × Int × Unit) : Option ((List (ImplStep)) × Int × Unit) := loopAt cx (look (laws_markStepS.phis N)) laws_markStepS.A N n (encL cx laws_markStepS.lvL0.ms y).1 (encL cx laws_markStepS.lvL0.ms y).2 (bodyOf Tryz.f75) 0 (Kfin cx laws_markStepS.A laws_markStepS.sg Tryz.f75.results.toList) [1, 0, 1, 1] []
theorem laws_markStepS.r0 (N : Nat) : ∀ (n : Nat) (y : (List (ImplStep)) × Int × Int × Unit), laws_markStepS.a0 N n y = laws_markStepS.L0 N n y
  | 0, y => by kernel_rfl
  | n + 1, y => by
    have h : laws_markStepS.a0 N (n + 1) y = laws_markStepS.B0 N (fun z => laws_markStepS.a0 N n z) y := by kernel_rfl
    have e : (fun z => laws_markStepS.a0 N n z) = laws_markStepS.L0 N n := funext fun z => laws_markStepS.r0 N n z
    rw [h]
    try rw [e]
    first | done | rfl
theorem laws_markStepS.run (N : Nat) (x : (List (ImplStep)) × Int × Unit) : runF cx (look (laws_markStepS.phis N)) laws_markStepS.A N (bodyOf Tryz.f75) Tryz.f75.results.toList laws_markStepS.sg x = laws_markStepS N x.1 x.2.1 := by
  have h : runF cx (look (laws_markStepS.phis N)) laws_markStepS.A N (bodyOf Tryz.f75) Tryz.f75.results.toList laws_markStepS.sg x = laws_markStepS.B N (fun z => laws_markStepS.a0 N N z) x.1 x.2.1 := by kernel_rfl
  have e0 : (fun z => laws_markStepS.a0 N N z) = laws_markStepS.L0 N N := funext fun z => laws_markStepS.r0 N N z
  rw [h, e0]
  try rfl
noncomputable def laws_markStepS.sm (N : Nat) : Sm D := (⟨laws_markStepS.sg, fun (x : (List (ImplStep)) × Int × Unit) => laws_markStepS N x.1 x.2.1⟩ : Sm D)
theorem laws_markStepS.sound (N : Nat) : Sound cx Tryz.prog gam 75 (laws_markStepS.sm N) := fn_sound (A := laws_markStepS.A) (Φ := (look (laws_markStepS.phis N))) pok (G := gam) (ΦOk.cons (laws_markText.sound N) (fnOk_of (f := 108) (by kernel_rfl)) ΦOk.nil) mixed N Tryz.func75 (c := (bodyOf Tryz.f75)) (by kernel_rfl) laws_markStepS.sg (by kernel_rfl) (by kernel_rfl) (by kernel_rfl) (laws_markStepS.run N)

@[reducible] def laws_markUpdateS.sg : Sg := { ms := [{ k := (.sl (.st 100)), fl := [some (true, 11)] }, { k := (.int .i64) }], keep := [true, false], rs := [{ k := (.int .i64) }] }
@[reducible] def laws_markUpdateS.lvL0 : Lv := { id := 0, slots := [0, 1, 5], ms := [{ k := (.sl (.st 100)), fl := [some (true, 11)] }, { k := (.int .i64) }, { k := (.int .i64) }] }
noncomputable def laws_markUpdateS.A : Ann := { dp := fun d => isIn [] d, lp := look [(0, laws_markUpdateS.lvL0)], jn := look [], pins := [11], nt := 41 }
noncomputable def laws_markUpdateS.phis (N : Nat) : List (Nat × Sm D) := [(62, laws_markSlotS.sm N), (75, laws_markStepS.sm N)]
noncomputable def laws_markUpdateS.a0 (N : Nat) (n : Nat) (y : (List (ImplUpdate)) × Int × Int × Unit) : Option ((List (ImplUpdate)) × Int × Unit) := loopAt cx (look (laws_markUpdateS.phis N)) laws_markUpdateS.A N n (encL cx laws_markUpdateS.lvL0.ms y).1 (encL cx laws_markUpdateS.lvL0.ms y).2 (bodyOf Tryz.f33) 0 (Kfin cx laws_markUpdateS.A laws_markUpdateS.sg Tryz.f33.results.toList) [1, 0, 1, 1] []
theorem laws_markUpdateS.r0 (N : Nat) : ∀ (n : Nat) (y : (List (ImplUpdate)) × Int × Int × Unit), laws_markUpdateS.a0 N n y = laws_markUpdateS.L0 N n y
  | 0, y => by kernel_rfl
  | n + 1, y => by
    have h : laws_markUpdateS.a0 N (n + 1) y = laws_markUpdateS.B0 N (fun z => laws_markUpdateS.a0 N n z) y := by kernel_rfl
    have e : (fun z => laws_markUpdateS.a0 N n z) = laws_markUpdateS.L0 N n := funext fun z => laws_markUpdateS.r0 N n z
    rw [h]
    try rw [e]
    first | done | rfl
theorem laws_markUpdateS.run (N : Nat) (x : (List (ImplUpdate)) × Int × Unit) : runF cx (look (laws_markUpdateS.phis N)) laws_markUpdateS.A N (bodyOf Tryz.f33) Tryz.f33.results.toList laws_markUpdateS.sg x = laws_markUpdateS N x.1 x.2.1 := by
  have h : runF cx (look (laws_markUpdateS.phis N)) laws_markUpdateS.A N (bodyOf Tryz.f33) Tryz.f33.results.toList laws_markUpdateS.sg x = laws_markUpdateS.B N (fun z => laws_markUpdateS.a0 N N z) x.1 x.2.1 := by kernel_rfl
  have e0 : (fun z => laws_markUpdateS.a0 N N z) = laws_markUpdateS.L0 N N := funext fun z => laws_markUpdateS.r0 N N z
  rw [h, e0]
  try rfl
noncomputable def laws_markUpdateS.sm (N : Nat) : Sm D := (⟨laws_markUpdateS.sg, fun (x : (List (ImplUpdate)) × Int × Unit) => laws_markUpdateS N x.1 x.2.1⟩ : Sm D)
theorem laws_markUpdateS.sound (N : Nat) : Sound cx Tryz.prog gam 33 (laws_markUpdateS.sm N) := fn_sound (A := laws_markUpdateS.A) (Φ := (look (laws_markUpdateS.phis N))) pok (G := gam) (ΦOk.cons (laws_markSlotS.sound N) (fnOk_of (f := 62) (by kernel_rfl)) (ΦOk.cons (laws_markStepS.sound N) (fnOk_of (f := 75) (by kernel_rfl)) ΦOk.nil)) mixed N Tryz.func33 (c := (bodyOf Tryz.f33)) (by kernel_rfl) laws_markUpdateS.sg (by kernel_rfl) (by kernel_rfl) (by kernel_rfl) (laws_markUpdateS.run N)

@[reducible] def laws_heldSlotS.sg : Sg := { ms := [{ k := (.sl (.st 125)), fl := [none] }, { k := (.int .i64) }], keep := [false, false], rs := [{ k := (.int .i64) }] }
@[reducible] def laws_heldSlotS.lvL0 : Lv := { id := 0, slots := [0, 1, 5], ms := [{ k := (.sl (.st 125)), fl := [none] }, { k := (.int .i64) }, { k := (.int .i64) }] }
noncomputable def laws_heldSlotS.A : Ann := { dp := fun d => isIn [] d, lp := look [(0, laws_heldSlotS.lvL0)], jn := look [], pins := [], nt := 31 }
noncomputable def laws_heldSlotS.phis (N : Nat) : List (Nat × Sm D) := []
noncomputable def laws_heldSlotS.a0 (N : Nat) (n : Nat) (y : (List (ImplSlot)) × Int × Int × Unit) : Option (Int × Unit) := loopAt cx (look (laws_heldSlotS.phis N)) laws_heldSlotS.A N n (encL cx laws_heldSlotS.lvL0.ms y).1 (encL cx laws_heldSlotS.lvL0.ms y).2 (bodyOf Tryz.f64) 0 (Kfin cx laws_heldSlotS.A laws_heldSlotS.sg Tryz.f64.results.toList) [1, 0, 1, 1] []
theorem laws_heldSlotS.r0 (N : Nat) : ∀ (n : Nat) (y : (List (ImplSlot)) × Int × Int × Unit), laws_heldSlotS.a0 N n y = laws_heldSlotS.L0 N n y
  | 0, y => by kernel_rfl
  | n + 1, y => by
    have h : laws_heldSlotS.a0 N (n + 1) y = laws_heldSlotS.B0 N (fun z => laws_heldSlotS.a0 N n z) y := by kernel_rfl
    have e : (fun z => laws_heldSlotS.a0 N n z) = laws_heldSlotS.L0 N n := funext fun z => laws_heldSlotS.r0 N n z
    rw [h]
    try rw [e]
    first | done | rfl
theorem laws_heldSlotS.run (N : Nat) (x : (List (ImplSlot)) × Int × Unit) : runF cx (look (laws_heldSlotS.phis N)) laws_heldSlotS.A N (bodyOf Tryz.f64) Tryz.f64.results.toList laws_heldSlotS.sg x = laws_heldSlotS N x.1 x.2.1 := by
  have h : runF cx (look (laws_heldSlotS.phis N)) laws_heldSlotS.A N (bodyOf Tryz.f64) Tryz.f64.results.toList laws_heldSlotS.sg x = laws_heldSlotS.B N (fun z => laws_heldSlotS.a0 N N z) x.1 x.2.1 := by kernel_rfl
  have e0 : (fun z => laws_heldSlotS.a0 N N z) = laws_heldSlotS.L0 N N := funext fun z => laws_heldSlotS.r0 N N z
  rw [h, e0]
  try rfl
noncomputable def laws_heldSlotS.sm (N : Nat) : Sm D := (⟨laws_heldSlotS.sg, fun (x : (List (ImplSlot)) × Int × Unit) => laws_heldSlotS N x.1 x.2.1⟩ : Sm D)
theorem laws_heldSlotS.sound (N : Nat) : Sound cx Tryz.prog gam 64 (laws_heldSlotS.sm N) := fn_sound (A := laws_heldSlotS.A) (Φ := (look (laws_heldSlotS.phis N))) pok (G := gam) ΦOk.nil mixed N Tryz.func64 (c := (bodyOf Tryz.f64)) (by kernel_rfl) laws_heldSlotS.sg (by kernel_rfl) (by kernel_rfl) (by kernel_rfl) (laws_heldSlotS.run N)

@[reducible] def laws_heldValueS.sg : Sg := { ms := [{ k := (.sl (.st 127)), fl := [none] }, { k := (.int .i64) }], keep := [false, false], rs := [{ k := (.int .i64) }] }
@[reducible] def laws_heldValueS.lvL0 : Lv := { id := 0, slots := [0, 1, 5], ms := [{ k := (.sl (.st 127)), fl := [none] }, { k := (.int .i64) }, { k := (.int .i64) }] }
noncomputable def laws_heldValueS.A : Ann := { dp := fun d => isIn [] d, lp := look [(0, laws_heldValueS.lvL0)], jn := look [], pins := [], nt := 41 }
noncomputable def laws_heldValueS.phis (N : Nat) : List (Nat × Sm D) := [(108, laws_markText.sm N)]
noncomputable def laws_heldValueS.a0 (N : Nat) (n : Nat) (y : (List (ImplValue)) × Int × Int × Unit) : Option (Int × Unit) := loopAt cx (look (laws_heldValueS.phis N)) laws_heldValueS.A N n (encL cx laws_heldValueS.lvL0.ms y).1 (encL cx laws_heldValueS.lvL0.ms y).2 (bodyOf Tryz.f65) 0 (Kfin cx laws_heldValueS.A laws_heldValueS.sg Tryz.f65.results.toList) [1, 0, 1, 1] []
theorem laws_heldValueS.r0 (N : Nat) : ∀ (n : Nat) (y : (List (ImplValue)) × Int × Int × Unit), laws_heldValueS.a0 N n y = laws_heldValueS.L0 N n y
  | 0, y => by kernel_rfl
  | n + 1, y => by
    have h : laws_heldValueS.a0 N (n + 1) y = laws_heldValueS.B0 N (fun z => laws_heldValueS.a0 N n z) y := by kernel_rfl
    have e : (fun z => laws_heldValueS.a0 N n z) = laws_heldValueS.L0 N n := funext fun z => laws_heldValueS.r0 N n z
    rw [h]
    try rw [e]
    first | done | rfl
theorem laws_heldValueS.run (N : Nat) (x : (List (ImplValue)) × Int × Unit) : runF cx (look (laws_heldValueS.phis N)) laws_heldValueS.A N (bodyOf Tryz.f65) Tryz.f65.results.toList laws_heldValueS.sg x = laws_heldValueS N x.1 x.2.1 := by
  have h : runF cx (look (laws_heldValueS.phis N)) laws_heldValueS.A N (bodyOf Tryz.f65) Tryz.f65.results.toList laws_heldValueS.sg x = laws_heldValueS.B N (fun z => laws_heldValueS.a0 N N z) x.1 x.2.1 := by kernel_rfl
  have e0 : (fun z => laws_heldValueS.a0 N N z) = laws_heldValueS.L0 N N := funext fun z => laws_heldValueS.r0 N N z
  rw [h, e0]
  try rfl
noncomputable def laws_heldValueS.sm (N : Nat) : Sm D := (⟨laws_heldValueS.sg, fun (x : (List (ImplValue)) × Int × Unit) => laws_heldValueS N x.1 x.2.1⟩ : Sm D)
theorem laws_heldValueS.sound (N : Nat) : Sound cx Tryz.prog gam 65 (laws_heldValueS.sm N) := fn_sound (A := laws_heldValueS.A) (Φ := (look (laws_heldValueS.phis N))) pok (G := gam) (ΦOk.cons (laws_markText.sound N) (fnOk_of (f := 108) (by kernel_rfl)) ΦOk.nil) mixed N Tryz.func65 (c := (bodyOf Tryz.f65)) (by kernel_rfl) laws_heldValueS.sg (by kernel_rfl) (by kernel_rfl) (by kernel_rfl) (laws_heldValueS.run N)

end
end Go.Ev
