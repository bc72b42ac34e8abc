/- Each function that the law reaches does what its plain form says; no condition beyond the table of the library. -/
import Derived.Test.YtadoojpcjfglgaaGreatDoorEvT2
set_option linter.all false
set_option linter.unusedVariables false
set_option linter.unusedSimpArgs false
set_option maxRecDepth 100000
set_option maxHeartbeats 0
namespace Go.Ev
noncomputable section
open Go.Proofs
@[reducible] def laws_toSlot.sg : Sg := { ms := [{ k := (.st 125) }], keep := [false], rs := [{ k := (.st 125) }] }
noncomputable def laws_toSlot.A : Ann := { dp := fun d => isIn [] d, lp := look [], jn := look [], pins := [], nt := 11 }
noncomputable def laws_toSlot.phis (N : Nat) : List (Nat × Sm D) := []
theorem laws_toSlot.run (N : Nat) (x : ImplSlot × Unit) : runF cx (look (laws_toSlot.phis N)) laws_toSlot.A N (bodyOf Tryz.f141) Tryz.f141.results.toList laws_toSlot.sg x = laws_toSlot N x.1 := by
  have h : runF cx (look (laws_toSlot.phis N)) laws_toSlot.A N (bodyOf Tryz.f141) Tryz.f141.results.toList laws_toSlot.sg x = laws_toSlot.B N x.1 := by kernel_rfl
  rw [h]
  try rfl
noncomputable def laws_toSlot.sm (N : Nat) : Sm D := (⟨laws_toSlot.sg, fun (x : ImplSlot × Unit) => laws_toSlot N x.1⟩ : Sm D)
theorem laws_toSlot.sound (N : Nat) : Sound cx Tryz.prog gam 141 (laws_toSlot.sm N) := fn_sound (A := laws_toSlot.A) (Φ := (look (laws_toSlot.phis N))) pok (G := gam) ΦOk.nil mixed N Tryz.func141 (c := (bodyOf Tryz.f141)) (by kernel_rfl) laws_toSlot.sg (by kernel_rfl) (by kernel_rfl) (by kernel_rfl) (laws_toSlot.run N)

@[reducible] def laws_toSlotS.sg : Sg := { ms := [{ k := (.sl (.st 125)), fl := [none] }], keep := [false], rs := [{ k := (.sl (.st 125)), fl := [some (false, 411)] }] }
@[reducible] def laws_toSlotS.lvL0 : Lv := { id := 0, slots := [0, 3, 4], ms := [{ k := (.sl (.st 125)), fl := [none] }, { k := (.sl (.st 125)), fl := [some (false, 620)] }, { k := (.int .i64) }] }
noncomputable def laws_toSlotS.A : Ann := { dp := fun d => isIn [] d, lp := look [(0, laws_toSlotS.lvL0)], jn := look [], pins := [], nt := 23 }
noncomputable def laws_toSlotS.phis (N : Nat) : List (Nat × Sm D) := [(141, laws_toSlot.sm N)]
noncomputable def laws_toSlotS.a0 (N : Nat) (n : Nat) (y : (List (ImplSlot)) × (List (ImplSlot)) × Int × Unit) : Option ((List (ImplSlot)) × Unit) := loopAt cx (look (laws_toSlotS.phis N)) laws_toSlotS.A N n (encL cx laws_toSlotS.lvL0.ms y).1 (encL cx laws_toSlotS.lvL0.ms y).2 (bodyOf Tryz.f115) 0 (Kfin cx laws_toSlotS.A laws_toSlotS.sg Tryz.f115.results.toList) [1, 1, 0, 1, 1] []
theorem laws_toSlotS.r0 (N : Nat) : ∀ (n : Nat) (y : (List (ImplSlot)) × (List (ImplSlot)) × Int × Unit), laws_toSlotS.a0 N n y = laws_toSlotS.L0 N n y
  | 0, y => by kernel_rfl
  | n + 1, y => by
    have h : laws_toSlotS.a0 N (n + 1) y = laws_toSlotS.B0 N (fun z => laws_toSlotS.a0 N n z) y := by kernel_rfl
    have e : (fun z => laws_toSlotS.a0 N n z) = laws_toSlotS.L0 N n := funext fun z => laws_toSlotS.r0 N n z
    rw [h]
    try rw [e]
    first | done | rfl
theorem laws_toSlotS.run (N : Nat) (x : (List (ImplSlot)) × Unit) : runF cx (look (laws_toSlotS.phis N)) laws_toSlotS.A N (bodyOf Tryz.f115) Tryz.f115.results.toList laws_toSlotS.sg x = laws_toSlotS N x.1 := by
  have h : runF cx (look (laws_toSlotS.phis N)) laws_toSlotS.A N (bodyOf Tryz.f115) Tryz.f115.results.toList laws_toSlotS.sg x = laws_toSlotS.B N (fun z => laws_toSlotS.a0 N N z) x.1 := by kernel_rfl
  have e0 : (fun z => laws_toSlotS.a0 N N z) = laws_toSlotS.L0 N N := funext fun z => laws_toSlotS.r0 N N z
  rw [h, e0]
  try rfl
noncomputable def laws_toSlotS.sm (N : Nat) : Sm D := (⟨laws_toSlotS.sg, fun (x : (List (ImplSlot)) × Unit) => laws_toSlotS N x.1⟩ : Sm D)
theorem laws_toSlotS.sound (N : Nat) : Sound cx Tryz.prog gam 115 (laws_toSlotS.sm N) := fn_sound (A := laws_toSlotS.A) (Φ := (look (laws_toSlotS.phis N))) pok (G := gam) (ΦOk.cons (laws_toSlot.sound N) (fnOk_of (f := 141) (by kernel_rfl)) ΦOk.nil) mixed N Tryz.func115 (c := (bodyOf Tryz.f115)) (by kernel_rfl) laws_toSlotS.sg (by kernel_rfl) (by kernel_rfl) (by kernel_rfl) (laws_toSlotS.run N)

@[reducible] def laws_toValue.sg : Sg := { ms := [{ k := (.st 127) }], keep := [false], rs := [{ k := (.st 127) }] }
noncomputable def laws_toValue.A : Ann := { dp := fun d => isIn [] d, lp := look [], jn := look [], pins := [], nt := 14 }
noncomputable def laws_toValue.phis (N : Nat) : List (Nat × Sm D) := []
theorem laws_toValue.run (N : Nat) (x : ImplValue × Unit) : runF cx (look (laws_toValue.phis N)) laws_toValue.A N (bodyOf Tryz.f142) Tryz.f142.results.toList laws_toValue.sg x = laws_toValue N x.1 := by
  have h : runF cx (look (laws_toValue.phis N)) laws_toValue.A N (bodyOf Tryz.f142) Tryz.f142.results.toList laws_toValue.sg x = laws_toValue.B N x.1 := by kernel_rfl
  rw [h]
  try rfl
noncomputable def laws_toValue.sm (N : Nat) : Sm D := (⟨laws_toValue.sg, fun (x : ImplValue × Unit) => laws_toValue N x.1⟩ : Sm D)
theorem laws_toValue.sound (N : Nat) : Sound cx Tryz.prog gam 142 (laws_toValue.sm N) := fn_sound (A := laws_toValue.A) (Φ := (look (laws_toValue.phis N))) pok (G := gam) ΦOk.nil mixed N Tryz.func142 (c := (bodyOf Tryz.f142)) (by kernel_rfl) laws_toValue.sg (by kernel_rfl) (by kernel_rfl) (by kernel_rfl) (laws_toValue.run N)

@[reducible] def laws_toValueS.sg : Sg := { ms := [{ k := (.sl (.st 127)), fl := [none] }], keep := [false], rs := [{ k := (.sl (.st 127)), fl := [some (false, 411)] }] }
@[reducible] def laws_toValueS.lvL0 : Lv := { id := 0, slots := [0, 3, 4], ms := [{ k := (.sl (.st 127)), fl := [none] }, { k := (.sl (.st 127)), fl := [some (false, 620)] }, { k := (.int .i64) }] }
noncomputable def laws_toValueS.A : Ann := { dp := fun d => isIn [] d, lp := look [(0, laws_toValueS.lvL0)], jn := look [], pins := [], nt := 23 }
noncomputable def laws_toValueS.phis (N : Nat) : List (Nat × Sm D) := [(142, laws_toValue.sm N)]
noncomputable def laws_toValueS.a0 (N : Nat) (n : Nat) (y : (List (ImplValue)) × (List (ImplValue)) × Int × Unit) : Option ((List (ImplValue)) × Unit) := loopAt cx (look (laws_toValueS.phis N)) laws_toValueS.A N n (encL cx laws_toValueS.lvL0.ms y).1 (encL cx laws_toValueS.lvL0.ms y).2 (bodyOf Tryz.f116) 0 (Kfin cx laws_toValueS.A laws_toValueS.sg Tryz.f116.results.toList) [1, 1, 0, 1, 1] []
theorem laws_toValueS.r0 (N : Nat) : ∀ (n : Nat) (y : (List (ImplValue)) × (List (ImplValue)) × Int × Unit), laws_toValueS.a0 N n y = laws_toValueS.L0 N n y
  | 0, y => by kernel_rfl
  | n + 1, y => by
    have h : laws_toValueS.a0 N (n + 1) y = laws_toValueS.B0 N (fun z => laws_toValueS.a0 N n z) y := by kernel_rfl
    have e : (fun z => laws_toValueS.a0 N n z) = laws_toValueS.L0 N n := funext fun z => laws_toValueS.r0 N n z
    rw [h]
    try rw [e]
    first | done | rfl
theorem laws_toValueS.run (N : Nat) (x : (List (ImplValue)) × Unit) : runF cx (look (laws_toValueS.phis N)) laws_toValueS.A N (bodyOf Tryz.f116) Tryz.f116.results.toList laws_toValueS.sg x = laws_toValueS N x.1 := by
  have h : runF cx (look (laws_toValueS.phis N)) laws_toValueS.A N (bodyOf Tryz.f116) Tryz.f116.results.toList laws_toValueS.sg x = laws_toValueS.B N (fun z => laws_toValueS.a0 N N z) x.1 := by kernel_rfl
  have e0 : (fun z => laws_toValueS.a0 N N z) = laws_toValueS.L0 N N := funext fun z => laws_toValueS.r0 N N z
  rw [h, e0]
  try rfl
noncomputable def laws_toValueS.sm (N : Nat) : Sm D := (⟨laws_toValueS.sg, fun (x : (List (ImplValue)) × Unit) => laws_toValueS N x.1⟩ : Sm D)
theorem laws_toValueS.sound (N : Nat) : Sound cx Tryz.prog gam 116 (laws_toValueS.sm N) := fn_sound (A := laws_toValueS.A) (Φ := (look (laws_toValueS.phis N))) pok (G := gam) (ΦOk.cons (laws_toValue.sound N) (fnOk_of (f := 142) (by kernel_rfl)) ΦOk.nil) mixed N Tryz.func116 (c := (bodyOf Tryz.f116)) (by kernel_rfl) laws_toValueS.sg (by kernel_rfl) (by kernel_rfl) (by kernel_rfl) (laws_toValueS.run N)

@[reducible] def laws_toCell.sg : Sg := { ms := [{ k := (.st 92) }], keep := [false], rs := [{ k := (.st 80), fl := [some (false, 411), some (false, 412)] }] }
noncomputable def laws_toCell.A : Ann := { dp := fun d => isIn [] d, lp := look [], jn := look [], pins := [], nt := 13 }
noncomputable def laws_toCell.phis (N : Nat) : List (Nat × Sm D) := [(115, laws_toSlotS.sm N), (116, laws_toValueS.sm N)]
theorem laws_toCell.run (N : Nat) (x : LawsCell × Unit) : runF cx (look (laws_toCell.phis N)) laws_toCell.A N (bodyOf Tryz.f71) Tryz.f71.results.toList laws_toCell.sg x = laws_toCell N x.1 := by
  have h : runF cx (look (laws_toCell.phis N)) laws_toCell.A N (bodyOf Tryz.f71) Tryz.f71.results.toList laws_toCell.sg x = laws_toCell.B N x.1 := by kernel_rfl
  rw [h]
  try rfl
noncomputable def laws_toCell.sm (N : Nat) : Sm D := (⟨laws_toCell.sg, fun (x : LawsCell × Unit) => laws_toCell N x.1⟩ : Sm D)
theorem laws_toCell.sound (N : Nat) : Sound cx Tryz.prog gam 71 (laws_toCell.sm N) := fn_sound (A := laws_toCell.A) (Φ := (look (laws_toCell.phis N))) pok (G := gam) (ΦOk.cons (laws_toSlotS.sound N) (fnOk_of (f := 115) (by kernel_rfl)) (ΦOk.cons (laws_toValueS.sound N) (fnOk_of (f := 116) (by kernel_rfl)) ΦOk.nil)) mixed N Tryz.func71 (c := (bodyOf Tryz.f71)) (by kernel_rfl) laws_toCell.sg (by kernel_rfl) (by kernel_rfl) (by kernel_rfl) (laws_toCell.run N)

@[reducible] def laws_toCellS.sg : Sg := { ms := [{ k := (.sl (.st 92)), fl := [none] }], keep := [false], rs := [{ k := (.sl (.st 80)), fl := [some (true, 411)] }] }
@[reducible] def laws_toCellS.lvL0 : Lv := { id := 0, slots := [0, 3, 4], ms := [{ k := (.sl (.st 92)), fl := [none] }, { k := (.sl (.st 80)), fl := [some (true, 620)] }, { k := (.int .i64) }] }
noncomputable def laws_toCellS.A : Ann := { dp := fun _ => true, lp := look [(0, laws_toCellS.lvL0)], jn := look [], pins := [], nt := 23 }
noncomputable def laws_toCellS.phis (N : Nat) : List (Nat × Sm D) := [(71, laws_toCell.sm N)]
noncomputable def laws_toCellS.a0 (N : Nat) (n : Nat) (y : (List (LawsCell)) × (List (ImplCell)) × Int × Unit) : Option ((List (ImplCell)) × Unit) := loopAt cx (look (laws_toCellS.phis N)) laws_toCellS.A N n (encL cx laws_toCellS.lvL0.ms y).1 (encL cx laws_toCellS.lvL0.ms y).2 (bodyOf Tryz.f29) 0 (Kfin cx laws_toCellS.A laws_toCellS.sg Tryz.f29.results.toList) [1, 1, 0, 1, 1] []
theorem laws_toCellS.r0 (N : Nat) : ∀ (n : Nat) (y : (List (LawsCell)) × (List (ImplCell)) × Int × Unit), laws_toCellS.a0 N n y = laws_toCellS.L0 N n y
  | 0, y => by kernel_rfl
  | n + 1, y => by
    have h : laws_toCellS.a0 N (n + 1) y = laws_toCellS.B0 N (fun z => laws_toCellS.a0 N n z) y := by kernel_rfl
    have e : (fun z => laws_toCellS.a0 N n z) = laws_toCellS.L0 N n := funext fun z => laws_toCellS.r0 N n z
    rw [h]
    try rw [e]
    first | done | rfl
theorem laws_toCellS.run (N : Nat) (x : (List (LawsCell)) × Unit) : runF cx (look (laws_toCellS.phis N)) laws_toCellS.A N (bodyOf Tryz.f29) Tryz.f29.results.toList laws_toCellS.sg x = laws_toCellS N x.1 := by
  have h : runF cx (look (laws_toCellS.phis N)) laws_toCellS.A N (bodyOf Tryz.f29) Tryz.f29.results.toList laws_toCellS.sg x = laws_toCellS.B N (fun z => laws_toCellS.a0 N N z) x.1 := by kernel_rfl
  have e0 : (fun z => laws_toCellS.a0 N N z) = laws_toCellS.L0 N N := funext fun z => laws_toCellS.r0 N N z
  rw [h, e0]
  try rfl
noncomputable def laws_toCellS.sm (N : Nat) : Sm D := (⟨laws_toCellS.sg, fun (x : (List (LawsCell)) × Unit) => laws_toCellS N x.1⟩ : Sm D)
theorem laws_toCellS.sound (N : Nat) : Sound cx Tryz.prog gam 29 (laws_toCellS.sm N) := fn_sound (A := laws_toCellS.A) (Φ := (look (laws_toCellS.phis N))) pok (G := gam) (ΦOk.cons (laws_toCell.sound N) (fnOk_of (f := 71) (by kernel_rfl)) ΦOk.nil) mixed N Tryz.func29 (c := (bodyOf Tryz.f29)) (by kernel_rfl) laws_toCellS.sg (by kernel_rfl) (by kernel_rfl) (by kernel_rfl) (laws_toCellS.run N)

@[reducible] def laws_toStep.sg : Sg := { ms := [{ k := (.st 162) }], keep := [false], rs := [{ k := (.st 141) }] }
noncomputable def laws_toStep.A : Ann := { dp := fun d => isIn [] d, lp := look [], jn := look [], pins := [], nt := 15 }
noncomputable def laws_toStep.phis (N : Nat) : List (Nat × Sm D) := [(142, laws_toValue.sm N)]
theorem laws_toStep.run (N : Nat) (x : LawsStep × Unit) : runF cx (look (laws_toStep.phis N)) laws_toStep.A N (bodyOf Tryz.f143) Tryz.f143.results.toList laws_toStep.sg x = laws_toStep N x.1 := by
  have h : runF cx (look (laws_toStep.phis N)) laws_toStep.A N (bodyOf Tryz.f143) Tryz.f143.results.toList laws_toStep.sg x = laws_toStep.B N x.1 := by kernel_rfl
  rw [h]
  try rfl
noncomputable def laws_toStep.sm (N : Nat) : Sm D := (⟨laws_toStep.sg, fun (x : LawsStep × Unit) => laws_toStep N x.1⟩ : Sm D)
theorem laws_toStep.sound (N : Nat) : Sound cx Tryz.prog gam 143 (laws_toStep.sm N) := fn_sound (A := laws_toStep.A) (Φ := (look (laws_toStep.phis N))) pok (G := gam) (ΦOk.cons (laws_toValue.sound N) (fnOk_of (f := 142) (by kernel_rfl)) ΦOk.nil) mixed N Tryz.func143 (c := (bodyOf Tryz.f143)) (by kernel_rfl) laws_toStep.sg (by kernel_rfl) (by kernel_rfl) (by kernel_rfl) (laws_toStep.run N)

@[reducible] def laws_toStepS.sg : Sg := { ms := [{ k := (.sl (.st 162)), fl := [none] }], keep := [false], rs := [{ k := (.sl (.st 141)), fl := [some (false, 411)] }] }
@[reducible] def laws_toStepS.lvL0 : Lv := { id := 0, slots := [0, 3, 4], ms := [{ k := (.sl (.st 162)), fl := [none] }, { k := (.sl (.st 141)), fl := [some (false, 620)] }, { k := (.int .i64) }] }
noncomputable def laws_toStepS.A : Ann := { dp := fun d => isIn [] d, lp := look [(0, laws_toStepS.lvL0)], jn := look [], pins := [], nt := 23 }
noncomputable def laws_toStepS.phis (N : Nat) : List (Nat × Sm D) := [(143, laws_toStep.sm N)]
noncomputable def laws_toStepS.a0 (N : Nat) (n : Nat) (y : (List (LawsStep)) × (List (ImplStep)) × Int × Unit) : Option ((List (ImplStep)) × Unit) := loopAt cx (look (laws_toStepS.phis N)) laws_toStepS.A N n (encL cx laws_toStepS.lvL0.ms y).1 (encL cx laws_toStepS.lvL0.ms y).2 (bodyOf Tryz.f117) 0 (Kfin cx laws_toStepS.A laws_toStepS.sg Tryz.f117.results.toList) [1, 1, 0, 1, 1] []
theorem laws_toStepS.r0 (N : Nat) : ∀ (n : Nat) (y : (List (LawsStep)) × (List (ImplStep)) × Int × Unit), laws_toStepS.a0 N n y = laws_toStepS.L0 N n y
  | 0, y => by kernel_rfl
  | n + 1, y => by
    have h : laws_toStepS.a0 N (n + 1) y = laws_toStepS.B0 N (fun z => laws_toStepS.a0 N n z) y := by kernel_rfl
    have e : (fun z => laws_toStepS.a0 N n z) = laws_toStepS.L0 N n := funext fun z => laws_toStepS.r0 N n z
    rw [h]
    try rw [e]
    first | done | rfl
theorem laws_toStepS.run (N : Nat) (x : (List (LawsStep)) × Unit) : runF cx (look (laws_toStepS.phis N)) laws_toStepS.A N (bodyOf Tryz.f117) Tryz.f117.results.toList laws_toStepS.sg x = laws_toStepS N x.1 := by
  have h : runF cx (look (laws_toStepS.phis N)) laws_toStepS.A N (bodyOf Tryz.f117) Tryz.f117.results.toList laws_toStepS.sg x = laws_toStepS.B N (fun z => laws_toStepS.a0 N N z) x.1 := by kernel_rfl
  have e0 : (fun z => laws_toStepS.a0 N N z) = laws_toStepS.L0 N N := funext fun z => laws_toStepS.r0 N N z
  rw [h, e0]
  try rfl
noncomputable def laws_toStepS.sm (N : Nat) : Sm D := (⟨laws_toStepS.sg, fun (x : (List (LawsStep)) × Unit) => laws_toStepS N x.1⟩ : Sm D)
theorem laws_toStepS.sound (N : Nat) : Sound cx Tryz.prog gam 117 (laws_toStepS.sm N) := fn_sound (A := laws_toStepS.A) (Φ := (look (laws_toStepS.phis N))) pok (G := gam) (ΦOk.cons (laws_toStep.sound N) (fnOk_of (f := 143) (by kernel_rfl)) ΦOk.nil) mixed N Tryz.func117 (c := (bodyOf Tryz.f117)) (by kernel_rfl) laws_toStepS.sg (by kernel_rfl) (by kernel_rfl) (by kernel_rfl) (laws_toStepS.run N)

@[reducible] def laws_toUpdate.sg : Sg := { ms := [{ k := (.st 96) }], keep := [false], rs := [{ k := (.st 100), fl := [some (false, 411), none, some (false, 413), none] }] }
noncomputable def laws_toUpdate.A : Ann := { dp := fun d => isIn [] d, lp := look [], jn := look [], pins := [], nt := 19 }
noncomputable def laws_toUpdate.phis (N : Nat) : List (Nat × Sm D) := [(115, laws_toSlotS.sm N), (117, laws_toStepS.sm N)]
theorem laws_toUpdate.run (N : Nat) (x : LawsUpdate × Unit) : runF cx (look (laws_toUpdate.phis N)) laws_toUpdate.A N (bodyOf Tryz.f72) Tryz.f72.results.toList laws_toUpdate.sg x = laws_toUpdate N x.1 := by
  have h : runF cx (look (laws_toUpdate.phis N)) laws_toUpdate.A N (bodyOf Tryz.f72) Tryz.f72.results.toList laws_toUpdate.sg x = laws_toUpdate.B N x.1 := by kernel_rfl
  rw [h]
  try rfl
noncomputable def laws_toUpdate.sm (N : Nat) : Sm D := (⟨laws_toUpdate.sg, fun (x : LawsUpdate × Unit) => laws_toUpdate N x.1⟩ : Sm D)
theorem laws_toUpdate.sound (N : Nat) : Sound cx Tryz.prog gam 72 (laws_toUpdate.sm N) := fn_sound (A := laws_toUpdate.A) (Φ := (look (laws_toUpdate.phis N))) pok (G := gam) (ΦOk.cons (laws_toSlotS.sound N) (fnOk_of (f := 115) (by kernel_rfl)) (ΦOk.cons (laws_toStepS.sound N) (fnOk_of (f := 117) (by kernel_rfl)) ΦOk.nil)) mixed N Tryz.func72 (c := (bodyOf Tryz.f72)) (by kernel_rfl) laws_toUpdate.sg (by kernel_rfl) (by kernel_rfl) (by kernel_rfl) (laws_toUpdate.run N)

@[reducible] def laws_toUpdateS.sg : Sg := { ms := [{ k := (.sl (.st 96)), fl := [none] }], keep := [false], rs := [{ k := (.sl (.st 100)), fl := [some (true, 411)] }] }
@[reducible] def laws_toUpdateS.lvL0 : Lv := { id := 0, slots := [0, 3, 4], ms := [{ k := (.sl (.st 96)), fl := [none] }, { k := (.sl (.st 100)), fl := [some (true, 620)] }, { k := (.int .i64) }] }
noncomputable def laws_toUpdateS.A : Ann := { dp := fun _ => true, lp := look [(0, laws_toUpdateS.lvL0)], jn := look [], pins := [], nt := 23 }
noncomputable def laws_toUpdateS.phis (N : Nat) : List (Nat × Sm D) := [(72, laws_toUpdate.sm N)]
noncomputable def laws_toUpdateS.a0 (N : Nat) (n : Nat) (y : (List (LawsUpdate)) × (List (ImplUpdate)) × Int × Unit) : Option ((List (ImplUpdate)) × Unit) := loopAt cx (look (laws_toUpdateS.phis N)) laws_toUpdateS.A N n (encL cx laws_toUpdateS.lvL0.ms y).1 (encL cx laws_toUpdateS.lvL0.ms y).2 (bodyOf Tryz.f30) 0 (Kfin cx laws_toUpdateS.A laws_toUpdateS.sg Tryz.f30.results.toList) [1, 1, 0, 1, 1] []
theorem laws_toUpdateS.r0 (N : Nat) : ∀ (n : Nat) (y : (List (LawsUpdate)) × (List (ImplUpdate)) × Int × Unit), laws_toUpdateS.a0 N n y = laws_toUpdateS.L0 N n y
  | 0, y => by kernel_rfl
  | n + 1, y => by
    have h : laws_toUpdateS.a0 N (n + 1) y = laws_toUpdateS.B0 N (fun z => laws_toUpdateS.a0 N n z) y := by kernel_rfl
    have e : (fun z => laws_toUpdateS.a0 N n z) = laws_toUpdateS.L0 N n := funext fun z => laws_toUpdateS.r0 N n z
    rw [h]
    try rw [e]
    first | done | rfl
theorem laws_toUpdateS.run (N : Nat) (x : (List (LawsUpdate)) × Unit) : runF cx (look (laws_toUpdateS.phis N)) laws_toUpdateS.A N (bodyOf Tryz.f30) Tryz.f30.results.toList laws_toUpdateS.sg x = laws_toUpdateS N x.1 := by
  have h : runF cx (look (laws_toUpdateS.phis N)) laws_toUpdateS.A N (bodyOf Tryz.f30) Tryz.f30.results.toList laws_toUpdateS.sg x = laws_toUpdateS.B N (fun z => laws_toUpdateS.a0 N N z) x.1 := by kernel_rfl
  have e0 : (fun z => laws_toUpdateS.a0 N N z) = laws_toUpdateS.L0 N N := funext fun z => laws_toUpdateS.r0 N N z
  rw [h, e0]
  try rfl
noncomputable def laws_toUpdateS.sm (N : Nat) : Sm D := (⟨laws_toUpdateS.sg, fun (x : (List (LawsUpdate)) × Unit) => laws_toUpdateS N x.1⟩ : Sm D)
theorem laws_toUpdateS.sound (N : Nat) : Sound cx Tryz.prog gam 30 (laws_toUpdateS.sm N) := fn_sound (A := laws_toUpdateS.A) (Φ := (look (laws_toUpdateS.phis N))) pok (G := gam) (ΦOk.cons (laws_toUpdate.sound N) (fnOk_of (f := 72) (by kernel_rfl)) ΦOk.nil) mixed N Tryz.func30 (c := (bodyOf Tryz.f30)) (by kernel_rfl) laws_toUpdateS.sg (by kernel_rfl) (by kernel_rfl) (by kernel_rfl) (laws_toUpdateS.run N)

@[reducible] def laws_toLine.sg : Sg := { ms := [{ k := (.st 38) }], keep := [false], rs := [{ k := (.st 25), fl := [some (true, 411), some (true, 412)] }] }
noncomputable def laws_toLine.A : Ann := { dp := fun d => isIn [] d, lp := look [], jn := look [], pins := [], nt := 13 }
noncomputable def laws_toLine.phis (N : Nat) : List (Nat × Sm D) := [(29, laws_toCellS.sm N), (30, laws_toUpdateS.sm N)]
theorem laws_toLine.run (N : Nat) (x : LawsLine × Unit) : runF cx (look (laws_toLine.phis N)) laws_toLine.A N (bodyOf Tryz.f20) Tryz.f20.results.toList laws_toLine.sg x = laws_toLine N x.1 := by
  have h : runF cx (look (laws_toLine.phis N)) laws_toLine.A N (bodyOf Tryz.f20) Tryz.f20.results.toList laws_toLine.sg x = laws_toLine.B N x.1 := by kernel_rfl
  rw [h]
  try rfl
noncomputable def laws_toLine.sm (N : Nat) : Sm D := (⟨laws_toLine.sg, fun (x : LawsLine × Unit) => laws_toLine N x.1⟩ : Sm D)
theorem laws_toLine.sound (N : Nat) : Sound cx Tryz.prog gam 20 (laws_toLine.sm N) := fn_sound (A := laws_toLine.A) (Φ := (look (laws_toLine.phis N))) pok (G := gam) (ΦOk.cons (laws_toCellS.sound N) (fnOk_of (f := 29) (by kernel_rfl)) (ΦOk.cons (laws_toUpdateS.sound N) (fnOk_of (f := 30) (by kernel_rfl)) ΦOk.nil)) mixed N Tryz.func20 (c := (bodyOf Tryz.f20)) (by kernel_rfl) laws_toLine.sg (by kernel_rfl) (by kernel_rfl) (by kernel_rfl) (laws_toLine.run N)

@[reducible] def laws_eqSlot.sg : Sg := { ms := [{ k := (.st 125) }, { k := (.st 125) }], keep := [false, false], rs := [{ k := .bool }] }
noncomputable def laws_eqSlot.A : Ann := { dp := fun d => isIn [] d, lp := look [], jn := look [], pins := [], nt := 15 }
noncomputable def laws_eqSlot.phis (N : Nat) : List (Nat × Sm D) := []
theorem laws_eqSlot.run (N : Nat) (x : ImplSlot × ImplSlot × Unit) : runF cx (look (laws_eqSlot.phis N)) laws_eqSlot.A N (bodyOf Tryz.f134) Tryz.f134.results.toList laws_eqSlot.sg x = laws_eqSlot N x.1 x.2.1 := by
  have h : runF cx (look (laws_eqSlot.phis N)) laws_eqSlot.A N (bodyOf Tryz.f134) Tryz.f134.results.toList laws_eqSlot.sg x = laws_eqSlot.B N x.1 x.2.1 := by kernel_rfl
  rw [h]
  try rfl
noncomputable def laws_eqSlot.sm (N : Nat) : Sm D := (⟨laws_eqSlot.sg, fun (x : ImplSlot × ImplSlot × Unit) => laws_eqSlot N x.1 x.2.1⟩ : Sm D)
theorem laws_eqSlot.sound (N : Nat) : Sound cx Tryz.prog gam 134 (laws_eqSlot.sm N) := fn_sound (A := laws_eqSlot.A) (Φ := (look (laws_eqSlot.phis N))) pok (G := gam) ΦOk.nil mixed N Tryz.func134 (c := (bodyOf Tryz.f134)) (by kernel_rfl) laws_eqSlot.sg (by kernel_rfl) (by kernel_rfl) (by kernel_rfl) (laws_eqSlot.run N)

@[reducible] def laws_eqSlotS.sg : Sg := { ms := [{ k := (.sl (.st 125)), fl := [none] }, { k := (.sl (.st 125)), fl := [none] }], keep := [false, false], rs := [{ k := .bool }] }
@[reducible] def laws_eqSlotS.lvL0 : Lv := { id := 0, slots := [0, 1, 5], ms := [{ k := (.sl (.st 125)), fl := [none] }, { k := (.sl (.st 125)), fl := [none] }, { k := (.int .i64) }] }
noncomputable def laws_eqSlotS.A : Ann := { dp := fun d => isIn [] d, lp := look [(0, laws_eqSlotS.lvL0)], jn := look [], pins := [], nt := 27 }
noncomputable def laws_eqSlotS.phis (N : Nat) : List (Nat × Sm D) := [(134, laws_eqSlot.sm N)]
noncomputable def laws_eqSlotS.a0 (N : Nat) (n : Nat) (y : (List (ImplSlot)) × (List (ImplSlot)) × Int × Unit) : Option (Bool × Unit) := loopAt cx (look (laws_eqSlotS.phis N)) laws_eqSlotS.A N n (encL cx laws_eqSlotS.lvL0.ms y).1 (encL cx laws_eqSlotS.lvL0.ms y).2 (bodyOf Tryz.f106) 0 (Kfin cx laws_eqSlotS.A laws_eqSlotS.sg Tryz.f106.results.toList) [1, 1, 0, 1, 1] []
theorem laws_eqSlotS.r0 (N : Nat) : ∀ (n : Nat) (y : (List (ImplSlot)) × (List (ImplSlot)) × Int × Unit), laws_eqSlotS.a0 N n y = laws_eqSlotS.L0 N n y
  | 0, y => by kernel_rfl
  | n + 1, y => by
    have h : laws_eqSlotS.a0 N (n + 1) y = laws_eqSlotS.B0 N (fun z => laws_eqSlotS.a0 N n z) y := by kernel_rfl
    have e : (fun z => laws_eqSlotS.a0 N n z) = laws_eqSlotS.L0 N n := funext fun z => laws_eqSlotS.r0 N n z
    rw [h]
    try rw [e]
    first | done | rfl
theorem laws_eqSlotS.run (N : Nat) (x : (List (ImplSlot)) × (List (ImplSlot)) × Unit) : runF cx (look (laws_eqSlotS.phis N)) laws_eqSlotS.A N (bodyOf Tryz.f106) Tryz.f106.results.toList laws_eqSlotS.sg x = laws_eqSlotS N x.1 x.2.1 := by
  have h : runF cx (look (laws_eqSlotS.phis N)) laws_eqSlotS.A N (bodyOf Tryz.f106) Tryz.f106.results.toList laws_eqSlotS.sg x = laws_eqSlotS.B N (fun z => laws_eqSlotS.a0 N N z) x.1 x.2.1 := by kernel_rfl
  have e0 : (fun z => laws_eqSlotS.a0 N N z) = laws_eqSlotS.L0 N N := funext fun z => laws_eqSlotS.r0 N N z
  rw [h, e0]
  try rfl
noncomputable def laws_eqSlotS.sm (N : Nat) : Sm D := (⟨laws_eqSlotS.sg, fun (x : (List (ImplSlot)) × (List (ImplSlot)) × Unit) => laws_eqSlotS N x.1 x.2.1⟩ : Sm D)
theorem laws_eqSlotS.sound (N : Nat) : Sound cx Tryz.prog gam 106 (laws_eqSlotS.sm N) := fn_sound (A := laws_eqSlotS.A) (Φ := (look (laws_eqSlotS.phis N))) pok (G := gam) (ΦOk.cons (laws_eqSlot.sound N) (fnOk_of (f := 134) (by kernel_rfl)) ΦOk.nil) mixed N Tryz.func106 (c := (bodyOf Tryz.f106)) (by kernel_rfl) laws_eqSlotS.sg (by kernel_rfl) (by kernel_rfl) (by kernel_rfl) (laws_eqSlotS.run N)

@[reducible] def laws_eqValue.sg : Sg := { ms := [{ k := (.st 127) }, { k := (.st 127) }], keep := [false, false], rs := [{ k := .bool }] }
noncomputable def laws_eqValue.A : Ann := { dp := fun d => isIn [] d, lp := look [], jn := look [], pins := [], nt := 20 }
noncomputable def laws_eqValue.phis (N : Nat) : List (Nat × Sm D) := []
theorem laws_eqValue.run (N : Nat) (x : ImplValue × ImplValue × Unit) : runF cx (look (laws_eqValue.phis N)) laws_eqValue.A N (bodyOf Tryz.f135) Tryz.f135.results.toList laws_eqValue.sg x = laws_eqValue N x.1 x.2.1 := by
  have h : runF cx (look (laws_eqValue.phis N)) laws_eqValue.A N (bodyOf Tryz.f135) Tryz.f135.results.toList laws_eqValue.sg x = laws_eqValue.B N x.1 x.2.1 := by kernel_rfl
  rw [h]
  try rfl
noncomputable def laws_eqValue.sm (N : Nat) : Sm D := (⟨laws_eqValue.sg, fun (x : ImplValue × ImplValue × Unit) => laws_eqValue N x.1 x.2.1⟩ : Sm D)
theorem laws_eqValue.sound (N : Nat) : Sound cx Tryz.prog gam 135 (laws_eqValue.sm N) := fn_sound (A := laws_eqValue.A) (Φ := (look (laws_eqValue.phis N))) pok (G := gam) ΦOk.nil mixed N Tryz.func135 (c := (bodyOf Tryz.f135)) (by kernel_rfl) laws_eqValue.sg (by kernel_rfl) (by kernel_rfl) (by kernel_rfl) (laws_eqValue.run N)

@[reducible] def laws_eqValueS.sg : Sg := { ms := [{ k := (.sl (.st 127)), fl := [none] }, { k := (.sl (.st 127)), fl := [none] }], keep := [false, false], rs := [{ k := .bool }] }
@[reducible] def laws_eqValueS.lvL0 : Lv := { id := 0, slots := [0, 1, 5], ms := [{ k := (.sl (.st 127)), fl := [none] }, { k := (.sl (.st 127)), fl := [none] }, { k := (.int .i64) }] }
noncomputable def laws_eqValueS.A : Ann := { dp := fun d => isIn [] d, lp := look [(0, laws_eqValueS.lvL0)], jn := look [], pins := [], nt := 27 }
noncomputable def laws_eqValueS.phis (N : Nat) : List (Nat × Sm D) := [(135, laws_eqValue.sm N)]
noncomputable def laws_eqValueS.a0 (N : Nat) (n : Nat) (y : (List (ImplValue)) × (List (ImplValue)) × Int × Unit) : Option (Bool × Unit) := loopAt cx (look (laws_eqValueS.phis N)) laws_eqValueS.A N n (encL cx laws_eqValueS.lvL0.ms y).1 (encL cx laws_eqValueS.lvL0.ms y).2 (bodyOf Tryz.f107) 0 (Kfin cx laws_eqValueS.A laws_eqValueS.sg Tryz.f107.results.toList) [1, 1, 0, 1, 1] []
theorem laws_eqValueS.r0 (N : Nat) : ∀ (n : Nat) (y : (List (ImplValue)) × (List (ImplValue)) × Int × Unit), laws_eqValueS.a0 N n y = laws_eqValueS.L0 N n y
  | 0, y => by kernel_rfl
  | n + 1, y => by
    have h : laws_eqValueS.a0 N (n + 1) y = laws_eqValueS.B0 N (fun z => laws_eqValueS.a0 N n z) y := by kernel_rfl
    have e : (fun z => laws_eqValueS.a0 N n z) = laws_eqValueS.L0 N n := funext fun z => laws_eqValueS.r0 N n z
    rw [h]
    try rw [e]
    first | done | rfl
theorem laws_eqValueS.run (N : Nat) (x : (List (ImplValue)) × (List (ImplValue)) × Unit) : runF cx (look (laws_eqValueS.phis N)) laws_eqValueS.A N (bodyOf Tryz.f107) Tryz.f107.results.toList laws_eqValueS.sg x = laws_eqValueS N x.1 x.2.1 := by
  have h : runF cx (look (laws_eqValueS.phis N)) laws_eqValueS.A N (bodyOf Tryz.f107) Tryz.f107.results.toList laws_eqValueS.sg x = laws_eqValueS.B N (fun z => laws_eqValueS.a0 N N z) x.1 x.2.1 := by kernel_rfl
  have e0 : (fun z => laws_eqValueS.a0 N N z) = laws_eqValueS.L0 N N := funext fun z => laws_eqValueS.r0 N N z
  rw [h, e0]
  try rfl
noncomputable def laws_eqValueS.sm (N : Nat) : Sm D := (⟨laws_eqValueS.sg, fun (x : (List (ImplValue)) × (List (ImplValue)) × Unit) => laws_eqValueS N x.1 x.2.1⟩ : Sm D)
theorem laws_eqValueS.sound (N : Nat) : Sound cx Tryz.prog gam 107 (laws_eqValueS.sm N) := fn_sound (A := laws_eqValueS.A) (Φ := (look (laws_eqValueS.phis N))) pok (G := gam) (ΦOk.cons (laws_eqValue.sound N) (fnOk_of (f := 135) (by kernel_rfl)) ΦOk.nil) mixed N Tryz.func107 (c := (bodyOf Tryz.f107)) (by kernel_rfl) laws_eqValueS.sg (by kernel_rfl) (by kernel_rfl) (by kernel_rfl) (laws_eqValueS.run N)

@[reducible] def laws_eqCell.sg : Sg := { ms := [{ k := (.st 80) }, { k := (.st 80) }], keep := [false, false], rs := [{ k := .bool }] }
noncomputable def laws_eqCell.A : Ann := { dp := fun d => isIn [] d, lp := look [], jn := look [], pins := [], nt := 17 }
noncomputable def laws_eqCell.phis (N : Nat) : List (Nat × Sm D) := [(106, laws_eqSlotS.sm N), (107, laws_eqValueS.sm N)]
theorem laws_eqCell.run (N : Nat) (x : ImplCell × ImplCell × Unit) : runF cx (look (laws_eqCell.phis N)) laws_eqCell.A N (bodyOf Tryz.f61) Tryz.f61.results.toList laws_eqCell.sg x = laws_eqCell N x.1 x.2.1 := by
  have h : runF cx (look (laws_eqCell.phis N)) laws_eqCell.A N (bodyOf Tryz.f61) Tryz.f61.results.toList laws_eqCell.sg x = laws_eqCell.B N x.1 x.2.1 := by kernel_rfl
  rw [h]
  try rfl
noncomputable def laws_eqCell.sm (N : Nat) : Sm D := (⟨laws_eqCell.sg, fun (x : ImplCell × ImplCell × Unit) => laws_eqCell N x.1 x.2.1⟩ : Sm D)
theorem laws_eqCell.sound (N : Nat) : Sound cx Tryz.prog gam 61 (laws_eqCell.sm N) := fn_sound (A := laws_eqCell.A) (Φ := (look (laws_eqCell.phis N))) pok (G := gam) (ΦOk.cons (laws_eqSlotS.sound N) (fnOk_of (f := 106) (by kernel_rfl)) (ΦOk.cons (laws_eqValueS.sound N) (fnOk_of (f := 107) (by kernel_rfl)) ΦOk.nil)) mixed N Tryz.func61 (c := (bodyOf Tryz.f61)) (by kernel_rfl) laws_eqCell.sg (by kernel_rfl) (by kernel_rfl) (by kernel_rfl) (laws_eqCell.run N)

@[reducible] def laws_eqCellS.sg : Sg := { ms := [{ k := (.sl (.st 80)), fl := [none] }, { k := (.sl (.st 80)), fl := [none] }], keep := [false, false], rs := [{ k := .bool }] }
@[reducible] def laws_eqCellS.lvL0 : Lv := { id := 0, slots := [0, 1, 5], ms := [{ k := (.sl (.st 80)), fl := [none] }, { k := (.sl (.st 80)), fl := [none] }, { k := (.int .i64) }] }
noncomputable def laws_eqCellS.A : Ann := { dp := fun d => isIn [] d, lp := look [(0, laws_eqCellS.lvL0)], jn := look [], pins := [], nt := 27 }
noncomputable def laws_eqCellS.phis (N : Nat) : List (Nat × Sm D) := [(61, laws_eqCell.sm N)]
noncomputable def laws_eqCellS.a0 (N : Nat) (n : Nat) (y : (List (ImplCell)) × (List (ImplCell)) × Int × Unit) : Option (Bool × Unit) := loopAt cx (look (laws_eqCellS.phis N)) laws_eqCellS.A N n (encL cx laws_eqCellS.lvL0.ms y).1 (encL cx laws_eqCellS.lvL0.ms y).2 (bodyOf Tryz.f21) 0 (Kfin cx laws_eqCellS.A laws_eqCellS.sg Tryz.f21.results.toList) [1, 1, 0, 1, 1] []
theorem laws_eqCellS.r0 (N : Nat) : ∀ (n : Nat) (y : (List (ImplCell)) × (List (ImplCell)) × Int × Unit), laws_eqCellS.a0 N n y = laws_eqCellS.L0 N n y
  | 0, y => by kernel_rfl
  | n + 1, y => by
    have h : laws_eqCellS.a0 N (n + 1) y = laws_eqCellS.B0 N (fun z => laws_eqCellS.a0 N n z) y := by kernel_rfl
    have e : (fun z => laws_eqCellS.a0 N n z) = laws_eqCellS.L0 N n := funext fun z => laws_eqCellS.r0 N n z
    rw [h]
    try rw [e]
    first | done | rfl
theorem laws_eqCellS.run (N : Nat) (x : (List (ImplCell)) × (List (ImplCell)) × Unit) : runF cx (look (laws_eqCellS.phis N)) laws_eqCellS.A N (bodyOf Tryz.f21) Tryz.f21.results.toList laws_eqCellS.sg x = laws_eqCellS N x.1 x.2.1 := by
  have h : runF cx (look (laws_eqCellS.phis N)) laws_eqCellS.A N (bodyOf Tryz.f21) Tryz.f21.results.toList laws_eqCellS.sg x = laws_eqCellS.B N (fun z => laws_eqCellS.a0 N N z) x.1 x.2.1 := by kernel_rfl
  have e0 : (fun z => laws_eqCellS.a0 N N z) = laws_eqCellS.L0 N N := funext fun z => laws_eqCellS.r0 N N z
  rw [h, e0]
  try rfl
noncomputable def laws_eqCellS.sm (N : Nat) : Sm D := (⟨laws_eqCellS.sg, fun (x : (List (ImplCell)) × (List (ImplCell)) × Unit) => laws_eqCellS N x.1 x.2.1⟩ : Sm D)
theorem laws_eqCellS.sound (N : Nat) : Sound cx Tryz.prog gam 21 (laws_eqCellS.sm N) := fn_sound (A := laws_eqCellS.A) (Φ := (look (laws_eqCellS.phis N))) pok (G := gam) (ΦOk.cons (laws_eqCell.sound N) (fnOk_of (f := 61) (by kernel_rfl)) ΦOk.nil) mixed N Tryz.func21 (c := (bodyOf Tryz.f21)) (by kernel_rfl) laws_eqCellS.sg (by kernel_rfl) (by kernel_rfl) (by kernel_rfl) (laws_eqCellS.run N)

@[reducible] def laws_eqStep.sg : Sg := { ms := [{ k := (.st 141) }, { k := (.st 141) }], keep := [false, false], rs := [{ k := .bool }] }
noncomputable def laws_eqStep.A : Ann := { dp := fun d => isIn [] d, lp := look [], jn := look [], pins := [], nt := 21 }
noncomputable def laws_eqStep.phis (N : Nat) : List (Nat × Sm D) := [(135, laws_eqValue.sm N)]
theorem laws_eqStep.run (N : Nat) (x : ImplStep × ImplStep × Unit) : runF cx (look (laws_eqStep.phis N)) laws_eqStep.A N (bodyOf Tryz.f144) Tryz.f144.results.toList laws_eqStep.sg x = laws_eqStep N x.1 x.2.1 := by
  have h : runF cx (look (laws_eqStep.phis N)) laws_eqStep.A N (bodyOf Tryz.f144) Tryz.f144.results.toList laws_eqStep.sg x = laws_eqStep.B N x.1 x.2.1 := by kernel_rfl
  rw [h]
  try rfl
noncomputable def laws_eqStep.sm (N : Nat) : Sm D := (⟨laws_eqStep.sg, fun (x : ImplStep × ImplStep × Unit) => laws_eqStep N x.1 x.2.1⟩ : Sm D)
theorem laws_eqStep.sound (N : Nat) : Sound cx Tryz.prog gam 144 (laws_eqStep.sm N) := fn_sound (A := laws_eqStep.A) (Φ := (look (laws_eqStep.phis N))) pok (G := gam) (ΦOk.cons (laws_eqValue.sound N) (fnOk_of (f := 135) (by kernel_rfl)) ΦOk.nil) mixed N Tryz.func144 (c := (bodyOf Tryz.f144)) (by kernel_rfl) laws_eqStep.sg (by kernel_rfl) (by kernel_rfl) (by kernel_rfl) (laws_eqStep.run N)

@[reducible] def laws_eqStepS.sg : Sg := { ms := [{ k := (.sl (.st 141)), fl := [none] }, { k := (.sl (.st 141)), fl := [none] }], keep := [false, false], rs := [{ k := .bool }] }
@[reducible] def laws_eqStepS.lvL0 : Lv := { id := 0, slots := [0, 1, 5], ms := [{ k := (.sl (.st 141)), fl := [none] }, { k := (.sl (.st 141)), fl := [none] }, { k := (.int .i64) }] }
noncomputable def laws_eqStepS.A : Ann := { dp := fun d => isIn [] d, lp := look [(0, laws_eqStepS.lvL0)], jn := look [], pins := [], nt := 27 }
noncomputable def laws_eqStepS.phis (N : Nat) : List (Nat × Sm D) := [(144, laws_eqStep.sm N)]
noncomputable def laws_eqStepS.a0 (N : Nat) (n : Nat) (y : (List (ImplStep)) × (List (ImplStep)) × Int × Unit) : Option (Bool × Unit) := loopAt cx (look (laws_eqStepS.phis N)) laws_eqStepS.A N n (encL cx laws_eqStepS.lvL0.ms y).1 (encL cx laws_eqStepS.lvL0.ms y).2 (bodyOf Tryz.f118) 0 (Kfin cx laws_eqStepS.A laws_eqStepS.sg Tryz.f118.results.toList) [1, 1, 0, 1, 1] []
theorem laws_eqStepS.r0 (N : Nat) : ∀ (n : Nat) (y : (List (ImplStep)) × (List (ImplStep)) × Int × Unit), laws_eqStepS.a0 N n y = laws_eqStepS.L0 N n y
  | 0, y => by kernel_rfl
  | n + 1, y => by
    have h : laws_eqStepS.a0 N (n + 1) y = laws_eqStepS.B0 N (fun z => laws_eqStepS.a0 N n z) y := by kernel_rfl
    have e : (fun z => laws_eqStepS.a0 N n z) = laws_eqStepS.L0 N n := funext fun z => laws_eqStepS.r0 N n z
    rw [h]
    try rw [e]
    first | done | rfl
theorem laws_eqStepS.run (N : Nat) (x : (List (ImplStep)) × (List (ImplStep)) × Unit) : runF cx (look (laws_eqStepS.phis N)) laws_eqStepS.A N (bodyOf Tryz.f118) Tryz.f118.results.toList laws_eqStepS.sg x = laws_eqStepS N x.1 x.2.1 := by
  have h : runF cx (look (laws_eqStepS.phis N)) laws_eqStepS.A N (bodyOf Tryz.f118) Tryz.f118.results.toList laws_eqStepS.sg x = laws_eqStepS.B N (fun z => laws_eqStepS.a0 N N z) x.1 x.2.1 := by kernel_rfl
  have e0 : (fun z => laws_eqStepS.a0 N N z) = laws_eqStepS.L0 N N := funext fun z => laws_eqStepS.r0 N N z
  rw [h, e0]
  try rfl
noncomputable def laws_eqStepS.sm (N : Nat) : Sm D := (⟨laws_eqStepS.sg, fun (x : (List (ImplStep)) × (List (ImplStep)) × Unit) => laws_eqStepS N x.1 x.2.1⟩ : Sm D)
theorem laws_eqStepS.sound (N : Nat) : Sound cx Tryz.prog gam 118 (laws_eqStepS.sm N) := fn_sound (A := laws_eqStepS.A) (Φ := (look (laws_eqStepS.phis N))) pok (G := gam) (ΦOk.cons (laws_eqStep.sound N) (fnOk_of (f := 144) (by kernel_rfl)) ΦOk.nil) mixed N Tryz.func118 (c := (bodyOf Tryz.f118)) (by kernel_rfl) laws_eqStepS.sg (by kernel_rfl) (by kernel_rfl) (by kernel_rfl) (laws_eqStepS.run N)

@[reducible] def laws_eqUpdate.sg : Sg := { ms := [{ k := (.st 100) }, { k := (.st 100) }], keep := [false, false], rs := [{ k := .bool }] }
noncomputable def laws_eqUpdate.A : Ann := { dp := fun d => isIn [] d, lp := look [], jn := look [], pins := [], nt := 27 }
noncomputable def laws_eqUpdate.phis (N : Nat) : List (Nat × Sm D) := [(106, laws_eqSlotS.sm N), (118, laws_eqStepS.sm N)]
theorem laws_eqUpdate.run (N : Nat) (x : ImplUpdate × ImplUpdate × Unit) : runF cx (look (laws_eqUpdate.phis N)) laws_eqUpdate.A N (bodyOf Tryz.f74) Tryz.f74.results.toList laws_eqUpdate.sg x = laws_eqUpdate N x.1 x.2.1 := by
  have h : runF cx (look (laws_eqUpdate.phis N)) laws_eqUpdate.A N (bodyOf Tryz.f74) Tryz.f74.results.toList laws_eqUpdate.sg x = laws_eqUpdate.B N x.1 x.2.1 := by kernel_rfl
  rw [h]
  try rfl
noncomputable def laws_eqUpdate.sm (N : Nat) : Sm D := (⟨laws_eqUpdate.sg, fun (x : ImplUpdate × ImplUpdate × Unit) => laws_eqUpdate N x.1 x.2.1⟩ : Sm D)
theorem laws_eqUpdate.sound (N : Nat) : Sound cx Tryz.prog gam 74 (laws_eqUpdate.sm N) := fn_sound (A := laws_eqUpdate.A) (Φ := (look (laws_eqUpdate.phis N))) pok (G := gam) (ΦOk.cons (laws_eqSlotS.sound N) (fnOk_of (f := 106) (by kernel_rfl)) (ΦOk.cons (laws_eqStepS.sound N) (fnOk_of (f := 118) (by kernel_rfl)) ΦOk.nil)) mixed N Tryz.func74 (c := (bodyOf Tryz.f74)) (by kernel_rfl) laws_eqUpdate.sg (by kernel_rfl) (by kernel_rfl) (by kernel_rfl) (laws_eqUpdate.run N)

@[reducible] def laws_eqUpdateS.sg : Sg := { ms := [{ k := (.sl (.st 100)), fl := [none] }, { k := (.sl (.st 100)), fl := [none] }], keep := [false, false], rs := [{ k := .bool }] }
@[reducible] def laws_eqUpdateS.lvL0 : Lv := { id := 0, slots := [0, 1, 5], ms := [{ k := (.sl (.st 100)), fl := [none] }, { k := (.sl (.st 100)), fl := [none] }, { k := (.int .i64) }] }
noncomputable def laws_eqUpdateS.A : Ann := { dp := fun d => isIn [] d, lp := look [(0, laws_eqUpdateS.lvL0)], jn := look [], pins := [], nt := 27 }
noncomputable def laws_eqUpdateS.phis (N : Nat) : List (Nat × Sm D) := [(74, laws_eqUpdate.sm N)]
noncomputable def laws_eqUpdateS.a0 (N : Nat) (n : Nat) (y : (List (ImplUpdate)) × (List (ImplUpdate)) × Int × Unit) : Option (Bool × Unit) := loopAt cx (look (laws_eqUpdateS.phis N)) laws_eqUpdateS.A N n (encL cx laws_eqUpdateS.lvL0.ms y).1 (encL cx laws_eqUpdateS.lvL0.ms y).2 (bodyOf Tryz.f32) 0 (Kfin cx laws_eqUpdateS.A laws_eqUpdateS.sg Tryz.f32.results.toList) [1, 1, 0, 1, 1] []
theorem laws_eqUpdateS.r0 (N : Nat) : ∀ (n : Nat) (y : (List (ImplUpdate)) × (List (ImplUpdate)) × Int × Unit), laws_eqUpdateS.a0 N n y = laws_eqUpdateS.L0 N n y
  | 0, y => by kernel_rfl
  | n + 1, y => by
    have h : laws_eqUpdateS.a0 N (n + 1) y = laws_eqUpdateS.B0 N (fun z => laws_eqUpdateS.a0 N n z) y := by kernel_rfl
    have e : (fun z => laws_eqUpdateS.a0 N n z) = laws_eqUpdateS.L0 N n := funext fun z => laws_eqUpdateS.r0 N n z
    rw [h]
    try rw [e]
    first | done | rfl
theorem laws_eqUpdateS.run (N : Nat) (x : (List (ImplUpdate)) × (List (ImplUpdate)) × Unit) : runF cx (look (laws_eqUpdateS.phis N)) laws_eqUpdateS.A N (bodyOf Tryz.f32) Tryz.f32.results.toList laws_eqUpdateS.sg x = laws_eqUpdateS N x.1 x.2.1 := by
  have h : runF cx (look (laws_eqUpdateS.phis N)) laws_eqUpdateS.A N (bodyOf Tryz.f32) Tryz.f32.results.toList laws_eqUpdateS.sg x = laws_eqUpdateS.B N (fun z => laws_eqUpdateS.a0 N N z) x.1 x.2.1 := by kernel_rfl
  have e0 : (fun z => laws_eqUpdateS.a0 N N z) = laws_eqUpdateS.L0 N N := funext fun z => laws_eqUpdateS.r0 N N z
  rw [h, e0]
  try rfl
noncomputable def laws_eqUpdateS.sm (N : Nat) : Sm D := (⟨laws_eqUpdateS.sg, fun (x : (List (ImplUpdate)) × (List (ImplUpdate)) × Unit) => laws_eqUpdateS N x.1 x.2.1⟩ : Sm D)
theorem laws_eqUpdateS.sound (N : Nat) : Sound cx Tryz.prog gam 32 (laws_eqUpdateS.sm N) := fn_sound (A := laws_eqUpdateS.A) (Φ := (look (laws_eqUpdateS.phis N))) pok (G := gam) (ΦOk.cons (laws_eqUpdate.sound N) (fnOk_of (f := 74) (by kernel_rfl)) ΦOk.nil) mixed N Tryz.func32 (c := (bodyOf Tryz.f32)) (by kernel_rfl) laws_eqUpdateS.sg (by kernel_rfl) (by kernel_rfl) (by kernel_rfl) (laws_eqUpdateS.run N)

@[reducible] def laws_eqLine.sg : Sg := { ms := [{ k := (.st 25) }, { k := (.st 25) }], keep := [false, false], rs := [{ k := .bool }] }
noncomputable def laws_eqLine.A : Ann := { dp := fun d => isIn [] d, lp := look [], jn := look [], pins := [], nt := 17 }
noncomputable def laws_eqLine.phis (N : Nat) : List (Nat × Sm D) := [(21, laws_eqCellS.sm N), (32, laws_eqUpdateS.sm N)]
theorem laws_eqLine.run (N : Nat) (x : ImplLine × ImplLine × Unit) : runF cx (look (laws_eqLine.phis N)) laws_eqLine.A N (bodyOf Tryz.f22) Tryz.f22.results.toList laws_eqLine.sg x = laws_eqLine N x.1 x.2.1 := by
  have h : runF cx (look (laws_eqLine.phis N)) laws_eqLine.A N (bodyOf Tryz.f22) Tryz.f22.results.toList laws_eqLine.sg x = laws_eqLine.B N x.1 x.2.1 := by kernel_rfl
  rw [h]
  try rfl
noncomputable def laws_eqLine.sm (N : Nat) : Sm D := (⟨laws_eqLine.sg, fun (x : ImplLine × ImplLine × Unit) => laws_eqLine N x.1 x.2.1⟩ : Sm D)
theorem laws_eqLine.sound (N : Nat) : Sound cx Tryz.prog gam 22 (laws_eqLine.sm N) := fn_sound (A := laws_eqLine.A) (Φ := (look (laws_eqLine.phis N))) pok (G := gam) (ΦOk.cons (laws_eqCellS.sound N) (fnOk_of (f := 21) (by kernel_rfl)) (ΦOk.cons (laws_eqUpdateS.sound N) (fnOk_of (f := 32) (by kernel_rfl)) ΦOk.nil)) mixed N Tryz.func22 (c := (bodyOf Tryz.f22)) (by kernel_rfl) laws_eqLine.sg (by kernel_rfl) (by kernel_rfl) (by kernel_rfl) (laws_eqLine.run N)

@[reducible] def laws_markSlotS.sg : Sg := { ms := [{ k := (.sl (.st 125)), fl := [some (true, 11)] }, { k := (.int .i64) }], keep := [true, false], rs := [{ k := (.int .i64) }] }
@[reducible] def laws_markSlotS.lvL0 : Lv := { id := 0, slots := [0, 1, 5], ms := [{ k := (.sl (.st 125)), fl := [some (true, 11)] }, { k := (.int .i64) }, { k := (.int .i64) }] }
noncomputable def laws_markSlotS.A : Ann := { dp := fun d => isIn [] d, lp := look [(0, laws_markSlotS.lvL0)], jn := look [], pins := [11], nt := 27 }
noncomputable def laws_markSlotS.phis (N : Nat) : List (Nat × Sm D) := []
noncomputable def laws_markSlotS.a0 (N : Nat) (n : Nat) (y : (List (ImplSlot)) × Int × Int × Unit) : Option ((List (ImplSlot)) × Int × Unit) := loopAt cx (look (laws_markSlotS.phis N)) laws_markSlotS.A N n (encL cx laws_markSlotS.lvL0.ms y).1 (encL cx laws_markSlotS.lvL0.ms y).2 (bodyOf Tryz.f62) 0 (Kfin cx laws_markSlotS.A laws_markSlotS.sg Tryz.f62.results.toList) [1, 0, 1, 1] []
theorem laws_markSlotS.r0 (N : Nat) : ∀ (n : Nat) (y : (List (ImplSlot)) × Int × Int × Unit), laws_markSlotS.a0 N n y = laws_markSlotS.L0 N n y
  | 0, y => by kernel_rfl
  | n + 1, y => by
    have h : laws_markSlotS.a0 N (n + 1) y = laws_markSlotS.B0 N (fun z => laws_markSlotS.a0 N n z) y := by kernel_rfl
    have e : (fun z => laws_markSlotS.a0 N n z) = laws_markSlotS.L0 N n := funext fun z => laws_markSlotS.r0 N n z
    rw [h]
    try rw [e]
    first | done | rfl
theorem laws_markSlotS.run (N : Nat) (x : (List (ImplSlot)) × Int × Unit) : runF cx (look (laws_markSlotS.phis N)) laws_markSlotS.A N (bodyOf Tryz.f62) Tryz.f62.results.toList laws_markSlotS.sg x = laws_markSlotS N x.1 x.2.1 := by
  have h : runF cx (look (laws_markSlotS.phis N)) laws_markSlotS.A N (bodyOf Tryz.f62) Tryz.f62.results.toList laws_markSlotS.sg x = laws_markSlotS.B N (fun z => laws_markSlotS.a0 N N z) x.1 x.2.1 := by kernel_rfl
  have e0 : (fun z => laws_markSlotS.a0 N N z) = laws_markSlotS.L0 N N := funext fun z => laws_markSlotS.r0 N N z
  rw [h, e0]
  try rfl
noncomputable def laws_markSlotS.sm (N : Nat) : Sm D := (⟨laws_markSlotS.sg, fun (x : (List (ImplSlot)) × Int × Unit) => laws_markSlotS N x.1 x.2.1⟩ : Sm D)
theorem laws_markSlotS.sound (N : Nat) : Sound cx Tryz.prog gam 62 (laws_markSlotS.sm N) := fn_sound (A := laws_markSlotS.A) (Φ := (look (laws_markSlotS.phis N))) pok (G := gam) ΦOk.nil mixed N Tryz.func62 (c := (bodyOf Tryz.f62)) (by kernel_rfl) laws_markSlotS.sg (by kernel_rfl) (by kernel_rfl) (by kernel_rfl) (laws_markSlotS.run N)

end
end Go.Ev
