/- Each function that the law reaches does what its plain form says; no condition beyond the table of the library. -/
import Derived.Test.YtadoojpcjfglgaaGreatDoorEvT1
set_option linter.all false
set_option linter.unusedVariables false
set_option linter.unusedSimpArgs false
set_option maxRecDepth 100000
set_option maxHeartbeats 0
namespace Go.Ev
noncomputable section
open Go.Proofs
@[reducible] def impl_ValShow.sg : Sg := { ms := [{ k := (.st 127) }], keep := [false], rs := [{ k := .str }] }
noncomputable def impl_ValShow.A : Ann := { dp := fun d => isIn [] d, lp := look [], jn := look [], pins := [], nt := 19 }
noncomputable def impl_ValShow.phis (N : Nat) : List (Nat × Sm D) := [(101, impl_ValOk.sm N), (165, LibItoa.sm N)]
theorem impl_ValShow.run (N : Nat) (x : ImplValue × Unit) : runF cx (look (impl_ValShow.phis N)) impl_ValShow.A N (bodyOf Tryz.f160) Tryz.f160.results.toList impl_ValShow.sg x = impl_ValShow N x.1 := by
  have h : runF cx (look (impl_ValShow.phis N)) impl_ValShow.A N (bodyOf Tryz.f160) Tryz.f160.results.toList impl_ValShow.sg x = impl_ValShow.B N x.1 := by kernel_rfl
  rw [h]
  try rfl
noncomputable def impl_ValShow.sm (N : Nat) : Sm D := (⟨impl_ValShow.sg, fun (x : ImplValue × Unit) => impl_ValShow N x.1⟩ : Sm D)
theorem impl_ValShow.sound (N : Nat) : Sound cx Tryz.prog gam 160 (impl_ValShow.sm N) := fn_sound (A := impl_ValShow.A) (Φ := (look (impl_ValShow.phis N))) pok (G := gam) (ΦOk.cons (impl_ValOk.sound N) (fnOk_of (f := 101) (by kernel_rfl)) (ΦOk.cons (LibItoa.sound N) (fnOk_of (f := 165) (by kernel_rfl)) ΦOk.nil)) mixed N Tryz.func160 (c := (bodyOf Tryz.f160)) (by kernel_rfl) impl_ValShow.sg (by kernel_rfl) (by kernel_rfl) (by kernel_rfl) (impl_ValShow.run N)

@[reducible] def impl_ValTrue.sg : Sg := { ms := [{ k := (.st 127) }], keep := [false], rs := [{ k := .bool }] }
noncomputable def impl_ValTrue.A : Ann := { dp := fun d => isIn [] d, lp := look [], jn := look [], pins := [], nt := 25 }
noncomputable def impl_ValTrue.phis (N : Nat) : List (Nat × Sm D) := [(101, impl_ValOk.sm N)]
theorem impl_ValTrue.run (N : Nat) (x : ImplValue × Unit) : runF cx (look (impl_ValTrue.phis N)) impl_ValTrue.A N (bodyOf Tryz.f151) Tryz.f151.results.toList impl_ValTrue.sg x = impl_ValTrue N x.1 := by
  have h : runF cx (look (impl_ValTrue.phis N)) impl_ValTrue.A N (bodyOf Tryz.f151) Tryz.f151.results.toList impl_ValTrue.sg x = impl_ValTrue.B N x.1 := by kernel_rfl
  rw [h]
  try rfl
noncomputable def impl_ValTrue.sm (N : Nat) : Sm D := (⟨impl_ValTrue.sg, fun (x : ImplValue × Unit) => impl_ValTrue N x.1⟩ : Sm D)
theorem impl_ValTrue.sound (N : Nat) : Sound cx Tryz.prog gam 151 (impl_ValTrue.sm N) := fn_sound (A := impl_ValTrue.A) (Φ := (look (impl_ValTrue.phis N))) pok (G := gam) (ΦOk.cons (impl_ValOk.sound N) (fnOk_of (f := 101) (by kernel_rfl)) ΦOk.nil) mixed N Tryz.func151 (c := (bodyOf Tryz.f151)) (by kernel_rfl) impl_ValTrue.sg (by kernel_rfl) (by kernel_rfl) (by kernel_rfl) (impl_ValTrue.run N)

@[reducible] def impl_ValDo.sg : Sg := { ms := [{ k := (.int .i64) }, { k := (.st 127) }, { k := (.st 127) }], keep := [false, false, false], rs := [{ k := (.st 127) }] }
@[reducible] def impl_ValDo.lvJ19 : Lv := { id := 19, slots := [6, 7], ms := [{ ptr := true, id := 600, t := 128, k := (.st 127), fl := [none, none, none] }, { k := (.int .i64) }] }
noncomputable def impl_ValDo.A : Ann := { dp := fun d => isIn [] d, lp := look [], jn := look [(19, impl_ValDo.lvJ19)], pins := [], nt := 93 }
noncomputable def impl_ValDo.phis (N : Nat) : List (Nat × Sm D) := [(101, impl_ValOk.sm N), (159, impl_truth.sm N), (47, impl_within.sm N), (149, impl_number.sm N), (160, impl_ValShow.sm N), (151, impl_ValTrue.sm N)]
theorem impl_ValDo.run (N : Nat) (x : Int × ImplValue × ImplValue × Unit) : runF cx (look (impl_ValDo.phis N)) impl_ValDo.A N (bodyOf Tryz.f150) Tryz.f150.results.toList impl_ValDo.sg x = impl_ValDo N x.1 x.2.1 x.2.2.1 := by
  have h : runF cx (look (impl_ValDo.phis N)) impl_ValDo.A N (bodyOf Tryz.f150) Tryz.f150.results.toList impl_ValDo.sg x = impl_ValDo.B N x.1 x.2.1 x.2.2.1 := by kernel_rfl
  rw [h]
  try rfl
noncomputable def impl_ValDo.sm (N : Nat) : Sm D := (⟨impl_ValDo.sg, fun (x : Int × ImplValue × ImplValue × Unit) => impl_ValDo N x.1 x.2.1 x.2.2.1⟩ : Sm D)
theorem impl_ValDo.sound (N : Nat) : Sound cx Tryz.prog gam 150 (impl_ValDo.sm N) := fn_sound (A := impl_ValDo.A) (Φ := (look (impl_ValDo.phis N))) pok (G := gam) (ΦOk.cons (impl_ValOk.sound N) (fnOk_of (f := 101) (by kernel_rfl)) (ΦOk.cons (impl_truth.sound N) (fnOk_of (f := 159) (by kernel_rfl)) (ΦOk.cons (impl_within.sound N) (fnOk_of (f := 47) (by kernel_rfl)) (ΦOk.cons (impl_number.sound N) (fnOk_of (f := 149) (by kernel_rfl)) (ΦOk.cons (impl_ValShow.sound N) (fnOk_of (f := 160) (by kernel_rfl)) (ΦOk.cons (impl_ValTrue.sound N) (fnOk_of (f := 151) (by kernel_rfl)) ΦOk.nil)))))) mixed N Tryz.func150 (c := (bodyOf Tryz.f150)) (by kernel_rfl) impl_ValDo.sg (by kernel_rfl) (by kernel_rfl) (by kernel_rfl) (impl_ValDo.run N)

@[reducible] def impl_formRun.sg : Sg := { ms := [{ k := (.sl (.st 141)), fl := [none] }, { k := (.st 150) }], keep := [false, false], rs := [{ k := (.st 127) }] }
@[reducible] def impl_formRun.lvJ23 : Lv := { id := 23, slots := [3, 4, 5, 8, 9, 11, 12, 13], ms := [{ ptr := true, id := 600, t := 151, k := (.st 150), fl := [none, none, none, none] }, { ptr := true, id := 620, t := 128, k := (.st 127), fl := [none, none, none] }, { k := (.sl (.st 127)), fl := [some (false, 640)] }, { k := (.int .i64) }, { ptr := true, id := 680, t := 128, k := (.st 127), fl := [none, none, none] }, { k := (.sl (.st 141)), fl := [none] }, { k := (.int .i64) }, { k := (.int .i64) }] }
@[reducible] def impl_formRun.lvL0 : Lv := { id := 0, slots := [3, 4, 5, 11, 12, 13], ms := [{ ptr := true, id := 600, t := 151, k := (.st 150), fl := [none, none, none, none] }, { ptr := true, id := 620, t := 128, k := (.st 127), fl := [none, none, none] }, { k := (.sl (.st 127)), fl := [some (false, 640)] }, { k := (.sl (.st 141)), fl := [none] }, { k := (.int .i64) }, { k := (.int .i64) }] }
noncomputable def impl_formRun.A : Ann := { dp := fun d => isIn [] d, lp := look [(0, impl_formRun.lvL0)], jn := look [(23, impl_formRun.lvJ23)], pins := [], nt := 128 }
noncomputable def impl_formRun.phis (N : Nat) : List (Nat × Sm D) := [(149, impl_number.sm N), (150, impl_ValDo.sm N), (151, impl_ValTrue.sm N)]
noncomputable def impl_formRun.a0 (N : Nat) (n : Nat) (y : ImplEnv × ImplValue × (List (ImplValue)) × (List (ImplStep)) × Int × Int × Unit) : Option (ImplValue × Unit) := loopAt cx (look (impl_formRun.phis N)) impl_formRun.A N n (encL cx impl_formRun.lvL0.ms y).1 (encL cx impl_formRun.lvL0.ms y).2 (bodyOf Tryz.f127) 0 (Kfin cx impl_formRun.A impl_formRun.sg Tryz.f127.results.toList) [1, 1, 0, 1, 1] []
theorem impl_formRun.r0 (N : Nat) : ∀ (n : Nat) (y : ImplEnv × ImplValue × (List (ImplValue)) × (List (ImplStep)) × Int × Int × Unit), impl_formRun.a0 N n y = impl_formRun.L0 N n y
  | 0, y => by kernel_rfl
  | n + 1, y => by
    have h : impl_formRun.a0 N (n + 1) y = impl_formRun.B0 N (fun z => impl_formRun.a0 N n z) y := by kernel_rfl
    have e : (fun z => impl_formRun.a0 N n z) = impl_formRun.L0 N n := funext fun z => impl_formRun.r0 N n z
    rw [h]
    try rw [e]
    first | done | rfl
theorem impl_formRun.run (N : Nat) (x : (List (ImplStep)) × ImplEnv × Unit) : runF cx (look (impl_formRun.phis N)) impl_formRun.A N (bodyOf Tryz.f127) Tryz.f127.results.toList impl_formRun.sg x = impl_formRun N x.1 x.2.1 := by
  have h : runF cx (look (impl_formRun.phis N)) impl_formRun.A N (bodyOf Tryz.f127) Tryz.f127.results.toList impl_formRun.sg x = impl_formRun.B N (fun z => impl_formRun.a0 N N z) x.1 x.2.1 := by kernel_rfl
  have e0 : (fun z => impl_formRun.a0 N N z) = impl_formRun.L0 N N := funext fun z => impl_formRun.r0 N N z
  rw [h, e0]
  try rfl
noncomputable def impl_formRun.sm (N : Nat) : Sm D := (⟨impl_formRun.sg, fun (x : (List (ImplStep)) × ImplEnv × Unit) => impl_formRun N x.1 x.2.1⟩ : Sm D)
theorem impl_formRun.sound (N : Nat) : Sound cx Tryz.prog gam 127 (impl_formRun.sm N) := fn_sound (A := impl_formRun.A) (Φ := (look (impl_formRun.phis N))) pok (G := gam) (ΦOk.cons (impl_number.sound N) (fnOk_of (f := 149) (by kernel_rfl)) (ΦOk.cons (impl_ValDo.sound N) (fnOk_of (f := 150) (by kernel_rfl)) (ΦOk.cons (impl_ValTrue.sound N) (fnOk_of (f := 151) (by kernel_rfl)) ΦOk.nil))) mixed N Tryz.func127 (c := (bodyOf Tryz.f127)) (by kernel_rfl) impl_formRun.sg (by kernel_rfl) (by kernel_rfl) (by kernel_rfl) (impl_formRun.run N)

@[reducible] def impl_storeDo.sg : Sg := { ms := [{ k := (.sl (.st 80)), fl := [none] }, { k := (.st 100) }], keep := [false, false], rs := [{ k := (.sl (.st 80)), fl := [some (true, 411)] }] }
noncomputable def impl_storeDo.A : Ann := { dp := fun _ => true, lp := look [], jn := look [], pins := [], nt := 35 }
noncomputable def impl_storeDo.phis (N : Nat) : List (Nat × Sm D) := [(93, impl_storeCopy.sm N), (126, impl_updateAt.sm N), (127, impl_formRun.sm N)]
theorem impl_storeDo.run (N : Nat) (x : (List (ImplCell)) × ImplUpdate × Unit) : runF cx (look (impl_storeDo.phis N)) impl_storeDo.A N (bodyOf Tryz.f95) Tryz.f95.results.toList impl_storeDo.sg x = impl_storeDo N x.1 x.2.1 := by
  have h : runF cx (look (impl_storeDo.phis N)) impl_storeDo.A N (bodyOf Tryz.f95) Tryz.f95.results.toList impl_storeDo.sg x = impl_storeDo.B N x.1 x.2.1 := by kernel_rfl
  rw [h]
  try rfl
noncomputable def impl_storeDo.sm (N : Nat) : Sm D := (⟨impl_storeDo.sg, fun (x : (List (ImplCell)) × ImplUpdate × Unit) => impl_storeDo N x.1 x.2.1⟩ : Sm D)
theorem impl_storeDo.sound (N : Nat) : Sound cx Tryz.prog gam 95 (impl_storeDo.sm N) := fn_sound (A := impl_storeDo.A) (Φ := (look (impl_storeDo.phis N))) pok (G := gam) (ΦOk.cons (impl_storeCopy.sound N) (fnOk_of (f := 93) (by kernel_rfl)) (ΦOk.cons (impl_updateAt.sound N) (fnOk_of (f := 126) (by kernel_rfl)) (ΦOk.cons (impl_formRun.sound N) (fnOk_of (f := 127) (by kernel_rfl)) ΦOk.nil))) mixed N Tryz.func95 (c := (bodyOf Tryz.f95)) (by kernel_rfl) impl_storeDo.sg (by kernel_rfl) (by kernel_rfl) (by kernel_rfl) (impl_storeDo.run N)

@[reducible] def laws_szSlotS.sg : Sg := { ms := [{ k := (.sl (.st 125)), fl := [none] }, { k := (.int .i64) }], keep := [false, false], rs := [{ k := (.int .i64) }] }
noncomputable def laws_szSlotS.A : Ann := { dp := fun d => isIn [] d, lp := look [], jn := look [], pins := [], nt := 12 }
noncomputable def laws_szSlotS.phis (N : Nat) : List (Nat × Sm D) := []
theorem laws_szSlotS.run (N : Nat) (x : (List (ImplSlot)) × Int × Unit) : runF cx (look (laws_szSlotS.phis N)) laws_szSlotS.A N (bodyOf Tryz.f109) Tryz.f109.results.toList laws_szSlotS.sg x = laws_szSlotS N x.1 x.2.1 := by
  have h : runF cx (look (laws_szSlotS.phis N)) laws_szSlotS.A N (bodyOf Tryz.f109) Tryz.f109.results.toList laws_szSlotS.sg x = laws_szSlotS.B N x.1 x.2.1 := by kernel_rfl
  rw [h]
  try rfl
noncomputable def laws_szSlotS.sm (N : Nat) : Sm D := (⟨laws_szSlotS.sg, fun (x : (List (ImplSlot)) × Int × Unit) => laws_szSlotS N x.1 x.2.1⟩ : Sm D)
theorem laws_szSlotS.sound (N : Nat) : Sound cx Tryz.prog gam 109 (laws_szSlotS.sm N) := fn_sound (A := laws_szSlotS.A) (Φ := (look (laws_szSlotS.phis N))) pok (G := gam) ΦOk.nil mixed N Tryz.func109 (c := (bodyOf Tryz.f109)) (by kernel_rfl) laws_szSlotS.sg (by kernel_rfl) (by kernel_rfl) (by kernel_rfl) (laws_szSlotS.run N)

@[reducible] def laws_szValue.sg : Sg := { ms := [{ k := (.st 127) }, { k := (.int .i64) }], keep := [false, false], rs := [{ k := (.int .i64) }] }
noncomputable def laws_szValue.A : Ann := { dp := fun d => isIn [] d, lp := look [], jn := look [], pins := [], nt := 13 }
noncomputable def laws_szValue.phis (N : Nat) : List (Nat × Sm D) := []
theorem laws_szValue.run (N : Nat) (x : ImplValue × Int × Unit) : runF cx (look (laws_szValue.phis N)) laws_szValue.A N (bodyOf Tryz.f136) Tryz.f136.results.toList laws_szValue.sg x = laws_szValue N x.1 x.2.1 := by
  have h : runF cx (look (laws_szValue.phis N)) laws_szValue.A N (bodyOf Tryz.f136) Tryz.f136.results.toList laws_szValue.sg x = laws_szValue.B N x.1 x.2.1 := by kernel_rfl
  rw [h]
  try rfl
noncomputable def laws_szValue.sm (N : Nat) : Sm D := (⟨laws_szValue.sg, fun (x : ImplValue × Int × Unit) => laws_szValue N x.1 x.2.1⟩ : Sm D)
theorem laws_szValue.sound (N : Nat) : Sound cx Tryz.prog gam 136 (laws_szValue.sm N) := fn_sound (A := laws_szValue.A) (Φ := (look (laws_szValue.phis N))) pok (G := gam) ΦOk.nil mixed N Tryz.func136 (c := (bodyOf Tryz.f136)) (by kernel_rfl) laws_szValue.sg (by kernel_rfl) (by kernel_rfl) (by kernel_rfl) (laws_szValue.run N)

@[reducible] def laws_szValueS.sg : Sg := { ms := [{ k := (.sl (.st 127)), fl := [none] }, { k := (.int .i64) }], keep := [false, false], rs := [{ k := (.int .i64) }] }
@[reducible] def laws_szValueS.lvL0 : Lv := { id := 0, slots := [0, 1, 5], ms := [{ k := (.sl (.st 127)), fl := [none] }, { k := (.int .i64) }, { k := (.int .i64) }] }
noncomputable def laws_szValueS.A : Ann := { dp := fun d => isIn [] d, lp := look [(0, laws_szValueS.lvL0)], jn := look [], pins := [], nt := 27 }
noncomputable def laws_szValueS.phis (N : Nat) : List (Nat × Sm D) := [(136, laws_szValue.sm N)]
noncomputable def laws_szValueS.a0 (N : Nat) (n : Nat) (y : (List (ImplValue)) × Int × Int × Unit) : Option (Int × Unit) := loopAt cx (look (laws_szValueS.phis N)) laws_szValueS.A N n (encL cx laws_szValueS.lvL0.ms y).1 (encL cx laws_szValueS.lvL0.ms y).2 (bodyOf Tryz.f110) 0 (Kfin cx laws_szValueS.A laws_szValueS.sg Tryz.f110.results.toList) [1, 1, 1, 0, 1, 1] []
theorem laws_szValueS.r0 (N : Nat) : ∀ (n : Nat) (y : (List (ImplValue)) × Int × Int × Unit), laws_szValueS.a0 N n y = laws_szValueS.L0 N n y
  | 0, y => by kernel_rfl
  | n + 1, y => by
    have h : laws_szValueS.a0 N (n + 1) y = laws_szValueS.B0 N (fun z => laws_szValueS.a0 N n z) y := by kernel_rfl
    have e : (fun z => laws_szValueS.a0 N n z) = laws_szValueS.L0 N n := funext fun z => laws_szValueS.r0 N n z
    rw [h]
    try rw [e]
    first | done | rfl
theorem laws_szValueS.run (N : Nat) (x : (List (ImplValue)) × Int × Unit) : runF cx (look (laws_szValueS.phis N)) laws_szValueS.A N (bodyOf Tryz.f110) Tryz.f110.results.toList laws_szValueS.sg x = laws_szValueS N x.1 x.2.1 := by
  have h : runF cx (look (laws_szValueS.phis N)) laws_szValueS.A N (bodyOf Tryz.f110) Tryz.f110.results.toList laws_szValueS.sg x = laws_szValueS.B N (fun z => laws_szValueS.a0 N N z) x.1 x.2.1 := by kernel_rfl
  have e0 : (fun z => laws_szValueS.a0 N N z) = laws_szValueS.L0 N N := funext fun z => laws_szValueS.r0 N N z
  rw [h, e0]
  try rfl
noncomputable def laws_szValueS.sm (N : Nat) : Sm D := (⟨laws_szValueS.sg, fun (x : (List (ImplValue)) × Int × Unit) => laws_szValueS N x.1 x.2.1⟩ : Sm D)
theorem laws_szValueS.sound (N : Nat) : Sound cx Tryz.prog gam 110 (laws_szValueS.sm N) := fn_sound (A := laws_szValueS.A) (Φ := (look (laws_szValueS.phis N))) pok (G := gam) (ΦOk.cons (laws_szValue.sound N) (fnOk_of (f := 136) (by kernel_rfl)) ΦOk.nil) mixed N Tryz.func110 (c := (bodyOf Tryz.f110)) (by kernel_rfl) laws_szValueS.sg (by kernel_rfl) (by kernel_rfl) (by kernel_rfl) (laws_szValueS.run N)

@[reducible] def laws_szCell.sg : Sg := { ms := [{ k := (.st 92) }, { k := (.int .i64) }], keep := [false, false], rs := [{ k := (.int .i64) }] }
noncomputable def laws_szCell.A : Ann := { dp := fun d => isIn [] d, lp := look [], jn := look [], pins := [], nt := 18 }
noncomputable def laws_szCell.phis (N : Nat) : List (Nat × Sm D) := [(109, laws_szSlotS.sm N), (110, laws_szValueS.sm N)]
theorem laws_szCell.run (N : Nat) (x : LawsCell × Int × Unit) : runF cx (look (laws_szCell.phis N)) laws_szCell.A N (bodyOf Tryz.f66) Tryz.f66.results.toList laws_szCell.sg x = laws_szCell N x.1 x.2.1 := by
  have h : runF cx (look (laws_szCell.phis N)) laws_szCell.A N (bodyOf Tryz.f66) Tryz.f66.results.toList laws_szCell.sg x = laws_szCell.B N x.1 x.2.1 := by kernel_rfl
  rw [h]
  try rfl
noncomputable def laws_szCell.sm (N : Nat) : Sm D := (⟨laws_szCell.sg, fun (x : LawsCell × Int × Unit) => laws_szCell N x.1 x.2.1⟩ : Sm D)
theorem laws_szCell.sound (N : Nat) : Sound cx Tryz.prog gam 66 (laws_szCell.sm N) := fn_sound (A := laws_szCell.A) (Φ := (look (laws_szCell.phis N))) pok (G := gam) (ΦOk.cons (laws_szSlotS.sound N) (fnOk_of (f := 109) (by kernel_rfl)) (ΦOk.cons (laws_szValueS.sound N) (fnOk_of (f := 110) (by kernel_rfl)) ΦOk.nil)) mixed N Tryz.func66 (c := (bodyOf Tryz.f66)) (by kernel_rfl) laws_szCell.sg (by kernel_rfl) (by kernel_rfl) (by kernel_rfl) (laws_szCell.run N)

@[reducible] def laws_szCellS.sg : Sg := { ms := [{ k := (.sl (.st 92)), fl := [none] }, { k := (.int .i64) }], keep := [false, false], rs := [{ k := (.int .i64) }] }
@[reducible] def laws_szCellS.lvL0 : Lv := { id := 0, slots := [0, 1, 5], ms := [{ k := (.sl (.st 92)), fl := [none] }, { k := (.int .i64) }, { k := (.int .i64) }] }
noncomputable def laws_szCellS.A : Ann := { dp := fun d => isIn [] d, lp := look [(0, laws_szCellS.lvL0)], jn := look [], pins := [], nt := 27 }
noncomputable def laws_szCellS.phis (N : Nat) : List (Nat × Sm D) := [(66, laws_szCell.sm N)]
noncomputable def laws_szCellS.a0 (N : Nat) (n : Nat) (y : (List (LawsCell)) × Int × Int × Unit) : Option (Int × Unit) := loopAt cx (look (laws_szCellS.phis N)) laws_szCellS.A N n (encL cx laws_szCellS.lvL0.ms y).1 (encL cx laws_szCellS.lvL0.ms y).2 (bodyOf Tryz.f26) 0 (Kfin cx laws_szCellS.A laws_szCellS.sg Tryz.f26.results.toList) [1, 1, 1, 0, 1, 1] []
theorem laws_szCellS.r0 (N : Nat) : ∀ (n : Nat) (y : (List (LawsCell)) × Int × Int × Unit), laws_szCellS.a0 N n y = laws_szCellS.L0 N n y
  | 0, y => by kernel_rfl
  | n + 1, y => by
    have h : laws_szCellS.a0 N (n + 1) y = laws_szCellS.B0 N (fun z => laws_szCellS.a0 N n z) y := by kernel_rfl
    have e : (fun z => laws_szCellS.a0 N n z) = laws_szCellS.L0 N n := funext fun z => laws_szCellS.r0 N n z
    rw [h]
    try rw [e]
    first | done | rfl
theorem laws_szCellS.run (N : Nat) (x : (List (LawsCell)) × Int × Unit) : runF cx (look (laws_szCellS.phis N)) laws_szCellS.A N (bodyOf Tryz.f26) Tryz.f26.results.toList laws_szCellS.sg x = laws_szCellS N x.1 x.2.1 := by
  have h : runF cx (look (laws_szCellS.phis N)) laws_szCellS.A N (bodyOf Tryz.f26) Tryz.f26.results.toList laws_szCellS.sg x = laws_szCellS.B N (fun z => laws_szCellS.a0 N N z) x.1 x.2.1 := by kernel_rfl
  have e0 : (fun z => laws_szCellS.a0 N N z) = laws_szCellS.L0 N N := funext fun z => laws_szCellS.r0 N N z
  rw [h, e0]
  try rfl
noncomputable def laws_szCellS.sm (N : Nat) : Sm D := (⟨laws_szCellS.sg, fun (x : (List (LawsCell)) × Int × Unit) => laws_szCellS N x.1 x.2.1⟩ : Sm D)
theorem laws_szCellS.sound (N : Nat) : Sound cx Tryz.prog gam 26 (laws_szCellS.sm N) := fn_sound (A := laws_szCellS.A) (Φ := (look (laws_szCellS.phis N))) pok (G := gam) (ΦOk.cons (laws_szCell.sound N) (fnOk_of (f := 66) (by kernel_rfl)) ΦOk.nil) mixed N Tryz.func26 (c := (bodyOf Tryz.f26)) (by kernel_rfl) laws_szCellS.sg (by kernel_rfl) (by kernel_rfl) (by kernel_rfl) (laws_szCellS.run N)

@[reducible] def laws_szStep.sg : Sg := { ms := [{ k := (.st 162) }, { k := (.int .i64) }], keep := [false, false], rs := [{ k := (.int .i64) }] }
noncomputable def laws_szStep.A : Ann := { dp := fun d => isIn [] d, lp := look [], jn := look [], pins := [], nt := 12 }
noncomputable def laws_szStep.phis (N : Nat) : List (Nat × Sm D) := [(136, laws_szValue.sm N)]
theorem laws_szStep.run (N : Nat) (x : LawsStep × Int × Unit) : runF cx (look (laws_szStep.phis N)) laws_szStep.A N (bodyOf Tryz.f137) Tryz.f137.results.toList laws_szStep.sg x = laws_szStep N x.1 x.2.1 := by
  have h : runF cx (look (laws_szStep.phis N)) laws_szStep.A N (bodyOf Tryz.f137) Tryz.f137.results.toList laws_szStep.sg x = laws_szStep.B N x.1 x.2.1 := by kernel_rfl
  rw [h]
  try rfl
noncomputable def laws_szStep.sm (N : Nat) : Sm D := (⟨laws_szStep.sg, fun (x : LawsStep × Int × Unit) => laws_szStep N x.1 x.2.1⟩ : Sm D)
theorem laws_szStep.sound (N : Nat) : Sound cx Tryz.prog gam 137 (laws_szStep.sm N) := fn_sound (A := laws_szStep.A) (Φ := (look (laws_szStep.phis N))) pok (G := gam) (ΦOk.cons (laws_szValue.sound N) (fnOk_of (f := 136) (by kernel_rfl)) ΦOk.nil) mixed N Tryz.func137 (c := (bodyOf Tryz.f137)) (by kernel_rfl) laws_szStep.sg (by kernel_rfl) (by kernel_rfl) (by kernel_rfl) (laws_szStep.run N)

@[reducible] def laws_szStepS.sg : Sg := { ms := [{ k := (.sl (.st 162)), fl := [none] }, { k := (.int .i64) }], keep := [false, false], rs := [{ k := (.int .i64) }] }
@[reducible] def laws_szStepS.lvL0 : Lv := { id := 0, slots := [0, 1, 5], ms := [{ k := (.sl (.st 162)), fl := [none] }, { k := (.int .i64) }, { k := (.int .i64) }] }
noncomputable def laws_szStepS.A : Ann := { dp := fun d => isIn [] d, lp := look [(0, laws_szStepS.lvL0)], jn := look [], pins := [], nt := 27 }
noncomputable def laws_szStepS.phis (N : Nat) : List (Nat × Sm D) := [(137, laws_szStep.sm N)]
noncomputable def laws_szStepS.a0 (N : Nat) (n : Nat) (y : (List (LawsStep)) × Int × Int × Unit) : Option (Int × Unit) := loopAt cx (look (laws_szStepS.phis N)) laws_szStepS.A N n (encL cx laws_szStepS.lvL0.ms y).1 (encL cx laws_szStepS.lvL0.ms y).2 (bodyOf Tryz.f111) 0 (Kfin cx laws_szStepS.A laws_szStepS.sg Tryz.f111.results.toList) [1, 1, 1, 0, 1, 1] []
theorem laws_szStepS.r0 (N : Nat) : ∀ (n : Nat) (y : (List (LawsStep)) × Int × Int × Unit), laws_szStepS.a0 N n y = laws_szStepS.L0 N n y
  | 0, y => by kernel_rfl
  | n + 1, y => by
    have h : laws_szStepS.a0 N (n + 1) y = laws_szStepS.B0 N (fun z => laws_szStepS.a0 N n z) y := by kernel_rfl
    have e : (fun z => laws_szStepS.a0 N n z) = laws_szStepS.L0 N n := funext fun z => laws_szStepS.r0 N n z
    rw [h]
    try rw [e]
    first | done | rfl
theorem laws_szStepS.run (N : Nat) (x : (List (LawsStep)) × Int × Unit) : runF cx (look (laws_szStepS.phis N)) laws_szStepS.A N (bodyOf Tryz.f111) Tryz.f111.results.toList laws_szStepS.sg x = laws_szStepS N x.1 x.2.1 := by
  have h : runF cx (look (laws_szStepS.phis N)) laws_szStepS.A N (bodyOf Tryz.f111) Tryz.f111.results.toList laws_szStepS.sg x = laws_szStepS.B N (fun z => laws_szStepS.a0 N N z) x.1 x.2.1 := by kernel_rfl
  have e0 : (fun z => laws_szStepS.a0 N N z) = laws_szStepS.L0 N N := funext fun z => laws_szStepS.r0 N N z
  rw [h, e0]
  try rfl
noncomputable def laws_szStepS.sm (N : Nat) : Sm D := (⟨laws_szStepS.sg, fun (x : (List (LawsStep)) × Int × Unit) => laws_szStepS N x.1 x.2.1⟩ : Sm D)
theorem laws_szStepS.sound (N : Nat) : Sound cx Tryz.prog gam 111 (laws_szStepS.sm N) := fn_sound (A := laws_szStepS.A) (Φ := (look (laws_szStepS.phis N))) pok (G := gam) (ΦOk.cons (laws_szStep.sound N) (fnOk_of (f := 137) (by kernel_rfl)) ΦOk.nil) mixed N Tryz.func111 (c := (bodyOf Tryz.f111)) (by kernel_rfl) laws_szStepS.sg (by kernel_rfl) (by kernel_rfl) (by kernel_rfl) (laws_szStepS.run N)

@[reducible] def laws_szUpdate.sg : Sg := { ms := [{ k := (.st 96) }, { k := (.int .i64) }], keep := [false, false], rs := [{ k := (.int .i64) }] }
noncomputable def laws_szUpdate.A : Ann := { dp := fun d => isIn [] d, lp := look [], jn := look [], pins := [], nt := 18 }
noncomputable def laws_szUpdate.phis (N : Nat) : List (Nat × Sm D) := [(109, laws_szSlotS.sm N), (111, laws_szStepS.sm N)]
theorem laws_szUpdate.run (N : Nat) (x : LawsUpdate × Int × Unit) : runF cx (look (laws_szUpdate.phis N)) laws_szUpdate.A N (bodyOf Tryz.f67) Tryz.f67.results.toList laws_szUpdate.sg x = laws_szUpdate N x.1 x.2.1 := by
  have h : runF cx (look (laws_szUpdate.phis N)) laws_szUpdate.A N (bodyOf Tryz.f67) Tryz.f67.results.toList laws_szUpdate.sg x = laws_szUpdate.B N x.1 x.2.1 := by kernel_rfl
  rw [h]
  try rfl
noncomputable def laws_szUpdate.sm (N : Nat) : Sm D := (⟨laws_szUpdate.sg, fun (x : LawsUpdate × Int × Unit) => laws_szUpdate N x.1 x.2.1⟩ : Sm D)
theorem laws_szUpdate.sound (N : Nat) : Sound cx Tryz.prog gam 67 (laws_szUpdate.sm N) := fn_sound (A := laws_szUpdate.A) (Φ := (look (laws_szUpdate.phis N))) pok (G := gam) (ΦOk.cons (laws_szSlotS.sound N) (fnOk_of (f := 109) (by kernel_rfl)) (ΦOk.cons (laws_szStepS.sound N) (fnOk_of (f := 111) (by kernel_rfl)) ΦOk.nil)) mixed N Tryz.func67 (c := (bodyOf Tryz.f67)) (by kernel_rfl) laws_szUpdate.sg (by kernel_rfl) (by kernel_rfl) (by kernel_rfl) (laws_szUpdate.run N)

@[reducible] def laws_szUpdateS.sg : Sg := { ms := [{ k := (.sl (.st 96)), fl := [none] }, { k := (.int .i64) }], keep := [false, false], rs := [{ k := (.int .i64) }] }
@[reducible] def laws_szUpdateS.lvL0 : Lv := { id := 0, slots := [0, 1, 5], ms := [{ k := (.sl (.st 96)), fl := [none] }, { k := (.int .i64) }, { k := (.int .i64) }] }
noncomputable def laws_szUpdateS.A : Ann := { dp := fun d => isIn [] d, lp := look [(0, laws_szUpdateS.lvL0)], jn := look [], pins := [], nt := 27 }
noncomputable def laws_szUpdateS.phis (N : Nat) : List (Nat × Sm D) := [(67, laws_szUpdate.sm N)]
noncomputable def laws_szUpdateS.a0 (N : Nat) (n : Nat) (y : (List (LawsUpdate)) × Int × Int × Unit) : Option (Int × Unit) := loopAt cx (look (laws_szUpdateS.phis N)) laws_szUpdateS.A N n (encL cx laws_szUpdateS.lvL0.ms y).1 (encL cx laws_szUpdateS.lvL0.ms y).2 (bodyOf Tryz.f27) 0 (Kfin cx laws_szUpdateS.A laws_szUpdateS.sg Tryz.f27.results.toList) [1, 1, 1, 0, 1, 1] []
theorem laws_szUpdateS.r0 (N : Nat) : ∀ (n : Nat) (y : (List (LawsUpdate)) × Int × Int × Unit), laws_szUpdateS.a0 N n y = laws_szUpdateS.L0 N n y
  | 0, y => by kernel_rfl
  | n + 1, y => by
    have h : laws_szUpdateS.a0 N (n + 1) y = laws_szUpdateS.B0 N (fun z => laws_szUpdateS.a0 N n z) y := by kernel_rfl
    have e : (fun z => laws_szUpdateS.a0 N n z) = laws_szUpdateS.L0 N n := funext fun z => laws_szUpdateS.r0 N n z
    rw [h]
    try rw [e]
    first | done | rfl
theorem laws_szUpdateS.run (N : Nat) (x : (List (LawsUpdate)) × Int × Unit) : runF cx (look (laws_szUpdateS.phis N)) laws_szUpdateS.A N (bodyOf Tryz.f27) Tryz.f27.results.toList laws_szUpdateS.sg x = laws_szUpdateS N x.1 x.2.1 := by
  have h : runF cx (look (laws_szUpdateS.phis N)) laws_szUpdateS.A N (bodyOf Tryz.f27) Tryz.f27.results.toList laws_szUpdateS.sg x = laws_szUpdateS.B N (fun z => laws_szUpdateS.a0 N N z) x.1 x.2.1 := by kernel_rfl
  have e0 : (fun z => laws_szUpdateS.a0 N N z) = laws_szUpdateS.L0 N N := funext fun z => laws_szUpdateS.r0 N N z
  rw [h, e0]
  try rfl
noncomputable def laws_szUpdateS.sm (N : Nat) : Sm D := (⟨laws_szUpdateS.sg, fun (x : (List (LawsUpdate)) × Int × Unit) => laws_szUpdateS N x.1 x.2.1⟩ : Sm D)
theorem laws_szUpdateS.sound (N : Nat) : Sound cx Tryz.prog gam 27 (laws_szUpdateS.sm N) := fn_sound (A := laws_szUpdateS.A) (Φ := (look (laws_szUpdateS.phis N))) pok (G := gam) (ΦOk.cons (laws_szUpdate.sound N) (fnOk_of (f := 67) (by kernel_rfl)) ΦOk.nil) mixed N Tryz.func27 (c := (bodyOf Tryz.f27)) (by kernel_rfl) laws_szUpdateS.sg (by kernel_rfl) (by kernel_rfl) (by kernel_rfl) (laws_szUpdateS.run N)

@[reducible] def laws_toSlot.sg : Sg := { ms := [{ k := (.st 125) }], keep := [false], rs := [{ k := (.st 125) }] }
noncomputable def laws_toSlot.A : Ann := { dp := fun d => isIn [] d, lp := look [], jn := look [], pins := [], nt := 11 }
noncomputable def laws_toSlot.phis (N : Nat) : List (Nat × Sm D) := []
theorem laws_toSlot.run (N : Nat) (x : ImplSlot × Unit) : runF cx (look (laws_toSlot.phis N)) laws_toSlot.A N (bodyOf Tryz.f141) Tryz.f141.results.toList laws_toSlot.sg x = laws_toSlot N x.1 := by
  have h : runF cx (look (laws_toSlot.phis N)) laws_toSlot.A N (bodyOf Tryz.f141) Tryz.f141.results.toList laws_toSlot.sg x = laws_toSlot.B N x.1 := by kernel_rfl
  rw [h]
  try rfl
noncomputable def laws_toSlot.sm (N : Nat) : Sm D := (⟨laws_toSlot.sg, fun (x : ImplSlot × Unit) => laws_toSlot N x.1⟩ : Sm D)
theorem laws_toSlot.sound (N : Nat) : Sound cx Tryz.prog gam 141 (laws_toSlot.sm N) := fn_sound (A := laws_toSlot.A) (Φ := (look (laws_toSlot.phis N))) pok (G := gam) ΦOk.nil mixed N Tryz.func141 (c := (bodyOf Tryz.f141)) (by kernel_rfl) laws_toSlot.sg (by kernel_rfl) (by kernel_rfl) (by kernel_rfl) (laws_toSlot.run N)

@[reducible] def laws_toSlotS.sg : Sg := { ms := [{ k := (.sl (.st 125)), fl := [none] }], keep := [false], rs := [{ k := (.sl (.st 125)), fl := [some (false, 411)] }] }
@[reducible] def laws_toSlotS.lvL0 : Lv := { id := 0, slots := [0, 3, 4], ms := [{ k := (.sl (.st 125)), fl := [none] }, { k := (.sl (.st 125)), fl := [some (false, 620)] }, { k := (.int .i64) }] }
noncomputable def laws_toSlotS.A : Ann := { dp := fun d => isIn [] d, lp := look [(0, laws_toSlotS.lvL0)], jn := look [], pins := [], nt := 23 }
noncomputable def laws_toSlotS.phis (N : Nat) : List (Nat × Sm D) := [(141, laws_toSlot.sm N)]
noncomputable def laws_toSlotS.a0 (N : Nat) (n : Nat) (y : (List (ImplSlot)) × (List (ImplSlot)) × Int × Unit) : Option ((List (ImplSlot)) × Unit) := loopAt cx (look (laws_toSlotS.phis N)) laws_toSlotS.A N n (encL cx laws_toSlotS.lvL0.ms y).1 (encL cx laws_toSlotS.lvL0.ms y).2 (bodyOf Tryz.f115) 0 (Kfin cx laws_toSlotS.A laws_toSlotS.sg Tryz.f115.results.toList) [1, 1, 0, 1, 1] []
theorem laws_toSlotS.r0 (N : Nat) : ∀ (n : Nat) (y : (List (ImplSlot)) × (List (ImplSlot)) × Int × Unit), laws_toSlotS.a0 N n y = laws_toSlotS.L0 N n y
  | 0, y => by kernel_rfl
  | n + 1, y => by
    have h : laws_toSlotS.a0 N (n + 1) y = laws_toSlotS.B0 N (fun z => laws_toSlotS.a0 N n z) y := by kernel_rfl
    have e : (fun z => laws_toSlotS.a0 N n z) = laws_toSlotS.L0 N n := funext fun z => laws_toSlotS.r0 N n z
    rw [h]
    try rw [e]
    first | done | rfl
theorem laws_toSlotS.run (N : Nat) (x : (List (ImplSlot)) × Unit) : runF cx (look (laws_toSlotS.phis N)) laws_toSlotS.A N (bodyOf Tryz.f115) Tryz.f115.results.toList laws_toSlotS.sg x = laws_toSlotS N x.1 := by
  have h : runF cx (look (laws_toSlotS.phis N)) laws_toSlotS.A N (bodyOf Tryz.f115) Tryz.f115.results.toList laws_toSlotS.sg x = laws_toSlotS.B N (fun z => laws_toSlotS.a0 N N z) x.1 := by kernel_rfl
  have e0 : (fun z => laws_toSlotS.a0 N N z) = laws_toSlotS.L0 N N := funext fun z => laws_toSlotS.r0 N N z
  rw [h, e0]
  try rfl
noncomputable def laws_toSlotS.sm (N : Nat) : Sm D := (⟨laws_toSlotS.sg, fun (x : (List (ImplSlot)) × Unit) => laws_toSlotS N x.1⟩ : Sm D)
theorem laws_toSlotS.sound (N : Nat) : Sound cx Tryz.prog gam 115 (laws_toSlotS.sm N) := fn_sound (A := laws_toSlotS.A) (Φ := (look (laws_toSlotS.phis N))) pok (G := gam) (ΦOk.cons (laws_toSlot.sound N) (fnOk_of (f := 141) (by kernel_rfl)) ΦOk.nil) mixed N Tryz.func115 (c := (bodyOf Tryz.f115)) (by kernel_rfl) laws_toSlotS.sg (by kernel_rfl) (by kernel_rfl) (by kernel_rfl) (laws_toSlotS.run N)

@[reducible] def laws_toValue.sg : Sg := { ms := [{ k := (.st 127) }], keep := [false], rs := [{ k := (.st 127) }] }
noncomputable def laws_toValue.A : Ann := { dp := fun d => isIn [] d, lp := look [], jn := look [], pins := [], nt := 14 }
noncomputable def laws_toValue.phis (N : Nat) : List (Nat × Sm D) := []
theorem laws_toValue.run (N : Nat) (x : ImplValue × Unit) : runF cx (look (laws_toValue.phis N)) laws_toValue.A N (bodyOf Tryz.f142) Tryz.f142.results.toList laws_toValue.sg x = laws_toValue N x.1 := by
  have h : runF cx (look (laws_toValue.phis N)) laws_toValue.A N (bodyOf Tryz.f142) Tryz.f142.results.toList laws_toValue.sg x = laws_toValue.B N x.1 := by kernel_rfl
  rw [h]
  try rfl
noncomputable def laws_toValue.sm (N : Nat) : Sm D := (⟨laws_toValue.sg, fun (x : ImplValue × Unit) => laws_toValue N x.1⟩ : Sm D)
theorem laws_toValue.sound (N : Nat) : Sound cx Tryz.prog gam 142 (laws_toValue.sm N) := fn_sound (A := laws_toValue.A) (Φ := (look (laws_toValue.phis N))) pok (G := gam) ΦOk.nil mixed N Tryz.func142 (c := (bodyOf Tryz.f142)) (by kernel_rfl) laws_toValue.sg (by kernel_rfl) (by kernel_rfl) (by kernel_rfl) (laws_toValue.run N)

@[reducible] def laws_toValueS.sg : Sg := { ms := [{ k := (.sl (.st 127)), fl := [none] }], keep := [false], rs := [{ k := (.sl (.st 127)), fl := [some (false, 411)] }] }
@[reducible] def laws_toValueS.lvL0 : Lv := { id := 0, slots := [0, 3, 4], ms := [{ k := (.sl (.st 127)), fl := [none] }, { k := (.sl (.st 127)), fl := [some (false, 620)] }, { k := (.int .i64) }] }
noncomputable def laws_toValueS.A : Ann := { dp := fun d => isIn [] d, lp := look [(0, laws_toValueS.lvL0)], jn := look [], pins := [], nt := 23 }
noncomputable def laws_toValueS.phis (N : Nat) : List (Nat × Sm D) := [(142, laws_toValue.sm N)]
noncomputable def laws_toValueS.a0 (N : Nat) (n : Nat) (y : (List (ImplValue)) × (List (ImplValue)) × Int × Unit) : Option ((List (ImplValue)) × Unit) := loopAt cx (look (laws_toValueS.phis N)) laws_toValueS.A N n (encL cx laws_toValueS.lvL0.ms y).1 (encL cx laws_toValueS.lvL0.ms y).2 (bodyOf Tryz.f116) 0 (Kfin cx laws_toValueS.A laws_toValueS.sg Tryz.f116.results.toList) [1, 1, 0, 1, 1] []
theorem laws_toValueS.r0 (N : Nat) : ∀ (n : Nat) (y : (List (ImplValue)) × (List (ImplValue)) × Int × Unit), laws_toValueS.a0 N n y = laws_toValueS.L0 N n y
  | 0, y => by kernel_rfl
  | n + 1, y => by
    have h : laws_toValueS.a0 N (n + 1) y = laws_toValueS.B0 N (fun z => laws_toValueS.a0 N n z) y := by kernel_rfl
    have e : (fun z => laws_toValueS.a0 N n z) = laws_toValueS.L0 N n := funext fun z => laws_toValueS.r0 N n z
    rw [h]
    try rw [e]
    first | done | rfl
theorem laws_toValueS.run (N : Nat) (x : (List (ImplValue)) × Unit) : runF cx (look (laws_toValueS.phis N)) laws_toValueS.A N (bodyOf Tryz.f116) Tryz.f116.results.toList laws_toValueS.sg x = laws_toValueS N x.1 := by
  have h : runF cx (look (laws_toValueS.phis N)) laws_toValueS.A N (bodyOf Tryz.f116) Tryz.f116.results.toList laws_toValueS.sg x = laws_toValueS.B N (fun z => laws_toValueS.a0 N N z) x.1 := by kernel_rfl
  have e0 : (fun z => laws_toValueS.a0 N N z) = laws_toValueS.L0 N N := funext fun z => laws_toValueS.r0 N N z
  rw [h, e0]
  try rfl
noncomputable def laws_toValueS.sm (N : Nat) : Sm D := (⟨laws_toValueS.sg, fun (x : (List (ImplValue)) × Unit) => laws_toValueS N x.1⟩ : Sm D)
theorem laws_toValueS.sound (N : Nat) : Sound cx Tryz.prog gam 116 (laws_toValueS.sm N) := fn_sound (A := laws_toValueS.A) (Φ := (look (laws_toValueS.phis N))) pok (G := gam) (ΦOk.cons (laws_toValue.sound N) (fnOk_of (f := 142) (by kernel_rfl)) ΦOk.nil) mixed N Tryz.func116 (c := (bodyOf Tryz.f116)) (by kernel_rfl) laws_toValueS.sg (by kernel_rfl) (by kernel_rfl) (by kernel_rfl) (laws_toValueS.run N)

@[reducible] def laws_toCell.sg : Sg := { ms := [{ k := (.st 92) }], keep := [false], rs := [{ k := (.st 80), fl := [some (false, 411), some (false, 412)] }] }
noncomputable def laws_toCell.A : Ann := { dp := fun d => isIn [] d, lp := look [], jn := look [], pins := [], nt := 13 }
noncomputable def laws_toCell.phis (N : Nat) : List (Nat × Sm D) := [(115, laws_toSlotS.sm N), (116, laws_toValueS.sm N)]
theorem laws_toCell.run (N : Nat) (x : LawsCell × Unit) : runF cx (look (laws_toCell.phis N)) laws_toCell.A N (bodyOf Tryz.f71) Tryz.f71.results.toList laws_toCell.sg x = laws_toCell N x.1 := by
  have h : runF cx (look (laws_toCell.phis N)) laws_toCell.A N (bodyOf Tryz.f71) Tryz.f71.results.toList laws_toCell.sg x = laws_toCell.B N x.1 := by kernel_rfl
  rw [h]
  try rfl
noncomputable def laws_toCell.sm (N : Nat) : Sm D := (⟨laws_toCell.sg, fun (x : LawsCell × Unit) => laws_toCell N x.1⟩ : Sm D)
theorem laws_toCell.sound (N : Nat) : Sound cx Tryz.prog gam 71 (laws_toCell.sm N) := fn_sound (A := laws_toCell.A) (Φ := (look (laws_toCell.phis N))) pok (G := gam) (ΦOk.cons (laws_toSlotS.sound N) (fnOk_of (f := 115) (by kernel_rfl)) (ΦOk.cons (laws_toValueS.sound N) (fnOk_of (f := 116) (by kernel_rfl)) ΦOk.nil)) mixed N Tryz.func71 (c := (bodyOf Tryz.f71)) (by kernel_rfl) laws_toCell.sg (by kernel_rfl) (by kernel_rfl) (by kernel_rfl) (laws_toCell.run N)

@[reducible] def laws_toCellS.sg : Sg := { ms := [{ k := (.sl (.st 92)), fl := [none] }], keep := [false], rs := [{ k := (.sl (.st 80)), fl := [some (true, 411)] }] }
@[reducible] def laws_toCellS.lvL0 : Lv := { id := 0, slots := [0, 3, 4], ms := [{ k := (.sl (.st 92)), fl := [none] }, { k := (.sl (.st 80)), fl := [some (true, 620)] }, { k := (.int .i64) }] }
noncomputable def laws_toCellS.A : Ann := { dp := fun _ => true, lp := look [(0, laws_toCellS.lvL0)], jn := look [], pins := [], nt := 23 }
noncomputable def laws_toCellS.phis (N : Nat) : List (Nat × Sm D) := [(71, laws_toCell.sm N)]
noncomputable def laws_toCellS.a0 (N : Nat) (n : Nat) (y : (List (LawsCell)) × (List (ImplCell)) × Int × Unit) : Option ((List (ImplCell)) × Unit) := loopAt cx (look (laws_toCellS.phis N)) laws_toCellS.A N n (encL cx laws_toCellS.lvL0.ms y).1 (encL cx laws_toCellS.lvL0.ms y).2 (bodyOf Tryz.f29) 0 (Kfin cx laws_toCellS.A laws_toCellS.sg Tryz.f29.results.toList) [1, 1, 0, 1, 1] []
theorem laws_toCellS.r0 (N : Nat) : ∀ (n : Nat) (y : (List (LawsCell)) × (List (ImplCell)) × Int × Unit), laws_toCellS.a0 N n y = laws_toCellS.L0 N n y
  | 0, y => by kernel_rfl
  | n + 1, y => by
    have h : laws_toCellS.a0 N (n + 1) y = laws_toCellS.B0 N (fun z => laws_toCellS.a0 N n z) y := by kernel_rfl
    have e : (fun z => laws_toCellS.a0 N n z) = laws_toCellS.L0 N n := funext fun z => laws_toCellS.r0 N n z
    rw [h]
    try rw [e]
    first | done | rfl
theorem laws_toCellS.run (N : Nat) (x : (List (LawsCell)) × Unit) : runF cx (look (laws_toCellS.phis N)) laws_toCellS.A N (bodyOf Tryz.f29) Tryz.f29.results.toList laws_toCellS.sg x = laws_toCellS N x.1 := by
  have h : runF cx (look (laws_toCellS.phis N)) laws_toCellS.A N (bodyOf Tryz.f29) Tryz.f29.results.toList laws_toCellS.sg x = laws_toCellS.B N (fun z => laws_toCellS.a0 N N z) x.1 := by kernel_rfl
  have e0 : (fun z => laws_toCellS.a0 N N z) = laws_toCellS.L0 N N := funext fun z => laws_toCellS.r0 N N z
  rw [h, e0]
  try rfl
noncomputable def laws_toCellS.sm (N : Nat) : Sm D := (⟨laws_toCellS.sg, fun (x : (List (LawsCell)) × Unit) => laws_toCellS N x.1⟩ : Sm D)
theorem laws_toCellS.sound (N : Nat) : Sound cx Tryz.prog gam 29 (laws_toCellS.sm N) := fn_sound (A := laws_toCellS.A) (Φ := (look (laws_toCellS.phis N))) pok (G := gam) (ΦOk.cons (laws_toCell.sound N) (fnOk_of (f := 71) (by kernel_rfl)) ΦOk.nil) mixed N Tryz.func29 (c := (bodyOf Tryz.f29)) (by kernel_rfl) laws_toCellS.sg (by kernel_rfl) (by kernel_rfl) (by kernel_rfl) (laws_toCellS.run N)

@[reducible] def laws_toStep.sg : Sg := { ms := [{ k := (.st 162) }], keep := [false], rs := [{ k := (.st 141) }] }
noncomputable def laws_toStep.A : Ann := { dp := fun d => isIn [] d, lp := look [], jn := look [], pins := [], nt := 15 }
noncomputable def laws_toStep.phis (N : Nat) : List (Nat × Sm D) := [(142, laws_toValue.sm N)]
theorem laws_toStep.run (N : Nat) (x : LawsStep × Unit) : runF cx (look (laws_toStep.phis N)) laws_toStep.A N (bodyOf Tryz.f143) Tryz.f143.results.toList laws_toStep.sg x = laws_toStep N x.1 := by
  have h : runF cx (look (laws_toStep.phis N)) laws_toStep.A N (bodyOf Tryz.f143) Tryz.f143.results.toList laws_toStep.sg x = laws_toStep.B N x.1 := by kernel_rfl
  rw [h]
  try rfl
noncomputable def laws_toStep.sm (N : Nat) : Sm D := (⟨laws_toStep.sg, fun (x : LawsStep × Unit) => laws_toStep N x.1⟩ : Sm D)
theorem laws_toStep.sound (N : Nat) : Sound cx Tryz.prog gam 143 (laws_toStep.sm N) := fn_sound (A := laws_toStep.A) (Φ := (look (laws_toStep.phis N))) pok (G := gam) (ΦOk.cons (laws_toValue.sound N) (fnOk_of (f := 142) (by kernel_rfl)) ΦOk.nil) mixed N Tryz.func143 (c := (bodyOf Tryz.f143)) (by kernel_rfl) laws_toStep.sg (by kernel_rfl) (by kernel_rfl) (by kernel_rfl) (laws_toStep.run N)

@[reducible] def laws_toStepS.sg : Sg := { ms := [{ k := (.sl (.st 162)), fl := [none] }], keep := [false], rs := [{ k := (.sl (.st 141)), fl := [some (false, 411)] }] }
@[reducible] def laws_toStepS.lvL0 : Lv := { id := 0, slots := [0, 3, 4], ms := [{ k := (.sl (.st 162)), fl := [none] }, { k := (.sl (.st 141)), fl := [some (false, 620)] }, { k := (.int .i64) }] }
noncomputable def laws_toStepS.A : Ann := { dp := fun d => isIn [] d, lp := look [(0, laws_toStepS.lvL0)], jn := look [], pins := [], nt := 23 }
noncomputable def laws_toStepS.phis (N : Nat) : List (Nat × Sm D) := [(143, laws_toStep.sm N)]
noncomputable def laws_toStepS.a0 (N : Nat) (n : Nat) (y : (List (LawsStep)) × (List (ImplStep)) × Int × Unit) : Option ((List (ImplStep)) × Unit) := loopAt cx (look (laws_toStepS.phis N)) laws_toStepS.A N n (encL cx laws_toStepS.lvL0.ms y).1 (encL cx laws_toStepS.lvL0.ms y).2 (bodyOf Tryz.f117) 0 (Kfin cx laws_toStepS.A laws_toStepS.sg Tryz.f117.results.toList) [1, 1, 0, 1, 1] []
theorem laws_toStepS.r0 (N : Nat) : ∀ (n : Nat) (y : (List (LawsStep)) × (List (ImplStep)) × Int × Unit), laws_toStepS.a0 N n y = laws_toStepS.L0 N n y
  | 0, y => by kernel_rfl
  | n + 1, y => by
    have h : laws_toStepS.a0 N (n + 1) y = laws_toStepS.B0 N (fun z => laws_toStepS.a0 N n z) y := by kernel_rfl
    have e : (fun z => laws_toStepS.a0 N n z) = laws_toStepS.L0 N n := funext fun z => laws_toStepS.r0 N n z
    rw [h]
    try rw [e]
    first | done | rfl
theorem laws_toStepS.run (N : Nat) (x : (List (LawsStep)) × Unit) : runF cx (look (laws_toStepS.phis N)) laws_toStepS.A N (bodyOf Tryz.f117) Tryz.f117.results.toList laws_toStepS.sg x = laws_toStepS N x.1 := by
  have h : runF cx (look (laws_toStepS.phis N)) laws_toStepS.A N (bodyOf Tryz.f117) Tryz.f117.results.toList laws_toStepS.sg x = laws_toStepS.B N (fun z => laws_toStepS.a0 N N z) x.1 := by kernel_rfl
  have e0 : (fun z => laws_toStepS.a0 N N z) = laws_toStepS.L0 N N := funext fun z => laws_toStepS.r0 N N z
  rw [h, e0]
  try rfl
noncomputable def laws_toStepS.sm (N : Nat) : Sm D := (⟨laws_toStepS.sg, fun (x : (List (LawsStep)) × Unit) => laws_toStepS N x.1⟩ : Sm D)
theorem laws_toStepS.sound (N : Nat) : Sound cx Tryz.prog gam 117 (laws_toStepS.sm N) := fn_sound (A := laws_toStepS.A) (Φ := (look (laws_toStepS.phis N))) pok (G := gam) (ΦOk.cons (laws_toStep.sound N) (fnOk_of (f := 143) (by kernel_rfl)) ΦOk.nil) mixed N Tryz.func117 (c := (bodyOf Tryz.f117)) (by kernel_rfl) laws_toStepS.sg (by kernel_rfl) (by kernel_rfl) (by kernel_rfl) (laws_toStepS.run N)

@[reducible] def laws_toUpdate.sg : Sg := { ms := [{ k := (.st 96) }], keep := [false], rs := [{ k := (.st 100), fl := [some (false, 411), none, some (false, 413), none] }] }
noncomputable def laws_toUpdate.A : Ann := { dp := fun d => isIn [] d, lp := look [], jn := look [], pins := [], nt := 19 }
noncomputable def laws_toUpdate.phis (N : Nat) : List (Nat × Sm D) := [(115, laws_toSlotS.sm N), (117, laws_toStepS.sm N)]
theorem laws_toUpdate.run (N : Nat) (x : LawsUpdate × Unit) : runF cx (look (laws_toUpdate.phis N)) laws_toUpdate.A N (bodyOf Tryz.f72) Tryz.f72.results.toList laws_toUpdate.sg x = laws_toUpdate N x.1 := by
  have h : runF cx (look (laws_toUpdate.phis N)) laws_toUpdate.A N (bodyOf Tryz.f72) Tryz.f72.results.toList laws_toUpdate.sg x = laws_toUpdate.B N x.1 := by kernel_rfl
  rw [h]
  try rfl
noncomputable def laws_toUpdate.sm (N : Nat) : Sm D := (⟨laws_toUpdate.sg, fun (x : LawsUpdate × Unit) => laws_toUpdate N x.1⟩ : Sm D)
theorem laws_toUpdate.sound (N : Nat) : Sound cx Tryz.prog gam 72 (laws_toUpdate.sm N) := fn_sound (A := laws_toUpdate.A) (Φ := (look (laws_toUpdate.phis N))) pok (G := gam) (ΦOk.cons (laws_toSlotS.sound N) (fnOk_of (f := 115) (by kernel_rfl)) (ΦOk.cons (laws_toStepS.sound N) (fnOk_of (f := 117) (by kernel_rfl)) ΦOk.nil)) mixed N Tryz.func72 (c := (bodyOf Tryz.f72)) (by kernel_rfl) laws_toUpdate.sg (by kernel_rfl) (by kernel_rfl) (by kernel_rfl) (laws_toUpdate.run N)

end
end Go.Ev
