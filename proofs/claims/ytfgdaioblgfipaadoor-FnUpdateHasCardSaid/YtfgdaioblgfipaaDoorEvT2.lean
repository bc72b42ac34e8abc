/- Each function that the law reaches does what its plain form says; no condition beyond the table of the library. -/
import Derived.Test.YtfgdaioblgfipaaDoorEvT1
set_option linter.all false
set_option linter.unusedVariables false
set_option linter.unusedSimpArgs false
set_option maxRecDepth 100000
set_option maxHeartbeats 0
namespace Go.Ev
noncomputable section
open Go.Proofs
@[reducible] def impl_storeFind.sg : Sg := { ms := [{ k := (.sl (.st 98)), fl := [none] }, { k := (.sl (.st 109)), fl := [none] }], keep := [false, false], rs := [{ k := (.int .i64) }] }
@[reducible] def impl_storeFind.lvL0 : Lv := { id := 0, slots := [1, 7, 8, 9], ms := [{ k := (.sl (.st 109)), fl := [none] }, { k := (.sl (.st 98)), fl := [none] }, { k := (.int .i64) }, { k := (.int .i64) }] }
noncomputable def impl_storeFind.A : Ann := { dp := fun d => isIn [] d, lp := look [(0, impl_storeFind.lvL0)], jn := look [], pins := [], nt := 21 }
noncomputable def impl_storeFind.phis (N : Nat) : List (Nat × Sm D) := [(74, impl_placeCmp.sm N)]
noncomputable def impl_storeFind.a0 (N : Nat) (n : Nat) (y : (List (ImplSlot)) × (List (ImplCell)) × Int × Int × Unit) : Option (Int × Unit) := loopAt cx (look (impl_storeFind.phis N)) impl_storeFind.A N n (encL cx impl_storeFind.lvL0.ms y).1 (encL cx impl_storeFind.lvL0.ms y).2 (bodyOf Tryd.f88) 0 (Kfin cx impl_storeFind.A impl_storeFind.sg Tryd.f88.results.toList) [1, 0, 1, 1] []
theorem impl_storeFind.r0 (N : Nat) : ∀ (n : Nat) (y : (List (ImplSlot)) × (List (ImplCell)) × Int × Int × Unit), impl_storeFind.a0 N n y = impl_storeFind.L0 N n y
  | 0, y => by kernel_rfl
  | n + 1, y => by
    have h : impl_storeFind.a0 N (n + 1) y = impl_storeFind.B0 N (fun z => impl_storeFind.a0 N n z) y := by kernel_rfl
    have e : (fun z => impl_storeFind.a0 N n z) = impl_storeFind.L0 N n := funext fun z => impl_storeFind.r0 N n z
    rw [h]
    try rw [e]
    first | done | rfl
theorem impl_storeFind.run (N : Nat) (x : (List (ImplCell)) × (List (ImplSlot)) × Unit) : runF cx (look (impl_storeFind.phis N)) impl_storeFind.A N (bodyOf Tryd.f88) Tryd.f88.results.toList impl_storeFind.sg x = impl_storeFind N x.1 x.2.1 := by
  have h : runF cx (look (impl_storeFind.phis N)) impl_storeFind.A N (bodyOf Tryd.f88) Tryd.f88.results.toList impl_storeFind.sg x = impl_storeFind.B N (fun z => impl_storeFind.a0 N N z) x.1 x.2.1 := by kernel_rfl
  have e0 : (fun z => impl_storeFind.a0 N N z) = impl_storeFind.L0 N N := funext fun z => impl_storeFind.r0 N N z
  rw [h, e0]
  try rfl
noncomputable def impl_storeFind.sm (N : Nat) : Sm D := (⟨impl_storeFind.sg, fun (x : (List (ImplCell)) × (List (ImplSlot)) × Unit) => impl_storeFind N x.1 x.2.1⟩ : Sm D)
theorem impl_storeFind.sound (N : Nat) : Sound cx Tryd.prog gam 88 (impl_storeFind.sm N) := fn_sound (A := impl_storeFind.A) (Φ := (look (impl_storeFind.phis N))) pok (G := gam) (ΦOk.cons (impl_placeCmp.sound N) (fnOk_of (f := 74) (by kernel_rfl)) ΦOk.nil) mixed N Tryd.func88 (c := (bodyOf Tryd.f88)) (by kernel_rfl) impl_storeFind.sg (by kernel_rfl) (by kernel_rfl) (by kernel_rfl) (impl_storeFind.run N)

@[reducible] def impl_updateAt.sg : Sg := { ms := [{ k := (.sl (.st 98)), fl := [none] }, { k := (.st 25) }], keep := [false, false], rs := [{ k := (.int .i64) }] }
noncomputable def impl_updateAt.A : Ann := { dp := fun d => isIn [] d, lp := look [], jn := look [], pins := [], nt := 36 }
noncomputable def impl_updateAt.phis (N : Nat) : List (Nat × Sm D) := [(88, impl_storeFind.sm N), (84, impl_formFits.sm N)]
theorem impl_updateAt.run (N : Nat) (x : (List (ImplCell)) × ImplUpdate × Unit) : runF cx (look (impl_updateAt.phis N)) impl_updateAt.A N (bodyOf Tryd.f48) Tryd.f48.results.toList impl_updateAt.sg x = impl_updateAt N x.1 x.2.1 := by
  have h : runF cx (look (impl_updateAt.phis N)) impl_updateAt.A N (bodyOf Tryd.f48) Tryd.f48.results.toList impl_updateAt.sg x = impl_updateAt.B N x.1 x.2.1 := by kernel_rfl
  rw [h]
  try rfl
noncomputable def impl_updateAt.sm (N : Nat) : Sm D := (⟨impl_updateAt.sg, fun (x : (List (ImplCell)) × ImplUpdate × Unit) => impl_updateAt N x.1 x.2.1⟩ : Sm D)
theorem impl_updateAt.sound (N : Nat) : Sound cx Tryd.prog gam 48 (impl_updateAt.sm N) := fn_sound (A := impl_updateAt.A) (Φ := (look (impl_updateAt.phis N))) pok (G := gam) (ΦOk.cons (impl_storeFind.sound N) (fnOk_of (f := 88) (by kernel_rfl)) (ΦOk.cons (impl_formFits.sound N) (fnOk_of (f := 84) (by kernel_rfl)) ΦOk.nil)) mixed N Tryd.func48 (c := (bodyOf Tryd.f48)) (by kernel_rfl) impl_updateAt.sg (by kernel_rfl) (by kernel_rfl) (by kernel_rfl) (impl_updateAt.run N)

@[reducible] def impl_number.sg : Sg := { ms := [{ k := (.int .i64) }], keep := [false], rs := [{ k := (.st 49) }] }
noncomputable def impl_number.A : Ann := { dp := fun d => isIn [] d, lp := look [], jn := look [], pins := [], nt := 5 }
noncomputable def impl_number.phis (N : Nat) : List (Nat × Sm D) := []
theorem impl_number.run (N : Nat) (x : Int × Unit) : runF cx (look (impl_number.phis N)) impl_number.A N (bodyOf Tryd.f101) Tryd.f101.results.toList impl_number.sg x = impl_number N x.1 := by
  have h : runF cx (look (impl_number.phis N)) impl_number.A N (bodyOf Tryd.f101) Tryd.f101.results.toList impl_number.sg x = impl_number.B N x.1 := by kernel_rfl
  rw [h]
  try rfl
noncomputable def impl_number.sm (N : Nat) : Sm D := (⟨impl_number.sg, fun (x : Int × Unit) => impl_number N x.1⟩ : Sm D)
theorem impl_number.sound (N : Nat) : Sound cx Tryd.prog gam 101 (impl_number.sm N) := fn_sound (A := impl_number.A) (Φ := (look (impl_number.phis N))) pok (G := gam) ΦOk.nil mixed N Tryd.func101 (c := (bodyOf Tryd.f101)) (by kernel_rfl) impl_number.sg (by kernel_rfl) (by kernel_rfl) (by kernel_rfl) (impl_number.run N)

@[reducible] def impl_truth.sg : Sg := { ms := [{ k := .bool }], keep := [false], rs := [{ k := (.st 49) }] }
noncomputable def impl_truth.A : Ann := { dp := fun d => isIn [] d, lp := look [], jn := look [], pins := [], nt := 6 }
noncomputable def impl_truth.phis (N : Nat) : List (Nat × Sm D) := [(101, impl_number.sm N)]
theorem impl_truth.run (N : Nat) (x : Bool × Unit) : runF cx (look (impl_truth.phis N)) impl_truth.A N (bodyOf Tryd.f128) Tryd.f128.results.toList impl_truth.sg x = impl_truth N x.1 := by
  have h : runF cx (look (impl_truth.phis N)) impl_truth.A N (bodyOf Tryd.f128) Tryd.f128.results.toList impl_truth.sg x = impl_truth.B N x.1 := by kernel_rfl
  rw [h]
  try rfl
noncomputable def impl_truth.sm (N : Nat) : Sm D := (⟨impl_truth.sg, fun (x : Bool × Unit) => impl_truth N x.1⟩ : Sm D)
theorem impl_truth.sound (N : Nat) : Sound cx Tryd.prog gam 128 (impl_truth.sm N) := fn_sound (A := impl_truth.A) (Φ := (look (impl_truth.phis N))) pok (G := gam) (ΦOk.cons (impl_number.sound N) (fnOk_of (f := 101) (by kernel_rfl)) ΦOk.nil) mixed N Tryd.func128 (c := (bodyOf Tryd.f128)) (by kernel_rfl) impl_truth.sg (by kernel_rfl) (by kernel_rfl) (by kernel_rfl) (impl_truth.run N)

@[reducible] def impl_ValShow.sg : Sg := { ms := [{ k := (.st 49) }], keep := [false], rs := [{ k := .str }] }
noncomputable def impl_ValShow.A : Ann := { dp := fun d => isIn [] d, lp := look [], jn := look [], pins := [], nt := 19 }
noncomputable def impl_ValShow.phis (N : Nat) : List (Nat × Sm D) := [(92, impl_ValOk.sm N), (107, LibItoa.sm N)]
theorem impl_ValShow.run (N : Nat) (x : ImplValue × Unit) : runF cx (look (impl_ValShow.phis N)) impl_ValShow.A N (bodyOf Tryd.f129) Tryd.f129.results.toList impl_ValShow.sg x = impl_ValShow N x.1 := by
  have h : runF cx (look (impl_ValShow.phis N)) impl_ValShow.A N (bodyOf Tryd.f129) Tryd.f129.results.toList impl_ValShow.sg x = impl_ValShow.B N x.1 := by kernel_rfl
  rw [h]
  try rfl
noncomputable def impl_ValShow.sm (N : Nat) : Sm D := (⟨impl_ValShow.sg, fun (x : ImplValue × Unit) => impl_ValShow N x.1⟩ : Sm D)
theorem impl_ValShow.sound (N : Nat) : Sound cx Tryd.prog gam 129 (impl_ValShow.sm N) := fn_sound (A := impl_ValShow.A) (Φ := (look (impl_ValShow.phis N))) pok (G := gam) (ΦOk.cons (impl_ValOk.sound N) (fnOk_of (f := 92) (by kernel_rfl)) (ΦOk.cons (LibItoa.sound N) (fnOk_of (f := 107) (by kernel_rfl)) ΦOk.nil)) mixed N Tryd.func129 (c := (bodyOf Tryd.f129)) (by kernel_rfl) impl_ValShow.sg (by kernel_rfl) (by kernel_rfl) (by kernel_rfl) (impl_ValShow.run N)

@[reducible] def impl_ValTrue.sg : Sg := { ms := [{ k := (.st 49) }], keep := [false], rs := [{ k := .bool }] }
noncomputable def impl_ValTrue.A : Ann := { dp := fun d => isIn [] d, lp := look [], jn := look [], pins := [], nt := 25 }
noncomputable def impl_ValTrue.phis (N : Nat) : List (Nat × Sm D) := [(92, impl_ValOk.sm N)]
theorem impl_ValTrue.run (N : Nat) (x : ImplValue × Unit) : runF cx (look (impl_ValTrue.phis N)) impl_ValTrue.A N (bodyOf Tryd.f103) Tryd.f103.results.toList impl_ValTrue.sg x = impl_ValTrue N x.1 := by
  have h : runF cx (look (impl_ValTrue.phis N)) impl_ValTrue.A N (bodyOf Tryd.f103) Tryd.f103.results.toList impl_ValTrue.sg x = impl_ValTrue.B N x.1 := by kernel_rfl
  rw [h]
  try rfl
noncomputable def impl_ValTrue.sm (N : Nat) : Sm D := (⟨impl_ValTrue.sg, fun (x : ImplValue × Unit) => impl_ValTrue N x.1⟩ : Sm D)
theorem impl_ValTrue.sound (N : Nat) : Sound cx Tryd.prog gam 103 (impl_ValTrue.sm N) := fn_sound (A := impl_ValTrue.A) (Φ := (look (impl_ValTrue.phis N))) pok (G := gam) (ΦOk.cons (impl_ValOk.sound N) (fnOk_of (f := 92) (by kernel_rfl)) ΦOk.nil) mixed N Tryd.func103 (c := (bodyOf Tryd.f103)) (by kernel_rfl) impl_ValTrue.sg (by kernel_rfl) (by kernel_rfl) (by kernel_rfl) (impl_ValTrue.run N)

@[reducible] def impl_ValDo.sg : Sg := { ms := [{ k := (.int .i64) }, { k := (.st 49) }, { k := (.st 49) }], keep := [false, false, false], rs := [{ k := (.st 49) }] }
@[reducible] def impl_ValDo.lvJ19 : Lv := { id := 19, slots := [6, 7], ms := [{ ptr := true, id := 600, t := 50, k := (.st 49), fl := [none, none, none] }, { k := (.int .i64) }] }
noncomputable def impl_ValDo.A : Ann := { dp := fun d => isIn [] d, lp := look [], jn := look [(19, impl_ValDo.lvJ19)], pins := [], nt := 93 }
noncomputable def impl_ValDo.phis (N : Nat) : List (Nat × Sm D) := [(92, impl_ValOk.sm N), (128, impl_truth.sm N), (43, impl_within.sm N), (101, impl_number.sm N), (129, impl_ValShow.sm N), (103, impl_ValTrue.sm N)]
theorem impl_ValDo.run (N : Nat) (x : Int × ImplValue × ImplValue × Unit) : runF cx (look (impl_ValDo.phis N)) impl_ValDo.A N (bodyOf Tryd.f102) Tryd.f102.results.toList impl_ValDo.sg x = impl_ValDo N x.1 x.2.1 x.2.2.1 := by
  have h : runF cx (look (impl_ValDo.phis N)) impl_ValDo.A N (bodyOf Tryd.f102) Tryd.f102.results.toList impl_ValDo.sg x = impl_ValDo.B N x.1 x.2.1 x.2.2.1 := by kernel_rfl
  rw [h]
  try rfl
noncomputable def impl_ValDo.sm (N : Nat) : Sm D := (⟨impl_ValDo.sg, fun (x : Int × ImplValue × ImplValue × Unit) => impl_ValDo N x.1 x.2.1 x.2.2.1⟩ : Sm D)
theorem impl_ValDo.sound (N : Nat) : Sound cx Tryd.prog gam 102 (impl_ValDo.sm N) := fn_sound (A := impl_ValDo.A) (Φ := (look (impl_ValDo.phis N))) pok (G := gam) (ΦOk.cons (impl_ValOk.sound N) (fnOk_of (f := 92) (by kernel_rfl)) (ΦOk.cons (impl_truth.sound N) (fnOk_of (f := 128) (by kernel_rfl)) (ΦOk.cons (impl_within.sound N) (fnOk_of (f := 43) (by kernel_rfl)) (ΦOk.cons (impl_number.sound N) (fnOk_of (f := 101) (by kernel_rfl)) (ΦOk.cons (impl_ValShow.sound N) (fnOk_of (f := 129) (by kernel_rfl)) (ΦOk.cons (impl_ValTrue.sound N) (fnOk_of (f := 103) (by kernel_rfl)) ΦOk.nil)))))) mixed N Tryd.func102 (c := (bodyOf Tryd.f102)) (by kernel_rfl) impl_ValDo.sg (by kernel_rfl) (by kernel_rfl) (by kernel_rfl) (impl_ValDo.run N)

@[reducible] def impl_formRun.sg : Sg := { ms := [{ k := (.sl (.st 87)), fl := [none] }, { k := (.st 54) }], keep := [false, false], rs := [{ k := (.st 49) }] }
@[reducible] def impl_formRun.lvJ23 : Lv := { id := 23, slots := [3, 4, 5, 8, 9, 11, 12, 13], ms := [{ ptr := true, id := 600, t := 55, k := (.st 54), fl := [none, none, none, none] }, { ptr := true, id := 620, t := 50, k := (.st 49), fl := [none, none, none] }, { k := (.sl (.st 49)), fl := [some (false, 640)] }, { k := (.int .i64) }, { ptr := true, id := 680, t := 50, k := (.st 49), fl := [none, none, none] }, { k := (.sl (.st 87)), fl := [none] }, { k := (.int .i64) }, { k := (.int .i64) }] }
@[reducible] def impl_formRun.lvL0 : Lv := { id := 0, slots := [3, 4, 5, 11, 12, 13], ms := [{ ptr := true, id := 600, t := 55, k := (.st 54), fl := [none, none, none, none] }, { ptr := true, id := 620, t := 50, k := (.st 49), fl := [none, none, none] }, { k := (.sl (.st 49)), fl := [some (false, 640)] }, { k := (.sl (.st 87)), fl := [none] }, { k := (.int .i64) }, { k := (.int .i64) }] }
noncomputable def impl_formRun.A : Ann := { dp := fun d => isIn [] d, lp := look [(0, impl_formRun.lvL0)], jn := look [(23, impl_formRun.lvJ23)], pins := [], nt := 128 }
noncomputable def impl_formRun.phis (N : Nat) : List (Nat × Sm D) := [(101, impl_number.sm N), (102, impl_ValDo.sm N), (103, impl_ValTrue.sm N)]
noncomputable def impl_formRun.a0 (N : Nat) (n : Nat) (y : ImplEnv × ImplValue × (List (ImplValue)) × (List (ImplStep)) × Int × Int × Unit) : Option (ImplValue × Unit) := loopAt cx (look (impl_formRun.phis N)) impl_formRun.A N n (encL cx impl_formRun.lvL0.ms y).1 (encL cx impl_formRun.lvL0.ms y).2 (bodyOf Tryd.f66) 0 (Kfin cx impl_formRun.A impl_formRun.sg Tryd.f66.results.toList) [1, 1, 0, 1, 1] []
theorem impl_formRun.r0 (N : Nat) : ∀ (n : Nat) (y : ImplEnv × ImplValue × (List (ImplValue)) × (List (ImplStep)) × Int × Int × Unit), impl_formRun.a0 N n y = impl_formRun.L0 N n y
  | 0, y => by kernel_rfl
  | n + 1, y => by
    have h : impl_formRun.a0 N (n + 1) y = impl_formRun.B0 N (fun z => impl_formRun.a0 N n z) y := by kernel_rfl
    have e : (fun z => impl_formRun.a0 N n z) = impl_formRun.L0 N n := funext fun z => impl_formRun.r0 N n z
    rw [h]
    try rw [e]
    first | done | rfl
theorem impl_formRun.run (N : Nat) (x : (List (ImplStep)) × ImplEnv × Unit) : runF cx (look (impl_formRun.phis N)) impl_formRun.A N (bodyOf Tryd.f66) Tryd.f66.results.toList impl_formRun.sg x = impl_formRun N x.1 x.2.1 := by
  have h : runF cx (look (impl_formRun.phis N)) impl_formRun.A N (bodyOf Tryd.f66) Tryd.f66.results.toList impl_formRun.sg x = impl_formRun.B N (fun z => impl_formRun.a0 N N z) x.1 x.2.1 := by kernel_rfl
  have e0 : (fun z => impl_formRun.a0 N N z) = impl_formRun.L0 N N := funext fun z => impl_formRun.r0 N N z
  rw [h, e0]
  try rfl
noncomputable def impl_formRun.sm (N : Nat) : Sm D := (⟨impl_formRun.sg, fun (x : (List (ImplStep)) × ImplEnv × Unit) => impl_formRun N x.1 x.2.1⟩ : Sm D)
theorem impl_formRun.sound (N : Nat) : Sound cx Tryd.prog gam 66 (impl_formRun.sm N) := fn_sound (A := impl_formRun.A) (Φ := (look (impl_formRun.phis N))) pok (G := gam) (ΦOk.cons (impl_number.sound N) (fnOk_of (f := 101) (by kernel_rfl)) (ΦOk.cons (impl_ValDo.sound N) (fnOk_of (f := 102) (by kernel_rfl)) (ΦOk.cons (impl_ValTrue.sound N) (fnOk_of (f := 103) (by kernel_rfl)) ΦOk.nil))) mixed N Tryd.func66 (c := (bodyOf Tryd.f66)) (by kernel_rfl) impl_formRun.sg (by kernel_rfl) (by kernel_rfl) (by kernel_rfl) (impl_formRun.run N)

@[reducible] def impl_storeDo.sg : Sg := { ms := [{ k := (.sl (.st 98)), fl := [none] }, { k := (.st 25) }], keep := [false, false], rs := [{ k := (.sl (.st 98)), fl := [some (true, 411)] }] }
noncomputable def impl_storeDo.A : Ann := { dp := fun _ => true, lp := look [], jn := look [], pins := [], nt := 35 }
noncomputable def impl_storeDo.phis (N : Nat) : List (Nat × Sm D) := [(86, impl_storeCopy.sm N), (48, impl_updateAt.sm N), (66, impl_formRun.sm N)]
theorem impl_storeDo.run (N : Nat) (x : (List (ImplCell)) × ImplUpdate × Unit) : runF cx (look (impl_storeDo.phis N)) impl_storeDo.A N (bodyOf Tryd.f87) Tryd.f87.results.toList impl_storeDo.sg x = impl_storeDo N x.1 x.2.1 := by
  have h : runF cx (look (impl_storeDo.phis N)) impl_storeDo.A N (bodyOf Tryd.f87) Tryd.f87.results.toList impl_storeDo.sg x = impl_storeDo.B N x.1 x.2.1 := by kernel_rfl
  rw [h]
  try rfl
noncomputable def impl_storeDo.sm (N : Nat) : Sm D := (⟨impl_storeDo.sg, fun (x : (List (ImplCell)) × ImplUpdate × Unit) => impl_storeDo N x.1 x.2.1⟩ : Sm D)
theorem impl_storeDo.sound (N : Nat) : Sound cx Tryd.prog gam 87 (impl_storeDo.sm N) := fn_sound (A := impl_storeDo.A) (Φ := (look (impl_storeDo.phis N))) pok (G := gam) (ΦOk.cons (impl_storeCopy.sound N) (fnOk_of (f := 86) (by kernel_rfl)) (ΦOk.cons (impl_updateAt.sound N) (fnOk_of (f := 48) (by kernel_rfl)) (ΦOk.cons (impl_formRun.sound N) (fnOk_of (f := 66) (by kernel_rfl)) ΦOk.nil))) mixed N Tryd.func87 (c := (bodyOf Tryd.f87)) (by kernel_rfl) impl_storeDo.sg (by kernel_rfl) (by kernel_rfl) (by kernel_rfl) (impl_storeDo.run N)

@[reducible] def impl_storeRun.sg : Sg := { ms := [{ k := (.sl (.st 98)), fl := [none] }, { k := (.sl (.st 25)), fl := [none] }], keep := [false, false], rs := [{ k := (.sl (.st 98)), fl := [some (true, 411)] }] }
@[reducible] def impl_storeRun.lvL0 : Lv := { id := 0, slots := [5, 10, 11, 12], ms := [{ k := (.sl (.st 98)), fl := [some (true, 600)] }, { k := (.sl (.st 25)), fl := [none] }, { k := (.int .i64) }, { k := (.int .i64) }] }
noncomputable def impl_storeRun.A : Ann := { dp := fun _ => true, lp := look [(0, impl_storeRun.lvL0)], jn := look [], pins := [], nt := 21 }
noncomputable def impl_storeRun.phis (N : Nat) : List (Nat × Sm D) := [(86, impl_storeCopy.sm N), (87, impl_storeDo.sm N)]
noncomputable def impl_storeRun.a0 (N : Nat) (n : Nat) (y : (List (ImplCell)) × (List (ImplUpdate)) × Int × Int × Unit) : Option ((List (ImplCell)) × Unit) := loopAt cx (look (impl_storeRun.phis N)) impl_storeRun.A N n (encL cx impl_storeRun.lvL0.ms y).1 (encL cx impl_storeRun.lvL0.ms y).2 (bodyOf Tryd.f47) 0 (Kfin cx impl_storeRun.A impl_storeRun.sg Tryd.f47.results.toList) [1, 1, 0, 1, 1] []
theorem impl_storeRun.r0 (N : Nat) : ∀ (n : Nat) (y : (List (ImplCell)) × (List (ImplUpdate)) × Int × Int × Unit), impl_storeRun.a0 N n y = impl_storeRun.L0 N n y
  | 0, y => by kernel_rfl
  | n + 1, y => by
    have h : impl_storeRun.a0 N (n + 1) y = impl_storeRun.B0 N (fun z => impl_storeRun.a0 N n z) y := by kernel_rfl
    have e : (fun z => impl_storeRun.a0 N n z) = impl_storeRun.L0 N n := funext fun z => impl_storeRun.r0 N n z
    rw [h]
    try rw [e]
    first | done | rfl
theorem impl_storeRun.run (N : Nat) (x : (List (ImplCell)) × (List (ImplUpdate)) × Unit) : runF cx (look (impl_storeRun.phis N)) impl_storeRun.A N (bodyOf Tryd.f47) Tryd.f47.results.toList impl_storeRun.sg x = impl_storeRun N x.1 x.2.1 := by
  have h : runF cx (look (impl_storeRun.phis N)) impl_storeRun.A N (bodyOf Tryd.f47) Tryd.f47.results.toList impl_storeRun.sg x = impl_storeRun.B N (fun z => impl_storeRun.a0 N N z) x.1 x.2.1 := by kernel_rfl
  have e0 : (fun z => impl_storeRun.a0 N N z) = impl_storeRun.L0 N N := funext fun z => impl_storeRun.r0 N N z
  rw [h, e0]
  try rfl
noncomputable def impl_storeRun.sm (N : Nat) : Sm D := (⟨impl_storeRun.sg, fun (x : (List (ImplCell)) × (List (ImplUpdate)) × Unit) => impl_storeRun N x.1 x.2.1⟩ : Sm D)
theorem impl_storeRun.sound (N : Nat) : Sound cx Tryd.prog gam 47 (impl_storeRun.sm N) := fn_sound (A := impl_storeRun.A) (Φ := (look (impl_storeRun.phis N))) pok (G := gam) (ΦOk.cons (impl_storeCopy.sound N) (fnOk_of (f := 86) (by kernel_rfl)) (ΦOk.cons (impl_storeDo.sound N) (fnOk_of (f := 87) (by kernel_rfl)) ΦOk.nil)) mixed N Tryd.func47 (c := (bodyOf Tryd.f47)) (by kernel_rfl) impl_storeRun.sg (by kernel_rfl) (by kernel_rfl) (by kernel_rfl) (impl_storeRun.run N)

@[reducible] def impl_StoreRun.sg : Sg := { ms := [{ k := (.sl (.st 98)), fl := [none] }, { k := (.sl (.st 25)), fl := [none] }], keep := [false, false], rs := [{ k := (.sl (.st 98)), fl := [none] }], hold := true }
noncomputable def impl_StoreRun.A : Ann := { dp := fun d => isIn [] d, lp := look [], jn := look [], pins := [], nt := 21 }
noncomputable def impl_StoreRun.phis (N : Nat) : List (Nat × Sm D) := [(32, impl_StoreOk.sm N), (46, impl_updatesOk.sm N), (47, impl_storeRun.sm N)]
theorem impl_StoreRun.run (N : Nat) (x : (List (ImplCell)) × (List (ImplUpdate)) × Unit) : runF cx (look (impl_StoreRun.phis N)) impl_StoreRun.A N (bodyOf Tryd.f12) Tryd.f12.results.toList impl_StoreRun.sg x = impl_StoreRun N x.1 x.2.1 := by
  have h : runF cx (look (impl_StoreRun.phis N)) impl_StoreRun.A N (bodyOf Tryd.f12) Tryd.f12.results.toList impl_StoreRun.sg x = impl_StoreRun.B N x.1 x.2.1 := by kernel_rfl
  rw [h]
  try rfl
noncomputable def impl_StoreRun.sm (N : Nat) : Sm D := (⟨impl_StoreRun.sg, fun (x : (List (ImplCell)) × (List (ImplUpdate)) × Unit) => impl_StoreRun N x.1 x.2.1⟩ : Sm D)
theorem impl_StoreRun.sound (N : Nat) : Sound cx Tryd.prog gam 12 (impl_StoreRun.sm N) := fn_sound (A := impl_StoreRun.A) (Φ := (look (impl_StoreRun.phis N))) pok (G := gam) (ΦOk.cons (impl_StoreOk.sound N) (fnOk_of (f := 32) (by kernel_rfl)) (ΦOk.cons (impl_updatesOk.sound N) (fnOk_of (f := 46) (by kernel_rfl)) (ΦOk.cons (impl_storeRun.sound N) (fnOk_of (f := 47) (by kernel_rfl)) ΦOk.nil))) mixed N Tryd.func12 (c := (bodyOf Tryd.f12)) (by kernel_rfl) impl_StoreRun.sg (by kernel_rfl) (by kernel_rfl) (by kernel_rfl) (impl_StoreRun.run N)

@[reducible] def impl_UpdateHas.sg : Sg := { ms := [{ k := (.sl (.st 98)), fl := [none] }, { k := (.st 25) }], keep := [false, false], rs := [{ k := .bool }] }
noncomputable def impl_UpdateHas.A : Ann := { dp := fun d => isIn [] d, lp := look [], jn := look [], pins := [], nt := 17 }
noncomputable def impl_UpdateHas.phis (N : Nat) : List (Nat × Sm D) := [(32, impl_StoreOk.sm N), (10, impl_UpdateOk.sm N), (48, impl_updateAt.sm N)]
theorem impl_UpdateHas.run (N : Nat) (x : (List (ImplCell)) × ImplUpdate × Unit) : runF cx (look (impl_UpdateHas.phis N)) impl_UpdateHas.A N (bodyOf Tryd.f13) Tryd.f13.results.toList impl_UpdateHas.sg x = impl_UpdateHas N x.1 x.2.1 := by
  have h : runF cx (look (impl_UpdateHas.phis N)) impl_UpdateHas.A N (bodyOf Tryd.f13) Tryd.f13.results.toList impl_UpdateHas.sg x = impl_UpdateHas.B N x.1 x.2.1 := by kernel_rfl
  rw [h]
  try rfl
noncomputable def impl_UpdateHas.sm (N : Nat) : Sm D := (⟨impl_UpdateHas.sg, fun (x : (List (ImplCell)) × ImplUpdate × Unit) => impl_UpdateHas N x.1 x.2.1⟩ : Sm D)
theorem impl_UpdateHas.sound (N : Nat) : Sound cx Tryd.prog gam 13 (impl_UpdateHas.sm N) := fn_sound (A := impl_UpdateHas.A) (Φ := (look (impl_UpdateHas.phis N))) pok (G := gam) (ΦOk.cons (impl_StoreOk.sound N) (fnOk_of (f := 32) (by kernel_rfl)) (ΦOk.cons (impl_UpdateOk.sound N) (fnOk_of (f := 10) (by kernel_rfl)) (ΦOk.cons (impl_updateAt.sound N) (fnOk_of (f := 48) (by kernel_rfl)) ΦOk.nil))) mixed N Tryd.func13 (c := (bodyOf Tryd.f13)) (by kernel_rfl) impl_UpdateHas.sg (by kernel_rfl) (by kernel_rfl) (by kernel_rfl) (impl_UpdateHas.run N)

@[reducible] def spec_validValues.sg : Sg := { ms := [{ k := (.sl (.st 49)), fl := [none] }], keep := [false], rs := [{ k := .bool }] }
@[reducible] def spec_validValues.lvL0 : Lv := { id := 0, slots := [0, 3], ms := [{ k := (.sl (.st 49)), fl := [none] }, { k := (.int .i64) }] }
noncomputable def spec_validValues.A : Ann := { dp := fun d => isIn [] d, lp := look [(0, spec_validValues.lvL0)], jn := look [], pins := [], nt := 16 }
noncomputable def spec_validValues.phis (N : Nat) : List (Nat × Sm D) := [(123, spec_validValue.sm N)]
noncomputable def spec_validValues.a0 (N : Nat) (n : Nat) (y : (List (ImplValue)) × Int × Unit) : Option (Bool × Unit) := loopAt cx (look (spec_validValues.phis N)) spec_validValues.A N n (encL cx spec_validValues.lvL0.ms y).1 (encL cx spec_validValues.lvL0.ms y).2 (bodyOf Tryd.f94) 0 (Kfin cx spec_validValues.A spec_validValues.sg Tryd.f94.results.toList) [1, 0, 1, 1] []
theorem spec_validValues.r0 (N : Nat) : ∀ (n : Nat) (y : (List (ImplValue)) × Int × Unit), spec_validValues.a0 N n y = spec_validValues.L0 N n y
  | 0, y => by kernel_rfl
  | n + 1, y => by
    have h : spec_validValues.a0 N (n + 1) y = spec_validValues.B0 N (fun z => spec_validValues.a0 N n z) y := by kernel_rfl
    have e : (fun z => spec_validValues.a0 N n z) = spec_validValues.L0 N n := funext fun z => spec_validValues.r0 N n z
    rw [h]
    try rw [e]
    first | done | rfl
theorem spec_validValues.run (N : Nat) (x : (List (ImplValue)) × Unit) : runF cx (look (spec_validValues.phis N)) spec_validValues.A N (bodyOf Tryd.f94) Tryd.f94.results.toList spec_validValues.sg x = spec_validValues N x.1 := by
  have h : runF cx (look (spec_validValues.phis N)) spec_validValues.A N (bodyOf Tryd.f94) Tryd.f94.results.toList spec_validValues.sg x = spec_validValues.B N (fun z => spec_validValues.a0 N N z) x.1 := by kernel_rfl
  have e0 : (fun z => spec_validValues.a0 N N z) = spec_validValues.L0 N N := funext fun z => spec_validValues.r0 N N z
  rw [h, e0]
  try rfl
noncomputable def spec_validValues.sm (N : Nat) : Sm D := (⟨spec_validValues.sg, fun (x : (List (ImplValue)) × Unit) => spec_validValues N x.1⟩ : Sm D)
theorem spec_validValues.sound (N : Nat) : Sound cx Tryd.prog gam 94 (spec_validValues.sm N) := fn_sound (A := spec_validValues.A) (Φ := (look (spec_validValues.phis N))) pok (G := gam) (ΦOk.cons (spec_validValue.sound N) (fnOk_of (f := 123) (by kernel_rfl)) ΦOk.nil) mixed N Tryd.func94 (c := (bodyOf Tryd.f94)) (by kernel_rfl) spec_validValues.sg (by kernel_rfl) (by kernel_rfl) (by kernel_rfl) (spec_validValues.run N)

@[reducible] def spec_DrawUpdateHas.sg : Sg := { ms := [{ k := (.sl (.int .u8)), fl := [none] }], keep := [false], rs := [{ k := (.sl (.st 98)), fl := [none] }, { k := (.st 25) }], hold := true }
noncomputable def spec_DrawUpdateHas.A : Ann := { dp := fun d => isIn [] d, lp := look [], jn := look [], pins := [], nt := 14 }
noncomputable def spec_DrawUpdateHas.phis (N : Nat) : List (Nat × Sm D) := [(37, spec_newSource.sm N), (39, spec_source_cells.sm N), (38, spec_source_update.sm N)]
theorem spec_DrawUpdateHas.run (N : Nat) (x : (List (Int)) × Unit) : runF cx (look (spec_DrawUpdateHas.phis N)) spec_DrawUpdateHas.A N (bodyOf Tryd.f30) Tryd.f30.results.toList spec_DrawUpdateHas.sg x = spec_DrawUpdateHas N x.1 := by
  have h : runF cx (look (spec_DrawUpdateHas.phis N)) spec_DrawUpdateHas.A N (bodyOf Tryd.f30) Tryd.f30.results.toList spec_DrawUpdateHas.sg x = spec_DrawUpdateHas.B N x.1 := by kernel_rfl
  rw [h]
  try rfl
noncomputable def spec_DrawUpdateHas.sm (N : Nat) : Sm D := (⟨spec_DrawUpdateHas.sg, fun (x : (List (Int)) × Unit) => spec_DrawUpdateHas N x.1⟩ : Sm D)
theorem spec_DrawUpdateHas.sound (N : Nat) : Sound cx Tryd.prog gam 30 (spec_DrawUpdateHas.sm N) := fn_sound (A := spec_DrawUpdateHas.A) (Φ := (look (spec_DrawUpdateHas.phis N))) pok (G := gam) (ΦOk.cons (spec_newSource.sound N) (fnOk_of (f := 37) (by kernel_rfl)) (ΦOk.cons (spec_source_cells.sound N) (fnOk_of (f := 39) (by kernel_rfl)) (ΦOk.cons (spec_source_update.sound N) (fnOk_of (f := 38) (by kernel_rfl)) ΦOk.nil))) mixed N Tryd.func30 (c := (bodyOf Tryd.f30)) (by kernel_rfl) spec_DrawUpdateHas.sg (by kernel_rfl) (by kernel_rfl) (by kernel_rfl) (spec_DrawUpdateHas.run N)

@[reducible] def spec_validStore.sg : Sg := { ms := [{ k := (.sl (.st 98)), fl := [none] }], keep := [false], rs := [{ k := .bool }] }
@[reducible] def spec_validStore.lvL0 : Lv := { id := 0, slots := [0, 3], ms := [{ k := (.sl (.st 98)), fl := [none] }, { k := (.int .i64) }] }
noncomputable def spec_validStore.A : Ann := { dp := fun d => isIn [] d, lp := look [(0, spec_validStore.lvL0)], jn := look [], pins := [], nt := 57 }
noncomputable def spec_validStore.phis (N : Nat) : List (Nat × Sm D) := [(82, spec_validPlace.sm N), (94, spec_validValues.sm N), (104, spec_comparePlaces.sm N)]
noncomputable def spec_validStore.a0 (N : Nat) (n : Nat) (y : (List (ImplCell)) × Int × Unit) : Option (Bool × Unit) := loopAt cx (look (spec_validStore.phis N)) spec_validStore.A N n (encL cx spec_validStore.lvL0.ms y).1 (encL cx spec_validStore.lvL0.ms y).2 (bodyOf Tryd.f70) 0 (Kfin cx spec_validStore.A spec_validStore.sg Tryd.f70.results.toList) [1, 1, 0, 1, 1] []
theorem spec_validStore.r0 (N : Nat) : ∀ (n : Nat) (y : (List (ImplCell)) × Int × Unit), spec_validStore.a0 N n y = spec_validStore.L0 N n y
  | 0, y => by kernel_rfl
  | n + 1, y => by
    have h : spec_validStore.a0 N (n + 1) y = spec_validStore.B0 N (fun z => spec_validStore.a0 N n z) y := by kernel_rfl
    have e : (fun z => spec_validStore.a0 N n z) = spec_validStore.L0 N n := funext fun z => spec_validStore.r0 N n z
    rw [h]
    try rw [e]
    first | done | rfl
theorem spec_validStore.run (N : Nat) (x : (List (ImplCell)) × Unit) : runF cx (look (spec_validStore.phis N)) spec_validStore.A N (bodyOf Tryd.f70) Tryd.f70.results.toList spec_validStore.sg x = spec_validStore N x.1 := by
  have h : runF cx (look (spec_validStore.phis N)) spec_validStore.A N (bodyOf Tryd.f70) Tryd.f70.results.toList spec_validStore.sg x = spec_validStore.B N (fun z => spec_validStore.a0 N N z) x.1 := by kernel_rfl
  have e0 : (fun z => spec_validStore.a0 N N z) = spec_validStore.L0 N N := funext fun z => spec_validStore.r0 N N z
  rw [h, e0]
  try rfl
noncomputable def spec_validStore.sm (N : Nat) : Sm D := (⟨spec_validStore.sg, fun (x : (List (ImplCell)) × Unit) => spec_validStore N x.1⟩ : Sm D)
theorem spec_validStore.sound (N : Nat) : Sound cx Tryd.prog gam 70 (spec_validStore.sm N) := fn_sound (A := spec_validStore.A) (Φ := (look (spec_validStore.phis N))) pok (G := gam) (ΦOk.cons (spec_validPlace.sound N) (fnOk_of (f := 82) (by kernel_rfl)) (ΦOk.cons (spec_validValues.sound N) (fnOk_of (f := 94) (by kernel_rfl)) (ΦOk.cons (spec_comparePlaces.sound N) (fnOk_of (f := 104) (by kernel_rfl)) ΦOk.nil))) mixed N Tryd.func70 (c := (bodyOf Tryd.f70)) (by kernel_rfl) spec_validStore.sg (by kernel_rfl) (by kernel_rfl) (by kernel_rfl) (spec_validStore.run N)

@[reducible] def spec_applies.sg : Sg := { ms := [{ k := (.sl (.st 49)), fl := [none] }, { k := (.st 25) }], keep := [false, false], rs := [{ k := .bool }] }
noncomputable def spec_applies.A : Ann := { dp := fun d => isIn [] d, lp := look [], jn := look [], pins := [], nt := 17 }
noncomputable def spec_applies.phis (N : Nat) : List (Nat × Sm D) := [(60, spec_validForm.sm N)]
theorem spec_applies.run (N : Nat) (x : (List (ImplValue)) × ImplUpdate × Unit) : runF cx (look (spec_applies.phis N)) spec_applies.A N (bodyOf Tryd.f72) Tryd.f72.results.toList spec_applies.sg x = spec_applies N x.1 x.2.1 := by
  have h : runF cx (look (spec_applies.phis N)) spec_applies.A N (bodyOf Tryd.f72) Tryd.f72.results.toList spec_applies.sg x = spec_applies.B N x.1 x.2.1 := by kernel_rfl
  rw [h]
  try rfl
noncomputable def spec_applies.sm (N : Nat) : Sm D := (⟨spec_applies.sg, fun (x : (List (ImplValue)) × ImplUpdate × Unit) => spec_applies N x.1 x.2.1⟩ : Sm D)
theorem spec_applies.sound (N : Nat) : Sound cx Tryd.prog gam 72 (spec_applies.sm N) := fn_sound (A := spec_applies.A) (Φ := (look (spec_applies.phis N))) pok (G := gam) (ΦOk.cons (spec_validForm.sound N) (fnOk_of (f := 60) (by kernel_rfl)) ΦOk.nil) mixed N Tryd.func72 (c := (bodyOf Tryd.f72)) (by kernel_rfl) spec_applies.sg (by kernel_rfl) (by kernel_rfl) (by kernel_rfl) (spec_applies.run N)

@[reducible] def spec_UpdateHas.sg : Sg := { ms := [{ k := (.sl (.st 98)), fl := [none] }, { k := (.st 25) }], keep := [false, false], rs := [{ k := .bool }] }
noncomputable def spec_UpdateHas.A : Ann := { dp := fun d => isIn [] d, lp := look [], jn := look [], pins := [], nt := 32 }
noncomputable def spec_UpdateHas.phis (N : Nat) : List (Nat × Sm D) := [(70, spec_validStore.sm N), (45, spec_validUpdate.sm N), (71, spec_cellAt.sm N), (72, spec_applies.sm N)]
theorem spec_UpdateHas.run (N : Nat) (x : (List (ImplCell)) × ImplUpdate × Unit) : runF cx (look (spec_UpdateHas.phis N)) spec_UpdateHas.A N (bodyOf Tryd.f31) Tryd.f31.results.toList spec_UpdateHas.sg x = spec_UpdateHas N x.1 x.2.1 := by
  have h : runF cx (look (spec_UpdateHas.phis N)) spec_UpdateHas.A N (bodyOf Tryd.f31) Tryd.f31.results.toList spec_UpdateHas.sg x = spec_UpdateHas.B N x.1 x.2.1 := by kernel_rfl
  rw [h]
  try rfl
noncomputable def spec_UpdateHas.sm (N : Nat) : Sm D := (⟨spec_UpdateHas.sg, fun (x : (List (ImplCell)) × ImplUpdate × Unit) => spec_UpdateHas N x.1 x.2.1⟩ : Sm D)
theorem spec_UpdateHas.sound (N : Nat) : Sound cx Tryd.prog gam 31 (spec_UpdateHas.sm N) := fn_sound (A := spec_UpdateHas.A) (Φ := (look (spec_UpdateHas.phis N))) pok (G := gam) (ΦOk.cons (spec_validStore.sound N) (fnOk_of (f := 70) (by kernel_rfl)) (ΦOk.cons (spec_validUpdate.sound N) (fnOk_of (f := 45) (by kernel_rfl)) (ΦOk.cons (spec_cellAt.sound N) (fnOk_of (f := 71) (by kernel_rfl)) (ΦOk.cons (spec_applies.sound N) (fnOk_of (f := 72) (by kernel_rfl)) ΦOk.nil)))) mixed N Tryd.func31 (c := (bodyOf Tryd.f31)) (by kernel_rfl) spec_UpdateHas.sg (by kernel_rfl) (by kernel_rfl) (by kernel_rfl) (spec_UpdateHas.run N)

@[reducible] def spec_sameValues.sg : Sg := { ms := [{ k := (.sl (.st 49)), fl := [none] }, { k := (.sl (.st 49)), fl := [none] }], keep := [false, false], rs := [{ k := .bool }] }
@[reducible] def spec_sameValues.lvL0 : Lv := { id := 0, slots := [0, 1, 5], ms := [{ k := (.sl (.st 49)), fl := [none] }, { k := (.sl (.st 49)), fl := [none] }, { k := (.int .i64) }] }
noncomputable def spec_sameValues.A : Ann := { dp := fun d => isIn [] d, lp := look [(0, spec_sameValues.lvL0)], jn := look [], pins := [], nt := 26 }
noncomputable def spec_sameValues.phis (N : Nat) : List (Nat × Sm D) := []
noncomputable def spec_sameValues.a0 (N : Nat) (n : Nat) (y : (List (ImplValue)) × (List (ImplValue)) × Int × Unit) : Option (Bool × Unit) := loopAt cx (look (spec_sameValues.phis N)) spec_sameValues.A N n (encL cx spec_sameValues.lvL0.ms y).1 (encL cx spec_sameValues.lvL0.ms y).2 (bodyOf Tryd.f105) 0 (Kfin cx spec_sameValues.A spec_sameValues.sg Tryd.f105.results.toList) [1, 1, 0, 1, 1] []
theorem spec_sameValues.r0 (N : Nat) : ∀ (n : Nat) (y : (List (ImplValue)) × (List (ImplValue)) × Int × Unit), spec_sameValues.a0 N n y = spec_sameValues.L0 N n y
  | 0, y => by kernel_rfl
  | n + 1, y => by
    have h : spec_sameValues.a0 N (n + 1) y = spec_sameValues.B0 N (fun z => spec_sameValues.a0 N n z) y := by kernel_rfl
    have e : (fun z => spec_sameValues.a0 N n z) = spec_sameValues.L0 N n := funext fun z => spec_sameValues.r0 N n z
    rw [h]
    try rw [e]
    first | done | rfl
theorem spec_sameValues.run (N : Nat) (x : (List (ImplValue)) × (List (ImplValue)) × Unit) : runF cx (look (spec_sameValues.phis N)) spec_sameValues.A N (bodyOf Tryd.f105) Tryd.f105.results.toList spec_sameValues.sg x = spec_sameValues N x.1 x.2.1 := by
  have h : runF cx (look (spec_sameValues.phis N)) spec_sameValues.A N (bodyOf Tryd.f105) Tryd.f105.results.toList spec_sameValues.sg x = spec_sameValues.B N (fun z => spec_sameValues.a0 N N z) x.1 x.2.1 := by kernel_rfl
  have e0 : (fun z => spec_sameValues.a0 N N z) = spec_sameValues.L0 N N := funext fun z => spec_sameValues.r0 N N z
  rw [h, e0]
  try rfl
noncomputable def spec_sameValues.sm (N : Nat) : Sm D := (⟨spec_sameValues.sg, fun (x : (List (ImplValue)) × (List (ImplValue)) × Unit) => spec_sameValues N x.1 x.2.1⟩ : Sm D)
theorem spec_sameValues.sound (N : Nat) : Sound cx Tryd.prog gam 105 (spec_sameValues.sm N) := fn_sound (A := spec_sameValues.A) (Φ := (look (spec_sameValues.phis N))) pok (G := gam) ΦOk.nil mixed N Tryd.func105 (c := (bodyOf Tryd.f105)) (by kernel_rfl) spec_sameValues.sg (by kernel_rfl) (by kernel_rfl) (by kernel_rfl) (spec_sameValues.run N)

@[reducible] def spec_sameStore.sg : Sg := { ms := [{ k := (.sl (.st 98)), fl := [none] }, { k := (.sl (.st 98)), fl := [none] }], keep := [false, false], rs := [{ k := .bool }] }
@[reducible] def spec_sameStore.lvL0 : Lv := { id := 0, slots := [0, 1, 5], ms := [{ k := (.sl (.st 98)), fl := [none] }, { k := (.sl (.st 98)), fl := [none] }, { k := (.int .i64) }] }
noncomputable def spec_sameStore.A : Ann := { dp := fun d => isIn [] d, lp := look [(0, spec_sameStore.lvL0)], jn := look [], pins := [], nt := 43 }
noncomputable def spec_sameStore.phis (N : Nat) : List (Nat × Sm D) := [(104, spec_comparePlaces.sm N), (105, spec_sameValues.sm N)]
noncomputable def spec_sameStore.a0 (N : Nat) (n : Nat) (y : (List (ImplCell)) × (List (ImplCell)) × Int × Unit) : Option (Bool × Unit) := loopAt cx (look (spec_sameStore.phis N)) spec_sameStore.A N n (encL cx spec_sameStore.lvL0.ms y).1 (encL cx spec_sameStore.lvL0.ms y).2 (bodyOf Tryd.f75) 0 (Kfin cx spec_sameStore.A spec_sameStore.sg Tryd.f75.results.toList) [1, 1, 0, 1, 1] []
theorem spec_sameStore.r0 (N : Nat) : ∀ (n : Nat) (y : (List (ImplCell)) × (List (ImplCell)) × Int × Unit), spec_sameStore.a0 N n y = spec_sameStore.L0 N n y
  | 0, y => by kernel_rfl
  | n + 1, y => by
    have h : spec_sameStore.a0 N (n + 1) y = spec_sameStore.B0 N (fun z => spec_sameStore.a0 N n z) y := by kernel_rfl
    have e : (fun z => spec_sameStore.a0 N n z) = spec_sameStore.L0 N n := funext fun z => spec_sameStore.r0 N n z
    rw [h]
    try rw [e]
    first | done | rfl
theorem spec_sameStore.run (N : Nat) (x : (List (ImplCell)) × (List (ImplCell)) × Unit) : runF cx (look (spec_sameStore.phis N)) spec_sameStore.A N (bodyOf Tryd.f75) Tryd.f75.results.toList spec_sameStore.sg x = spec_sameStore N x.1 x.2.1 := by
  have h : runF cx (look (spec_sameStore.phis N)) spec_sameStore.A N (bodyOf Tryd.f75) Tryd.f75.results.toList spec_sameStore.sg x = spec_sameStore.B N (fun z => spec_sameStore.a0 N N z) x.1 x.2.1 := by kernel_rfl
  have e0 : (fun z => spec_sameStore.a0 N N z) = spec_sameStore.L0 N N := funext fun z => spec_sameStore.r0 N N z
  rw [h, e0]
  try rfl
noncomputable def spec_sameStore.sm (N : Nat) : Sm D := (⟨spec_sameStore.sg, fun (x : (List (ImplCell)) × (List (ImplCell)) × Unit) => spec_sameStore N x.1 x.2.1⟩ : Sm D)
theorem spec_sameStore.sound (N : Nat) : Sound cx Tryd.prog gam 75 (spec_sameStore.sm N) := fn_sound (A := spec_sameStore.A) (Φ := (look (spec_sameStore.phis N))) pok (G := gam) (ΦOk.cons (spec_comparePlaces.sound N) (fnOk_of (f := 104) (by kernel_rfl)) (ΦOk.cons (spec_sameValues.sound N) (fnOk_of (f := 105) (by kernel_rfl)) ΦOk.nil)) mixed N Tryd.func75 (c := (bodyOf Tryd.f75)) (by kernel_rfl) spec_sameStore.sg (by kernel_rfl) (by kernel_rfl) (by kernel_rfl) (spec_sameStore.run N)

@[reducible] def spec_SameStore.sg : Sg := { ms := [{ k := (.sl (.st 98)), fl := [none] }, { k := (.sl (.st 98)), fl := [none] }], keep := [false, false], rs := [{ k := .bool }] }
noncomputable def spec_SameStore.A : Ann := { dp := fun d => isIn [] d, lp := look [], jn := look [], pins := [], nt := 8 }
noncomputable def spec_SameStore.phis (N : Nat) : List (Nat × Sm D) := [(75, spec_sameStore.sm N)]
theorem spec_SameStore.run (N : Nat) (x : (List (ImplCell)) × (List (ImplCell)) × Unit) : runF cx (look (spec_SameStore.phis N)) spec_SameStore.A N (bodyOf Tryd.f33) Tryd.f33.results.toList spec_SameStore.sg x = spec_SameStore N x.1 x.2.1 := by
  have h : runF cx (look (spec_SameStore.phis N)) spec_SameStore.A N (bodyOf Tryd.f33) Tryd.f33.results.toList spec_SameStore.sg x = spec_SameStore.B N x.1 x.2.1 := by kernel_rfl
  rw [h]
  try rfl
noncomputable def spec_SameStore.sm (N : Nat) : Sm D := (⟨spec_SameStore.sg, fun (x : (List (ImplCell)) × (List (ImplCell)) × Unit) => spec_SameStore N x.1 x.2.1⟩ : Sm D)
theorem spec_SameStore.sound (N : Nat) : Sound cx Tryd.prog gam 33 (spec_SameStore.sm N) := fn_sound (A := spec_SameStore.A) (Φ := (look (spec_SameStore.phis N))) pok (G := gam) (ΦOk.cons (spec_sameStore.sound N) (fnOk_of (f := 75) (by kernel_rfl)) ΦOk.nil) mixed N Tryd.func33 (c := (bodyOf Tryd.f33)) (by kernel_rfl) spec_SameStore.sg (by kernel_rfl) (by kernel_rfl) (by kernel_rfl) (spec_SameStore.run N)

@[reducible] def laws_FnUpdateHas.sg : Sg := { ms := [{ k := (.sl (.int .u8)), fl := [none] }], keep := [false], rs := [{ k := .bool }] }
noncomputable def laws_FnUpdateHas.A : Ann := { dp := fun d => isIn [] d, lp := look [], jn := look [], pins := [], nt := 47 }
noncomputable def laws_FnUpdateHas.phis (N : Nat) : List (Nat × Sm D) := [(30, spec_DrawUpdateHas.sm N), (13, impl_UpdateHas.sm N), (31, spec_UpdateHas.sm N), (32, impl_StoreOk.sm N), (10, impl_UpdateOk.sm N), (12, impl_StoreRun.sm N), (33, spec_SameStore.sm N)]
theorem laws_FnUpdateHas.run (N : Nat) (x : (List (Int)) × Unit) : runF cx (look (laws_FnUpdateHas.phis N)) laws_FnUpdateHas.A N (bodyOf Tryd.f7) Tryd.f7.results.toList laws_FnUpdateHas.sg x = laws_FnUpdateHas N x.1 := by
  have h : runF cx (look (laws_FnUpdateHas.phis N)) laws_FnUpdateHas.A N (bodyOf Tryd.f7) Tryd.f7.results.toList laws_FnUpdateHas.sg x = laws_FnUpdateHas.B N x.1 := by kernel_rfl
  rw [h]
  try rfl
noncomputable def laws_FnUpdateHas.sm (N : Nat) : Sm D := (⟨laws_FnUpdateHas.sg, fun (x : (List (Int)) × Unit) => laws_FnUpdateHas N x.1⟩ : Sm D)
theorem laws_FnUpdateHas.sound (N : Nat) : Sound cx Tryd.prog gam 7 (laws_FnUpdateHas.sm N) := fn_sound (A := laws_FnUpdateHas.A) (Φ := (look (laws_FnUpdateHas.phis N))) pok (G := gam) (ΦOk.cons (spec_DrawUpdateHas.sound N) (fnOk_of (f := 30) (by kernel_rfl)) (ΦOk.cons (impl_UpdateHas.sound N) (fnOk_of (f := 13) (by kernel_rfl)) (ΦOk.cons (spec_UpdateHas.sound N) (fnOk_of (f := 31) (by kernel_rfl)) (ΦOk.cons (impl_StoreOk.sound N) (fnOk_of (f := 32) (by kernel_rfl)) (ΦOk.cons (impl_UpdateOk.sound N) (fnOk_of (f := 10) (by kernel_rfl)) (ΦOk.cons (impl_StoreRun.sound N) (fnOk_of (f := 12) (by kernel_rfl)) (ΦOk.cons (spec_SameStore.sound N) (fnOk_of (f := 33) (by kernel_rfl)) ΦOk.nil))))))) mixed N Tryd.func7 (c := (bodyOf Tryd.f7)) (by kernel_rfl) laws_FnUpdateHas.sg (by kernel_rfl) (by kernel_rfl) (by kernel_rfl) (laws_FnUpdateHas.run N)

end
end Go.Ev
