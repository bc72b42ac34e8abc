/- Each function that the law reaches does what its plain form says; no condition beyond the table of the library. -/
import Derived.Test.YtadoojpcjfglgaaGreatDoorEvT1
set_option linter.all false
set_option linter.unusedVariables false
set_option linter.unusedSimpArgs false
set_option maxRecDepth 100000
set_option maxHeartbeats 0
namespace Go.Ev
noncomputable section
open Go.Proofs
@[reducible] def impl_storeCopy.sg : Sg := { ms := [{ k := (.sl (.st 80)), fl := [none] }], keep := [false], rs := [{ k := (.sl (.st 80)), fl := [some (true, 411)] }] }
@[reducible] def impl_storeCopy.lvL0 : Lv := { id := 0, slots := [3, 6, 7, 8], ms := [{ k := (.sl (.st 80)), fl := [some (true, 600)] }, { k := (.sl (.st 80)), fl := [none] }, { k := (.int .i64) }, { k := (.int .i64) }] }
noncomputable def impl_storeCopy.A : Ann := { dp := fun _ => true, lp := look [(0, impl_storeCopy.lvL0)], jn := look [], pins := [], nt := 19 }
noncomputable def impl_storeCopy.phis (N : Nat) : List (Nat × Sm D) := [(125, impl_cellCopy.sm N)]
noncomputable def impl_storeCopy.a0 (N : Nat) (n : Nat) (y : (List (ImplCell)) × (List (ImplCell)) × Int × Int × Unit) : Option ((List (ImplCell)) × Unit) := loopAt cx (look (impl_storeCopy.phis N)) impl_storeCopy.A N n (encL cx impl_storeCopy.lvL0.ms y).1 (encL cx impl_storeCopy.lvL0.ms y).2 (bodyOf Tryz.f93) 0 (Kfin cx impl_storeCopy.A impl_storeCopy.sg Tryz.f93.results.toList) [1, 1, 0, 1, 1] []
theorem impl_storeCopy.r0 (N : Nat) : ∀ (n : Nat) (y : (List (ImplCell)) × (List (ImplCell)) × Int × Int × Unit), impl_storeCopy.a0 N n y = impl_storeCopy.L0 N n y
  | 0, y => by kernel_rfl
  | n + 1, y => by
    have h : impl_storeCopy.a0 N (n + 1) y = impl_storeCopy.B0 N (fun z => impl_storeCopy.a0 N n z) y := by kernel_rfl
    have e : (fun z => impl_storeCopy.a0 N n z) = impl_storeCopy.L0 N n := funext fun z => impl_storeCopy.r0 N n z
    rw [h]
    try rw [e]
    first | done | rfl
theorem impl_storeCopy.run (N : Nat) (x : (List (ImplCell)) × Unit) : runF cx (look (impl_storeCopy.phis N)) impl_storeCopy.A N (bodyOf Tryz.f93) Tryz.f93.results.toList impl_storeCopy.sg x = impl_storeCopy N x.1 := by
  have h : runF cx (look (impl_storeCopy.phis N)) impl_storeCopy.A N (bodyOf Tryz.f93) Tryz.f93.results.toList impl_storeCopy.sg x = impl_storeCopy.B N (fun z => impl_storeCopy.a0 N N z) x.1 := by kernel_rfl
  have e0 : (fun z => impl_storeCopy.a0 N N z) = impl_storeCopy.L0 N N := funext fun z => impl_storeCopy.r0 N N z
  rw [h, e0]
  try rfl
noncomputable def impl_storeCopy.sm (N : Nat) : Sm D := (⟨impl_storeCopy.sg, fun (x : (List (ImplCell)) × Unit) => impl_storeCopy N x.1⟩ : Sm D)
theorem impl_storeCopy.sound (N : Nat) : Sound cx Tryz.prog gam 93 (impl_storeCopy.sm N) := fn_sound (A := impl_storeCopy.A) (Φ := (look (impl_storeCopy.phis N))) pok (G := gam) (ΦOk.cons (impl_cellCopy.sound N) (fnOk_of (f := 125) (by kernel_rfl)) ΦOk.nil) mixed N Tryz.func93 (c := (bodyOf Tryz.f93)) (by kernel_rfl) impl_storeCopy.sg (by kernel_rfl) (by kernel_rfl) (by kernel_rfl) (impl_storeCopy.run N)

@[reducible] def impl_lineShown.sg : Sg := { ms := [{ k := (.st 100) }, { k := (.int .i64) }], keep := [false, false], rs := [{ k := .bool }] }
noncomputable def impl_lineShown.A : Ann := { dp := fun d => isIn [] d, lp := look [], jn := look [], pins := [], nt := 16 }
noncomputable def impl_lineShown.phis (N : Nat) : List (Nat × Sm D) := []
theorem impl_lineShown.run (N : Nat) (x : ImplUpdate × Int × Unit) : runF cx (look (impl_lineShown.phis N)) impl_lineShown.A N (bodyOf Tryz.f94) Tryz.f94.results.toList impl_lineShown.sg x = impl_lineShown N x.1 x.2.1 := by
  have h : runF cx (look (impl_lineShown.phis N)) impl_lineShown.A N (bodyOf Tryz.f94) Tryz.f94.results.toList impl_lineShown.sg x = impl_lineShown.B N x.1 x.2.1 := by kernel_rfl
  rw [h]
  try rfl
noncomputable def impl_lineShown.sm (N : Nat) : Sm D := (⟨impl_lineShown.sg, fun (x : ImplUpdate × Int × Unit) => impl_lineShown N x.1 x.2.1⟩ : Sm D)
theorem impl_lineShown.sound (N : Nat) : Sound cx Tryz.prog gam 94 (impl_lineShown.sm N) := fn_sound (A := impl_lineShown.A) (Φ := (look (impl_lineShown.phis N))) pok (G := gam) ΦOk.nil mixed N Tryz.func94 (c := (bodyOf Tryz.f94)) (by kernel_rfl) impl_lineShown.sg (by kernel_rfl) (by kernel_rfl) (by kernel_rfl) (impl_lineShown.run N)

@[reducible] def impl_storeFind.sg : Sg := { ms := [{ k := (.sl (.st 80)), fl := [none] }, { k := (.sl (.st 125)), fl := [none] }], keep := [false, false], rs := [{ k := (.int .i64) }] }
@[reducible] def impl_storeFind.lvL0 : Lv := { id := 0, slots := [1, 7, 8, 9], ms := [{ k := (.sl (.st 125)), fl := [none] }, { k := (.sl (.st 80)), fl := [none] }, { k := (.int .i64) }, { k := (.int .i64) }] }
noncomputable def impl_storeFind.A : Ann := { dp := fun d => isIn [] d, lp := look [(0, impl_storeFind.lvL0)], jn := look [], pins := [], nt := 21 }
noncomputable def impl_storeFind.phis (N : Nat) : List (Nat × Sm D) := [(57, impl_placeCmp.sm N)]
noncomputable def impl_storeFind.a0 (N : Nat) (n : Nat) (y : (List (ImplSlot)) × (List (ImplCell)) × Int × Int × Unit) : Option (Int × Unit) := loopAt cx (look (impl_storeFind.phis N)) impl_storeFind.A N n (encL cx impl_storeFind.lvL0.ms y).1 (encL cx impl_storeFind.lvL0.ms y).2 (bodyOf Tryz.f103) 0 (Kfin cx impl_storeFind.A impl_storeFind.sg Tryz.f103.results.toList) [1, 0, 1, 1] []
theorem impl_storeFind.r0 (N : Nat) : ∀ (n : Nat) (y : (List (ImplSlot)) × (List (ImplCell)) × Int × Int × Unit), impl_storeFind.a0 N n y = impl_storeFind.L0 N n y
  | 0, y => by kernel_rfl
  | n + 1, y => by
    have h : impl_storeFind.a0 N (n + 1) y = impl_storeFind.B0 N (fun z => impl_storeFind.a0 N n z) y := by kernel_rfl
    have e : (fun z => impl_storeFind.a0 N n z) = impl_storeFind.L0 N n := funext fun z => impl_storeFind.r0 N n z
    rw [h]
    try rw [e]
    first | done | rfl
theorem impl_storeFind.run (N : Nat) (x : (List (ImplCell)) × (List (ImplSlot)) × Unit) : runF cx (look (impl_storeFind.phis N)) impl_storeFind.A N (bodyOf Tryz.f103) Tryz.f103.results.toList impl_storeFind.sg x = impl_storeFind N x.1 x.2.1 := by
  have h : runF cx (look (impl_storeFind.phis N)) impl_storeFind.A N (bodyOf Tryz.f103) Tryz.f103.results.toList impl_storeFind.sg x = impl_storeFind.B N (fun z => impl_storeFind.a0 N N z) x.1 x.2.1 := by kernel_rfl
  have e0 : (fun z => impl_storeFind.a0 N N z) = impl_storeFind.L0 N N := funext fun z => impl_storeFind.r0 N N z
  rw [h, e0]
  try rfl
noncomputable def impl_storeFind.sm (N : Nat) : Sm D := (⟨impl_storeFind.sg, fun (x : (List (ImplCell)) × (List (ImplSlot)) × Unit) => impl_storeFind N x.1 x.2.1⟩ : Sm D)
theorem impl_storeFind.sound (N : Nat) : Sound cx Tryz.prog gam 103 (impl_storeFind.sm N) := fn_sound (A := impl_storeFind.A) (Φ := (look (impl_storeFind.phis N))) pok (G := gam) (ΦOk.cons (impl_placeCmp.sound N) (fnOk_of (f := 57) (by kernel_rfl)) ΦOk.nil) mixed N Tryz.func103 (c := (bodyOf Tryz.f103)) (by kernel_rfl) impl_storeFind.sg (by kernel_rfl) (by kernel_rfl) (by kernel_rfl) (impl_storeFind.run N)

@[reducible] def impl_updateAt.sg : Sg := { ms := [{ k := (.sl (.st 80)), fl := [none] }, { k := (.st 100) }], keep := [false, false], rs := [{ k := (.int .i64) }] }
noncomputable def impl_updateAt.A : Ann := { dp := fun d => isIn [] d, lp := look [], jn := look [], pins := [], nt := 36 }
noncomputable def impl_updateAt.phis (N : Nat) : List (Nat × Sm D) := [(103, impl_storeFind.sm N), (148, impl_formFits.sm N)]
theorem impl_updateAt.run (N : Nat) (x : (List (ImplCell)) × ImplUpdate × Unit) : runF cx (look (impl_updateAt.phis N)) impl_updateAt.A N (bodyOf Tryz.f126) Tryz.f126.results.toList impl_updateAt.sg x = impl_updateAt N x.1 x.2.1 := by
  have h : runF cx (look (impl_updateAt.phis N)) impl_updateAt.A N (bodyOf Tryz.f126) Tryz.f126.results.toList impl_updateAt.sg x = impl_updateAt.B N x.1 x.2.1 := by kernel_rfl
  rw [h]
  try rfl
noncomputable def impl_updateAt.sm (N : Nat) : Sm D := (⟨impl_updateAt.sg, fun (x : (List (ImplCell)) × ImplUpdate × Unit) => impl_updateAt N x.1 x.2.1⟩ : Sm D)
theorem impl_updateAt.sound (N : Nat) : Sound cx Tryz.prog gam 126 (impl_updateAt.sm N) := fn_sound (A := impl_updateAt.A) (Φ := (look (impl_updateAt.phis N))) pok (G := gam) (ΦOk.cons (impl_storeFind.sound N) (fnOk_of (f := 103) (by kernel_rfl)) (ΦOk.cons (impl_formFits.sound N) (fnOk_of (f := 148) (by kernel_rfl)) ΦOk.nil)) mixed N Tryz.func126 (c := (bodyOf Tryz.f126)) (by kernel_rfl) impl_updateAt.sg (by kernel_rfl) (by kernel_rfl) (by kernel_rfl) (impl_updateAt.run N)

@[reducible] def impl_number.sg : Sg := { ms := [{ k := (.int .i64) }], keep := [false], rs := [{ k := (.st 127) }] }
noncomputable def impl_number.A : Ann := { dp := fun d => isIn [] d, lp := look [], jn := look [], pins := [], nt := 5 }
noncomputable def impl_number.phis (N : Nat) : List (Nat × Sm D) := []
theorem impl_number.run (N : Nat) (x : Int × Unit) : runF cx (look (impl_number.phis N)) impl_number.A N (bodyOf Tryz.f149) Tryz.f149.results.toList impl_number.sg x = impl_number N x.1 := by
  have h : runF cx (look (impl_number.phis N)) impl_number.A N (bodyOf Tryz.f149) Tryz.f149.results.toList impl_number.sg x = impl_number.B N x.1 := by kernel_rfl
  rw [h]
  try rfl
noncomputable def impl_number.sm (N : Nat) : Sm D := (⟨impl_number.sg, fun (x : Int × Unit) => impl_number N x.1⟩ : Sm D)
theorem impl_number.sound (N : Nat) : Sound cx Tryz.prog gam 149 (impl_number.sm N) := fn_sound (A := impl_number.A) (Φ := (look (impl_number.phis N))) pok (G := gam) ΦOk.nil mixed N Tryz.func149 (c := (bodyOf Tryz.f149)) (by kernel_rfl) impl_number.sg (by kernel_rfl) (by kernel_rfl) (by kernel_rfl) (impl_number.run N)

@[reducible] def impl_truth.sg : Sg := { ms := [{ k := .bool }], keep := [false], rs := [{ k := (.st 127) }] }
noncomputable def impl_truth.A : Ann := { dp := fun d => isIn [] d, lp := look [], jn := look [], pins := [], nt := 6 }
noncomputable def impl_truth.phis (N : Nat) : List (Nat × Sm D) := [(149, impl_number.sm N)]
theorem impl_truth.run (N : Nat) (x : Bool × Unit) : runF cx (look (impl_truth.phis N)) impl_truth.A N (bodyOf Tryz.f159) Tryz.f159.results.toList impl_truth.sg x = impl_truth N x.1 := by
  have h : runF cx (look (impl_truth.phis N)) impl_truth.A N (bodyOf Tryz.f159) Tryz.f159.results.toList impl_truth.sg x = impl_truth.B N x.1 := by kernel_rfl
  rw [h]
  try rfl
noncomputable def impl_truth.sm (N : Nat) : Sm D := (⟨impl_truth.sg, fun (x : Bool × Unit) => impl_truth N x.1⟩ : Sm D)
theorem impl_truth.sound (N : Nat) : Sound cx Tryz.prog gam 159 (impl_truth.sm N) := fn_sound (A := impl_truth.A) (Φ := (look (impl_truth.phis N))) pok (G := gam) (ΦOk.cons (impl_number.sound N) (fnOk_of (f := 149) (by kernel_rfl)) ΦOk.nil) mixed N Tryz.func159 (c := (bodyOf Tryz.f159)) (by kernel_rfl) impl_truth.sg (by kernel_rfl) (by kernel_rfl) (by kernel_rfl) (impl_truth.run N)

@[reducible] def impl_ValShow.sg : Sg := { ms := [{ k := (.st 127) }], keep := [false], rs := [{ k := .str }] }
noncomputable def impl_ValShow.A : Ann := { dp := fun d => isIn [] d, lp := look [], jn := look [], pins := [], nt := 19 }
noncomputable def impl_ValShow.phis (N : Nat) : List (Nat × Sm D) := [(101, impl_ValOk.sm N), (165, LibItoa.sm N)]
theorem impl_ValShow.run (N : Nat) (x : ImplValue × Unit) : runF cx (look (impl_ValShow.phis N)) impl_ValShow.A N (bodyOf Tryz.f160) Tryz.f160.results.toList impl_ValShow.sg x = impl_ValShow N x.1 := by
  have h : runF cx (look (impl_ValShow.phis N)) impl_ValShow.A N (bodyOf Tryz.f160) Tryz.f160.results.toList impl_ValShow.sg x = impl_ValShow.B N x.1 := by kernel_rfl
  rw [h]
  try rfl
noncomputable def impl_ValShow.sm (N : Nat) : Sm D := (⟨impl_ValShow.sg, fun (x : ImplValue × Unit) => impl_ValShow N x.1⟩ : Sm D)
theorem impl_ValShow.sound (N : Nat) : Sound cx Tryz.prog gam 160 (impl_ValShow.sm N) := fn_sound (A := impl_ValShow.A) (Φ := (look (impl_ValShow.phis N))) pok (G := gam) (ΦOk.cons (impl_ValOk.sound N) (fnOk_of (f := 101) (by kernel_rfl)) (ΦOk.cons (LibItoa.sound N) (fnOk_of (f := 165) (by kernel_rfl)) ΦOk.nil)) mixed N Tryz.func160 (c := (bodyOf Tryz.f160)) (by kernel_rfl) impl_ValShow.sg (by kernel_rfl) (by kernel_rfl) (by kernel_rfl) (impl_ValShow.run N)

@[reducible] def impl_ValTrue.sg : Sg := { ms := [{ k := (.st 127) }], keep := [false], rs := [{ k := .bool }] }
noncomputable def impl_ValTrue.A : Ann := { dp := fun d => isIn [] d, lp := look [], jn := look [], pins := [], nt := 25 }
noncomputable def impl_ValTrue.phis (N : Nat) : List (Nat × Sm D) := [(101, impl_ValOk.sm N)]
theorem impl_ValTrue.run (N : Nat) (x : ImplValue × Unit) : runF cx (look (impl_ValTrue.phis N)) impl_ValTrue.A N (bodyOf Tryz.f151) Tryz.f151.results.toList impl_ValTrue.sg x = impl_ValTrue N x.1 := by
  have h : runF cx (look (impl_ValTrue.phis N)) impl_ValTrue.A N (bodyOf Tryz.f151) Tryz.f151.results.toList impl_ValTrue.sg x = impl_ValTrue.B N x.1 := by kernel_rfl
  rw [h]
  try rfl
noncomputable def impl_ValTrue.sm (N : Nat) : Sm D := (⟨impl_ValTrue.sg, fun (x : ImplValue × Unit) => impl_ValTrue N x.1⟩ : Sm D)
theorem impl_ValTrue.sound (N : Nat) : Sound cx Tryz.prog gam 151 (impl_ValTrue.sm N) := fn_sound (A := impl_ValTrue.A) (Φ := (look (impl_ValTrue.phis N))) pok (G := gam) (ΦOk.cons (impl_ValOk.sound N) (fnOk_of (f := 101) (by kernel_rfl)) ΦOk.nil) mixed N Tryz.func151 (c := (bodyOf Tryz.f151)) (by kernel_rfl) impl_ValTrue.sg (by kernel_rfl) (by kernel_rfl) (by kernel_rfl) (impl_ValTrue.run N)

@[reducible] def impl_ValDo.sg : Sg := { ms := [{ k := (.int .i64) }, { k := (.st 127) }, { k := (.st 127) }], keep := [false, false, false], rs := [{ k := (.st 127) }] }
@[reducible] def impl_ValDo.lvJ19 : Lv := { id := 19, slots := [6, 7], ms := [{ ptr := true, id := 600, t := 128, k := (.st 127), fl := [none, none, none] }, { k := (.int .i64) }] }
noncomputable def impl_ValDo.A : Ann := { dp := fun d => isIn [] d, lp := look [], jn := look [(19, impl_ValDo.lvJ19)], pins := [], nt := 93 }
noncomputable def impl_ValDo.phis (N : Nat) : List (Nat × Sm D) := [(101, impl_ValOk.sm N), (159, impl_truth.sm N), (47, impl_within.sm N), (149, impl_number.sm N), (160, impl_ValShow.sm N), (151, impl_ValTrue.sm N)]
theorem impl_ValDo.run (N : Nat) (x : Int × ImplValue × ImplValue × Unit) : runF cx (look (impl_ValDo.phis N)) impl_ValDo.A N (bodyOf Tryz.f150) Tryz.f150.results.toList impl_ValDo.sg x = impl_ValDo N x.1 x.2.1 x.2.2.1 := by
  have h : runF cx (look (impl_ValDo.phis N)) impl_ValDo.A N (bodyOf Tryz.f150) Tryz.f150.results.toList impl_ValDo.sg x = impl_ValDo.B N x.1 x.2.1 x.2.2.1 := by kernel_rfl
  rw [h]
  try rfl
noncomputable def impl_ValDo.sm (N : Nat) : Sm D := (⟨impl_ValDo.sg, fun (x : Int × ImplValue × ImplValue × Unit) => impl_ValDo N x.1 x.2.1 x.2.2.1⟩ : Sm D)
theorem impl_ValDo.sound (N : Nat) : Sound cx Tryz.prog gam 150 (impl_ValDo.sm N) := fn_sound (A := impl_ValDo.A) (Φ := (look (impl_ValDo.phis N))) pok (G := gam) (ΦOk.cons (impl_ValOk.sound N) (fnOk_of (f := 101) (by kernel_rfl)) (ΦOk.cons (impl_truth.sound N) (fnOk_of (f := 159) (by kernel_rfl)) (ΦOk.cons (impl_within.sound N) (fnOk_of (f := 47) (by kernel_rfl)) (ΦOk.cons (impl_number.sound N) (fnOk_of (f := 149) (by kernel_rfl)) (ΦOk.cons (impl_ValShow.sound N) (fnOk_of (f := 160) (by kernel_rfl)) (ΦOk.cons (impl_ValTrue.sound N) (fnOk_of (f := 151) (by kernel_rfl)) ΦOk.nil)))))) mixed N Tryz.func150 (c := (bodyOf Tryz.f150)) (by kernel_rfl) impl_ValDo.sg (by kernel_rfl) (by kernel_rfl) (by kernel_rfl) (impl_ValDo.run N)

@[reducible] def impl_formRun.sg : Sg := { ms := [{ k := (.sl (.st 141)), fl := [none] }, { k := (.st 150) }], keep := [false, false], rs := [{ k := (.st 127) }] }
@[reducible] def impl_formRun.lvJ23 : Lv := { id := 23, slots := [3, 4, 5, 8, 9, 11, 12, 13], ms := [{ ptr := true, id := 600, t := 151, k := (.st 150), fl := [none, none, none, none] }, { ptr := true, id := 620, t := 128, k := (.st 127), fl := [none, none, none] }, { k := (.sl (.st 127)), fl := [some (false, 640)] }, { k := (.int .i64) }, { ptr := true, id := 680, t := 128, k := (.st 127), fl := [none, none, none] }, { k := (.sl (.st 141)), fl := [none] }, { k := (.int .i64) }, { k := (.int .i64) }] }
@[reducible] def impl_formRun.lvL0 : Lv := { id := 0, slots := [3, 4, 5, 11, 12, 13], ms := [{ ptr := true, id := 600, t := 151, k := (.st 150), fl := [none, none, none, none] }, { ptr := true, id := 620, t := 128, k := (.st 127), fl := [none, none, none] }, { k := (.sl (.st 127)), fl := [some (false, 640)] }, { k := (.sl (.st 141)), fl := [none] }, { k := (.int .i64) }, { k := (.int .i64) }] }
noncomputable def impl_formRun.A : Ann := { dp := fun d => isIn [] d, lp := look [(0, impl_formRun.lvL0)], jn := look [(23, impl_formRun.lvJ23)], pins := [], nt := 128 }
noncomputable def impl_formRun.phis (N : Nat) : List (Nat × Sm D) := [(149, impl_number.sm N), (150, impl_ValDo.sm N), (151, impl_ValTrue.sm N)]
noncomputable def impl_formRun.a0 (N : Nat) (n : Nat) (y : ImplEnv × ImplValue × (List (ImplValue)) × (List (ImplStep)) × Int × Int × Unit) : Option (ImplValue × Unit) := loopAt cx (look (impl_formRun.phis N)) impl_formRun.A N n (encL cx impl_formRun.lvL0.ms y).1 (encL cx impl_formRun.lvL0.ms y).2 (bodyOf Tryz.f127) 0 (Kfin cx impl_formRun.A impl_formRun.sg Tryz.f127.results.toList) [1, 1, 0, 1, 1] []
theorem impl_formRun.r0 (N : Nat) : ∀ (n : Nat) (y : ImplEnv × ImplValue × (List (ImplValue)) × (List (ImplStep)) × Int × Int × Unit), impl_formRun.a0 N n y = impl_formRun.L0 N n y
  | 0, y => by kernel_rfl
  | n + 1, y => by
    have h : impl_formRun.a0 N (n + 1) y = impl_formRun.B0 N (fun z => impl_formRun.a0 N n z) y := by kernel_rfl
    have e : (fun z => impl_formRun.a0 N n z) = impl_formRun.L0 N n := funext fun z => impl_formRun.r0 N n z
    rw [h]
    try rw [e]
    first | done | rfl
theorem impl_formRun.run (N : Nat) (x : (List (ImplStep)) × ImplEnv × Unit) : runF cx (look (impl_formRun.phis N)) impl_formRun.A N (bodyOf Tryz.f127) Tryz.f127.results.toList impl_formRun.sg x = impl_formRun N x.1 x.2.1 := by
  have h : runF cx (look (impl_formRun.phis N)) impl_formRun.A N (bodyOf Tryz.f127) Tryz.f127.results.toList impl_formRun.sg x = impl_formRun.B N (fun z => impl_formRun.a0 N N z) x.1 x.2.1 := by kernel_rfl
  have e0 : (fun z => impl_formRun.a0 N N z) = impl_formRun.L0 N N := funext fun z => impl_formRun.r0 N N z
  rw [h, e0]
  try rfl
noncomputable def impl_formRun.sm (N : Nat) : Sm D := (⟨impl_formRun.sg, fun (x : (List (ImplStep)) × ImplEnv × Unit) => impl_formRun N x.1 x.2.1⟩ : Sm D)
theorem impl_formRun.sound (N : Nat) : Sound cx Tryz.prog gam 127 (impl_formRun.sm N) := fn_sound (A := impl_formRun.A) (Φ := (look (impl_formRun.phis N))) pok (G := gam) (ΦOk.cons (impl_number.sound N) (fnOk_of (f := 149) (by kernel_rfl)) (ΦOk.cons (impl_ValDo.sound N) (fnOk_of (f := 150) (by kernel_rfl)) (ΦOk.cons (impl_ValTrue.sound N) (fnOk_of (f := 151) (by kernel_rfl)) ΦOk.nil))) mixed N Tryz.func127 (c := (bodyOf Tryz.f127)) (by kernel_rfl) impl_formRun.sg (by kernel_rfl) (by kernel_rfl) (by kernel_rfl) (impl_formRun.run N)

@[reducible] def impl_storeDo.sg : Sg := { ms := [{ k := (.sl (.st 80)), fl := [none] }, { k := (.st 100) }], keep := [false, false], rs := [{ k := (.sl (.st 80)), fl := [some (true, 411)] }] }
noncomputable def impl_storeDo.A : Ann := { dp := fun _ => true, lp := look [], jn := look [], pins := [], nt := 35 }
noncomputable def impl_storeDo.phis (N : Nat) : List (Nat × Sm D) := [(93, impl_storeCopy.sm N), (126, impl_updateAt.sm N), (127, impl_formRun.sm N)]
theorem impl_storeDo.run (N : Nat) (x : (List (ImplCell)) × ImplUpdate × Unit) : runF cx (look (impl_storeDo.phis N)) impl_storeDo.A N (bodyOf Tryz.f95) Tryz.f95.results.toList impl_storeDo.sg x = impl_storeDo N x.1 x.2.1 := by
  have h : runF cx (look (impl_storeDo.phis N)) impl_storeDo.A N (bodyOf Tryz.f95) Tryz.f95.results.toList impl_storeDo.sg x = impl_storeDo.B N x.1 x.2.1 := by kernel_rfl
  rw [h]
  try rfl
noncomputable def impl_storeDo.sm (N : Nat) : Sm D := (⟨impl_storeDo.sg, fun (x : (List (ImplCell)) × ImplUpdate × Unit) => impl_storeDo N x.1 x.2.1⟩ : Sm D)
theorem impl_storeDo.sound (N : Nat) : Sound cx Tryz.prog gam 95 (impl_storeDo.sm N) := fn_sound (A := impl_storeDo.A) (Φ := (look (impl_storeDo.phis N))) pok (G := gam) (ΦOk.cons (impl_storeCopy.sound N) (fnOk_of (f := 93) (by kernel_rfl)) (ΦOk.cons (impl_updateAt.sound N) (fnOk_of (f := 126) (by kernel_rfl)) (ΦOk.cons (impl_formRun.sound N) (fnOk_of (f := 127) (by kernel_rfl)) ΦOk.nil))) mixed N Tryz.func95 (c := (bodyOf Tryz.f95)) (by kernel_rfl) impl_storeDo.sg (by kernel_rfl) (by kernel_rfl) (by kernel_rfl) (impl_storeDo.run N)

@[reducible] def impl_lineShow.sg : Sg := { ms := [{ k := (.st 25) }, { k := (.int .i64) }], keep := [false, false], rs := [{ k := (.sl (.st 80)), fl := [some (true, 411)] }] }
@[reducible] def impl_lineShow.lvL0 : Lv := { id := 0, slots := [1, 5, 12, 13, 14], ms := [{ k := (.int .i64) }, { k := (.sl (.st 80)), fl := [some (true, 620)] }, { k := (.sl (.st 100)), fl := [none] }, { k := (.int .i64) }, { k := (.int .i64) }] }
noncomputable def impl_lineShow.A : Ann := { dp := fun _ => true, lp := look [(0, impl_lineShow.lvL0)], jn := look [], pins := [], nt := 26 }
noncomputable def impl_lineShow.phis (N : Nat) : List (Nat × Sm D) := [(93, impl_storeCopy.sm N), (94, impl_lineShown.sm N), (95, impl_storeDo.sm N)]
noncomputable def impl_lineShow.a0 (N : Nat) (n : Nat) (y : Int × (List (ImplCell)) × (List (ImplUpdate)) × Int × Int × Unit) : Option ((List (ImplCell)) × Unit) := loopAt cx (look (impl_lineShow.phis N)) impl_lineShow.A N n (encL cx impl_lineShow.lvL0.ms y).1 (encL cx impl_lineShow.lvL0.ms y).2 (bodyOf Tryz.f48) 0 (Kfin cx impl_lineShow.A impl_lineShow.sg Tryz.f48.results.toList) [1, 1, 0, 1, 1] []
theorem impl_lineShow.r0 (N : Nat) : ∀ (n : Nat) (y : Int × (List (ImplCell)) × (List (ImplUpdate)) × Int × Int × Unit), impl_lineShow.a0 N n y = impl_lineShow.L0 N n y
  | 0, y => by kernel_rfl
  | n + 1, y => by
    have h : impl_lineShow.a0 N (n + 1) y = impl_lineShow.B0 N (fun z => impl_lineShow.a0 N n z) y := by kernel_rfl
    have e : (fun z => impl_lineShow.a0 N n z) = impl_lineShow.L0 N n := funext fun z => impl_lineShow.r0 N n z
    rw [h]
    try rw [e]
    first | done | rfl
theorem impl_lineShow.run (N : Nat) (x : ImplLine × Int × Unit) : runF cx (look (impl_lineShow.phis N)) impl_lineShow.A N (bodyOf Tryz.f48) Tryz.f48.results.toList impl_lineShow.sg x = impl_lineShow N x.1 x.2.1 := by
  have h : runF cx (look (impl_lineShow.phis N)) impl_lineShow.A N (bodyOf Tryz.f48) Tryz.f48.results.toList impl_lineShow.sg x = impl_lineShow.B N (fun z => impl_lineShow.a0 N N z) x.1 x.2.1 := by kernel_rfl
  have e0 : (fun z => impl_lineShow.a0 N N z) = impl_lineShow.L0 N N := funext fun z => impl_lineShow.r0 N N z
  rw [h, e0]
  try rfl
noncomputable def impl_lineShow.sm (N : Nat) : Sm D := (⟨impl_lineShow.sg, fun (x : ImplLine × Int × Unit) => impl_lineShow N x.1 x.2.1⟩ : Sm D)
theorem impl_lineShow.sound (N : Nat) : Sound cx Tryz.prog gam 48 (impl_lineShow.sm N) := fn_sound (A := impl_lineShow.A) (Φ := (look (impl_lineShow.phis N))) pok (G := gam) (ΦOk.cons (impl_storeCopy.sound N) (fnOk_of (f := 93) (by kernel_rfl)) (ΦOk.cons (impl_lineShown.sound N) (fnOk_of (f := 94) (by kernel_rfl)) (ΦOk.cons (impl_storeDo.sound N) (fnOk_of (f := 95) (by kernel_rfl)) ΦOk.nil))) mixed N Tryz.func48 (c := (bodyOf Tryz.f48)) (by kernel_rfl) impl_lineShow.sg (by kernel_rfl) (by kernel_rfl) (by kernel_rfl) (impl_lineShow.run N)

@[reducible] def impl_LineShow.sg : Sg := { ms := [{ k := (.st 25) }, { k := (.int .i64) }], keep := [false, false], rs := [{ k := (.sl (.st 80)), fl := [some (true, 411)] }] }
noncomputable def impl_LineShow.A : Ann := { dp := fun d => isIn [] d, lp := look [], jn := look [], pins := [], nt := 16 }
noncomputable def impl_LineShow.phis (N : Nat) : List (Nat × Sm D) := [(13, impl_LineOk.sm N), (47, impl_within.sm N), (48, impl_lineShow.sm N)]
theorem impl_LineShow.run (N : Nat) (x : ImplLine × Int × Unit) : runF cx (look (impl_LineShow.phis N)) impl_LineShow.A N (bodyOf Tryz.f10) Tryz.f10.results.toList impl_LineShow.sg x = impl_LineShow N x.1 x.2.1 := by
  have h : runF cx (look (impl_LineShow.phis N)) impl_LineShow.A N (bodyOf Tryz.f10) Tryz.f10.results.toList impl_LineShow.sg x = impl_LineShow.B N x.1 x.2.1 := by kernel_rfl
  rw [h]
  try rfl
noncomputable def impl_LineShow.sm (N : Nat) : Sm D := (⟨impl_LineShow.sg, fun (x : ImplLine × Int × Unit) => impl_LineShow N x.1 x.2.1⟩ : Sm D)
theorem impl_LineShow.sound (N : Nat) : Sound cx Tryz.prog gam 10 (impl_LineShow.sm N) := fn_sound (A := impl_LineShow.A) (Φ := (look (impl_LineShow.phis N))) pok (G := gam) (ΦOk.cons (impl_LineOk.sound N) (fnOk_of (f := 13) (by kernel_rfl)) (ΦOk.cons (impl_within.sound N) (fnOk_of (f := 47) (by kernel_rfl)) (ΦOk.cons (impl_lineShow.sound N) (fnOk_of (f := 48) (by kernel_rfl)) ΦOk.nil))) mixed N Tryz.func10 (c := (bodyOf Tryz.f10)) (by kernel_rfl) impl_LineShow.sg (by kernel_rfl) (by kernel_rfl) (by kernel_rfl) (impl_LineShow.run N)

@[reducible] def spec_LineShow.sg : Sg := { ms := [{ k := (.st 25) }, { k := (.int .i64) }], keep := [false, false], rs := [{ k := (.sl (.st 80)), fl := [none] }], hold := true }
noncomputable def spec_LineShow.A : Ann := { dp := fun d => isIn [] d, lp := look [], jn := look [], pins := [], nt := 20 }
noncomputable def spec_LineShow.phis (N : Nat) : List (Nat × Sm D) := [(49, spec_validLine.sm N), (50, spec_inRange.sm N), (52, spec_showLine.sm N), (51, spec_copyStore.sm N)]
theorem spec_LineShow.run (N : Nat) (x : ImplLine × Int × Unit) : runF cx (look (spec_LineShow.phis N)) spec_LineShow.A N (bodyOf Tryz.f11) Tryz.f11.results.toList spec_LineShow.sg x = spec_LineShow N x.1 x.2.1 := by
  have h : runF cx (look (spec_LineShow.phis N)) spec_LineShow.A N (bodyOf Tryz.f11) Tryz.f11.results.toList spec_LineShow.sg x = spec_LineShow.B N x.1 x.2.1 := by kernel_rfl
  rw [h]
  try rfl
noncomputable def spec_LineShow.sm (N : Nat) : Sm D := (⟨spec_LineShow.sg, fun (x : ImplLine × Int × Unit) => spec_LineShow N x.1 x.2.1⟩ : Sm D)
theorem spec_LineShow.sound (N : Nat) : Sound cx Tryz.prog gam 11 (spec_LineShow.sm N) := fn_sound (A := spec_LineShow.A) (Φ := (look (spec_LineShow.phis N))) pok (G := gam) (ΦOk.cons (spec_validLine.sound N) (fnOk_of (f := 49) (by kernel_rfl)) (ΦOk.cons (spec_inRange.sound N) (fnOk_of (f := 50) (by kernel_rfl)) (ΦOk.cons (spec_showLine.sound N) (fnOk_of (f := 52) (by kernel_rfl)) (ΦOk.cons (spec_copyStore.sound N) (fnOk_of (f := 51) (by kernel_rfl)) ΦOk.nil)))) mixed N Tryz.func11 (c := (bodyOf Tryz.f11)) (by kernel_rfl) spec_LineShow.sg (by kernel_rfl) (by kernel_rfl) (by kernel_rfl) (spec_LineShow.run N)

@[reducible] def laws_szSlotS.sg : Sg := { ms := [{ k := (.sl (.st 125)), fl := [none] }, { k := (.int .i64) }], keep := [false, false], rs := [{ k := (.int .i64) }] }
noncomputable def laws_szSlotS.A : Ann := { dp := fun d => isIn [] d, lp := look [], jn := look [], pins := [], nt := 12 }
noncomputable def laws_szSlotS.phis (N : Nat) : List (Nat × Sm D) := []
theorem laws_szSlotS.run (N : Nat) (x : (List (ImplSlot)) × Int × Unit) : runF cx (look (laws_szSlotS.phis N)) laws_szSlotS.A N (bodyOf Tryz.f109) Tryz.f109.results.toList laws_szSlotS.sg x = laws_szSlotS N x.1 x.2.1 := by
  have h : runF cx (look (laws_szSlotS.phis N)) laws_szSlotS.A N (bodyOf Tryz.f109) Tryz.f109.results.toList laws_szSlotS.sg x = laws_szSlotS.B N x.1 x.2.1 := by kernel_rfl
  rw [h]
  try rfl
noncomputable def laws_szSlotS.sm (N : Nat) : Sm D := (⟨laws_szSlotS.sg, fun (x : (List (ImplSlot)) × Int × Unit) => laws_szSlotS N x.1 x.2.1⟩ : Sm D)
theorem laws_szSlotS.sound (N : Nat) : Sound cx Tryz.prog gam 109 (laws_szSlotS.sm N) := fn_sound (A := laws_szSlotS.A) (Φ := (look (laws_szSlotS.phis N))) pok (G := gam) ΦOk.nil mixed N Tryz.func109 (c := (bodyOf Tryz.f109)) (by kernel_rfl) laws_szSlotS.sg (by kernel_rfl) (by kernel_rfl) (by kernel_rfl) (laws_szSlotS.run N)

@[reducible] def laws_szValue.sg : Sg := { ms := [{ k := (.st 127) }, { k := (.int .i64) }], keep := [false, false], rs := [{ k := (.int .i64) }] }
noncomputable def laws_szValue.A : Ann := { dp := fun d => isIn [] d, lp := look [], jn := look [], pins := [], nt := 13 }
noncomputable def laws_szValue.phis (N : Nat) : List (Nat × Sm D) := []
theorem laws_szValue.run (N : Nat) (x : ImplValue × Int × Unit) : runF cx (look (laws_szValue.phis N)) laws_szValue.A N (bodyOf Tryz.f136) Tryz.f136.results.toList laws_szValue.sg x = laws_szValue N x.1 x.2.1 := by
  have h : runF cx (look (laws_szValue.phis N)) laws_szValue.A N (bodyOf Tryz.f136) Tryz.f136.results.toList laws_szValue.sg x = laws_szValue.B N x.1 x.2.1 := by kernel_rfl
  rw [h]
  try rfl
noncomputable def laws_szValue.sm (N : Nat) : Sm D := (⟨laws_szValue.sg, fun (x : ImplValue × Int × Unit) => laws_szValue N x.1 x.2.1⟩ : Sm D)
theorem laws_szValue.sound (N : Nat) : Sound cx Tryz.prog gam 136 (laws_szValue.sm N) := fn_sound (A := laws_szValue.A) (Φ := (look (laws_szValue.phis N))) pok (G := gam) ΦOk.nil mixed N Tryz.func136 (c := (bodyOf Tryz.f136)) (by kernel_rfl) laws_szValue.sg (by kernel_rfl) (by kernel_rfl) (by kernel_rfl) (laws_szValue.run N)

@[reducible] def laws_szValueS.sg : Sg := { ms := [{ k := (.sl (.st 127)), fl := [none] }, { k := (.int .i64) }], keep := [false, false], rs := [{ k := (.int .i64) }] }
@[reducible] def laws_szValueS.lvL0 : Lv := { id := 0, slots := [0, 1, 5], ms := [{ k := (.sl (.st 127)), fl := [none] }, { k := (.int .i64) }, { k := (.int .i64) }] }
noncomputable def laws_szValueS.A : Ann := { dp := fun d => isIn [] d, lp := look [(0, laws_szValueS.lvL0)], jn := look [], pins := [], nt := 27 }
noncomputable def laws_szValueS.phis (N : Nat) : List (Nat × Sm D) := [(136, laws_szValue.sm N)]
noncomputable def laws_szValueS.a0 (N : Nat) (n : Nat) (y : (List (ImplValue)) × Int × Int × Unit) : Option (Int × Unit) := loopAt cx (look (laws_szValueS.phis N)) laws_szValueS.A N n (encL cx laws_szValueS.lvL0.ms y).1 (encL cx laws_szValueS.lvL0.ms y).2 (bodyOf Tryz.f110) 0 (Kfin cx laws_szValueS.A laws_szValueS.sg Tryz.f110.results.toList) [1, 1, 1, 0, 1, 1] []
theorem laws_szValueS.r0 (N : Nat) : ∀ (n : Nat) (y : (List (ImplValue)) × Int × Int × Unit), laws_szValueS.a0 N n y = laws_szValueS.L0 N n y
  | 0, y => by kernel_rfl
  | n + 1, y => by
    have h : laws_szValueS.a0 N (n + 1) y = laws_szValueS.B0 N (fun z => laws_szValueS.a0 N n z) y := by kernel_rfl
    have e : (fun z => laws_szValueS.a0 N n z) = laws_szValueS.L0 N n := funext fun z => laws_szValueS.r0 N n z
    rw [h]
    try rw [e]
    first | done | rfl
theorem laws_szValueS.run (N : Nat) (x : (List (ImplValue)) × Int × Unit) : runF cx (look (laws_szValueS.phis N)) laws_szValueS.A N (bodyOf Tryz.f110) Tryz.f110.results.toList laws_szValueS.sg x = laws_szValueS N x.1 x.2.1 := by
  have h : runF cx (look (laws_szValueS.phis N)) laws_szValueS.A N (bodyOf Tryz.f110) Tryz.f110.results.toList laws_szValueS.sg x = laws_szValueS.B N (fun z => laws_szValueS.a0 N N z) x.1 x.2.1 := by kernel_rfl
  have e0 : (fun z => laws_szValueS.a0 N N z) = laws_szValueS.L0 N N := funext fun z => laws_szValueS.r0 N N z
  rw [h, e0]
  try rfl
noncomputable def laws_szValueS.sm (N : Nat) : Sm D := (⟨laws_szValueS.sg, fun (x : (List (ImplValue)) × Int × Unit) => laws_szValueS N x.1 x.2.1⟩ : Sm D)
theorem laws_szValueS.sound (N : Nat) : Sound cx Tryz.prog gam 110 (laws_szValueS.sm N) := fn_sound (A := laws_szValueS.A) (Φ := (look (laws_szValueS.phis N))) pok (G := gam) (ΦOk.cons (laws_szValue.sound N) (fnOk_of (f := 136) (by kernel_rfl)) ΦOk.nil) mixed N Tryz.func110 (c := (bodyOf Tryz.f110)) (by kernel_rfl) laws_szValueS.sg (by kernel_rfl) (by kernel_rfl) (by kernel_rfl) (laws_szValueS.run N)

@[reducible] def laws_szCell.sg : Sg := { ms := [{ k := (.st 92) }, { k := (.int .i64) }], keep := [false, false], rs := [{ k := (.int .i64) }] }
noncomputable def laws_szCell.A : Ann := { dp := fun d => isIn [] d, lp := look [], jn := look [], pins := [], nt := 18 }
noncomputable def laws_szCell.phis (N : Nat) : List (Nat × Sm D) := [(109, laws_szSlotS.sm N), (110, laws_szValueS.sm N)]
theorem laws_szCell.run (N : Nat) (x : LawsCell × Int × Unit) : runF cx (look (laws_szCell.phis N)) laws_szCell.A N (bodyOf Tryz.f66) Tryz.f66.results.toList laws_szCell.sg x = laws_szCell N x.1 x.2.1 := by
  have h : runF cx (look (laws_szCell.phis N)) laws_szCell.A N (bodyOf Tryz.f66) Tryz.f66.results.toList laws_szCell.sg x = laws_szCell.B N x.1 x.2.1 := by kernel_rfl
  rw [h]
  try rfl
noncomputable def laws_szCell.sm (N : Nat) : Sm D := (⟨laws_szCell.sg, fun (x : LawsCell × Int × Unit) => laws_szCell N x.1 x.2.1⟩ : Sm D)
theorem laws_szCell.sound (N : Nat) : Sound cx Tryz.prog gam 66 (laws_szCell.sm N) := fn_sound (A := laws_szCell.A) (Φ := (look (laws_szCell.phis N))) pok (G := gam) (ΦOk.cons (laws_szSlotS.sound N) (fnOk_of (f := 109) (by kernel_rfl)) (ΦOk.cons (laws_szValueS.sound N) (fnOk_of (f := 110) (by kernel_rfl)) ΦOk.nil)) mixed N Tryz.func66 (c := (bodyOf Tryz.f66)) (by kernel_rfl) laws_szCell.sg (by kernel_rfl) (by kernel_rfl) (by kernel_rfl) (laws_szCell.run N)

@[reducible] def laws_szCellS.sg : Sg := { ms := [{ k := (.sl (.st 92)), fl := [none] }, { k := (.int .i64) }], keep := [false, false], rs := [{ k := (.int .i64) }] }
@[reducible] def laws_szCellS.lvL0 : Lv := { id := 0, slots := [0, 1, 5], ms := [{ k := (.sl (.st 92)), fl := [none] }, { k := (.int .i64) }, { k := (.int .i64) }] }
noncomputable def laws_szCellS.A : Ann := { dp := fun d => isIn [] d, lp := look [(0, laws_szCellS.lvL0)], jn := look [], pins := [], nt := 27 }
noncomputable def laws_szCellS.phis (N : Nat) : List (Nat × Sm D) := [(66, laws_szCell.sm N)]
noncomputable def laws_szCellS.a0 (N : Nat) (n : Nat) (y : (List (LawsCell)) × Int × Int × Unit) : Option (Int × Unit) := loopAt cx (look (laws_szCellS.phis N)) laws_szCellS.A N n (encL cx laws_szCellS.lvL0.ms y).1 (encL cx laws_szCellS.lvL0.ms y).2 (bodyOf Tryz.f26) 0 (Kfin cx laws_szCellS.A laws_szCellS.sg Tryz.f26.results.toList) [1, 1, 1, 0, 1, 1] []
theorem laws_szCellS.r0 (N : Nat) : ∀ (n : Nat) (y : (List (LawsCell)) × Int × Int × Unit), laws_szCellS.a0 N n y = laws_szCellS.L0 N n y
  | 0, y => by kernel_rfl
  | n + 1, y => by
    have h : laws_szCellS.a0 N (n + 1) y = laws_szCellS.B0 N (fun z => laws_szCellS.a0 N n z) y := by kernel_rfl
    have e : (fun z => laws_szCellS.a0 N n z) = laws_szCellS.L0 N n := funext fun z => laws_szCellS.r0 N n z
    rw [h]
    try rw [e]
    first | done | rfl
theorem laws_szCellS.run (N : Nat) (x : (List (LawsCell)) × Int × Unit) : runF cx (look (laws_szCellS.phis N)) laws_szCellS.A N (bodyOf Tryz.f26) Tryz.f26.results.toList laws_szCellS.sg x = laws_szCellS N x.1 x.2.1 := by
  have h : runF cx (look (laws_szCellS.phis N)) laws_szCellS.A N (bodyOf Tryz.f26) Tryz.f26.results.toList laws_szCellS.sg x = laws_szCellS.B N (fun z => laws_szCellS.a0 N N z) x.1 x.2.1 := by kernel_rfl
  have e0 : (fun z => laws_szCellS.a0 N N z) = laws_szCellS.L0 N N := funext fun z => laws_szCellS.r0 N N z
  rw [h, e0]
  try rfl
noncomputable def laws_szCellS.sm (N : Nat) : Sm D := (⟨laws_szCellS.sg, fun (x : (List (LawsCell)) × Int × Unit) => laws_szCellS N x.1 x.2.1⟩ : Sm D)
theorem laws_szCellS.sound (N : Nat) : Sound cx Tryz.prog gam 26 (laws_szCellS.sm N) := fn_sound (A := laws_szCellS.A) (Φ := (look (laws_szCellS.phis N))) pok (G := gam) (ΦOk.cons (laws_szCell.sound N) (fnOk_of (f := 66) (by kernel_rfl)) ΦOk.nil) mixed N Tryz.func26 (c := (bodyOf Tryz.f26)) (by kernel_rfl) laws_szCellS.sg (by kernel_rfl) (by kernel_rfl) (by kernel_rfl) (laws_szCellS.run N)

@[reducible] def laws_szStep.sg : Sg := { ms := [{ k := (.st 162) }, { k := (.int .i64) }], keep := [false, false], rs := [{ k := (.int .i64) }] }
noncomputable def laws_szStep.A : Ann := { dp := fun d => isIn [] d, lp := look [], jn := look [], pins := [], nt := 12 }
noncomputable def laws_szStep.phis (N : Nat) : List (Nat × Sm D) := [(136, laws_szValue.sm N)]
theorem laws_szStep.run (N : Nat) (x : LawsStep × Int × Unit) : runF cx (look (laws_szStep.phis N)) laws_szStep.A N (bodyOf Tryz.f137) Tryz.f137.results.toList laws_szStep.sg x = laws_szStep N x.1 x.2.1 := by
  have h : runF cx (look (laws_szStep.phis N)) laws_szStep.A N (bodyOf Tryz.f137) Tryz.f137.results.toList laws_szStep.sg x = laws_szStep.B N x.1 x.2.1 := by kernel_rfl
  rw [h]
  try rfl
noncomputable def laws_szStep.sm (N : Nat) : Sm D := (⟨laws_szStep.sg, fun (x : LawsStep × Int × Unit) => laws_szStep N x.1 x.2.1⟩ : Sm D)
theorem laws_szStep.sound (N : Nat) : Sound cx Tryz.prog gam 137 (laws_szStep.sm N) := fn_sound (A := laws_szStep.A) (Φ := (look (laws_szStep.phis N))) pok (G := gam) (ΦOk.cons (laws_szValue.sound N) (fnOk_of (f := 136) (by kernel_rfl)) ΦOk.nil) mixed N Tryz.func137 (c := (bodyOf Tryz.f137)) (by kernel_rfl) laws_szStep.sg (by kernel_rfl) (by kernel_rfl) (by kernel_rfl) (laws_szStep.run N)

@[reducible] def laws_szStepS.sg : Sg := { ms := [{ k := (.sl (.st 162)), fl := [none] }, { k := (.int .i64) }], keep := [false, false], rs := [{ k := (.int .i64) }] }
@[reducible] def laws_szStepS.lvL0 : Lv := { id := 0, slots := [0, 1, 5], ms := [{ k := (.sl (.st 162)), fl := [none] }, { k := (.int .i64) }, { k := (.int .i64) }] }
noncomputable def laws_szStepS.A : Ann := { dp := fun d => isIn [] d, lp := look [(0, laws_szStepS.lvL0)], jn := look [], pins := [], nt := 27 }
noncomputable def laws_szStepS.phis (N : Nat) : List (Nat × Sm D) := [(137, laws_szStep.sm N)]
noncomputable def laws_szStepS.a0 (N : Nat) (n : Nat) (y : (List (LawsStep)) × Int × Int × Unit) : Option (Int × Unit) := loopAt cx (look (laws_szStepS.phis N)) laws_szStepS.A N n (encL cx laws_szStepS.lvL0.ms y).1 (encL cx laws_szStepS.lvL0.ms y).2 (bodyOf Tryz.f111) 0 (Kfin cx laws_szStepS.A laws_szStepS.sg Tryz.f111.results.toList) [1, 1, 1, 0, 1, 1] []
theorem laws_szStepS.r0 (N : Nat) : ∀ (n : Nat) (y : (List (LawsStep)) × Int × Int × Unit), laws_szStepS.a0 N n y = laws_szStepS.L0 N n y
  | 0, y => by kernel_rfl
  | n + 1, y => by
    have h : laws_szStepS.a0 N (n + 1) y = laws_szStepS.B0 N (fun z => laws_szStepS.a0 N n z) y := by kernel_rfl
    have e : (fun z => laws_szStepS.a0 N n z) = laws_szStepS.L0 N n := funext fun z => laws_szStepS.r0 N n z
    rw [h]
    try rw [e]
    first | done | rfl
theorem laws_szStepS.run (N : Nat) (x : (List (LawsStep)) × Int × Unit) : runF cx (look (laws_szStepS.phis N)) laws_szStepS.A N (bodyOf Tryz.f111) Tryz.f111.results.toList laws_szStepS.sg x = laws_szStepS N x.1 x.2.1 := by
  have h : runF cx (look (laws_szStepS.phis N)) laws_szStepS.A N (bodyOf Tryz.f111) Tryz.f111.results.toList laws_szStepS.sg x = laws_szStepS.B N (fun z => laws_szStepS.a0 N N z) x.1 x.2.1 := by kernel_rfl
  have e0 : (fun z => laws_szStepS.a0 N N z) = laws_szStepS.L0 N N := funext fun z => laws_szStepS.r0 N N z
  rw [h, e0]
  try rfl
noncomputable def laws_szStepS.sm (N : Nat) : Sm D := (⟨laws_szStepS.sg, fun (x : (List (LawsStep)) × Int × Unit) => laws_szStepS N x.1 x.2.1⟩ : Sm D)
theorem laws_szStepS.sound (N : Nat) : Sound cx Tryz.prog gam 111 (laws_szStepS.sm N) := fn_sound (A := laws_szStepS.A) (Φ := (look (laws_szStepS.phis N))) pok (G := gam) (ΦOk.cons (laws_szStep.sound N) (fnOk_of (f := 137) (by kernel_rfl)) ΦOk.nil) mixed N Tryz.func111 (c := (bodyOf Tryz.f111)) (by kernel_rfl) laws_szStepS.sg (by kernel_rfl) (by kernel_rfl) (by kernel_rfl) (laws_szStepS.run N)

@[reducible] def laws_szUpdate.sg : Sg := { ms := [{ k := (.st 96) }, { k := (.int .i64) }], keep := [false, false], rs := [{ k := (.int .i64) }] }
noncomputable def laws_szUpdate.A : Ann := { dp := fun d => isIn [] d, lp := look [], jn := look [], pins := [], nt := 18 }
noncomputable def laws_szUpdate.phis (N : Nat) : List (Nat × Sm D) := [(109, laws_szSlotS.sm N), (111, laws_szStepS.sm N)]
theorem laws_szUpdate.run (N : Nat) (x : LawsUpdate × Int × Unit) : runF cx (look (laws_szUpdate.phis N)) laws_szUpdate.A N (bodyOf Tryz.f67) Tryz.f67.results.toList laws_szUpdate.sg x = laws_szUpdate N x.1 x.2.1 := by
  have h : runF cx (look (laws_szUpdate.phis N)) laws_szUpdate.A N (bodyOf Tryz.f67) Tryz.f67.results.toList laws_szUpdate.sg x = laws_szUpdate.B N x.1 x.2.1 := by kernel_rfl
  rw [h]
  try rfl
noncomputable def laws_szUpdate.sm (N : Nat) : Sm D := (⟨laws_szUpdate.sg, fun (x : LawsUpdate × Int × Unit) => laws_szUpdate N x.1 x.2.1⟩ : Sm D)
theorem laws_szUpdate.sound (N : Nat) : Sound cx Tryz.prog gam 67 (laws_szUpdate.sm N) := fn_sound (A := laws_szUpdate.A) (Φ := (look (laws_szUpdate.phis N))) pok (G := gam) (ΦOk.cons (laws_szSlotS.sound N) (fnOk_of (f := 109) (by kernel_rfl)) (ΦOk.cons (laws_szStepS.sound N) (fnOk_of (f := 111) (by kernel_rfl)) ΦOk.nil)) mixed N Tryz.func67 (c := (bodyOf Tryz.f67)) (by kernel_rfl) laws_szUpdate.sg (by kernel_rfl) (by kernel_rfl) (by kernel_rfl) (laws_szUpdate.run N)

@[reducible] def laws_szUpdateS.sg : Sg := { ms := [{ k := (.sl (.st 96)), fl := [none] }, { k := (.int .i64) }], keep := [false, false], rs := [{ k := (.int .i64) }] }
@[reducible] def laws_szUpdateS.lvL0 : Lv := { id := 0, slots := [0, 1, 5], ms := [{ k := (.sl (.st 96)), fl := [none] }, { k := (.int .i64) }, { k := (.int .i64) }] }
noncomputable def laws_szUpdateS.A : Ann := { dp := fun d => isIn [] d, lp := look [(0, laws_szUpdateS.lvL0)], jn := look [], pins := [], nt := 27 }
noncomputable def laws_szUpdateS.phis (N : Nat) : List (Nat × Sm D) := [(67, laws_szUpdate.sm N)]
noncomputable def laws_szUpdateS.a0 (N : Nat) (n : Nat) (y : (List (LawsUpdate)) × Int × Int × Unit) : Option (Int × Unit) := loopAt cx (look (laws_szUpdateS.phis N)) laws_szUpdateS.A N n (encL cx laws_szUpdateS.lvL0.ms y).1 (encL cx laws_szUpdateS.lvL0.ms y).2 (bodyOf Tryz.f27) 0 (Kfin cx laws_szUpdateS.A laws_szUpdateS.sg Tryz.f27.results.toList) [1, 1, 1, 0, 1, 1] []
theorem laws_szUpdateS.r0 (N : Nat) : ∀ (n : Nat) (y : (List (LawsUpdate)) × Int × Int × Unit), laws_szUpdateS.a0 N n y = laws_szUpdateS.L0 N n y
  | 0, y => by kernel_rfl
  | n + 1, y => by
    have h : laws_szUpdateS.a0 N (n + 1) y = laws_szUpdateS.B0 N (fun z => laws_szUpdateS.a0 N n z) y := by kernel_rfl
    have e : (fun z => laws_szUpdateS.a0 N n z) = laws_szUpdateS.L0 N n := funext fun z => laws_szUpdateS.r0 N n z
    rw [h]
    try rw [e]
    first | done | rfl
theorem laws_szUpdateS.run (N : Nat) (x : (List (LawsUpdate)) × Int × Unit) : runF cx (look (laws_szUpdateS.phis N)) laws_szUpdateS.A N (bodyOf Tryz.f27) Tryz.f27.results.toList laws_szUpdateS.sg x = laws_szUpdateS N x.1 x.2.1 := by
  have h : runF cx (look (laws_szUpdateS.phis N)) laws_szUpdateS.A N (bodyOf Tryz.f27) Tryz.f27.results.toList laws_szUpdateS.sg x = laws_szUpdateS.B N (fun z => laws_szUpdateS.a0 N N z) x.1 x.2.1 := by kernel_rfl
  have e0 : (fun z => laws_szUpdateS.a0 N N z) = laws_szUpdateS.L0 N N := funext fun z => laws_szUpdateS.r0 N N z
  rw [h, e0]
  try rfl
noncomputable def laws_szUpdateS.sm (N : Nat) : Sm D := (⟨laws_szUpdateS.sg, fun (x : (List (LawsUpdate)) × Int × Unit) => laws_szUpdateS N x.1 x.2.1⟩ : Sm D)
theorem laws_szUpdateS.sound (N : Nat) : Sound cx Tryz.prog gam 27 (laws_szUpdateS.sm N) := fn_sound (A := laws_szUpdateS.A) (Φ := (look (laws_szUpdateS.phis N))) pok (G := gam) (ΦOk.cons (laws_szUpdate.sound N) (fnOk_of (f := 67) (by kernel_rfl)) ΦOk.nil) mixed N Tryz.func27 (c := (bodyOf Tryz.f27)) (by kernel_rfl) laws_szUpdateS.sg (by kernel_rfl) (by kernel_rfl) (by kernel_rfl) (laws_szUpdateS.run N)

@[reducible] def laws_szLine.sg : Sg := { ms := [{ k := (.st 38) }, { k := (.int .i64) }], keep := [false, false], rs := [{ k := (.int .i64) }] }
noncomputable def laws_szLine.A : Ann := { dp := fun d => isIn [] d, lp := look [], jn := look [], pins := [], nt := 18 }
noncomputable def laws_szLine.phis (N : Nat) : List (Nat × Sm D) := [(26, laws_szCellS.sm N), (27, laws_szUpdateS.sm N)]
theorem laws_szLine.run (N : Nat) (x : LawsLine × Int × Unit) : runF cx (look (laws_szLine.phis N)) laws_szLine.A N (bodyOf Tryz.f19) Tryz.f19.results.toList laws_szLine.sg x = laws_szLine N x.1 x.2.1 := by
  have h : runF cx (look (laws_szLine.phis N)) laws_szLine.A N (bodyOf Tryz.f19) Tryz.f19.results.toList laws_szLine.sg x = laws_szLine.B N x.1 x.2.1 := by kernel_rfl
  rw [h]
  try rfl
noncomputable def laws_szLine.sm (N : Nat) : Sm D := (⟨laws_szLine.sg, fun (x : LawsLine × Int × Unit) => laws_szLine N x.1 x.2.1⟩ : Sm D)
theorem laws_szLine.sound (N : Nat) : Sound cx Tryz.prog gam 19 (laws_szLine.sm N) := fn_sound (A := laws_szLine.A) (Φ := (look (laws_szLine.phis N))) pok (G := gam) (ΦOk.cons (laws_szCellS.sound N) (fnOk_of (f := 26) (by kernel_rfl)) (ΦOk.cons (laws_szUpdateS.sound N) (fnOk_of (f := 27) (by kernel_rfl)) ΦOk.nil)) mixed N Tryz.func19 (c := (bodyOf Tryz.f19)) (by kernel_rfl) laws_szLine.sg (by kernel_rfl) (by kernel_rfl) (by kernel_rfl) (laws_szLine.run N)

end
end Go.Ev
