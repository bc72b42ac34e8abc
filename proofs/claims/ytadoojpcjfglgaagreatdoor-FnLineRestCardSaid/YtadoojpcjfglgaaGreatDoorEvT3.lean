/- Each function that the law reaches does what its plain form says; no condition beyond the table of the library. -/
import Derived.Test.YtadoojpcjfglgaaGreatDoorEvT2
set_option linter.all false
set_option linter.unusedVariables false
set_option linter.unusedSimpArgs false
set_option maxRecDepth 100000
set_option maxHeartbeats 0
namespace Go.Ev
noncomputable section
open Go.Proofs
@[reducible] def impl_number.sg : Sg := { ms := [{ k := (.int .i64) }], keep := [false], rs := [{ k := (.st 127) }] }
noncomputable def impl_number.A : Ann := { dp := fun d => isIn [] d, lp := look [], jn := look [], pins := [], nt := 5 }
noncomputable def impl_number.phis (N : Nat) : List (Nat × Sm D) := []
theorem impl_number.run (N : Nat) (x : Int × Unit) : runF cx (look (impl_number.phis N)) impl_number.A N (bodyOf Tryz.f149) Tryz.f149.results.toList impl_number.sg x = impl_number N x.1 := by
  have h : runF cx (look (impl_number.phis N)) impl_number.A N (bodyOf Tryz.f149) Tryz.f149.results.toList impl_number.sg x = impl_number.B N x.1 := by kernel_rfl
  rw [h]
  try rfl
noncomputable def impl_number.sm (N : Nat) : Sm D := (⟨impl_number.sg, fun (x : Int × Unit) => impl_number N x.1⟩ : Sm D)
theorem impl_number.sound (N : Nat) : Sound cx Tryz.prog gam 149 (impl_number.sm N) := fn_sound (A := impl_number.A) (Φ := (look (impl_number.phis N))) pok (G := gam) ΦOk.nil mixed N Tryz.func149 (c := (bodyOf Tryz.f149)) (by kernel_rfl) impl_number.sg (by kernel_rfl) (by kernel_rfl) (by kernel_rfl) (impl_number.run N)

@[reducible] def impl_truth.sg : Sg := { ms := [{ k := .bool }], keep := [false], rs := [{ k := (.st 127) }] }
noncomputable def impl_truth.A : Ann := { dp := fun d => isIn [] d, lp := look [], jn := look [], pins := [], nt := 6 }
noncomputable def impl_truth.phis (N : Nat) : List (Nat × Sm D) := [(149, impl_number.sm N)]
theorem impl_truth.run (N : Nat) (x : Bool × Unit) : runF cx (look (impl_truth.phis N)) impl_truth.A N (bodyOf Tryz.f159) Tryz.f159.results.toList impl_truth.sg x = impl_truth N x.1 := by
  have h : runF cx (look (impl_truth.phis N)) impl_truth.A N (bodyOf Tryz.f159) Tryz.f159.results.toList impl_truth.sg x = impl_truth.B N x.1 := by kernel_rfl
  rw [h]
  try rfl
noncomputable def impl_truth.sm (N : Nat) : Sm D := (⟨impl_truth.sg, fun (x : Bool × Unit) => impl_truth N x.1⟩ : Sm D)
theorem impl_truth.sound (N : Nat) : Sound cx Tryz.prog gam 159 (impl_truth.sm N) := fn_sound (A := impl_truth.A) (Φ := (look (impl_truth.phis N))) pok (G := gam) (ΦOk.cons (impl_number.sound N) (fnOk_of (f := 149) (by kernel_rfl)) ΦOk.nil) mixed N Tryz.func159 (c := (bodyOf Tryz.f159)) (by kernel_rfl) impl_truth.sg (by kernel_rfl) (by kernel_rfl) (by kernel_rfl) (impl_truth.run N)

@[reducible] def impl_ValShow.sg : Sg := { ms := [{ k := (.st 127) }], keep := [false], rs := [{ k := .str }] }
noncomputable def impl_ValShow.A : Ann := { dp := fun d => isIn [] d, lp := look [], jn := look [], pins := [], nt := 19 }
noncomputable def impl_ValShow.phis (N : Nat) : List (Nat × Sm D) := [(101, impl_ValOk.sm N), (165, LibItoa.sm N)]
theorem impl_ValShow.run (N : Nat) (x : ImplValue × Unit) : runF cx (look (impl_ValShow.phis N)) impl_ValShow.A N (bodyOf Tryz.f160) Tryz.f160.results.toList impl_ValShow.sg x = impl_ValShow N x.1 := by
  have h : runF cx (look (impl_ValShow.phis N)) impl_ValShow.A N (bodyOf Tryz.f160) Tryz.f160.results.toList impl_ValShow.sg x = impl_ValShow.B N x.1 := by kernel_rfl
  rw [h]
  try rfl
noncomputable def impl_ValShow.sm (N : Nat) : Sm D := (⟨impl_ValShow.sg, fun (x : ImplValue × Unit) => impl_ValShow N x.1⟩ : Sm D)
theorem impl_ValShow.sound (N : Nat) : Sound cx Tryz.prog gam 160 (impl_ValShow.sm N) := fn_sound (A := impl_ValShow.A) (Φ := (look (impl_ValShow.phis N))) pok (G := gam) (ΦOk.cons (impl_ValOk.sound N) (fnOk_of (f := 101) (by kernel_rfl)) (ΦOk.cons (LibItoa.sound N) (fnOk_of (f := 165) (by kernel_rfl)) ΦOk.nil)) mixed N Tryz.func160 (c := (bodyOf Tryz.f160)) (by kernel_rfl) impl_ValShow.sg (by kernel_rfl) (by kernel_rfl) (by kernel_rfl) (impl_ValShow.run N)

@[reducible] def impl_ValTrue.sg : Sg := { ms := [{ k := (.st 127) }], keep := [false], rs := [{ k := .bool }] }
noncomputable def impl_ValTrue.A : Ann := { dp := fun d => isIn [] d, lp := look [], jn := look [], pins := [], nt := 25 }
noncomputable def impl_ValTrue.phis (N : Nat) : List (Nat × Sm D) := [(101, impl_ValOk.sm N)]
theorem impl_ValTrue.run (N : Nat) (x : ImplValue × Unit) : runF cx (look (impl_ValTrue.phis N)) impl_ValTrue.A N (bodyOf Tryz.f151) Tryz.f151.results.toList impl_ValTrue.sg x = impl_ValTrue N x.1 := by
  have h : runF cx (look (impl_ValTrue.phis N)) impl_ValTrue.A N (bodyOf Tryz.f151) Tryz.f151.results.toList impl_ValTrue.sg x = impl_ValTrue.B N x.1 := by kernel_rfl
  rw [h]
  try rfl
noncomputable def impl_ValTrue.sm (N : Nat) : Sm D := (⟨impl_ValTrue.sg, fun (x : ImplValue × Unit) => impl_ValTrue N x.1⟩ : Sm D)
theorem impl_ValTrue.sound (N : Nat) : Sound cx Tryz.prog gam 151 (impl_ValTrue.sm N) := fn_sound (A := impl_ValTrue.A) (Φ := (look (impl_ValTrue.phis N))) pok (G := gam) (ΦOk.cons (impl_ValOk.sound N) (fnOk_of (f := 101) (by kernel_rfl)) ΦOk.nil) mixed N Tryz.func151 (c := (bodyOf Tryz.f151)) (by kernel_rfl) impl_ValTrue.sg (by kernel_rfl) (by kernel_rfl) (by kernel_rfl) (impl_ValTrue.run N)

@[reducible] def impl_ValDo.sg : Sg := { ms := [{ k := (.int .i64) }, { k := (.st 127) }, { k := (.st 127) }], keep := [false, false, false], rs := [{ k := (.st 127) }] }
@[reducible] def impl_ValDo.lvJ19 : Lv := { id := 19, slots := [6, 7], ms := [{ ptr := true, id := 600, t := 128, k := (.st 127), fl := [none, none, none] }, { k := (.int .i64) }] }
noncomputable def impl_ValDo.A : Ann := { dp := fun d => isIn [] d, lp := look [], jn := look [(19, impl_ValDo.lvJ19)], pins := [], nt := 93 }
noncomputable def impl_ValDo.phis (N : Nat) : List (Nat × Sm D) := [(101, impl_ValOk.sm N), (159, impl_truth.sm N), (47, impl_within.sm N), (149, impl_number.sm N), (160, impl_ValShow.sm N), (151, impl_ValTrue.sm N)]
theorem impl_ValDo.run (N : Nat) (x : Int × ImplValue × ImplValue × Unit) : runF cx (look (impl_ValDo.phis N)) impl_ValDo.A N (bodyOf Tryz.f150) Tryz.f150.results.toList impl_ValDo.sg x = impl_ValDo N x.1 x.2.1 x.2.2.1 := by
  have h : runF cx (look (impl_ValDo.phis N)) impl_ValDo.A N (bodyOf Tryz.f150) Tryz.f150.results.toList impl_ValDo.sg x = impl_ValDo.B N x.1 x.2.1 x.2.2.1 := by kernel_rfl
  rw [h]
  try rfl
noncomputable def impl_ValDo.sm (N : Nat) : Sm D := (⟨impl_ValDo.sg, fun (x : Int × ImplValue × ImplValue × Unit) => impl_ValDo N x.1 x.2.1 x.2.2.1⟩ : Sm D)
theorem impl_ValDo.sound (N : Nat) : Sound cx Tryz.prog gam 150 (impl_ValDo.sm N) := fn_sound (A := impl_ValDo.A) (Φ := (look (impl_ValDo.phis N))) pok (G := gam) (ΦOk.cons (impl_ValOk.sound N) (fnOk_of (f := 101) (by kernel_rfl)) (ΦOk.cons (impl_truth.sound N) (fnOk_of (f := 159) (by kernel_rfl)) (ΦOk.cons (impl_within.sound N) (fnOk_of (f := 47) (by kernel_rfl)) (ΦOk.cons (impl_number.sound N) (fnOk_of (f := 149) (by kernel_rfl)) (ΦOk.cons (impl_ValShow.sound N) (fnOk_of (f := 160) (by kernel_rfl)) (ΦOk.cons (impl_ValTrue.sound N) (fnOk_of (f := 151) (by kernel_rfl)) ΦOk.nil)))))) mixed N Tryz.func150 (c := (bodyOf Tryz.f150)) (by kernel_rfl) impl_ValDo.sg (by kernel_rfl) (by kernel_rfl) (by kernel_rfl) (impl_ValDo.run N)

@[reducible] def impl_formRun.sg : Sg := { ms := [{ k := (.sl (.st 141)), fl := [none] }, { k := (.st 150) }], keep := [false, false], rs := [{ k := (.st 127) }] }
@[reducible] def impl_formRun.lvJ23 : Lv := { id := 23, slots := [3, 4, 5, 8, 9, 11, 12, 13], ms := [{ ptr := true, id := 600, t := 151, k := (.st 150), fl := [none, none, none, none] }, { ptr := true, id := 620, t := 128, k := (.st 127), fl := [none, none, none] }, { k := (.sl (.st 127)), fl := [some (false, 640)] }, { k := (.int .i64) }, { ptr := true, id := 680, t := 128, k := (.st 127), fl := [none, none, none] }, { k := (.sl (.st 141)), fl := [none] }, { k := (.int .i64) }, { k := (.int .i64) }] }
@[reducible] def impl_formRun.lvL0 : Lv := { id := 0, slots := [3, 4, 5, 11, 12, 13], ms := [{ ptr := true, id := 600, t := 151, k := (.st 150), fl := [none, none, none, none] }, { ptr := true, id := 620, t := 128, k := (.st 127), fl := [none, none, none] }, { k := (.sl (.st 127)), fl := [some (false, 640)] }, { k := (.sl (.st 141)), fl := [none] }, { k := (.int .i64) }, { k := (.int .i64) }] }
noncomputable def impl_formRun.A : Ann := { dp := fun d => isIn [] d, lp := look [(0, impl_formRun.lvL0)], jn := look [(23, impl_formRun.lvJ23)], pins := [], nt := 128 }
noncomputable def impl_formRun.phis (N : Nat) : List (Nat × Sm D) := [(149, impl_number.sm N), (150, impl_ValDo.sm N), (151, impl_ValTrue.sm N)]
noncomputable def impl_formRun.a0 (N : Nat) (n : Nat) (y : ImplEnv × ImplValue × (List (ImplValue)) × (List (ImplStep)) × Int × Int × Unit) : Option (ImplValue × Unit) := loopAt cx (look (impl_formRun.phis N)) impl_formRun.A N n (encL cx impl_formRun.lvL0.ms y).1 (encL cx impl_formRun.lvL0.ms y).2 (bodyOf Tryz.f127) 0 (Kfin cx impl_formRun.A impl_formRun.sg Tryz.f127.results.toList) [1, 1, 0, 1, 1] []
theorem impl_formRun.r0 (N : Nat) : ∀ (n : Nat) (y : ImplEnv × ImplValue × (List (ImplValue)) × (List (ImplStep)) × Int × Int × Unit), impl_formRun.a0 N n y = impl_formRun.L0 N n y
  | 0, y => by kernel_rfl
  | n + 1, y => by
    have h : impl_formRun.a0 N (n + 1) y = impl_formRun.B0 N (fun z => impl_formRun.a0 N n z) y := by kernel_rfl
    have e : (fun z => impl_formRun.a0 N n z) = impl_formRun.L0 N n := funext fun z => impl_formRun.r0 N n z
    rw [h]
    try rw [e]
    first | done | rfl
theorem impl_formRun.run (N : Nat) (x : (List (ImplStep)) × ImplEnv × Unit) : runF cx (look (impl_formRun.phis N)) impl_formRun.A N (bodyOf Tryz.f127) Tryz.f127.results.toList impl_formRun.sg x = impl_formRun N x.1 x.2.1 := by
  have h : runF cx (look (impl_formRun.phis N)) impl_formRun.A N (bodyOf Tryz.f127) Tryz.f127.results.toList impl_formRun.sg x = impl_formRun.B N (fun z => impl_formRun.a0 N N z) x.1 x.2.1 := by kernel_rfl
  have e0 : (fun z => impl_formRun.a0 N N z) = impl_formRun.L0 N N := funext fun z => impl_formRun.r0 N N z
  rw [h, e0]
  try rfl
noncomputable def impl_formRun.sm (N : Nat) : Sm D := (⟨impl_formRun.sg, fun (x : (List (ImplStep)) × ImplEnv × Unit) => impl_formRun N x.1 x.2.1⟩ : Sm D)
theorem impl_formRun.sound (N : Nat) : Sound cx Tryz.prog gam 127 (impl_formRun.sm N) := fn_sound (A := impl_formRun.A) (Φ := (look (impl_formRun.phis N))) pok (G := gam) (ΦOk.cons (impl_number.sound N) (fnOk_of (f := 149) (by kernel_rfl)) (ΦOk.cons (impl_ValDo.sound N) (fnOk_of (f := 150) (by kernel_rfl)) (ΦOk.cons (impl_ValTrue.sound N) (fnOk_of (f := 151) (by kernel_rfl)) ΦOk.nil))) mixed N Tryz.func127 (c := (bodyOf Tryz.f127)) (by kernel_rfl) impl_formRun.sg (by kernel_rfl) (by kernel_rfl) (by kernel_rfl) (impl_formRun.run N)

@[reducible] def impl_storeDo.sg : Sg := { ms := [{ k := (.sl (.st 80)), fl := [none] }, { k := (.st 100) }], keep := [false, false], rs := [{ k := (.sl (.st 80)), fl := [some (true, 411)] }] }
noncomputable def impl_storeDo.A : Ann := { dp := fun _ => true, lp := look [], jn := look [], pins := [], nt := 35 }
noncomputable def impl_storeDo.phis (N : Nat) : List (Nat × Sm D) := [(93, impl_storeCopy.sm N), (126, impl_updateAt.sm N), (127, impl_formRun.sm N)]
theorem impl_storeDo.run (N : Nat) (x : (List (ImplCell)) × ImplUpdate × Unit) : runF cx (look (impl_storeDo.phis N)) impl_storeDo.A N (bodyOf Tryz.f95) Tryz.f95.results.toList impl_storeDo.sg x = impl_storeDo N x.1 x.2.1 := by
  have h : runF cx (look (impl_storeDo.phis N)) impl_storeDo.A N (bodyOf Tryz.f95) Tryz.f95.results.toList impl_storeDo.sg x = impl_storeDo.B N x.1 x.2.1 := by kernel_rfl
  rw [h]
  try rfl
noncomputable def impl_storeDo.sm (N : Nat) : Sm D := (⟨impl_storeDo.sg, fun (x : (List (ImplCell)) × ImplUpdate × Unit) => impl_storeDo N x.1 x.2.1⟩ : Sm D)
theorem impl_storeDo.sound (N : Nat) : Sound cx Tryz.prog gam 95 (impl_storeDo.sm N) := fn_sound (A := impl_storeDo.A) (Φ := (look (impl_storeDo.phis N))) pok (G := gam) (ΦOk.cons (impl_storeCopy.sound N) (fnOk_of (f := 93) (by kernel_rfl)) (ΦOk.cons (impl_updateAt.sound N) (fnOk_of (f := 126) (by kernel_rfl)) (ΦOk.cons (impl_formRun.sound N) (fnOk_of (f := 127) (by kernel_rfl)) ΦOk.nil))) mixed N Tryz.func95 (c := (bodyOf Tryz.f95)) (by kernel_rfl) impl_storeDo.sg (by kernel_rfl) (by kernel_rfl) (by kernel_rfl) (impl_storeDo.run N)

@[reducible] def impl_lineShow.sg : Sg := { ms := [{ k := (.st 25) }, { k := (.int .i64) }], keep := [false, false], rs := [{ k := (.sl (.st 80)), fl := [some (true, 411)] }] }
@[reducible] def impl_lineShow.lvL0 : Lv := { id := 0, slots := [1, 5, 12, 13, 14], ms := [{ k := (.int .i64) }, { k := (.sl (.st 80)), fl := [some (true, 620)] }, { k := (.sl (.st 100)), fl := [none] }, { k := (.int .i64) }, { k := (.int .i64) }] }
noncomputable def impl_lineShow.A : Ann := { dp := fun _ => true, lp := look [(0, impl_lineShow.lvL0)], jn := look [], pins := [], nt := 26 }
noncomputable def impl_lineShow.phis (N : Nat) : List (Nat × Sm D) := [(93, impl_storeCopy.sm N), (94, impl_lineShown.sm N), (95, impl_storeDo.sm N)]
noncomputable def impl_lineShow.a0 (N : Nat) (n : Nat) (y : Int × (List (ImplCell)) × (List (ImplUpdate)) × Int × Int × Unit) : Option ((List (ImplCell)) × Unit) := loopAt cx (look (impl_lineShow.phis N)) impl_lineShow.A N n (encL cx impl_lineShow.lvL0.ms y).1 (encL cx impl_lineShow.lvL0.ms y).2 (bodyOf Tryz.f48) 0 (Kfin cx impl_lineShow.A impl_lineShow.sg Tryz.f48.results.toList) [1, 1, 0, 1, 1] []
theorem impl_lineShow.r0 (N : Nat) : ∀ (n : Nat) (y : Int × (List (ImplCell)) × (List (ImplUpdate)) × Int × Int × Unit), impl_lineShow.a0 N n y = impl_lineShow.L0 N n y
  | 0, y => by kernel_rfl
  | n + 1, y => by
    have h : impl_lineShow.a0 N (n + 1) y = impl_lineShow.B0 N (fun z => impl_lineShow.a0 N n z) y := by kernel_rfl
    have e : (fun z => impl_lineShow.a0 N n z) = impl_lineShow.L0 N n := funext fun z => impl_lineShow.r0 N n z
    rw [h]
    try rw [e]
    first | done | rfl
theorem impl_lineShow.run (N : Nat) (x : ImplLine × Int × Unit) : runF cx (look (impl_lineShow.phis N)) impl_lineShow.A N (bodyOf Tryz.f48) Tryz.f48.results.toList impl_lineShow.sg x = impl_lineShow N x.1 x.2.1 := by
  have h : runF cx (look (impl_lineShow.phis N)) impl_lineShow.A N (bodyOf Tryz.f48) Tryz.f48.results.toList impl_lineShow.sg x = impl_lineShow.B N (fun z => impl_lineShow.a0 N N z) x.1 x.2.1 := by kernel_rfl
  have e0 : (fun z => impl_lineShow.a0 N N z) = impl_lineShow.L0 N N := funext fun z => impl_lineShow.r0 N N z
  rw [h, e0]
  try rfl
noncomputable def impl_lineShow.sm (N : Nat) : Sm D := (⟨impl_lineShow.sg, fun (x : ImplLine × Int × Unit) => impl_lineShow N x.1 x.2.1⟩ : Sm D)
theorem impl_lineShow.sound (N : Nat) : Sound cx Tryz.prog gam 48 (impl_lineShow.sm N) := fn_sound (A := impl_lineShow.A) (Φ := (look (impl_lineShow.phis N))) pok (G := gam) (ΦOk.cons (impl_storeCopy.sound N) (fnOk_of (f := 93) (by kernel_rfl)) (ΦOk.cons (impl_lineShown.sound N) (fnOk_of (f := 94) (by kernel_rfl)) (ΦOk.cons (impl_storeDo.sound N) (fnOk_of (f := 95) (by kernel_rfl)) ΦOk.nil))) mixed N Tryz.func48 (c := (bodyOf Tryz.f48)) (by kernel_rfl) impl_lineShow.sg (by kernel_rfl) (by kernel_rfl) (by kernel_rfl) (impl_lineShow.run N)

@[reducible] def impl_LineShow.sg : Sg := { ms := [{ k := (.st 25) }, { k := (.int .i64) }], keep := [false, false], rs := [{ k := (.sl (.st 80)), fl := [some (true, 411)] }] }
noncomputable def impl_LineShow.A : Ann := { dp := fun d => isIn [] d, lp := look [], jn := look [], pins := [], nt := 16 }
noncomputable def impl_LineShow.phis (N : Nat) : List (Nat × Sm D) := [(13, impl_LineOk.sm N), (47, impl_within.sm N), (48, impl_lineShow.sm N)]
theorem impl_LineShow.run (N : Nat) (x : ImplLine × Int × Unit) : runF cx (look (impl_LineShow.phis N)) impl_LineShow.A N (bodyOf Tryz.f10) Tryz.f10.results.toList impl_LineShow.sg x = impl_LineShow N x.1 x.2.1 := by
  have h : runF cx (look (impl_LineShow.phis N)) impl_LineShow.A N (bodyOf Tryz.f10) Tryz.f10.results.toList impl_LineShow.sg x = impl_LineShow.B N x.1 x.2.1 := by kernel_rfl
  rw [h]
  try rfl
noncomputable def impl_LineShow.sm (N : Nat) : Sm D := (⟨impl_LineShow.sg, fun (x : ImplLine × Int × Unit) => impl_LineShow N x.1 x.2.1⟩ : Sm D)
theorem impl_LineShow.sound (N : Nat) : Sound cx Tryz.prog gam 10 (impl_LineShow.sm N) := fn_sound (A := impl_LineShow.A) (Φ := (look (impl_LineShow.phis N))) pok (G := gam) (ΦOk.cons (impl_LineOk.sound N) (fnOk_of (f := 13) (by kernel_rfl)) (ΦOk.cons (impl_within.sound N) (fnOk_of (f := 47) (by kernel_rfl)) (ΦOk.cons (impl_lineShow.sound N) (fnOk_of (f := 48) (by kernel_rfl)) ΦOk.nil))) mixed N Tryz.func10 (c := (bodyOf Tryz.f10)) (by kernel_rfl) impl_LineShow.sg (by kernel_rfl) (by kernel_rfl) (by kernel_rfl) (impl_LineShow.run N)

@[reducible] def spec_sameValues.sg : Sg := { ms := [{ k := (.sl (.st 127)), fl := [none] }, { k := (.sl (.st 127)), fl := [none] }], keep := [false, false], rs := [{ k := .bool }] }
@[reducible] def spec_sameValues.lvL0 : Lv := { id := 0, slots := [0, 1, 5], ms := [{ k := (.sl (.st 127)), fl := [none] }, { k := (.sl (.st 127)), fl := [none] }, { k := (.int .i64) }] }
noncomputable def spec_sameValues.A : Ann := { dp := fun d => isIn [] d, lp := look [(0, spec_sameValues.lvL0)], jn := look [], pins := [], nt := 26 }
noncomputable def spec_sameValues.phis (N : Nat) : List (Nat × Sm D) := []
noncomputable def spec_sameValues.a0 (N : Nat) (n : Nat) (y : (List (ImplValue)) × (List (ImplValue)) × Int × Unit) : Option (Bool × Unit) := loopAt cx (look (spec_sameValues.phis N)) spec_sameValues.A N n (encL cx spec_sameValues.lvL0.ms y).1 (encL cx spec_sameValues.lvL0.ms y).2 (bodyOf Tryz.f99) 0 (Kfin cx spec_sameValues.A spec_sameValues.sg Tryz.f99.results.toList) [1, 1, 0, 1, 1] []
theorem spec_sameValues.r0 (N : Nat) : ∀ (n : Nat) (y : (List (ImplValue)) × (List (ImplValue)) × Int × Unit), spec_sameValues.a0 N n y = spec_sameValues.L0 N n y
  | 0, y => by kernel_rfl
  | n + 1, y => by
    have h : spec_sameValues.a0 N (n + 1) y = spec_sameValues.B0 N (fun z => spec_sameValues.a0 N n z) y := by kernel_rfl
    have e : (fun z => spec_sameValues.a0 N n z) = spec_sameValues.L0 N n := funext fun z => spec_sameValues.r0 N n z
    rw [h]
    try rw [e]
    first | done | rfl
theorem spec_sameValues.run (N : Nat) (x : (List (ImplValue)) × (List (ImplValue)) × Unit) : runF cx (look (spec_sameValues.phis N)) spec_sameValues.A N (bodyOf Tryz.f99) Tryz.f99.results.toList spec_sameValues.sg x = spec_sameValues N x.1 x.2.1 := by
  have h : runF cx (look (spec_sameValues.phis N)) spec_sameValues.A N (bodyOf Tryz.f99) Tryz.f99.results.toList spec_sameValues.sg x = spec_sameValues.B N (fun z => spec_sameValues.a0 N N z) x.1 x.2.1 := by kernel_rfl
  have e0 : (fun z => spec_sameValues.a0 N N z) = spec_sameValues.L0 N N := funext fun z => spec_sameValues.r0 N N z
  rw [h, e0]
  try rfl
noncomputable def spec_sameValues.sm (N : Nat) : Sm D := (⟨spec_sameValues.sg, fun (x : (List (ImplValue)) × (List (ImplValue)) × Unit) => spec_sameValues N x.1 x.2.1⟩ : Sm D)
theorem spec_sameValues.sound (N : Nat) : Sound cx Tryz.prog gam 99 (spec_sameValues.sm N) := fn_sound (A := spec_sameValues.A) (Φ := (look (spec_sameValues.phis N))) pok (G := gam) ΦOk.nil mixed N Tryz.func99 (c := (bodyOf Tryz.f99)) (by kernel_rfl) spec_sameValues.sg (by kernel_rfl) (by kernel_rfl) (by kernel_rfl) (spec_sameValues.run N)

@[reducible] def spec_sameStore.sg : Sg := { ms := [{ k := (.sl (.st 80)), fl := [none] }, { k := (.sl (.st 80)), fl := [none] }], keep := [false, false], rs := [{ k := .bool }] }
@[reducible] def spec_sameStore.lvL0 : Lv := { id := 0, slots := [0, 1, 5], ms := [{ k := (.sl (.st 80)), fl := [none] }, { k := (.sl (.st 80)), fl := [none] }, { k := (.int .i64) }] }
noncomputable def spec_sameStore.A : Ann := { dp := fun d => isIn [] d, lp := look [(0, spec_sameStore.lvL0)], jn := look [], pins := [], nt := 43 }
noncomputable def spec_sameStore.phis (N : Nat) : List (Nat × Sm D) := [(98, spec_comparePlaces.sm N), (99, spec_sameValues.sm N)]
noncomputable def spec_sameStore.a0 (N : Nat) (n : Nat) (y : (List (ImplCell)) × (List (ImplCell)) × Int × Unit) : Option (Bool × Unit) := loopAt cx (look (spec_sameStore.phis N)) spec_sameStore.A N n (encL cx spec_sameStore.lvL0.ms y).1 (encL cx spec_sameStore.lvL0.ms y).2 (bodyOf Tryz.f53) 0 (Kfin cx spec_sameStore.A spec_sameStore.sg Tryz.f53.results.toList) [1, 1, 0, 1, 1] []
theorem spec_sameStore.r0 (N : Nat) : ∀ (n : Nat) (y : (List (ImplCell)) × (List (ImplCell)) × Int × Unit), spec_sameStore.a0 N n y = spec_sameStore.L0 N n y
  | 0, y => by kernel_rfl
  | n + 1, y => by
    have h : spec_sameStore.a0 N (n + 1) y = spec_sameStore.B0 N (fun z => spec_sameStore.a0 N n z) y := by kernel_rfl
    have e : (fun z => spec_sameStore.a0 N n z) = spec_sameStore.L0 N n := funext fun z => spec_sameStore.r0 N n z
    rw [h]
    try rw [e]
    first | done | rfl
theorem spec_sameStore.run (N : Nat) (x : (List (ImplCell)) × (List (ImplCell)) × Unit) : runF cx (look (spec_sameStore.phis N)) spec_sameStore.A N (bodyOf Tryz.f53) Tryz.f53.results.toList spec_sameStore.sg x = spec_sameStore N x.1 x.2.1 := by
  have h : runF cx (look (spec_sameStore.phis N)) spec_sameStore.A N (bodyOf Tryz.f53) Tryz.f53.results.toList spec_sameStore.sg x = spec_sameStore.B N (fun z => spec_sameStore.a0 N N z) x.1 x.2.1 := by kernel_rfl
  have e0 : (fun z => spec_sameStore.a0 N N z) = spec_sameStore.L0 N N := funext fun z => spec_sameStore.r0 N N z
  rw [h, e0]
  try rfl
noncomputable def spec_sameStore.sm (N : Nat) : Sm D := (⟨spec_sameStore.sg, fun (x : (List (ImplCell)) × (List (ImplCell)) × Unit) => spec_sameStore N x.1 x.2.1⟩ : Sm D)
theorem spec_sameStore.sound (N : Nat) : Sound cx Tryz.prog gam 53 (spec_sameStore.sm N) := fn_sound (A := spec_sameStore.A) (Φ := (look (spec_sameStore.phis N))) pok (G := gam) (ΦOk.cons (spec_comparePlaces.sound N) (fnOk_of (f := 98) (by kernel_rfl)) (ΦOk.cons (spec_sameValues.sound N) (fnOk_of (f := 99) (by kernel_rfl)) ΦOk.nil)) mixed N Tryz.func53 (c := (bodyOf Tryz.f53)) (by kernel_rfl) spec_sameStore.sg (by kernel_rfl) (by kernel_rfl) (by kernel_rfl) (spec_sameStore.run N)

@[reducible] def spec_SameStore.sg : Sg := { ms := [{ k := (.sl (.st 80)), fl := [none] }, { k := (.sl (.st 80)), fl := [none] }], keep := [false, false], rs := [{ k := .bool }] }
noncomputable def spec_SameStore.A : Ann := { dp := fun d => isIn [] d, lp := look [], jn := look [], pins := [], nt := 8 }
noncomputable def spec_SameStore.phis (N : Nat) : List (Nat × Sm D) := [(53, spec_sameStore.sm N)]
theorem spec_SameStore.run (N : Nat) (x : (List (ImplCell)) × (List (ImplCell)) × Unit) : runF cx (look (spec_SameStore.phis N)) spec_SameStore.A N (bodyOf Tryz.f12) Tryz.f12.results.toList spec_SameStore.sg x = spec_SameStore N x.1 x.2.1 := by
  have h : runF cx (look (spec_SameStore.phis N)) spec_SameStore.A N (bodyOf Tryz.f12) Tryz.f12.results.toList spec_SameStore.sg x = spec_SameStore.B N x.1 x.2.1 := by kernel_rfl
  rw [h]
  try rfl
noncomputable def spec_SameStore.sm (N : Nat) : Sm D := (⟨spec_SameStore.sg, fun (x : (List (ImplCell)) × (List (ImplCell)) × Unit) => spec_SameStore N x.1 x.2.1⟩ : Sm D)
theorem spec_SameStore.sound (N : Nat) : Sound cx Tryz.prog gam 12 (spec_SameStore.sm N) := fn_sound (A := spec_SameStore.A) (Φ := (look (spec_SameStore.phis N))) pok (G := gam) (ΦOk.cons (spec_sameStore.sound N) (fnOk_of (f := 53) (by kernel_rfl)) ΦOk.nil) mixed N Tryz.func12 (c := (bodyOf Tryz.f12)) (by kernel_rfl) spec_SameStore.sg (by kernel_rfl) (by kernel_rfl) (by kernel_rfl) (spec_SameStore.run N)

@[reducible] def impl_formCopy.sg : Sg := { ms := [{ k := (.sl (.st 141)), fl := [none] }], keep := [false], rs := [{ k := (.sl (.st 141)), fl := [none] }], hold := true }
noncomputable def impl_formCopy.A : Ann := { dp := fun d => isIn [] d, lp := look [], jn := look [], pins := [], nt := 5 }
noncomputable def impl_formCopy.phis (N : Nat) : List (Nat × Sm D) := []
theorem impl_formCopy.run (N : Nat) (x : (List (ImplStep)) × Unit) : runF cx (look (impl_formCopy.phis N)) impl_formCopy.A N (bodyOf Tryz.f132) Tryz.f132.results.toList impl_formCopy.sg x = impl_formCopy N x.1 := by
  have h : runF cx (look (impl_formCopy.phis N)) impl_formCopy.A N (bodyOf Tryz.f132) Tryz.f132.results.toList impl_formCopy.sg x = impl_formCopy.B N x.1 := by kernel_rfl
  rw [h]
  try rfl
noncomputable def impl_formCopy.sm (N : Nat) : Sm D := (⟨impl_formCopy.sg, fun (x : (List (ImplStep)) × Unit) => impl_formCopy N x.1⟩ : Sm D)
theorem impl_formCopy.sound (N : Nat) : Sound cx Tryz.prog gam 132 (impl_formCopy.sm N) := fn_sound (A := impl_formCopy.A) (Φ := (look (impl_formCopy.phis N))) pok (G := gam) ΦOk.nil mixed N Tryz.func132 (c := (bodyOf Tryz.f132)) (by kernel_rfl) impl_formCopy.sg (by kernel_rfl) (by kernel_rfl) (by kernel_rfl) (impl_formCopy.run N)

@[reducible] def impl_updateCopy.sg : Sg := { ms := [{ k := (.st 100) }], keep := [false], rs := [{ k := (.st 100) }], hold := true }
noncomputable def impl_updateCopy.A : Ann := { dp := fun d => isIn [] d, lp := look [], jn := look [], pins := [], nt := 12 }
noncomputable def impl_updateCopy.phis (N : Nat) : List (Nat × Sm D) := [(131, impl_placeCopy.sm N), (132, impl_formCopy.sm N)]
theorem impl_updateCopy.run (N : Nat) (x : ImplUpdate × Unit) : runF cx (look (impl_updateCopy.phis N)) impl_updateCopy.A N (bodyOf Tryz.f102) Tryz.f102.results.toList impl_updateCopy.sg x = impl_updateCopy N x.1 := by
  have h : runF cx (look (impl_updateCopy.phis N)) impl_updateCopy.A N (bodyOf Tryz.f102) Tryz.f102.results.toList impl_updateCopy.sg x = impl_updateCopy.B N x.1 := by kernel_rfl
  rw [h]
  try rfl
noncomputable def impl_updateCopy.sm (N : Nat) : Sm D := (⟨impl_updateCopy.sg, fun (x : ImplUpdate × Unit) => impl_updateCopy N x.1⟩ : Sm D)
theorem impl_updateCopy.sound (N : Nat) : Sound cx Tryz.prog gam 102 (impl_updateCopy.sm N) := fn_sound (A := impl_updateCopy.A) (Φ := (look (impl_updateCopy.phis N))) pok (G := gam) (ΦOk.cons (impl_placeCopy.sound N) (fnOk_of (f := 131) (by kernel_rfl)) (ΦOk.cons (impl_formCopy.sound N) (fnOk_of (f := 132) (by kernel_rfl)) ΦOk.nil)) mixed N Tryz.func102 (c := (bodyOf Tryz.f102)) (by kernel_rfl) impl_updateCopy.sg (by kernel_rfl) (by kernel_rfl) (by kernel_rfl) (impl_updateCopy.run N)

@[reducible] def impl_lineRest.sg : Sg := { ms := [{ k := (.st 25) }, { k := (.int .i64) }], keep := [false, false], rs := [{ k := (.st 25) }], hold := true }
@[reducible] def impl_lineRest.lvL2 : Lv := { id := 2, slots := [1, 4, 5, 6, 8, 9, 18, 19, 20, 41, 42], ms := [{ k := (.int .i64) }, { ptr := true, id := 620, t := 26, k := (.st 25), fl := [some (false, 621), some (false, 622)] }, { ptr := true, id := 640, t := 26, k := (.st 25), fl := [some (true, 641), some (false, 642)] }, { k := (.sl (.st 100)), fl := [some (false, 660)] }, { ptr := true, id := 680, t := 101, k := (.st 100), fl := [none, none, none, none] }, { k := .bool }, { k := (.sl (.st 100)), fl := [none] }, { k := (.int .i64) }, { k := (.int .i64) }, { k := (.int .i64) }, { k := (.int .i64) }], al := [(40, 660, false)] }
@[reducible] def impl_lineRest.lvL0 : Lv := { id := 0, slots := [1, 4, 5, 6, 18, 19, 20], ms := [{ k := (.int .i64) }, { ptr := true, id := 620, t := 26, k := (.st 25), fl := [some (false, 621), some (false, 622)] }, { ptr := true, id := 640, t := 26, k := (.st 25), fl := [some (true, 641), some (false, 642)] }, { k := (.sl (.st 100)), fl := [some (false, 660)] }, { k := (.sl (.st 100)), fl := [none] }, { k := (.int .i64) }, { k := (.int .i64) }] }
noncomputable def impl_lineRest.A : Ann := { dp := fun d => isIn [] d, lp := look [(2, impl_lineRest.lvL2), (0, impl_lineRest.lvL0)], jn := look [], pins := [], nt := 79 }
noncomputable def impl_lineRest.phis (N : Nat) : List (Nat × Sm D) := [(93, impl_storeCopy.sm N), (102, impl_updateCopy.sm N), (94, impl_lineShown.sm N), (57, impl_placeCmp.sm N), (103, impl_storeFind.sm N), (95, impl_storeDo.sm N)]
noncomputable def impl_lineRest.a2 (N : Nat) (m0 : Nat) (n : Nat) (y : Int × ImplLine × ImplLine × (List (ImplUpdate)) × ImplUpdate × Bool × (List (ImplUpdate)) × Int × Int × Int × Int × Unit) : Option (ImplLine × Unit) := loopAt cx (look (impl_lineRest.phis N)) impl_lineRest.A N n (encL cx impl_lineRest.lvL2.ms y).1 (encL cx impl_lineRest.lvL2.ms y).2 (bodyOf Tryz.f58) 0 (Kfin cx impl_lineRest.A impl_lineRest.sg Tryz.f58.results.toList) [1, 1, 1, 0, 1, 1, 1, 1, 1, 0, 1, 1, 1, 1, 1, 0, 1, 1] [m0]
noncomputable def impl_lineRest.a0 (N : Nat) (n : Nat) (y : Int × ImplLine × ImplLine × (List (ImplUpdate)) × (List (ImplUpdate)) × Int × Int × Unit) : Option (ImplLine × Unit) := loopAt cx (look (impl_lineRest.phis N)) impl_lineRest.A N n (encL cx impl_lineRest.lvL0.ms y).1 (encL cx impl_lineRest.lvL0.ms y).2 (bodyOf Tryz.f58) 0 (Kfin cx impl_lineRest.A impl_lineRest.sg Tryz.f58.results.toList) [1, 1, 1, 0, 1, 1] []
theorem impl_lineRest.r2 (N : Nat) (m0 : Nat) : ∀ (n : Nat) (y : Int × ImplLine × ImplLine × (List (ImplUpdate)) × ImplUpdate × Bool × (List (ImplUpdate)) × Int × Int × Int × Int × Unit), impl_lineRest.a2 N m0 n y = impl_lineRest.L2 N (fun z => impl_lineRest.a0 N m0 z) n y
  | 0, y => by kernel_rfl
  | n + 1, y => by
    have h : impl_lineRest.a2 N m0 (n + 1) y = impl_lineRest.B2 N (fun z => impl_lineRest.a0 N m0 z) (fun z => impl_lineRest.a2 N m0 n z) y := by kernel_rfl
    have e : (fun z => impl_lineRest.a2 N m0 n z) = impl_lineRest.L2 N (fun z => impl_lineRest.a0 N m0 z) n := funext fun z => impl_lineRest.r2 N m0 n z
    rw [h]
    try rw [e]
    first | done | rfl
theorem impl_lineRest.r0 (N : Nat) : ∀ (n : Nat) (y : Int × ImplLine × ImplLine × (List (ImplUpdate)) × (List (ImplUpdate)) × Int × Int × Unit), impl_lineRest.a0 N n y = impl_lineRest.L0 N n y
  | 0, y => by kernel_rfl
  | n + 1, y => by
    have h : impl_lineRest.a0 N (n + 1) y = impl_lineRest.B0 N (fun z => impl_lineRest.a0 N n z) (fun z => impl_lineRest.a2 N n N z) y := by kernel_rfl
    have e : (fun z => impl_lineRest.a0 N n z) = impl_lineRest.L0 N n := funext fun z => impl_lineRest.r0 N n z
    have e2 : (fun z => impl_lineRest.a2 N n N z) = impl_lineRest.L2 N (fun z => impl_lineRest.a0 N n z) N := funext fun z => impl_lineRest.r2 N n N z
    rw [h, e2]
    try rw [e]
    first | done | rfl
theorem impl_lineRest.run (N : Nat) (x : ImplLine × Int × Unit) : runF cx (look (impl_lineRest.phis N)) impl_lineRest.A N (bodyOf Tryz.f58) Tryz.f58.results.toList impl_lineRest.sg x = impl_lineRest N x.1 x.2.1 := by
  have h : runF cx (look (impl_lineRest.phis N)) impl_lineRest.A N (bodyOf Tryz.f58) Tryz.f58.results.toList impl_lineRest.sg x = impl_lineRest.B N (fun z => impl_lineRest.a0 N N z) x.1 x.2.1 := by kernel_rfl
  have e0 : (fun z => impl_lineRest.a0 N N z) = impl_lineRest.L0 N N := funext fun z => impl_lineRest.r0 N N z
  rw [h, e0]
  try rfl
noncomputable def impl_lineRest.sm (N : Nat) : Sm D := (⟨impl_lineRest.sg, fun (x : ImplLine × Int × Unit) => impl_lineRest N x.1 x.2.1⟩ : Sm D)
theorem impl_lineRest.sound (N : Nat) : Sound cx Tryz.prog gam 58 (impl_lineRest.sm N) := fn_sound (A := impl_lineRest.A) (Φ := (look (impl_lineRest.phis N))) pok (G := gam) (ΦOk.cons (impl_storeCopy.sound N) (fnOk_of (f := 93) (by kernel_rfl)) (ΦOk.cons (impl_updateCopy.sound N) (fnOk_of (f := 102) (by kernel_rfl)) (ΦOk.cons (impl_lineShown.sound N) (fnOk_of (f := 94) (by kernel_rfl)) (ΦOk.cons (impl_placeCmp.sound N) (fnOk_of (f := 57) (by kernel_rfl)) (ΦOk.cons (impl_storeFind.sound N) (fnOk_of (f := 103) (by kernel_rfl)) (ΦOk.cons (impl_storeDo.sound N) (fnOk_of (f := 95) (by kernel_rfl)) ΦOk.nil)))))) mixed N Tryz.func58 (c := (bodyOf Tryz.f58)) (by kernel_rfl) impl_lineRest.sg (by kernel_rfl) (by kernel_rfl) (by kernel_rfl) (impl_lineRest.run N)

@[reducible] def impl_LineRest.sg : Sg := { ms := [{ k := (.st 25) }, { k := (.int .i64) }], keep := [false, false], rs := [{ k := (.st 25) }], hold := true }
noncomputable def impl_LineRest.A : Ann := { dp := fun d => isIn [] d, lp := look [], jn := look [], pins := [], nt := 17 }
noncomputable def impl_LineRest.phis (N : Nat) : List (Nat × Sm D) := [(13, impl_LineOk.sm N), (47, impl_within.sm N), (58, impl_lineRest.sm N)]
theorem impl_LineRest.run (N : Nat) (x : ImplLine × Int × Unit) : runF cx (look (impl_LineRest.phis N)) impl_LineRest.A N (bodyOf Tryz.f15) Tryz.f15.results.toList impl_LineRest.sg x = impl_LineRest N x.1 x.2.1 := by
  have h : runF cx (look (impl_LineRest.phis N)) impl_LineRest.A N (bodyOf Tryz.f15) Tryz.f15.results.toList impl_LineRest.sg x = impl_LineRest.B N x.1 x.2.1 := by kernel_rfl
  rw [h]
  try rfl
noncomputable def impl_LineRest.sm (N : Nat) : Sm D := (⟨impl_LineRest.sg, fun (x : ImplLine × Int × Unit) => impl_LineRest N x.1 x.2.1⟩ : Sm D)
theorem impl_LineRest.sound (N : Nat) : Sound cx Tryz.prog gam 15 (impl_LineRest.sm N) := fn_sound (A := impl_LineRest.A) (Φ := (look (impl_LineRest.phis N))) pok (G := gam) (ΦOk.cons (impl_LineOk.sound N) (fnOk_of (f := 13) (by kernel_rfl)) (ΦOk.cons (impl_within.sound N) (fnOk_of (f := 47) (by kernel_rfl)) (ΦOk.cons (impl_lineRest.sound N) (fnOk_of (f := 58) (by kernel_rfl)) ΦOk.nil))) mixed N Tryz.func15 (c := (bodyOf Tryz.f15)) (by kernel_rfl) impl_LineRest.sg (by kernel_rfl) (by kernel_rfl) (by kernel_rfl) (impl_LineRest.run N)

@[reducible] def spec_DrawLineRest.sg : Sg := { ms := [{ k := (.sl (.int .u8)), fl := [none] }], keep := [false], rs := [{ k := (.st 25) }, { k := (.int .i64) }], hold := true }
noncomputable def spec_DrawLineRest.A : Ann := { dp := fun d => isIn [] d, lp := look [], jn := look [], pins := [], nt := 21 }
noncomputable def spec_DrawLineRest.phis (N : Nat) : List (Nat × Sm D) := [(42, spec_newSource.sm N), (44, spec_source_cells.sm N), (43, spec_source_line.sm N), (46, spec_source_pick.sm N), (45, spec_source_one.sm N)]
theorem spec_DrawLineRest.run (N : Nat) (x : (List (Int)) × Unit) : runF cx (look (spec_DrawLineRest.phis N)) spec_DrawLineRest.A N (bodyOf Tryz.f16) Tryz.f16.results.toList spec_DrawLineRest.sg x = spec_DrawLineRest N x.1 := by
  have h : runF cx (look (spec_DrawLineRest.phis N)) spec_DrawLineRest.A N (bodyOf Tryz.f16) Tryz.f16.results.toList spec_DrawLineRest.sg x = spec_DrawLineRest.B N x.1 := by kernel_rfl
  rw [h]
  try rfl
noncomputable def spec_DrawLineRest.sm (N : Nat) : Sm D := (⟨spec_DrawLineRest.sg, fun (x : (List (Int)) × Unit) => spec_DrawLineRest N x.1⟩ : Sm D)
theorem spec_DrawLineRest.sound (N : Nat) : Sound cx Tryz.prog gam 16 (spec_DrawLineRest.sm N) := fn_sound (A := spec_DrawLineRest.A) (Φ := (look (spec_DrawLineRest.phis N))) pok (G := gam) (ΦOk.cons (spec_newSource.sound N) (fnOk_of (f := 42) (by kernel_rfl)) (ΦOk.cons (spec_source_cells.sound N) (fnOk_of (f := 44) (by kernel_rfl)) (ΦOk.cons (spec_source_line.sound N) (fnOk_of (f := 43) (by kernel_rfl)) (ΦOk.cons (spec_source_pick.sound N) (fnOk_of (f := 46) (by kernel_rfl)) (ΦOk.cons (spec_source_one.sound N) (fnOk_of (f := 45) (by kernel_rfl)) ΦOk.nil))))) mixed N Tryz.func16 (c := (bodyOf Tryz.f16)) (by kernel_rfl) spec_DrawLineRest.sg (by kernel_rfl) (by kernel_rfl) (by kernel_rfl) (spec_DrawLineRest.run N)

@[reducible] def spec_copyUpdates.sg : Sg := { ms := [{ k := (.sl (.st 100)), fl := [none] }], keep := [false], rs := [{ k := (.sl (.st 100)), fl := [none] }], hold := true }
@[reducible] def spec_copyUpdates.lvL0 : Lv := { id := 0, slots := [0, 3, 4], ms := [{ k := (.sl (.st 100)), fl := [none] }, { k := (.sl (.st 100)), fl := [some (false, 620)] }, { k := (.int .i64) }] }
noncomputable def spec_copyUpdates.A : Ann := { dp := fun d => isIn [] d, lp := look [(0, spec_copyUpdates.lvL0)], jn := look [], pins := [], nt := 21 }
noncomputable def spec_copyUpdates.phis (N : Nat) : List (Nat × Sm D) := [(104, spec_copyUpdate.sm N)]
noncomputable def spec_copyUpdates.a0 (N : Nat) (n : Nat) (y : (List (ImplUpdate)) × (List (ImplUpdate)) × Int × Unit) : Option ((List (ImplUpdate)) × Unit) := loopAt cx (look (spec_copyUpdates.phis N)) spec_copyUpdates.A N n (encL cx spec_copyUpdates.lvL0.ms y).1 (encL cx spec_copyUpdates.lvL0.ms y).2 (bodyOf Tryz.f59) 0 (Kfin cx spec_copyUpdates.A spec_copyUpdates.sg Tryz.f59.results.toList) [1, 1, 0, 1, 1] []
theorem spec_copyUpdates.r0 (N : Nat) : ∀ (n : Nat) (y : (List (ImplUpdate)) × (List (ImplUpdate)) × Int × Unit), spec_copyUpdates.a0 N n y = spec_copyUpdates.L0 N n y
  | 0, y => by kernel_rfl
  | n + 1, y => by
    have h : spec_copyUpdates.a0 N (n + 1) y = spec_copyUpdates.B0 N (fun z => spec_copyUpdates.a0 N n z) y := by kernel_rfl
    have e : (fun z => spec_copyUpdates.a0 N n z) = spec_copyUpdates.L0 N n := funext fun z => spec_copyUpdates.r0 N n z
    rw [h]
    try rw [e]
    first | done | rfl
theorem spec_copyUpdates.run (N : Nat) (x : (List (ImplUpdate)) × Unit) : runF cx (look (spec_copyUpdates.phis N)) spec_copyUpdates.A N (bodyOf Tryz.f59) Tryz.f59.results.toList spec_copyUpdates.sg x = spec_copyUpdates N x.1 := by
  have h : runF cx (look (spec_copyUpdates.phis N)) spec_copyUpdates.A N (bodyOf Tryz.f59) Tryz.f59.results.toList spec_copyUpdates.sg x = spec_copyUpdates.B N (fun z => spec_copyUpdates.a0 N N z) x.1 := by kernel_rfl
  have e0 : (fun z => spec_copyUpdates.a0 N N z) = spec_copyUpdates.L0 N N := funext fun z => spec_copyUpdates.r0 N N z
  rw [h, e0]
  try rfl
noncomputable def spec_copyUpdates.sm (N : Nat) : Sm D := (⟨spec_copyUpdates.sg, fun (x : (List (ImplUpdate)) × Unit) => spec_copyUpdates N x.1⟩ : Sm D)
theorem spec_copyUpdates.sound (N : Nat) : Sound cx Tryz.prog gam 59 (spec_copyUpdates.sm N) := fn_sound (A := spec_copyUpdates.A) (Φ := (look (spec_copyUpdates.phis N))) pok (G := gam) (ΦOk.cons (spec_copyUpdate.sound N) (fnOk_of (f := 104) (by kernel_rfl)) ΦOk.nil) mixed N Tryz.func59 (c := (bodyOf Tryz.f59)) (by kernel_rfl) spec_copyUpdates.sg (by kernel_rfl) (by kernel_rfl) (by kernel_rfl) (spec_copyUpdates.run N)

@[reducible] def spec_LineRest.sg : Sg := { ms := [{ k := (.st 25) }, { k := (.int .i64) }], keep := [false, false], rs := [{ k := (.st 25) }], hold := true }
noncomputable def spec_LineRest.A : Ann := { dp := fun d => isIn [] d, lp := look [], jn := look [], pins := [], nt := 29 }
noncomputable def spec_LineRest.phis (N : Nat) : List (Nat × Sm D) := [(49, spec_validLine.sm N), (50, spec_inRange.sm N), (52, spec_showLine.sm N), (51, spec_copyStore.sm N), (59, spec_copyUpdates.sm N)]
theorem spec_LineRest.run (N : Nat) (x : ImplLine × Int × Unit) : runF cx (look (spec_LineRest.phis N)) spec_LineRest.A N (bodyOf Tryz.f17) Tryz.f17.results.toList spec_LineRest.sg x = spec_LineRest N x.1 x.2.1 := by
  have h : runF cx (look (spec_LineRest.phis N)) spec_LineRest.A N (bodyOf Tryz.f17) Tryz.f17.results.toList spec_LineRest.sg x = spec_LineRest.B N x.1 x.2.1 := by kernel_rfl
  rw [h]
  try rfl
noncomputable def spec_LineRest.sm (N : Nat) : Sm D := (⟨spec_LineRest.sg, fun (x : ImplLine × Int × Unit) => spec_LineRest N x.1 x.2.1⟩ : Sm D)
theorem spec_LineRest.sound (N : Nat) : Sound cx Tryz.prog gam 17 (spec_LineRest.sm N) := fn_sound (A := spec_LineRest.A) (Φ := (look (spec_LineRest.phis N))) pok (G := gam) (ΦOk.cons (spec_validLine.sound N) (fnOk_of (f := 49) (by kernel_rfl)) (ΦOk.cons (spec_inRange.sound N) (fnOk_of (f := 50) (by kernel_rfl)) (ΦOk.cons (spec_showLine.sound N) (fnOk_of (f := 52) (by kernel_rfl)) (ΦOk.cons (spec_copyStore.sound N) (fnOk_of (f := 51) (by kernel_rfl)) (ΦOk.cons (spec_copyUpdates.sound N) (fnOk_of (f := 59) (by kernel_rfl)) ΦOk.nil))))) mixed N Tryz.func17 (c := (bodyOf Tryz.f17)) (by kernel_rfl) spec_LineRest.sg (by kernel_rfl) (by kernel_rfl) (by kernel_rfl) (spec_LineRest.run N)

@[reducible] def spec_sameForm.sg : Sg := { ms := [{ k := (.sl (.st 141)), fl := [none] }, { k := (.sl (.st 141)), fl := [none] }], keep := [false, false], rs := [{ k := .bool }] }
@[reducible] def spec_sameForm.lvL0 : Lv := { id := 0, slots := [0, 1, 5], ms := [{ k := (.sl (.st 141)), fl := [none] }, { k := (.sl (.st 141)), fl := [none] }, { k := (.int .i64) }] }
noncomputable def spec_sameForm.A : Ann := { dp := fun d => isIn [] d, lp := look [(0, spec_sameForm.lvL0)], jn := look [], pins := [], nt := 26 }
noncomputable def spec_sameForm.phis (N : Nat) : List (Nat × Sm D) := []
noncomputable def spec_sameForm.a0 (N : Nat) (n : Nat) (y : (List (ImplStep)) × (List (ImplStep)) × Int × Unit) : Option (Bool × Unit) := loopAt cx (look (spec_sameForm.phis N)) spec_sameForm.A N n (encL cx spec_sameForm.lvL0.ms y).1 (encL cx spec_sameForm.lvL0.ms y).2 (bodyOf Tryz.f133) 0 (Kfin cx spec_sameForm.A spec_sameForm.sg Tryz.f133.results.toList) [1, 1, 0, 1, 1] []
theorem spec_sameForm.r0 (N : Nat) : ∀ (n : Nat) (y : (List (ImplStep)) × (List (ImplStep)) × Int × Unit), spec_sameForm.a0 N n y = spec_sameForm.L0 N n y
  | 0, y => by kernel_rfl
  | n + 1, y => by
    have h : spec_sameForm.a0 N (n + 1) y = spec_sameForm.B0 N (fun z => spec_sameForm.a0 N n z) y := by kernel_rfl
    have e : (fun z => spec_sameForm.a0 N n z) = spec_sameForm.L0 N n := funext fun z => spec_sameForm.r0 N n z
    rw [h]
    try rw [e]
    first | done | rfl
theorem spec_sameForm.run (N : Nat) (x : (List (ImplStep)) × (List (ImplStep)) × Unit) : runF cx (look (spec_sameForm.phis N)) spec_sameForm.A N (bodyOf Tryz.f133) Tryz.f133.results.toList spec_sameForm.sg x = spec_sameForm N x.1 x.2.1 := by
  have h : runF cx (look (spec_sameForm.phis N)) spec_sameForm.A N (bodyOf Tryz.f133) Tryz.f133.results.toList spec_sameForm.sg x = spec_sameForm.B N (fun z => spec_sameForm.a0 N N z) x.1 x.2.1 := by kernel_rfl
  have e0 : (fun z => spec_sameForm.a0 N N z) = spec_sameForm.L0 N N := funext fun z => spec_sameForm.r0 N N z
  rw [h, e0]
  try rfl
noncomputable def spec_sameForm.sm (N : Nat) : Sm D := (⟨spec_sameForm.sg, fun (x : (List (ImplStep)) × (List (ImplStep)) × Unit) => spec_sameForm N x.1 x.2.1⟩ : Sm D)
theorem spec_sameForm.sound (N : Nat) : Sound cx Tryz.prog gam 133 (spec_sameForm.sm N) := fn_sound (A := spec_sameForm.A) (Φ := (look (spec_sameForm.phis N))) pok (G := gam) ΦOk.nil mixed N Tryz.func133 (c := (bodyOf Tryz.f133)) (by kernel_rfl) spec_sameForm.sg (by kernel_rfl) (by kernel_rfl) (by kernel_rfl) (spec_sameForm.run N)

@[reducible] def spec_sameUpdate.sg : Sg := { ms := [{ k := (.st 100) }, { k := (.st 100) }], keep := [false, false], rs := [{ k := .bool }] }
noncomputable def spec_sameUpdate.A : Ann := { dp := fun d => isIn [] d, lp := look [], jn := look [], pins := [], nt := 32 }
noncomputable def spec_sameUpdate.phis (N : Nat) : List (Nat × Sm D) := [(98, spec_comparePlaces.sm N), (133, spec_sameForm.sm N)]
theorem spec_sameUpdate.run (N : Nat) (x : ImplUpdate × ImplUpdate × Unit) : runF cx (look (spec_sameUpdate.phis N)) spec_sameUpdate.A N (bodyOf Tryz.f105) Tryz.f105.results.toList spec_sameUpdate.sg x = spec_sameUpdate N x.1 x.2.1 := by
  have h : runF cx (look (spec_sameUpdate.phis N)) spec_sameUpdate.A N (bodyOf Tryz.f105) Tryz.f105.results.toList spec_sameUpdate.sg x = spec_sameUpdate.B N x.1 x.2.1 := by kernel_rfl
  rw [h]
  try rfl
noncomputable def spec_sameUpdate.sm (N : Nat) : Sm D := (⟨spec_sameUpdate.sg, fun (x : ImplUpdate × ImplUpdate × Unit) => spec_sameUpdate N x.1 x.2.1⟩ : Sm D)
theorem spec_sameUpdate.sound (N : Nat) : Sound cx Tryz.prog gam 105 (spec_sameUpdate.sm N) := fn_sound (A := spec_sameUpdate.A) (Φ := (look (spec_sameUpdate.phis N))) pok (G := gam) (ΦOk.cons (spec_comparePlaces.sound N) (fnOk_of (f := 98) (by kernel_rfl)) (ΦOk.cons (spec_sameForm.sound N) (fnOk_of (f := 133) (by kernel_rfl)) ΦOk.nil)) mixed N Tryz.func105 (c := (bodyOf Tryz.f105)) (by kernel_rfl) spec_sameUpdate.sg (by kernel_rfl) (by kernel_rfl) (by kernel_rfl) (spec_sameUpdate.run N)

end
end Go.Ev
