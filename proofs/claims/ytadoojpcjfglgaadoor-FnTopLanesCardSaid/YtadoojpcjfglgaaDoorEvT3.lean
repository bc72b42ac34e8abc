/- Each function that the law reaches does what its plain form says; no condition beyond the table of the library. -/
import Derived.Test.YtadoojpcjfglgaaDoorEvT2
set_option linter.all false
set_option linter.unusedVariables false
set_option linter.unusedSimpArgs false
set_option maxRecDepth 100000
set_option maxHeartbeats 0
namespace Go.Ev
noncomputable section
open Go.Proofs
@[reducible] def impl_lineRest.sg : Sg := { ms := [{ k := (.st 24) }, { k := (.int .i64) }], keep := [false, false], rs := [{ k := (.st 24) }], hold := true }
@[reducible] def impl_lineRest.lvL2 : Lv := { id := 2, slots := [1, 4, 5, 6, 8, 9, 18, 19, 20, 41, 42], ms := [{ k := (.int .i64) }, { ptr := true, id := 620, t := 25, k := (.st 24), fl := [some (false, 621), some (false, 622)] }, { ptr := true, id := 640, t := 25, k := (.st 24), fl := [some (true, 641), some (false, 642)] }, { k := (.sl (.st 86)), fl := [some (false, 660)] }, { ptr := true, id := 680, t := 87, k := (.st 86), fl := [none, none, none, none] }, { k := .bool }, { k := (.sl (.st 86)), fl := [none] }, { k := (.int .i64) }, { k := (.int .i64) }, { k := (.int .i64) }, { k := (.int .i64) }], al := [(40, 660, false)] }
@[reducible] def impl_lineRest.lvL0 : Lv := { id := 0, slots := [1, 4, 5, 6, 18, 19, 20], ms := [{ k := (.int .i64) }, { ptr := true, id := 620, t := 25, k := (.st 24), fl := [some (false, 621), some (false, 622)] }, { ptr := true, id := 640, t := 25, k := (.st 24), fl := [some (true, 641), some (false, 642)] }, { k := (.sl (.st 86)), fl := [some (false, 660)] }, { k := (.sl (.st 86)), fl := [none] }, { k := (.int .i64) }, { k := (.int .i64) }] }
noncomputable def impl_lineRest.A : Ann := { dp := fun d => isIn [] d, lp := look [(2, impl_lineRest.lvL2), (0, impl_lineRest.lvL0)], jn := look [], pins := [], nt := 79 }
noncomputable def impl_lineRest.phis (N : Nat) : List (Nat × Sm D) := [(70, impl_storeCopy.sm N), (78, impl_updateCopy.sm N), (71, impl_lineShown.sm N), (52, impl_placeCmp.sm N), (79, impl_storeFind.sm N), (72, impl_storeDo.sm N)]
noncomputable def impl_lineRest.a2 (N : Nat) (m0 : Nat) (n : Nat) (y : Int × ImplLine × ImplLine × (List (ImplUpdate)) × ImplUpdate × Bool × (List (ImplUpdate)) × Int × Int × Int × Int × Unit) : Option (ImplLine × Unit) := loopAt cx (look (impl_lineRest.phis N)) impl_lineRest.A N n (encL cx impl_lineRest.lvL2.ms y).1 (encL cx impl_lineRest.lvL2.ms y).2 (bodyOf Tryd.f40) 0 (Kfin cx impl_lineRest.A impl_lineRest.sg Tryd.f40.results.toList) [1, 1, 1, 0, 1, 1, 1, 1, 1, 0, 1, 1, 1, 1, 1, 0, 1, 1] [m0]
noncomputable def impl_lineRest.a0 (N : Nat) (n : Nat) (y : Int × ImplLine × ImplLine × (List (ImplUpdate)) × (List (ImplUpdate)) × Int × Int × Unit) : Option (ImplLine × Unit) := loopAt cx (look (impl_lineRest.phis N)) impl_lineRest.A N n (encL cx impl_lineRest.lvL0.ms y).1 (encL cx impl_lineRest.lvL0.ms y).2 (bodyOf Tryd.f40) 0 (Kfin cx impl_lineRest.A impl_lineRest.sg Tryd.f40.results.toList) [1, 1, 1, 0, 1, 1] []
theorem impl_lineRest.r2 (N : Nat) (m0 : Nat) : ∀ (n : Nat) (y : Int × ImplLine × ImplLine × (List (ImplUpdate)) × ImplUpdate × Bool × (List (ImplUpdate)) × Int × Int × Int × Int × Unit), impl_lineRest.a2 N m0 n y = impl_lineRest.L2 N (fun z => impl_lineRest.a0 N m0 z) n y
  | 0, y => by kernel_rfl
  | n + 1, y => by
    have h : impl_lineRest.a2 N m0 (n + 1) y = impl_lineRest.B2 N (fun z => impl_lineRest.a0 N m0 z) (fun z => impl_lineRest.a2 N m0 n z) y := by kernel_rfl
    have e : (fun z => impl_lineRest.a2 N m0 n z) = impl_lineRest.L2 N (fun z => impl_lineRest.a0 N m0 z) n := funext fun z => impl_lineRest.r2 N m0 n z
    rw [h]
    try rw [e]
    first | done | rfl
theorem impl_lineRest.r0 (N : Nat) : ∀ (n : Nat) (y : Int × ImplLine × ImplLine × (List (ImplUpdate)) × (List (ImplUpdate)) × Int × Int × Unit), impl_lineRest.a0 N n y = impl_lineRest.L0 N n y
  | 0, y => by kernel_rfl
  | n + 1, y => by
    have h : impl_lineRest.a0 N (n + 1) y = impl_lineRest.B0 N (fun z => impl_lineRest.a0 N n z) (fun z => impl_lineRest.a2 N n N z) y := by kernel_rfl
    have e : (fun z => impl_lineRest.a0 N n z) = impl_lineRest.L0 N n := funext fun z => impl_lineRest.r0 N n z
    have e2 : (fun z => impl_lineRest.a2 N n N z) = impl_lineRest.L2 N (fun z => impl_lineRest.a0 N n z) N := funext fun z => impl_lineRest.r2 N n N z
    rw [h, e2]
    try rw [e]
    first | done | rfl
theorem impl_lineRest.run (N : Nat) (x : ImplLine × Int × Unit) : runF cx (look (impl_lineRest.phis N)) impl_lineRest.A N (bodyOf Tryd.f40) Tryd.f40.results.toList impl_lineRest.sg x = impl_lineRest N x.1 x.2.1 := by
  have h : runF cx (look (impl_lineRest.phis N)) impl_lineRest.A N (bodyOf Tryd.f40) Tryd.f40.results.toList impl_lineRest.sg x = impl_lineRest.B N (fun z => impl_lineRest.a0 N N z) x.1 x.2.1 := by kernel_rfl
  have e0 : (fun z => impl_lineRest.a0 N N z) = impl_lineRest.L0 N N := funext fun z => impl_lineRest.r0 N N z
  rw [h, e0]
  try rfl
noncomputable def impl_lineRest.sm (N : Nat) : Sm D := (⟨impl_lineRest.sg, fun (x : ImplLine × Int × Unit) => impl_lineRest N x.1 x.2.1⟩ : Sm D)
theorem impl_lineRest.sound (N : Nat) : Sound cx Tryd.prog gam 40 (impl_lineRest.sm N) := fn_sound (A := impl_lineRest.A) (Φ := (look (impl_lineRest.phis N))) pok (G := gam) (ΦOk.cons (impl_storeCopy.sound N) (fnOk_of (f := 70) (by kernel_rfl)) (ΦOk.cons (impl_updateCopy.sound N) (fnOk_of (f := 78) (by kernel_rfl)) (ΦOk.cons (impl_lineShown.sound N) (fnOk_of (f := 71) (by kernel_rfl)) (ΦOk.cons (impl_placeCmp.sound N) (fnOk_of (f := 52) (by kernel_rfl)) (ΦOk.cons (impl_storeFind.sound N) (fnOk_of (f := 79) (by kernel_rfl)) (ΦOk.cons (impl_storeDo.sound N) (fnOk_of (f := 72) (by kernel_rfl)) ΦOk.nil)))))) mixed N Tryd.func40 (c := (bodyOf Tryd.f40)) (by kernel_rfl) impl_lineRest.sg (by kernel_rfl) (by kernel_rfl) (by kernel_rfl) (impl_lineRest.run N)

@[reducible] def impl_LineRest.sg : Sg := { ms := [{ k := (.st 24) }, { k := (.int .i64) }], keep := [false, false], rs := [{ k := (.st 24) }], hold := true }
noncomputable def impl_LineRest.A : Ann := { dp := fun d => isIn [] d, lp := look [], jn := look [], pins := [], nt := 17 }
noncomputable def impl_LineRest.phis (N : Nat) : List (Nat × Sm D) := [(11, impl_LineOk.sm N), (32, impl_within.sm N), (40, impl_lineRest.sm N)]
theorem impl_LineRest.run (N : Nat) (x : ImplLine × Int × Unit) : runF cx (look (impl_LineRest.phis N)) impl_LineRest.A N (bodyOf Tryd.f13) Tryd.f13.results.toList impl_LineRest.sg x = impl_LineRest N x.1 x.2.1 := by
  have h : runF cx (look (impl_LineRest.phis N)) impl_LineRest.A N (bodyOf Tryd.f13) Tryd.f13.results.toList impl_LineRest.sg x = impl_LineRest.B N x.1 x.2.1 := by kernel_rfl
  rw [h]
  try rfl
noncomputable def impl_LineRest.sm (N : Nat) : Sm D := (⟨impl_LineRest.sg, fun (x : ImplLine × Int × Unit) => impl_LineRest N x.1 x.2.1⟩ : Sm D)
theorem impl_LineRest.sound (N : Nat) : Sound cx Tryd.prog gam 13 (impl_LineRest.sm N) := fn_sound (A := impl_LineRest.A) (Φ := (look (impl_LineRest.phis N))) pok (G := gam) (ΦOk.cons (impl_LineOk.sound N) (fnOk_of (f := 11) (by kernel_rfl)) (ΦOk.cons (impl_within.sound N) (fnOk_of (f := 32) (by kernel_rfl)) (ΦOk.cons (impl_lineRest.sound N) (fnOk_of (f := 40) (by kernel_rfl)) ΦOk.nil))) mixed N Tryd.func13 (c := (bodyOf Tryd.f13)) (by kernel_rfl) impl_LineRest.sg (by kernel_rfl) (by kernel_rfl) (by kernel_rfl) (impl_LineRest.run N)

@[reducible] def spec_copyUpdates.sg : Sg := { ms := [{ k := (.sl (.st 86)), fl := [none] }], keep := [false], rs := [{ k := (.sl (.st 86)), fl := [none] }], hold := true }
@[reducible] def spec_copyUpdates.lvL0 : Lv := { id := 0, slots := [0, 3, 4], ms := [{ k := (.sl (.st 86)), fl := [none] }, { k := (.sl (.st 86)), fl := [some (false, 620)] }, { k := (.int .i64) }] }
noncomputable def spec_copyUpdates.A : Ann := { dp := fun d => isIn [] d, lp := look [(0, spec_copyUpdates.lvL0)], jn := look [], pins := [], nt := 21 }
noncomputable def spec_copyUpdates.phis (N : Nat) : List (Nat × Sm D) := [(81, spec_copyUpdate.sm N)]
noncomputable def spec_copyUpdates.a0 (N : Nat) (n : Nat) (y : (List (ImplUpdate)) × (List (ImplUpdate)) × Int × Unit) : Option ((List (ImplUpdate)) × Unit) := loopAt cx (look (spec_copyUpdates.phis N)) spec_copyUpdates.A N n (encL cx spec_copyUpdates.lvL0.ms y).1 (encL cx spec_copyUpdates.lvL0.ms y).2 (bodyOf Tryd.f42) 0 (Kfin cx spec_copyUpdates.A spec_copyUpdates.sg Tryd.f42.results.toList) [1, 1, 0, 1, 1] []
theorem spec_copyUpdates.r0 (N : Nat) : ∀ (n : Nat) (y : (List (ImplUpdate)) × (List (ImplUpdate)) × Int × Unit), spec_copyUpdates.a0 N n y = spec_copyUpdates.L0 N n y
  | 0, y => by kernel_rfl
  | n + 1, y => by
    have h : spec_copyUpdates.a0 N (n + 1) y = spec_copyUpdates.B0 N (fun z => spec_copyUpdates.a0 N n z) y := by kernel_rfl
    have e : (fun z => spec_copyUpdates.a0 N n z) = spec_copyUpdates.L0 N n := funext fun z => spec_copyUpdates.r0 N n z
    rw [h]
    try rw [e]
    first | done | rfl
theorem spec_copyUpdates.run (N : Nat) (x : (List (ImplUpdate)) × Unit) : runF cx (look (spec_copyUpdates.phis N)) spec_copyUpdates.A N (bodyOf Tryd.f42) Tryd.f42.results.toList spec_copyUpdates.sg x = spec_copyUpdates N x.1 := by
  have h : runF cx (look (spec_copyUpdates.phis N)) spec_copyUpdates.A N (bodyOf Tryd.f42) Tryd.f42.results.toList spec_copyUpdates.sg x = spec_copyUpdates.B N (fun z => spec_copyUpdates.a0 N N z) x.1 := by kernel_rfl
  have e0 : (fun z => spec_copyUpdates.a0 N N z) = spec_copyUpdates.L0 N N := funext fun z => spec_copyUpdates.r0 N N z
  rw [h, e0]
  try rfl
noncomputable def spec_copyUpdates.sm (N : Nat) : Sm D := (⟨spec_copyUpdates.sg, fun (x : (List (ImplUpdate)) × Unit) => spec_copyUpdates N x.1⟩ : Sm D)
theorem spec_copyUpdates.sound (N : Nat) : Sound cx Tryd.prog gam 42 (spec_copyUpdates.sm N) := fn_sound (A := spec_copyUpdates.A) (Φ := (look (spec_copyUpdates.phis N))) pok (G := gam) (ΦOk.cons (spec_copyUpdate.sound N) (fnOk_of (f := 81) (by kernel_rfl)) ΦOk.nil) mixed N Tryd.func42 (c := (bodyOf Tryd.f42)) (by kernel_rfl) spec_copyUpdates.sg (by kernel_rfl) (by kernel_rfl) (by kernel_rfl) (spec_copyUpdates.run N)

@[reducible] def spec_LineRest.sg : Sg := { ms := [{ k := (.st 24) }, { k := (.int .i64) }], keep := [false, false], rs := [{ k := (.st 24) }], hold := true }
noncomputable def spec_LineRest.A : Ann := { dp := fun d => isIn [] d, lp := look [], jn := look [], pins := [], nt := 29 }
noncomputable def spec_LineRest.phis (N : Nat) : List (Nat × Sm D) := [(35, spec_validLine.sm N), (36, spec_inRange.sm N), (38, spec_showLine.sm N), (37, spec_copyStore.sm N), (42, spec_copyUpdates.sm N)]
theorem spec_LineRest.run (N : Nat) (x : ImplLine × Int × Unit) : runF cx (look (spec_LineRest.phis N)) spec_LineRest.A N (bodyOf Tryd.f15) Tryd.f15.results.toList spec_LineRest.sg x = spec_LineRest N x.1 x.2.1 := by
  have h : runF cx (look (spec_LineRest.phis N)) spec_LineRest.A N (bodyOf Tryd.f15) Tryd.f15.results.toList spec_LineRest.sg x = spec_LineRest.B N x.1 x.2.1 := by kernel_rfl
  rw [h]
  try rfl
noncomputable def spec_LineRest.sm (N : Nat) : Sm D := (⟨spec_LineRest.sg, fun (x : ImplLine × Int × Unit) => spec_LineRest N x.1 x.2.1⟩ : Sm D)
theorem spec_LineRest.sound (N : Nat) : Sound cx Tryd.prog gam 15 (spec_LineRest.sm N) := fn_sound (A := spec_LineRest.A) (Φ := (look (spec_LineRest.phis N))) pok (G := gam) (ΦOk.cons (spec_validLine.sound N) (fnOk_of (f := 35) (by kernel_rfl)) (ΦOk.cons (spec_inRange.sound N) (fnOk_of (f := 36) (by kernel_rfl)) (ΦOk.cons (spec_showLine.sound N) (fnOk_of (f := 38) (by kernel_rfl)) (ΦOk.cons (spec_copyStore.sound N) (fnOk_of (f := 37) (by kernel_rfl)) (ΦOk.cons (spec_copyUpdates.sound N) (fnOk_of (f := 42) (by kernel_rfl)) ΦOk.nil))))) mixed N Tryd.func15 (c := (bodyOf Tryd.f15)) (by kernel_rfl) spec_LineRest.sg (by kernel_rfl) (by kernel_rfl) (by kernel_rfl) (spec_LineRest.run N)

@[reducible] def spec_sameForm.sg : Sg := { ms := [{ k := (.sl (.st 81)), fl := [none] }, { k := (.sl (.st 81)), fl := [none] }], keep := [false, false], rs := [{ k := .bool }] }
@[reducible] def spec_sameForm.lvL0 : Lv := { id := 0, slots := [0, 1, 5], ms := [{ k := (.sl (.st 81)), fl := [none] }, { k := (.sl (.st 81)), fl := [none] }, { k := (.int .i64) }] }
noncomputable def spec_sameForm.A : Ann := { dp := fun d => isIn [] d, lp := look [(0, spec_sameForm.lvL0)], jn := look [], pins := [], nt := 26 }
noncomputable def spec_sameForm.phis (N : Nat) : List (Nat × Sm D) := []
noncomputable def spec_sameForm.a0 (N : Nat) (n : Nat) (y : (List (ImplStep)) × (List (ImplStep)) × Int × Unit) : Option (Bool × Unit) := loopAt cx (look (spec_sameForm.phis N)) spec_sameForm.A N n (encL cx spec_sameForm.lvL0.ms y).1 (encL cx spec_sameForm.lvL0.ms y).2 (bodyOf Tryd.f108) 0 (Kfin cx spec_sameForm.A spec_sameForm.sg Tryd.f108.results.toList) [1, 1, 0, 1, 1] []
theorem spec_sameForm.r0 (N : Nat) : ∀ (n : Nat) (y : (List (ImplStep)) × (List (ImplStep)) × Int × Unit), spec_sameForm.a0 N n y = spec_sameForm.L0 N n y
  | 0, y => by kernel_rfl
  | n + 1, y => by
    have h : spec_sameForm.a0 N (n + 1) y = spec_sameForm.B0 N (fun z => spec_sameForm.a0 N n z) y := by kernel_rfl
    have e : (fun z => spec_sameForm.a0 N n z) = spec_sameForm.L0 N n := funext fun z => spec_sameForm.r0 N n z
    rw [h]
    try rw [e]
    first | done | rfl
theorem spec_sameForm.run (N : Nat) (x : (List (ImplStep)) × (List (ImplStep)) × Unit) : runF cx (look (spec_sameForm.phis N)) spec_sameForm.A N (bodyOf Tryd.f108) Tryd.f108.results.toList spec_sameForm.sg x = spec_sameForm N x.1 x.2.1 := by
  have h : runF cx (look (spec_sameForm.phis N)) spec_sameForm.A N (bodyOf Tryd.f108) Tryd.f108.results.toList spec_sameForm.sg x = spec_sameForm.B N (fun z => spec_sameForm.a0 N N z) x.1 x.2.1 := by kernel_rfl
  have e0 : (fun z => spec_sameForm.a0 N N z) = spec_sameForm.L0 N N := funext fun z => spec_sameForm.r0 N N z
  rw [h, e0]
  try rfl
noncomputable def spec_sameForm.sm (N : Nat) : Sm D := (⟨spec_sameForm.sg, fun (x : (List (ImplStep)) × (List (ImplStep)) × Unit) => spec_sameForm N x.1 x.2.1⟩ : Sm D)
theorem spec_sameForm.sound (N : Nat) : Sound cx Tryd.prog gam 108 (spec_sameForm.sm N) := fn_sound (A := spec_sameForm.A) (Φ := (look (spec_sameForm.phis N))) pok (G := gam) ΦOk.nil mixed N Tryd.func108 (c := (bodyOf Tryd.f108)) (by kernel_rfl) spec_sameForm.sg (by kernel_rfl) (by kernel_rfl) (by kernel_rfl) (spec_sameForm.run N)

@[reducible] def spec_sameUpdate.sg : Sg := { ms := [{ k := (.st 86) }, { k := (.st 86) }], keep := [false, false], rs := [{ k := .bool }] }
noncomputable def spec_sameUpdate.A : Ann := { dp := fun d => isIn [] d, lp := look [], jn := look [], pins := [], nt := 32 }
noncomputable def spec_sameUpdate.phis (N : Nat) : List (Nat × Sm D) := [(73, spec_comparePlaces.sm N), (108, spec_sameForm.sm N)]
theorem spec_sameUpdate.run (N : Nat) (x : ImplUpdate × ImplUpdate × Unit) : runF cx (look (spec_sameUpdate.phis N)) spec_sameUpdate.A N (bodyOf Tryd.f80) Tryd.f80.results.toList spec_sameUpdate.sg x = spec_sameUpdate N x.1 x.2.1 := by
  have h : runF cx (look (spec_sameUpdate.phis N)) spec_sameUpdate.A N (bodyOf Tryd.f80) Tryd.f80.results.toList spec_sameUpdate.sg x = spec_sameUpdate.B N x.1 x.2.1 := by kernel_rfl
  rw [h]
  try rfl
noncomputable def spec_sameUpdate.sm (N : Nat) : Sm D := (⟨spec_sameUpdate.sg, fun (x : ImplUpdate × ImplUpdate × Unit) => spec_sameUpdate N x.1 x.2.1⟩ : Sm D)
theorem spec_sameUpdate.sound (N : Nat) : Sound cx Tryd.prog gam 80 (spec_sameUpdate.sm N) := fn_sound (A := spec_sameUpdate.A) (Φ := (look (spec_sameUpdate.phis N))) pok (G := gam) (ΦOk.cons (spec_comparePlaces.sound N) (fnOk_of (f := 73) (by kernel_rfl)) (ΦOk.cons (spec_sameForm.sound N) (fnOk_of (f := 108) (by kernel_rfl)) ΦOk.nil)) mixed N Tryd.func80 (c := (bodyOf Tryd.f80)) (by kernel_rfl) spec_sameUpdate.sg (by kernel_rfl) (by kernel_rfl) (by kernel_rfl) (spec_sameUpdate.run N)

@[reducible] def spec_SameUpdates.sg : Sg := { ms := [{ k := (.sl (.st 86)), fl := [none] }, { k := (.sl (.st 86)), fl := [none] }], keep := [false, false], rs := [{ k := .bool }] }
@[reducible] def spec_SameUpdates.lvL0 : Lv := { id := 0, slots := [0, 1, 5], ms := [{ k := (.sl (.st 86)), fl := [none] }, { k := (.sl (.st 86)), fl := [none] }, { k := (.int .i64) }] }
noncomputable def spec_SameUpdates.A : Ann := { dp := fun d => isIn [] d, lp := look [(0, spec_SameUpdates.lvL0)], jn := look [], pins := [], nt := 27 }
noncomputable def spec_SameUpdates.phis (N : Nat) : List (Nat × Sm D) := [(80, spec_sameUpdate.sm N)]
noncomputable def spec_SameUpdates.a0 (N : Nat) (n : Nat) (y : (List (ImplUpdate)) × (List (ImplUpdate)) × Int × Unit) : Option (Bool × Unit) := loopAt cx (look (spec_SameUpdates.phis N)) spec_SameUpdates.A N n (encL cx spec_SameUpdates.lvL0.ms y).1 (encL cx spec_SameUpdates.lvL0.ms y).2 (bodyOf Tryd.f41) 0 (Kfin cx spec_SameUpdates.A spec_SameUpdates.sg Tryd.f41.results.toList) [1, 1, 0, 1, 1] []
theorem spec_SameUpdates.r0 (N : Nat) : ∀ (n : Nat) (y : (List (ImplUpdate)) × (List (ImplUpdate)) × Int × Unit), spec_SameUpdates.a0 N n y = spec_SameUpdates.L0 N n y
  | 0, y => by kernel_rfl
  | n + 1, y => by
    have h : spec_SameUpdates.a0 N (n + 1) y = spec_SameUpdates.B0 N (fun z => spec_SameUpdates.a0 N n z) y := by kernel_rfl
    have e : (fun z => spec_SameUpdates.a0 N n z) = spec_SameUpdates.L0 N n := funext fun z => spec_SameUpdates.r0 N n z
    rw [h]
    try rw [e]
    first | done | rfl
theorem spec_SameUpdates.run (N : Nat) (x : (List (ImplUpdate)) × (List (ImplUpdate)) × Unit) : runF cx (look (spec_SameUpdates.phis N)) spec_SameUpdates.A N (bodyOf Tryd.f41) Tryd.f41.results.toList spec_SameUpdates.sg x = spec_SameUpdates N x.1 x.2.1 := by
  have h : runF cx (look (spec_SameUpdates.phis N)) spec_SameUpdates.A N (bodyOf Tryd.f41) Tryd.f41.results.toList spec_SameUpdates.sg x = spec_SameUpdates.B N (fun z => spec_SameUpdates.a0 N N z) x.1 x.2.1 := by kernel_rfl
  have e0 : (fun z => spec_SameUpdates.a0 N N z) = spec_SameUpdates.L0 N N := funext fun z => spec_SameUpdates.r0 N N z
  rw [h, e0]
  try rfl
noncomputable def spec_SameUpdates.sm (N : Nat) : Sm D := (⟨spec_SameUpdates.sg, fun (x : (List (ImplUpdate)) × (List (ImplUpdate)) × Unit) => spec_SameUpdates N x.1 x.2.1⟩ : Sm D)
theorem spec_SameUpdates.sound (N : Nat) : Sound cx Tryd.prog gam 41 (spec_SameUpdates.sm N) := fn_sound (A := spec_SameUpdates.A) (Φ := (look (spec_SameUpdates.phis N))) pok (G := gam) (ΦOk.cons (spec_sameUpdate.sound N) (fnOk_of (f := 80) (by kernel_rfl)) ΦOk.nil) mixed N Tryd.func41 (c := (bodyOf Tryd.f41)) (by kernel_rfl) spec_SameUpdates.sg (by kernel_rfl) (by kernel_rfl) (by kernel_rfl) (spec_SameUpdates.run N)

@[reducible] def spec_SameLine.sg : Sg := { ms := [{ k := (.st 24) }, { k := (.st 24) }], keep := [false, false], rs := [{ k := .bool }] }
noncomputable def spec_SameLine.A : Ann := { dp := fun d => isIn [] d, lp := look [], jn := look [], pins := [], nt := 17 }
noncomputable def spec_SameLine.phis (N : Nat) : List (Nat × Sm D) := [(34, spec_sameStore.sm N), (41, spec_SameUpdates.sm N)]
theorem spec_SameLine.run (N : Nat) (x : ImplLine × ImplLine × Unit) : runF cx (look (spec_SameLine.phis N)) spec_SameLine.A N (bodyOf Tryd.f14) Tryd.f14.results.toList spec_SameLine.sg x = spec_SameLine N x.1 x.2.1 := by
  have h : runF cx (look (spec_SameLine.phis N)) spec_SameLine.A N (bodyOf Tryd.f14) Tryd.f14.results.toList spec_SameLine.sg x = spec_SameLine.B N x.1 x.2.1 := by kernel_rfl
  rw [h]
  try rfl
noncomputable def spec_SameLine.sm (N : Nat) : Sm D := (⟨spec_SameLine.sg, fun (x : ImplLine × ImplLine × Unit) => spec_SameLine N x.1 x.2.1⟩ : Sm D)
theorem spec_SameLine.sound (N : Nat) : Sound cx Tryd.prog gam 14 (spec_SameLine.sm N) := fn_sound (A := spec_SameLine.A) (Φ := (look (spec_SameLine.phis N))) pok (G := gam) (ΦOk.cons (spec_sameStore.sound N) (fnOk_of (f := 34) (by kernel_rfl)) (ΦOk.cons (spec_SameUpdates.sound N) (fnOk_of (f := 41) (by kernel_rfl)) ΦOk.nil)) mixed N Tryd.func14 (c := (bodyOf Tryd.f14)) (by kernel_rfl) spec_SameLine.sg (by kernel_rfl) (by kernel_rfl) (by kernel_rfl) (spec_SameLine.run N)

@[reducible] def impl_storeRun.sg : Sg := { ms := [{ k := (.sl (.st 70)), fl := [none] }, { k := (.sl (.st 86)), fl := [none] }], keep := [false, false], rs := [{ k := (.sl (.st 70)), fl := [some (true, 411)] }] }
@[reducible] def impl_storeRun.lvL0 : Lv := { id := 0, slots := [5, 10, 11, 12], ms := [{ k := (.sl (.st 70)), fl := [some (true, 600)] }, { k := (.sl (.st 86)), fl := [none] }, { k := (.int .i64) }, { k := (.int .i64) }] }
noncomputable def impl_storeRun.A : Ann := { dp := fun _ => true, lp := look [(0, impl_storeRun.lvL0)], jn := look [], pins := [], nt := 21 }
noncomputable def impl_storeRun.phis (N : Nat) : List (Nat × Sm D) := [(70, impl_storeCopy.sm N), (72, impl_storeDo.sm N)]
noncomputable def impl_storeRun.a0 (N : Nat) (n : Nat) (y : (List (ImplCell)) × (List (ImplUpdate)) × Int × Int × Unit) : Option ((List (ImplCell)) × Unit) := loopAt cx (look (impl_storeRun.phis N)) impl_storeRun.A N n (encL cx impl_storeRun.lvL0.ms y).1 (encL cx impl_storeRun.lvL0.ms y).2 (bodyOf Tryd.f43) 0 (Kfin cx impl_storeRun.A impl_storeRun.sg Tryd.f43.results.toList) [1, 1, 0, 1, 1] []
theorem impl_storeRun.r0 (N : Nat) : ∀ (n : Nat) (y : (List (ImplCell)) × (List (ImplUpdate)) × Int × Int × Unit), impl_storeRun.a0 N n y = impl_storeRun.L0 N n y
  | 0, y => by kernel_rfl
  | n + 1, y => by
    have h : impl_storeRun.a0 N (n + 1) y = impl_storeRun.B0 N (fun z => impl_storeRun.a0 N n z) y := by kernel_rfl
    have e : (fun z => impl_storeRun.a0 N n z) = impl_storeRun.L0 N n := funext fun z => impl_storeRun.r0 N n z
    rw [h]
    try rw [e]
    first | done | rfl
theorem impl_storeRun.run (N : Nat) (x : (List (ImplCell)) × (List (ImplUpdate)) × Unit) : runF cx (look (impl_storeRun.phis N)) impl_storeRun.A N (bodyOf Tryd.f43) Tryd.f43.results.toList impl_storeRun.sg x = impl_storeRun N x.1 x.2.1 := by
  have h : runF cx (look (impl_storeRun.phis N)) impl_storeRun.A N (bodyOf Tryd.f43) Tryd.f43.results.toList impl_storeRun.sg x = impl_storeRun.B N (fun z => impl_storeRun.a0 N N z) x.1 x.2.1 := by kernel_rfl
  have e0 : (fun z => impl_storeRun.a0 N N z) = impl_storeRun.L0 N N := funext fun z => impl_storeRun.r0 N N z
  rw [h, e0]
  try rfl
noncomputable def impl_storeRun.sm (N : Nat) : Sm D := (⟨impl_storeRun.sg, fun (x : (List (ImplCell)) × (List (ImplUpdate)) × Unit) => impl_storeRun N x.1 x.2.1⟩ : Sm D)
theorem impl_storeRun.sound (N : Nat) : Sound cx Tryd.prog gam 43 (impl_storeRun.sm N) := fn_sound (A := impl_storeRun.A) (Φ := (look (impl_storeRun.phis N))) pok (G := gam) (ΦOk.cons (impl_storeCopy.sound N) (fnOk_of (f := 70) (by kernel_rfl)) (ΦOk.cons (impl_storeDo.sound N) (fnOk_of (f := 72) (by kernel_rfl)) ΦOk.nil)) mixed N Tryd.func43 (c := (bodyOf Tryd.f43)) (by kernel_rfl) impl_storeRun.sg (by kernel_rfl) (by kernel_rfl) (by kernel_rfl) (impl_storeRun.run N)

@[reducible] def impl_StoreRun.sg : Sg := { ms := [{ k := (.sl (.st 70)), fl := [none] }, { k := (.sl (.st 86)), fl := [none] }], keep := [false, false], rs := [{ k := (.sl (.st 70)), fl := [none] }], hold := true }
noncomputable def impl_StoreRun.A : Ann := { dp := fun d => isIn [] d, lp := look [], jn := look [], pins := [], nt := 21 }
noncomputable def impl_StoreRun.phis (N : Nat) : List (Nat × Sm D) := [(19, impl_StoreOk.sm N), (39, impl_updatesOk.sm N), (43, impl_storeRun.sm N)]
theorem impl_StoreRun.run (N : Nat) (x : (List (ImplCell)) × (List (ImplUpdate)) × Unit) : runF cx (look (impl_StoreRun.phis N)) impl_StoreRun.A N (bodyOf Tryd.f16) Tryd.f16.results.toList impl_StoreRun.sg x = impl_StoreRun N x.1 x.2.1 := by
  have h : runF cx (look (impl_StoreRun.phis N)) impl_StoreRun.A N (bodyOf Tryd.f16) Tryd.f16.results.toList impl_StoreRun.sg x = impl_StoreRun.B N x.1 x.2.1 := by kernel_rfl
  rw [h]
  try rfl
noncomputable def impl_StoreRun.sm (N : Nat) : Sm D := (⟨impl_StoreRun.sg, fun (x : (List (ImplCell)) × (List (ImplUpdate)) × Unit) => impl_StoreRun N x.1 x.2.1⟩ : Sm D)
theorem impl_StoreRun.sound (N : Nat) : Sound cx Tryd.prog gam 16 (impl_StoreRun.sm N) := fn_sound (A := impl_StoreRun.A) (Φ := (look (impl_StoreRun.phis N))) pok (G := gam) (ΦOk.cons (impl_StoreOk.sound N) (fnOk_of (f := 19) (by kernel_rfl)) (ΦOk.cons (impl_updatesOk.sound N) (fnOk_of (f := 39) (by kernel_rfl)) (ΦOk.cons (impl_storeRun.sound N) (fnOk_of (f := 43) (by kernel_rfl)) ΦOk.nil))) mixed N Tryd.func16 (c := (bodyOf Tryd.f16)) (by kernel_rfl) impl_StoreRun.sg (by kernel_rfl) (by kernel_rfl) (by kernel_rfl) (impl_StoreRun.run N)

@[reducible] def laws_FnTopLanes.sg : Sg := { ms := [{ k := (.st 24) }, { k := (.int .i64) }, { k := (.int .i64) }], keep := [false, false, false], rs := [{ k := .bool }] }
noncomputable def laws_FnTopLanes.A : Ann := { dp := fun d => isIn [] d, lp := look [], jn := look [], pins := [], nt := 73 }
noncomputable def laws_FnTopLanes.phis (N : Nat) : List (Nat × Sm D) := [(8, impl_LineShow.sm N), (10, spec_LineShow.sm N), (9, spec_SameStore.sm N), (11, impl_LineOk.sm N), (12, spec_LineOk.sm N), (13, impl_LineRest.sm N), (15, spec_LineRest.sm N), (14, spec_SameLine.sm N), (16, impl_StoreRun.sm N)]
theorem laws_FnTopLanes.run (N : Nat) (x : ImplLine × Int × Int × Unit) : runF cx (look (laws_FnTopLanes.phis N)) laws_FnTopLanes.A N (bodyOf Tryd.f3) Tryd.f3.results.toList laws_FnTopLanes.sg x = laws_FnTopLanes N x.1 x.2.1 x.2.2.1 := by
  have h : runF cx (look (laws_FnTopLanes.phis N)) laws_FnTopLanes.A N (bodyOf Tryd.f3) Tryd.f3.results.toList laws_FnTopLanes.sg x = laws_FnTopLanes.B N x.1 x.2.1 x.2.2.1 := by kernel_rfl
  rw [h]
  try rfl
noncomputable def laws_FnTopLanes.sm (N : Nat) : Sm D := (⟨laws_FnTopLanes.sg, fun (x : ImplLine × Int × Int × Unit) => laws_FnTopLanes N x.1 x.2.1 x.2.2.1⟩ : Sm D)
theorem laws_FnTopLanes.sound (N : Nat) : Sound cx Tryd.prog gam 3 (laws_FnTopLanes.sm N) := fn_sound (A := laws_FnTopLanes.A) (Φ := (look (laws_FnTopLanes.phis N))) pok (G := gam) (ΦOk.cons (impl_LineShow.sound N) (fnOk_of (f := 8) (by kernel_rfl)) (ΦOk.cons (spec_LineShow.sound N) (fnOk_of (f := 10) (by kernel_rfl)) (ΦOk.cons (spec_SameStore.sound N) (fnOk_of (f := 9) (by kernel_rfl)) (ΦOk.cons (impl_LineOk.sound N) (fnOk_of (f := 11) (by kernel_rfl)) (ΦOk.cons (spec_LineOk.sound N) (fnOk_of (f := 12) (by kernel_rfl)) (ΦOk.cons (impl_LineRest.sound N) (fnOk_of (f := 13) (by kernel_rfl)) (ΦOk.cons (spec_LineRest.sound N) (fnOk_of (f := 15) (by kernel_rfl)) (ΦOk.cons (spec_SameLine.sound N) (fnOk_of (f := 14) (by kernel_rfl)) (ΦOk.cons (impl_StoreRun.sound N) (fnOk_of (f := 16) (by kernel_rfl)) ΦOk.nil))))))))) mixed N Tryd.func3 (c := (bodyOf Tryd.f3)) (by kernel_rfl) laws_FnTopLanes.sg (by kernel_rfl) (by kernel_rfl) (by kernel_rfl) (laws_FnTopLanes.run N)

end
end Go.Ev
