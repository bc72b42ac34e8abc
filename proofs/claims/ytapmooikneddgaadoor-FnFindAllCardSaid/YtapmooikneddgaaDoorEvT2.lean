/- Each function that the law reaches does what its plain form says; no condition beyond the table of the library. -/
import Derived.Test.YtapmooikneddgaaDoorEvT1
set_option linter.all false
set_option linter.unusedVariables false
set_option linter.unusedSimpArgs false
set_option maxRecDepth 100000
set_option maxHeartbeats 0
namespace Go.Ev
noncomputable section
open Go.Proofs
@[reducible] def spec_hasInt.sg : Sg := { ms := [{ k := (.sl (.int .i64)), fl := [none] }, { k := (.int .i64) }], keep := [false, false], rs := [{ k := .bool }] }
@[reducible] def spec_hasInt.lvL0 : Lv := { id := 0, slots := [0, 1, 5], ms := [{ k := (.sl (.int .i64)), fl := [none] }, { k := (.int .i64) }, { k := (.int .i64) }] }
noncomputable def spec_hasInt.A : Ann := { dp := fun d => isIn [] d, lp := look [(0, spec_hasInt.lvL0)], jn := look [], pins := [], nt := 18 }
noncomputable def spec_hasInt.phis (N : Nat) : List (Nat × Sm D) := []
noncomputable def spec_hasInt.a0 (N : Nat) (n : Nat) (y : (List (Int)) × Int × Int × Unit) : Option (Bool × Unit) := loopAt cx (look (spec_hasInt.phis N)) spec_hasInt.A N n (encL cx spec_hasInt.lvL0.ms y).1 (encL cx spec_hasInt.lvL0.ms y).2 (bodyOf Tryd.f46) 0 (Kfin cx spec_hasInt.A spec_hasInt.sg Tryd.f46.results.toList) [1, 0, 1, 1] []
theorem spec_hasInt.r0 (N : Nat) : ∀ (n : Nat) (y : (List (Int)) × Int × Int × Unit), spec_hasInt.a0 N n y = spec_hasInt.L0 N n y
  | 0, y => by kernel_rfl
  | n + 1, y => by
    have h : spec_hasInt.a0 N (n + 1) y = spec_hasInt.B0 N (fun z => spec_hasInt.a0 N n z) y := by kernel_rfl
    have e : (fun z => spec_hasInt.a0 N n z) = spec_hasInt.L0 N n := funext fun z => spec_hasInt.r0 N n z
    rw [h]
    try rw [e]
    first | done | rfl
theorem spec_hasInt.run (N : Nat) (x : (List (Int)) × Int × Unit) : runF cx (look (spec_hasInt.phis N)) spec_hasInt.A N (bodyOf Tryd.f46) Tryd.f46.results.toList spec_hasInt.sg x = spec_hasInt N x.1 x.2.1 := by
  have h : runF cx (look (spec_hasInt.phis N)) spec_hasInt.A N (bodyOf Tryd.f46) Tryd.f46.results.toList spec_hasInt.sg x = spec_hasInt.B N (fun z => spec_hasInt.a0 N N z) x.1 x.2.1 := by kernel_rfl
  have e0 : (fun z => spec_hasInt.a0 N N z) = spec_hasInt.L0 N N := funext fun z => spec_hasInt.r0 N N z
  rw [h, e0]
  try rfl
noncomputable def spec_hasInt.sm (N : Nat) : Sm D := (⟨spec_hasInt.sg, fun (x : (List (Int)) × Int × Unit) => spec_hasInt N x.1 x.2.1⟩ : Sm D)
theorem spec_hasInt.sound (N : Nat) : Sound cx Tryd.prog gam 46 (spec_hasInt.sm N) := fn_sound (A := spec_hasInt.A) (Φ := (look (spec_hasInt.phis N))) pok (G := gam) ΦOk.nil mixed N Tryd.func46 (c := (bodyOf Tryd.f46)) (by kernel_rfl) spec_hasInt.sg (by kernel_rfl) (by kernel_rfl) (by kernel_rfl) (spec_hasInt.run N)

@[reducible] def spec_propAt.sg : Sg := { ms := [{ k := (.sl (.st 68)), fl := [none] }, { k := (.int .i64) }], keep := [false, false], rs := [{ k := (.int .i64) }] }
@[reducible] def spec_propAt.lvL0 : Lv := { id := 0, slots := [0, 1, 5], ms := [{ k := (.sl (.st 68)), fl := [none] }, { k := (.int .i64) }, { k := (.int .i64) }] }
noncomputable def spec_propAt.A : Ann := { dp := fun d => isIn [] d, lp := look [(0, spec_propAt.lvL0)], jn := look [], pins := [], nt := 20 }
noncomputable def spec_propAt.phis (N : Nat) : List (Nat × Sm D) := []
noncomputable def spec_propAt.a0 (N : Nat) (n : Nat) (y : (List (ImplProp)) × Int × Int × Unit) : Option (Int × Unit) := loopAt cx (look (spec_propAt.phis N)) spec_propAt.A N n (encL cx spec_propAt.lvL0.ms y).1 (encL cx spec_propAt.lvL0.ms y).2 (bodyOf Tryd.f47) 0 (Kfin cx spec_propAt.A spec_propAt.sg Tryd.f47.results.toList) [1, 0, 1, 1] []
theorem spec_propAt.r0 (N : Nat) : ∀ (n : Nat) (y : (List (ImplProp)) × Int × Int × Unit), spec_propAt.a0 N n y = spec_propAt.L0 N n y
  | 0, y => by kernel_rfl
  | n + 1, y => by
    have h : spec_propAt.a0 N (n + 1) y = spec_propAt.B0 N (fun z => spec_propAt.a0 N n z) y := by kernel_rfl
    have e : (fun z => spec_propAt.a0 N n z) = spec_propAt.L0 N n := funext fun z => spec_propAt.r0 N n z
    rw [h]
    try rw [e]
    first | done | rfl
theorem spec_propAt.run (N : Nat) (x : (List (ImplProp)) × Int × Unit) : runF cx (look (spec_propAt.phis N)) spec_propAt.A N (bodyOf Tryd.f47) Tryd.f47.results.toList spec_propAt.sg x = spec_propAt N x.1 x.2.1 := by
  have h : runF cx (look (spec_propAt.phis N)) spec_propAt.A N (bodyOf Tryd.f47) Tryd.f47.results.toList spec_propAt.sg x = spec_propAt.B N (fun z => spec_propAt.a0 N N z) x.1 x.2.1 := by kernel_rfl
  have e0 : (fun z => spec_propAt.a0 N N z) = spec_propAt.L0 N N := funext fun z => spec_propAt.r0 N N z
  rw [h, e0]
  try rfl
noncomputable def spec_propAt.sm (N : Nat) : Sm D := (⟨spec_propAt.sg, fun (x : (List (ImplProp)) × Int × Unit) => spec_propAt N x.1 x.2.1⟩ : Sm D)
theorem spec_propAt.sound (N : Nat) : Sound cx Tryd.prog gam 47 (spec_propAt.sm N) := fn_sound (A := spec_propAt.A) (Φ := (look (spec_propAt.phis N))) pok (G := gam) ΦOk.nil mixed N Tryd.func47 (c := (bodyOf Tryd.f47)) (by kernel_rfl) spec_propAt.sg (by kernel_rfl) (by kernel_rfl) (by kernel_rfl) (spec_propAt.run N)

@[reducible] def spec_meets.sg : Sg := { ms := [{ k := (.st 29) }, { k := (.st 25) }, { k := (.sl (.int .i64)), fl := [none] }], keep := [false, false, false], rs := [{ k := .bool }] }
noncomputable def spec_meets.A : Ann := { dp := fun d => isIn [] d, lp := look [], jn := look [], pins := [], nt := 51 }
noncomputable def spec_meets.phis (N : Nat) : List (Nat × Sm D) := [(46, spec_hasInt.sm N), (47, spec_propAt.sm N)]
theorem spec_meets.run (N : Nat) (x : ImplRule × ImplTree × (List (Int)) × Unit) : runF cx (look (spec_meets.phis N)) spec_meets.A N (bodyOf Tryd.f36) Tryd.f36.results.toList spec_meets.sg x = spec_meets N x.1 x.2.1 x.2.2.1 := by
  have h : runF cx (look (spec_meets.phis N)) spec_meets.A N (bodyOf Tryd.f36) Tryd.f36.results.toList spec_meets.sg x = spec_meets.B N x.1 x.2.1 x.2.2.1 := by kernel_rfl
  rw [h]
  try rfl
noncomputable def spec_meets.sm (N : Nat) : Sm D := (⟨spec_meets.sg, fun (x : ImplRule × ImplTree × (List (Int)) × Unit) => spec_meets N x.1 x.2.1 x.2.2.1⟩ : Sm D)
theorem spec_meets.sound (N : Nat) : Sound cx Tryd.prog gam 36 (spec_meets.sm N) := fn_sound (A := spec_meets.A) (Φ := (look (spec_meets.phis N))) pok (G := gam) (ΦOk.cons (spec_hasInt.sound N) (fnOk_of (f := 46) (by kernel_rfl)) (ΦOk.cons (spec_propAt.sound N) (fnOk_of (f := 47) (by kernel_rfl)) ΦOk.nil)) mixed N Tryd.func36 (c := (bodyOf Tryd.f36)) (by kernel_rfl) spec_meets.sg (by kernel_rfl) (by kernel_rfl) (by kernel_rfl) (spec_meets.run N)

@[reducible] def spec_found.sg : Sg := { ms := [{ k := (.st 25) }, { k := (.sl (.int .i64)), fl := [none] }, { k := (.sl (.int .i64)), fl := [none] }, { k := (.st 29) }, { k := (.sl (.sl (.int .i64))), fl := [some (false, 91)] }], keep := [false, false, false, false, false], rs := [{ k := (.sl (.sl (.int .i64))), fl := [some (false, 411)] }], hold := true }
@[reducible] def spec_found.lvL0 : Lv := { id := 0, slots := [1, 2, 4, 5, 8, 11], ms := [{ k := (.sl (.int .i64)), fl := [none] }, { k := (.sl (.int .i64)), fl := [none] }, { k := (.sl (.sl (.int .i64))), fl := [some (false, 640)] }, { ptr := true, id := 660, t := 26, k := (.st 25), fl := [none, none, none, none, none] }, { ptr := true, id := 680, t := 30, k := (.st 29), fl := [none, none, none, none, none, none, none, none] }, { k := (.int .i64) }] }
@[reducible] def spec_found.lvJ5 : Lv := { id := 5, slots := [1, 2, 4, 5, 8], ms := [{ k := (.sl (.int .i64)), fl := [none] }, { k := (.sl (.int .i64)), fl := [none] }, { k := (.sl (.sl (.int .i64))), fl := [some (false, 640)] }, { ptr := true, id := 660, t := 26, k := (.st 25), fl := [none, none, none, none, none] }, { ptr := true, id := 680, t := 30, k := (.st 29), fl := [none, none, none, none, none, none, none, none] }] }
noncomputable def spec_found.A : Ann := { dp := fun d => isIn [] d, lp := look [(0, spec_found.lvL0)], jn := look [(5, spec_found.lvJ5)], pins := [], nt := 55 }
noncomputable def spec_found.phis (N : Nat) (d : Nat) : List (Nat × Sm D) := [(36, spec_meets.sm N), (19, (⟨spec_found.sg, fun (x : ImplTree × (List (Int)) × (List (Int)) × ImplRule × (List (List (Int))) × Unit) => spec_found.R N d x.1 x.2.1 x.2.2.1 x.2.2.2.1 x.2.2.2.2.1⟩ : Sm D))]
noncomputable def spec_found.a0 (N : Nat) (d : Nat) (n : Nat) (y : (List (Int)) × (List (Int)) × (List (List (Int))) × ImplTree × ImplRule × Int × Unit) : Option ((List (List (Int))) × Unit) := loopAt cx (look (spec_found.phis N d)) spec_found.A N n (encL cx spec_found.lvL0.ms y).1 (encL cx spec_found.lvL0.ms y).2 (bodyOf Tryd.f19) 0 (Kfin cx spec_found.A spec_found.sg Tryd.f19.results.toList) [1, 1, 1, 0, 1, 1] []
theorem spec_found.r0 (N : Nat) (d : Nat) : ∀ (n : Nat) (y : (List (Int)) × (List (Int)) × (List (List (Int))) × ImplTree × ImplRule × Int × Unit), spec_found.a0 N d n y = spec_found.L0 N (spec_found.R N d) n y
  | 0, y => by kernel_rfl
  | n + 1, y => by
    have h : spec_found.a0 N d (n + 1) y = spec_found.B0 N (spec_found.R N d) (fun z => spec_found.a0 N d n z) y := by kernel_rfl
    have e : (fun z => spec_found.a0 N d n z) = spec_found.L0 N (spec_found.R N d) n := funext fun z => spec_found.r0 N d n z
    rw [h]
    try rw [e]
    first | done | rfl
theorem spec_found.run (N : Nat) (d : Nat) (x : ImplTree × (List (Int)) × (List (Int)) × ImplRule × (List (List (Int))) × Unit) : runF cx (look (spec_found.phis N d)) spec_found.A N (bodyOf Tryd.f19) Tryd.f19.results.toList spec_found.sg x = spec_found.R N (d + 1) x.1 x.2.1 x.2.2.1 x.2.2.2.1 x.2.2.2.2.1 := by
  have h : runF cx (look (spec_found.phis N d)) spec_found.A N (bodyOf Tryd.f19) Tryd.f19.results.toList spec_found.sg x = spec_found.B N (spec_found.R N d) (fun z => spec_found.a0 N d N z) x.1 x.2.1 x.2.2.1 x.2.2.2.1 x.2.2.2.2.1 := by kernel_rfl
  have e0 : (fun z => spec_found.a0 N d N z) = spec_found.L0 N (spec_found.R N d) N := funext fun z => spec_found.r0 N d N z
  rw [h, e0]
  try rfl
theorem spec_found.step (N : Nat) (d : Nat) (h_spec_found : Sound cx Tryd.prog gam 19 (⟨spec_found.sg, fun (x : ImplTree × (List (Int)) × (List (Int)) × ImplRule × (List (List (Int))) × Unit) => spec_found.R N d x.1 x.2.1 x.2.2.1 x.2.2.2.1 x.2.2.2.2.1⟩ : Sm D)) : Sound cx Tryd.prog gam 19 (⟨spec_found.sg, fun (x : ImplTree × (List (Int)) × (List (Int)) × ImplRule × (List (List (Int))) × Unit) => spec_found.R N (d + 1) x.1 x.2.1 x.2.2.1 x.2.2.2.1 x.2.2.2.2.1⟩ : Sm D) := fn_sound (A := spec_found.A) (Φ := (look (spec_found.phis N d))) pok (G := gam) (ΦOk.cons (spec_meets.sound N) (fnOk_of (f := 36) (by kernel_rfl)) (ΦOk.cons h_spec_found (fnOk_of (f := 19) (by kernel_rfl)) ΦOk.nil)) mixed N Tryd.func19 (c := (bodyOf Tryd.f19)) (by kernel_rfl) spec_found.sg (by kernel_rfl) (by kernel_rfl) (by kernel_rfl) (spec_found.run N d)

theorem spec_found.scc (N : Nat) : ∀ d, Sound cx Tryd.prog gam 19 (⟨spec_found.sg, fun (x : ImplTree × (List (Int)) × (List (Int)) × ImplRule × (List (List (Int))) × Unit) => spec_found.R N d x.1 x.2.1 x.2.2.1 x.2.2.2.1 x.2.2.2.2.1⟩ : Sm D)
  | 0 => none_sound 19 spec_found.sg
  | d + 1 => by
    have ih := spec_found.scc N d
    exact spec_found.step N d ih
noncomputable def spec_found.sm (N : Nat) : Sm D := (⟨spec_found.sg, fun (x : ImplTree × (List (Int)) × (List (Int)) × ImplRule × (List (List (Int))) × Unit) => spec_found.R N N x.1 x.2.1 x.2.2.1 x.2.2.2.1 x.2.2.2.2.1⟩ : Sm D)
theorem spec_found.sound (N : Nat) : Sound cx Tryd.prog gam 19 (spec_found.sm N) := (spec_found.scc N N)
@[reducible] def spec_FindAll.sg : Sg := { ms := [{ k := (.st 25) }, { k := (.st 29) }], keep := [false, false], rs := [{ k := (.sl (.sl (.int .i64))), fl := [none] }], hold := true }
noncomputable def spec_FindAll.A : Ann := { dp := fun d => isIn [] d, lp := look [], jn := look [], pins := [], nt := 19 }
noncomputable def spec_FindAll.phis (N : Nat) : List (Nat × Sm D) := [(17, spec_validTree.sm N), (18, spec_validRule.sm N), (19, spec_found.sm N)]
theorem spec_FindAll.run (N : Nat) (x : ImplTree × ImplRule × Unit) : runF cx (look (spec_FindAll.phis N)) spec_FindAll.A N (bodyOf Tryd.f6) Tryd.f6.results.toList spec_FindAll.sg x = spec_FindAll N x.1 x.2.1 := by
  have h : runF cx (look (spec_FindAll.phis N)) spec_FindAll.A N (bodyOf Tryd.f6) Tryd.f6.results.toList spec_FindAll.sg x = spec_FindAll.B N x.1 x.2.1 := by kernel_rfl
  rw [h]
  try rfl
noncomputable def spec_FindAll.sm (N : Nat) : Sm D := (⟨spec_FindAll.sg, fun (x : ImplTree × ImplRule × Unit) => spec_FindAll N x.1 x.2.1⟩ : Sm D)
theorem spec_FindAll.sound (N : Nat) : Sound cx Tryd.prog gam 6 (spec_FindAll.sm N) := fn_sound (A := spec_FindAll.A) (Φ := (look (spec_FindAll.phis N))) pok (G := gam) (ΦOk.cons (spec_validTree.sound N) (fnOk_of (f := 17) (by kernel_rfl)) (ΦOk.cons (spec_validRule.sound N) (fnOk_of (f := 18) (by kernel_rfl)) (ΦOk.cons (spec_found.sound N) (fnOk_of (f := 19) (by kernel_rfl)) ΦOk.nil))) mixed N Tryd.func6 (c := (bodyOf Tryd.f6)) (by kernel_rfl) spec_FindAll.sg (by kernel_rfl) (by kernel_rfl) (by kernel_rfl) (spec_FindAll.run N)

@[reducible] def spec_SameInts.sg : Sg := { ms := [{ k := (.sl (.int .i64)), fl := [none] }, { k := (.sl (.int .i64)), fl := [none] }], keep := [false, false], rs := [{ k := .bool }] }
@[reducible] def spec_SameInts.lvL0 : Lv := { id := 0, slots := [0, 1, 5], ms := [{ k := (.sl (.int .i64)), fl := [none] }, { k := (.sl (.int .i64)), fl := [none] }, { k := (.int .i64) }] }
noncomputable def spec_SameInts.A : Ann := { dp := fun d => isIn [] d, lp := look [(0, spec_SameInts.lvL0)], jn := look [], pins := [], nt := 26 }
noncomputable def spec_SameInts.phis (N : Nat) : List (Nat × Sm D) := []
noncomputable def spec_SameInts.a0 (N : Nat) (n : Nat) (y : (List (Int)) × (List (Int)) × Int × Unit) : Option (Bool × Unit) := loopAt cx (look (spec_SameInts.phis N)) spec_SameInts.A N n (encL cx spec_SameInts.lvL0.ms y).1 (encL cx spec_SameInts.lvL0.ms y).2 (bodyOf Tryd.f20) 0 (Kfin cx spec_SameInts.A spec_SameInts.sg Tryd.f20.results.toList) [1, 1, 0, 1, 1] []
theorem spec_SameInts.r0 (N : Nat) : ∀ (n : Nat) (y : (List (Int)) × (List (Int)) × Int × Unit), spec_SameInts.a0 N n y = spec_SameInts.L0 N n y
  | 0, y => by kernel_rfl
  | n + 1, y => by
    have h : spec_SameInts.a0 N (n + 1) y = spec_SameInts.B0 N (fun z => spec_SameInts.a0 N n z) y := by kernel_rfl
    have e : (fun z => spec_SameInts.a0 N n z) = spec_SameInts.L0 N n := funext fun z => spec_SameInts.r0 N n z
    rw [h]
    try rw [e]
    first | done | rfl
theorem spec_SameInts.run (N : Nat) (x : (List (Int)) × (List (Int)) × Unit) : runF cx (look (spec_SameInts.phis N)) spec_SameInts.A N (bodyOf Tryd.f20) Tryd.f20.results.toList spec_SameInts.sg x = spec_SameInts N x.1 x.2.1 := by
  have h : runF cx (look (spec_SameInts.phis N)) spec_SameInts.A N (bodyOf Tryd.f20) Tryd.f20.results.toList spec_SameInts.sg x = spec_SameInts.B N (fun z => spec_SameInts.a0 N N z) x.1 x.2.1 := by kernel_rfl
  have e0 : (fun z => spec_SameInts.a0 N N z) = spec_SameInts.L0 N N := funext fun z => spec_SameInts.r0 N N z
  rw [h, e0]
  try rfl
noncomputable def spec_SameInts.sm (N : Nat) : Sm D := (⟨spec_SameInts.sg, fun (x : (List (Int)) × (List (Int)) × Unit) => spec_SameInts N x.1 x.2.1⟩ : Sm D)
theorem spec_SameInts.sound (N : Nat) : Sound cx Tryd.prog gam 20 (spec_SameInts.sm N) := fn_sound (A := spec_SameInts.A) (Φ := (look (spec_SameInts.phis N))) pok (G := gam) ΦOk.nil mixed N Tryd.func20 (c := (bodyOf Tryd.f20)) (by kernel_rfl) spec_SameInts.sg (by kernel_rfl) (by kernel_rfl) (by kernel_rfl) (spec_SameInts.run N)

@[reducible] def spec_SameRows.sg : Sg := { ms := [{ k := (.sl (.sl (.int .i64))), fl := [none] }, { k := (.sl (.sl (.int .i64))), fl := [none] }], keep := [false, false], rs := [{ k := .bool }] }
@[reducible] def spec_SameRows.lvL0 : Lv := { id := 0, slots := [0, 1, 5], ms := [{ k := (.sl (.sl (.int .i64))), fl := [none] }, { k := (.sl (.sl (.int .i64))), fl := [none] }, { k := (.int .i64) }] }
noncomputable def spec_SameRows.A : Ann := { dp := fun d => isIn [] d, lp := look [(0, spec_SameRows.lvL0)], jn := look [], pins := [], nt := 27 }
noncomputable def spec_SameRows.phis (N : Nat) : List (Nat × Sm D) := [(20, spec_SameInts.sm N)]
noncomputable def spec_SameRows.a0 (N : Nat) (n : Nat) (y : (List (List (Int))) × (List (List (Int))) × Int × Unit) : Option (Bool × Unit) := loopAt cx (look (spec_SameRows.phis N)) spec_SameRows.A N n (encL cx spec_SameRows.lvL0.ms y).1 (encL cx spec_SameRows.lvL0.ms y).2 (bodyOf Tryd.f7) 0 (Kfin cx spec_SameRows.A spec_SameRows.sg Tryd.f7.results.toList) [1, 1, 0, 1, 1] []
theorem spec_SameRows.r0 (N : Nat) : ∀ (n : Nat) (y : (List (List (Int))) × (List (List (Int))) × Int × Unit), spec_SameRows.a0 N n y = spec_SameRows.L0 N n y
  | 0, y => by kernel_rfl
  | n + 1, y => by
    have h : spec_SameRows.a0 N (n + 1) y = spec_SameRows.B0 N (fun z => spec_SameRows.a0 N n z) y := by kernel_rfl
    have e : (fun z => spec_SameRows.a0 N n z) = spec_SameRows.L0 N n := funext fun z => spec_SameRows.r0 N n z
    rw [h]
    try rw [e]
    first | done | rfl
theorem spec_SameRows.run (N : Nat) (x : (List (List (Int))) × (List (List (Int))) × Unit) : runF cx (look (spec_SameRows.phis N)) spec_SameRows.A N (bodyOf Tryd.f7) Tryd.f7.results.toList spec_SameRows.sg x = spec_SameRows N x.1 x.2.1 := by
  have h : runF cx (look (spec_SameRows.phis N)) spec_SameRows.A N (bodyOf Tryd.f7) Tryd.f7.results.toList spec_SameRows.sg x = spec_SameRows.B N (fun z => spec_SameRows.a0 N N z) x.1 x.2.1 := by kernel_rfl
  have e0 : (fun z => spec_SameRows.a0 N N z) = spec_SameRows.L0 N N := funext fun z => spec_SameRows.r0 N N z
  rw [h, e0]
  try rfl
noncomputable def spec_SameRows.sm (N : Nat) : Sm D := (⟨spec_SameRows.sg, fun (x : (List (List (Int))) × (List (List (Int))) × Unit) => spec_SameRows N x.1 x.2.1⟩ : Sm D)
theorem spec_SameRows.sound (N : Nat) : Sound cx Tryd.prog gam 7 (spec_SameRows.sm N) := fn_sound (A := spec_SameRows.A) (Φ := (look (spec_SameRows.phis N))) pok (G := gam) (ΦOk.cons (spec_SameInts.sound N) (fnOk_of (f := 20) (by kernel_rfl)) ΦOk.nil) mixed N Tryd.func7 (c := (bodyOf Tryd.f7)) (by kernel_rfl) spec_SameRows.sg (by kernel_rfl) (by kernel_rfl) (by kernel_rfl) (spec_SameRows.run N)

@[reducible] def impl_weight.sg : Sg := { ms := [{ k := (.st 29) }], keep := [false], rs := [{ k := (.int .i64) }] }
@[reducible] def impl_weight.lvJ6 : Lv := { id := 6, slots := [1, 3], ms := [{ ptr := true, id := 600, t := 30, k := (.st 29), fl := [none, none, none, none, none, none, none, none] }, { k := (.int .i64) }] }
@[reducible] def impl_weight.lvJ4 : Lv := { id := 4, slots := [1, 3], ms := [{ ptr := true, id := 600, t := 30, k := (.st 29), fl := [none, none, none, none, none, none, none, none] }, { k := (.int .i64) }] }
noncomputable def impl_weight.A : Ann := { dp := fun d => isIn [] d, lp := look [], jn := look [(6, impl_weight.lvJ6), (4, impl_weight.lvJ4)], pins := [], nt := 20 }
noncomputable def impl_weight.phis (N : Nat) : List (Nat × Sm D) := []
theorem impl_weight.run (N : Nat) (x : ImplRule × Unit) : runF cx (look (impl_weight.phis N)) impl_weight.A N (bodyOf Tryd.f39) Tryd.f39.results.toList impl_weight.sg x = impl_weight N x.1 := by
  have h : runF cx (look (impl_weight.phis N)) impl_weight.A N (bodyOf Tryd.f39) Tryd.f39.results.toList impl_weight.sg x = impl_weight.B N x.1 := by kernel_rfl
  rw [h]
  try rfl
noncomputable def impl_weight.sm (N : Nat) : Sm D := (⟨impl_weight.sg, fun (x : ImplRule × Unit) => impl_weight N x.1⟩ : Sm D)
theorem impl_weight.sound (N : Nat) : Sound cx Tryd.prog gam 39 (impl_weight.sm N) := fn_sound (A := impl_weight.A) (Φ := (look (impl_weight.phis N))) pok (G := gam) ΦOk.nil mixed N Tryd.func39 (c := (bodyOf Tryd.f39)) (by kernel_rfl) impl_weight.sg (by kernel_rfl) (by kernel_rfl) (by kernel_rfl) (impl_weight.run N)

@[reducible] def impl_looks.sg : Sg := { ms := [{ k := (.st 25) }, { k := (.sl (.st 29)), fl := [none] }, { k := (.sl (.int .i64)), fl := [none] }, { k := (.int .i64) }], keep := [false, false, false, false], rs := [{ k := (.sl (.sl (.int .i64))), fl := [some (false, 411)] }], hold := true }
@[reducible] def impl_looks.lvL4 : Lv := { id := 4, slots := [10, 1, 9, 15, 70, 71, 72], ms := [{ k := (.sl (.sl (.int .i64))), fl := [some (false, 600)] }, { k := (.sl (.st 29)), fl := [none] }, { k := (.sl (.int .i64)), fl := [none] }, { k := (.sl (.int .i64)), fl := [none] }, { k := (.sl (.st 25)), fl := [none] }, { k := (.int .i64) }, { k := (.int .i64) }] }
@[reducible] def impl_looks.lvL2 : Lv := { id := 2, slots := [10, 1, 2, 4, 11, 12, 28, 31, 32, 33], ms := [{ ptr := true, id := 600, t := 888888, k := (.sl (.int .i64)), fl := [some (false, 601)] }, { k := (.sl (.st 29)), fl := [none] }, { k := (.sl (.int .i64)), fl := [none] }, { ptr := true, id := 660, t := 26, k := (.st 25), fl := [none, none, none, none, none] }, { k := (.int .i64) }, { k := (.int .i64) }, { k := (.int .i64) }, { k := (.sl (.st 29)), fl := [none] }, { k := (.int .i64) }, { k := (.int .i64) }], al := [(9, 601, false)] }
@[reducible] def impl_looks.lvL0 : Lv := { id := 0, slots := [10, 1, 2, 4, 28], ms := [{ ptr := true, id := 600, t := 888888, k := (.sl (.int .i64)), fl := [some (false, 601)] }, { k := (.sl (.st 29)), fl := [none] }, { k := (.sl (.int .i64)), fl := [none] }, { ptr := true, id := 660, t := 26, k := (.st 25), fl := [none, none, none, none, none] }, { k := (.int .i64) }], al := [(9, 601, false)] }
noncomputable def impl_looks.A : Ann := { dp := fun d => isIn [1000023] d, lp := look [(4, impl_looks.lvL4), (2, impl_looks.lvL2), (0, impl_looks.lvL0)], jn := look [], pins := [], nt := 87 }
noncomputable def impl_looks.phis (N : Nat) (d : Nat) : List (Nat × Sm D) := [(39, impl_weight.sm N), (29, impl_meets.sm N), (24, (⟨impl_looks.sg, fun (x : ImplTree × (List (ImplRule)) × (List (Int)) × Int × Unit) => impl_looks.R N d x.1 x.2.1 x.2.2.1 x.2.2.2.1⟩ : Sm D))]
noncomputable def impl_looks.a2 (N : Nat) (d : Nat) (m0 : Nat) (n : Nat) (y : (List (Int)) × (List (ImplRule)) × (List (Int)) × ImplTree × Int × Int × Int × (List (ImplRule)) × Int × Int × Unit) : Option ((List (List (Int))) × Unit) := loopAt cx (look (impl_looks.phis N d)) impl_looks.A N n (encL cx impl_looks.lvL2.ms y).1 (encL cx impl_looks.lvL2.ms y).2 (bodyOf Tryd.f24) 0 (Kfin cx impl_looks.A impl_looks.sg Tryd.f24.results.toList) [1, 1, 1, 1, 1, 0, 1, 1, 1, 1, 1, 0, 1, 1, 1, 1, 1] [m0]
noncomputable def impl_looks.a4 (N : Nat) (d : Nat) (n : Nat) (y : (List (List (Int))) × (List (ImplRule)) × (List (Int)) × (List (Int)) × (List (ImplTree)) × Int × Int × Unit) : Option ((List (List (Int))) × Unit) := loopAt cx (look (impl_looks.phis N d)) impl_looks.A N n (encL cx impl_looks.lvL4.ms y).1 (encL cx impl_looks.lvL4.ms y).2 (bodyOf Tryd.f24) 0 (Kfin cx impl_looks.A impl_looks.sg Tryd.f24.results.toList) [1, 1, 1, 1, 1, 1, 1, 0, 1, 1] []
noncomputable def impl_looks.a0 (N : Nat) (d : Nat) (n : Nat) (y : (List (Int)) × (List (ImplRule)) × (List (Int)) × ImplTree × Int × Unit) : Option ((List (List (Int))) × Unit) := loopAt cx (look (impl_looks.phis N d)) impl_looks.A N n (encL cx impl_looks.lvL0.ms y).1 (encL cx impl_looks.lvL0.ms y).2 (bodyOf Tryd.f24) 0 (Kfin cx impl_looks.A impl_looks.sg Tryd.f24.results.toList) [1, 1, 1, 1, 1, 0, 1, 1] []
theorem impl_looks.r2 (N : Nat) (d : Nat) (m0 : Nat) : ∀ (n : Nat) (y : (List (Int)) × (List (ImplRule)) × (List (Int)) × ImplTree × Int × Int × Int × (List (ImplRule)) × Int × Int × Unit), impl_looks.a2 N d m0 n y = impl_looks.L2 N (impl_looks.R N d) (fun z => impl_looks.a0 N d m0 z) n y
  | 0, y => by kernel_rfl
  | n + 1, y => by
    have h : impl_looks.a2 N d m0 (n + 1) y = impl_looks.B2 N (impl_looks.R N d) (fun z => impl_looks.a0 N d m0 z) (fun z => impl_looks.a2 N d m0 n z) y := by kernel_rfl
    have e : (fun z => impl_looks.a2 N d m0 n z) = impl_looks.L2 N (impl_looks.R N d) (fun z => impl_looks.a0 N d m0 z) n := funext fun z => impl_looks.r2 N d m0 n z
    rw [h]
    try rw [e]
    first | done | rfl
theorem impl_looks.r4 (N : Nat) (d : Nat) : ∀ (n : Nat) (y : (List (List (Int))) × (List (ImplRule)) × (List (Int)) × (List (Int)) × (List (ImplTree)) × Int × Int × Unit), impl_looks.a4 N d n y = impl_looks.L4 N (impl_looks.R N d) n y
  | 0, y => by kernel_rfl
  | n + 1, y => by
    have h : impl_looks.a4 N d (n + 1) y = impl_looks.B4 N (impl_looks.R N d) (fun z => impl_looks.a4 N d n z) y := by kernel_rfl
    have e : (fun z => impl_looks.a4 N d n z) = impl_looks.L4 N (impl_looks.R N d) n := funext fun z => impl_looks.r4 N d n z
    rw [h]
    try rw [e]
    first | done | rfl
theorem impl_looks.r0 (N : Nat) (d : Nat) : ∀ (n : Nat) (y : (List (Int)) × (List (ImplRule)) × (List (Int)) × ImplTree × Int × Unit), impl_looks.a0 N d n y = impl_looks.L0 N (impl_looks.R N d) n y
  | 0, y => by kernel_rfl
  | n + 1, y => by
    have h : impl_looks.a0 N d (n + 1) y = impl_looks.B0 N (impl_looks.R N d) (fun z => impl_looks.a2 N d n N z) (fun z => impl_looks.a4 N d N z) y := by kernel_rfl
    have e : (fun z => impl_looks.a0 N d n z) = impl_looks.L0 N (impl_looks.R N d) n := funext fun z => impl_looks.r0 N d n z
    have e2 : (fun z => impl_looks.a2 N d n N z) = impl_looks.L2 N (impl_looks.R N d) (fun z => impl_looks.a0 N d n z) N := funext fun z => impl_looks.r2 N d n N z
    have e4 : (fun z => impl_looks.a4 N d N z) = impl_looks.L4 N (impl_looks.R N d) N := funext fun z => impl_looks.r4 N d N z
    rw [h, e2, e4]
    try rw [e]
    first | done | rfl
theorem impl_looks.run (N : Nat) (d : Nat) (x : ImplTree × (List (ImplRule)) × (List (Int)) × Int × Unit) : runF cx (look (impl_looks.phis N d)) impl_looks.A N (bodyOf Tryd.f24) Tryd.f24.results.toList impl_looks.sg x = impl_looks.R N (d + 1) x.1 x.2.1 x.2.2.1 x.2.2.2.1 := by
  have h : runF cx (look (impl_looks.phis N d)) impl_looks.A N (bodyOf Tryd.f24) Tryd.f24.results.toList impl_looks.sg x = impl_looks.B N (impl_looks.R N d) (fun z => impl_looks.a0 N d N z) x.1 x.2.1 x.2.2.1 x.2.2.2.1 := by kernel_rfl
  have e0 : (fun z => impl_looks.a0 N d N z) = impl_looks.L0 N (impl_looks.R N d) N := funext fun z => impl_looks.r0 N d N z
  rw [h, e0]
  try rfl
theorem impl_looks.step (N : Nat) (d : Nat) (h_impl_looks : Sound cx Tryd.prog gam 24 (⟨impl_looks.sg, fun (x : ImplTree × (List (ImplRule)) × (List (Int)) × Int × Unit) => impl_looks.R N d x.1 x.2.1 x.2.2.1 x.2.2.2.1⟩ : Sm D)) : Sound cx Tryd.prog gam 24 (⟨impl_looks.sg, fun (x : ImplTree × (List (ImplRule)) × (List (Int)) × Int × Unit) => impl_looks.R N (d + 1) x.1 x.2.1 x.2.2.1 x.2.2.2.1⟩ : Sm D) := fn_sound (A := impl_looks.A) (Φ := (look (impl_looks.phis N d))) pok (G := gam) (ΦOk.cons (impl_weight.sound N) (fnOk_of (f := 39) (by kernel_rfl)) (ΦOk.cons (impl_meets.sound N) (fnOk_of (f := 29) (by kernel_rfl)) (ΦOk.cons h_impl_looks (fnOk_of (f := 24) (by kernel_rfl)) ΦOk.nil))) mixed N Tryd.func24 (c := (bodyOf Tryd.f24)) (by kernel_rfl) impl_looks.sg (by kernel_rfl) (by kernel_rfl) (by kernel_rfl) (impl_looks.run N d)

theorem impl_looks.scc (N : Nat) : ∀ d, Sound cx Tryd.prog gam 24 (⟨impl_looks.sg, fun (x : ImplTree × (List (ImplRule)) × (List (Int)) × Int × Unit) => impl_looks.R N d x.1 x.2.1 x.2.2.1 x.2.2.2.1⟩ : Sm D)
  | 0 => none_sound 24 impl_looks.sg
  | d + 1 => by
    have ih := impl_looks.scc N d
    exact impl_looks.step N d ih
noncomputable def impl_looks.sm (N : Nat) : Sm D := (⟨impl_looks.sg, fun (x : ImplTree × (List (ImplRule)) × (List (Int)) × Int × Unit) => impl_looks.R N N x.1 x.2.1 x.2.2.1 x.2.2.2.1⟩ : Sm D)
theorem impl_looks.sound (N : Nat) : Sound cx Tryd.prog gam 24 (impl_looks.sm N) := (impl_looks.scc N N)
@[reducible] def impl_LooksAll.sg : Sg := { ms := [{ k := (.st 25) }, { k := (.sl (.st 29)), fl := [none] }], keep := [false, false], rs := [{ k := (.sl (.sl (.int .i64))), fl := [none] }], hold := true }
noncomputable def impl_LooksAll.A : Ann := { dp := fun d => isIn [] d, lp := look [], jn := look [], pins := [], nt := 16 }
noncomputable def impl_LooksAll.phis (N : Nat) : List (Nat × Sm D) := [(8, impl_TreeOk.sm N), (9, impl_RulesOk.sm N), (24, impl_looks.sm N)]
theorem impl_LooksAll.run (N : Nat) (x : ImplTree × (List (ImplRule)) × Unit) : runF cx (look (impl_LooksAll.phis N)) impl_LooksAll.A N (bodyOf Tryd.f11) Tryd.f11.results.toList impl_LooksAll.sg x = impl_LooksAll N x.1 x.2.1 := by
  have h : runF cx (look (impl_LooksAll.phis N)) impl_LooksAll.A N (bodyOf Tryd.f11) Tryd.f11.results.toList impl_LooksAll.sg x = impl_LooksAll.B N x.1 x.2.1 := by kernel_rfl
  rw [h]
  try rfl
noncomputable def impl_LooksAll.sm (N : Nat) : Sm D := (⟨impl_LooksAll.sg, fun (x : ImplTree × (List (ImplRule)) × Unit) => impl_LooksAll N x.1 x.2.1⟩ : Sm D)
theorem impl_LooksAll.sound (N : Nat) : Sound cx Tryd.prog gam 11 (impl_LooksAll.sm N) := fn_sound (A := impl_LooksAll.A) (Φ := (look (impl_LooksAll.phis N))) pok (G := gam) (ΦOk.cons (impl_TreeOk.sound N) (fnOk_of (f := 8) (by kernel_rfl)) (ΦOk.cons (impl_RulesOk.sound N) (fnOk_of (f := 9) (by kernel_rfl)) (ΦOk.cons (impl_looks.sound N) (fnOk_of (f := 24) (by kernel_rfl)) ΦOk.nil))) mixed N Tryd.func11 (c := (bodyOf Tryd.f11)) (by kernel_rfl) impl_LooksAll.sg (by kernel_rfl) (by kernel_rfl) (by kernel_rfl) (impl_LooksAll.run N)

@[reducible] def spec_CountWide.sg : Sg := { ms := [{ k := (.sl (.sl (.int .i64))), fl := [none] }], keep := [false], rs := [{ k := (.int .i64) }] }
@[reducible] def spec_CountWide.lvL0 : Lv := { id := 0, slots := [0, 3, 4], ms := [{ k := (.sl (.sl (.int .i64))), fl := [none] }, { k := (.int .i64) }, { k := (.int .i64) }] }
noncomputable def spec_CountWide.A : Ann := { dp := fun d => isIn [] d, lp := look [(0, spec_CountWide.lvL0)], jn := look [], pins := [], nt := 29 }
noncomputable def spec_CountWide.phis (N : Nat) : List (Nat × Sm D) := []
noncomputable def spec_CountWide.a0 (N : Nat) (n : Nat) (y : (List (List (Int))) × Int × Int × Unit) : Option (Int × Unit) := loopAt cx (look (spec_CountWide.phis N)) spec_CountWide.A N n (encL cx spec_CountWide.lvL0.ms y).1 (encL cx spec_CountWide.lvL0.ms y).2 (bodyOf Tryd.f10) 0 (Kfin cx spec_CountWide.A spec_CountWide.sg Tryd.f10.results.toList) [1, 1, 0, 1, 1] []
theorem spec_CountWide.r0 (N : Nat) : ∀ (n : Nat) (y : (List (List (Int))) × Int × Int × Unit), spec_CountWide.a0 N n y = spec_CountWide.L0 N n y
  | 0, y => by kernel_rfl
  | n + 1, y => by
    have h : spec_CountWide.a0 N (n + 1) y = spec_CountWide.B0 N (fun z => spec_CountWide.a0 N n z) y := by kernel_rfl
    have e : (fun z => spec_CountWide.a0 N n z) = spec_CountWide.L0 N n := funext fun z => spec_CountWide.r0 N n z
    rw [h]
    try rw [e]
    first | done | rfl
theorem spec_CountWide.run (N : Nat) (x : (List (List (Int))) × Unit) : runF cx (look (spec_CountWide.phis N)) spec_CountWide.A N (bodyOf Tryd.f10) Tryd.f10.results.toList spec_CountWide.sg x = spec_CountWide N x.1 := by
  have h : runF cx (look (spec_CountWide.phis N)) spec_CountWide.A N (bodyOf Tryd.f10) Tryd.f10.results.toList spec_CountWide.sg x = spec_CountWide.B N (fun z => spec_CountWide.a0 N N z) x.1 := by kernel_rfl
  have e0 : (fun z => spec_CountWide.a0 N N z) = spec_CountWide.L0 N N := funext fun z => spec_CountWide.r0 N N z
  rw [h, e0]
  try rfl
noncomputable def spec_CountWide.sm (N : Nat) : Sm D := (⟨spec_CountWide.sg, fun (x : (List (List (Int))) × Unit) => spec_CountWide N x.1⟩ : Sm D)
theorem spec_CountWide.sound (N : Nat) : Sound cx Tryd.prog gam 10 (spec_CountWide.sm N) := fn_sound (A := spec_CountWide.A) (Φ := (look (spec_CountWide.phis N))) pok (G := gam) ΦOk.nil mixed N Tryd.func10 (c := (bodyOf Tryd.f10)) (by kernel_rfl) spec_CountWide.sg (by kernel_rfl) (by kernel_rfl) (by kernel_rfl) (spec_CountWide.run N)

@[reducible] def laws_FnFindAll.sg : Sg := { ms := [{ k := (.sl (.int .u8)), fl := [none] }], keep := [false], rs := [{ k := .bool }] }
noncomputable def laws_FnFindAll.A : Ann := { dp := fun d => isIn [] d, lp := look [], jn := look [], pins := [], nt := 51 }
noncomputable def laws_FnFindAll.phis (N : Nat) : List (Nat × Sm D) := [(4, spec_DrawFindAll.sm N), (5, impl_FindAll.sm N), (6, spec_FindAll.sm N), (7, spec_SameRows.sm N), (8, impl_TreeOk.sm N), (9, impl_RulesOk.sm N), (11, impl_LooksAll.sm N), (10, spec_CountWide.sm N)]
theorem laws_FnFindAll.run (N : Nat) (x : (List (Int)) × Unit) : runF cx (look (laws_FnFindAll.phis N)) laws_FnFindAll.A N (bodyOf Tryd.f3) Tryd.f3.results.toList laws_FnFindAll.sg x = laws_FnFindAll N x.1 := by
  have h : runF cx (look (laws_FnFindAll.phis N)) laws_FnFindAll.A N (bodyOf Tryd.f3) Tryd.f3.results.toList laws_FnFindAll.sg x = laws_FnFindAll.B N x.1 := by kernel_rfl
  rw [h]
  try rfl
noncomputable def laws_FnFindAll.sm (N : Nat) : Sm D := (⟨laws_FnFindAll.sg, fun (x : (List (Int)) × Unit) => laws_FnFindAll N x.1⟩ : Sm D)
theorem laws_FnFindAll.sound (N : Nat) : Sound cx Tryd.prog gam 3 (laws_FnFindAll.sm N) := fn_sound (A := laws_FnFindAll.A) (Φ := (look (laws_FnFindAll.phis N))) pok (G := gam) (ΦOk.cons (spec_DrawFindAll.sound N) (fnOk_of (f := 4) (by kernel_rfl)) (ΦOk.cons (impl_FindAll.sound N) (fnOk_of (f := 5) (by kernel_rfl)) (ΦOk.cons (spec_FindAll.sound N) (fnOk_of (f := 6) (by kernel_rfl)) (ΦOk.cons (spec_SameRows.sound N) (fnOk_of (f := 7) (by kernel_rfl)) (ΦOk.cons (impl_TreeOk.sound N) (fnOk_of (f := 8) (by kernel_rfl)) (ΦOk.cons (impl_RulesOk.sound N) (fnOk_of (f := 9) (by kernel_rfl)) (ΦOk.cons (impl_LooksAll.sound N) (fnOk_of (f := 11) (by kernel_rfl)) (ΦOk.cons (spec_CountWide.sound N) (fnOk_of (f := 10) (by kernel_rfl)) ΦOk.nil)))))))) mixed N Tryd.func3 (c := (bodyOf Tryd.f3)) (by kernel_rfl) laws_FnFindAll.sg (by kernel_rfl) (by kernel_rfl) (by kernel_rfl) (laws_FnFindAll.run N)

end
end Go.Ev
