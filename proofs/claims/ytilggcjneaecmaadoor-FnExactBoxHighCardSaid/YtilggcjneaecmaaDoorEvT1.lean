/- Each function that the law reaches does what its plain form says; no condition beyond the table of the library. -/
import Derived.Test.YtilggcjneaecmaaDoorEvT0
set_option linter.all false
set_option linter.unusedVariables false
set_option linter.unusedSimpArgs false
set_option maxRecDepth 100000
set_option maxHeartbeats 0
namespace Go.Ev
noncomputable section
open Go.Proofs
@[reducible] def spec_validPropList.sg : Sg := { ms := [{ k := (.sl (.st 74)), fl := [none] }], keep := [false], rs := [{ k := .bool }] }
@[reducible] def spec_validPropList.lvL0 : Lv := { id := 0, slots := [0, 3], ms := [{ k := (.sl (.st 74)), fl := [none] }, { k := (.int .i64) }] }
noncomputable def spec_validPropList.A : Ann := { dp := fun d => isIn [] d, lp := look [(0, spec_validPropList.lvL0)], jn := look [], pins := [], nt := 44 }
noncomputable def spec_validPropList.phis (N : Nat) : List (Nat × Sm D) := [(17, spec_inRange.sm N), (43, spec_validValue.sm N)]
noncomputable def spec_validPropList.a0 (N : Nat) (n : Nat) (y : (List (ImplProp)) × Int × Unit) : Option (Bool × Unit) := loopAt cx (look (spec_validPropList.phis N)) spec_validPropList.A N n (encL cx spec_validPropList.lvL0.ms y).1 (encL cx spec_validPropList.lvL0.ms y).2 (bodyOf Tryd.f41) 0 (Kfin cx spec_validPropList.A spec_validPropList.sg Tryd.f41.results.toList) [1, 0, 1, 1] []
theorem spec_validPropList.r0 (N : Nat) : ∀ (n : Nat) (y : (List (ImplProp)) × Int × Unit), spec_validPropList.a0 N n y = spec_validPropList.L0 N n y
  | 0, y => by kernel_rfl
  | n + 1, y => by
    have h : spec_validPropList.a0 N (n + 1) y = spec_validPropList.B0 N (fun z => spec_validPropList.a0 N n z) y := by kernel_rfl
    have e : (fun z => spec_validPropList.a0 N n z) = spec_validPropList.L0 N n := funext fun z => spec_validPropList.r0 N n z
    rw [h]
    try rw [e]
    first | done | rfl
theorem spec_validPropList.run (N : Nat) (x : (List (ImplProp)) × Unit) : runF cx (look (spec_validPropList.phis N)) spec_validPropList.A N (bodyOf Tryd.f41) Tryd.f41.results.toList spec_validPropList.sg x = spec_validPropList N x.1 := by
  have h : runF cx (look (spec_validPropList.phis N)) spec_validPropList.A N (bodyOf Tryd.f41) Tryd.f41.results.toList spec_validPropList.sg x = spec_validPropList.B N (fun z => spec_validPropList.a0 N N z) x.1 := by kernel_rfl
  have e0 : (fun z => spec_validPropList.a0 N N z) = spec_validPropList.L0 N N := funext fun z => spec_validPropList.r0 N N z
  rw [h, e0]
  try rfl
noncomputable def spec_validPropList.sm (N : Nat) : Sm D := (⟨spec_validPropList.sg, fun (x : (List (ImplProp)) × Unit) => spec_validPropList N x.1⟩ : Sm D)
theorem spec_validPropList.sound (N : Nat) : Sound cx Tryd.prog gam 41 (spec_validPropList.sm N) := fn_sound (A := spec_validPropList.A) (Φ := (look (spec_validPropList.phis N))) pok (G := gam) (ΦOk.cons (spec_inRange.sound N) (fnOk_of (f := 17) (by kernel_rfl)) (ΦOk.cons (spec_validValue.sound N) (fnOk_of (f := 43) (by kernel_rfl)) ΦOk.nil)) mixed N Tryd.func41 (c := (bodyOf Tryd.f41)) (by kernel_rfl) spec_validPropList.sg (by kernel_rfl) (by kernel_rfl) (by kernel_rfl) (spec_validPropList.run N)

@[reducible] def spec_keysApart.sg : Sg := { ms := [{ k := (.sl (.st 32)), fl := [none] }], keep := [false], rs := [{ k := .bool }] }
@[reducible] def spec_keysApart.lvL2 : Lv := { id := 2, slots := [0, 3, 4], ms := [{ k := (.sl (.st 32)), fl := [none] }, { k := (.int .i64) }, { k := (.int .i64) }] }
@[reducible] def spec_keysApart.lvL0 : Lv := { id := 0, slots := [0, 3], ms := [{ k := (.sl (.st 32)), fl := [none] }, { k := (.int .i64) }] }
noncomputable def spec_keysApart.A : Ann := { dp := fun d => isIn [] d, lp := look [(2, spec_keysApart.lvL2), (0, spec_keysApart.lvL0)], jn := look [], pins := [], nt := 35 }
noncomputable def spec_keysApart.phis (N : Nat) : List (Nat × Sm D) := []
noncomputable def spec_keysApart.a2 (N : Nat) (m0 : Nat) (n : Nat) (y : (List (ImplTree)) × Int × Int × Unit) : Option (Bool × Unit) := loopAt cx (look (spec_keysApart.phis N)) spec_keysApart.A N n (encL cx spec_keysApart.lvL2.ms y).1 (encL cx spec_keysApart.lvL2.ms y).2 (bodyOf Tryd.f42) 0 (Kfin cx spec_keysApart.A spec_keysApart.sg Tryd.f42.results.toList) [1, 0, 1, 1, 1, 1, 0, 1, 1, 1] [m0]
noncomputable def spec_keysApart.a0 (N : Nat) (n : Nat) (y : (List (ImplTree)) × Int × Unit) : Option (Bool × Unit) := loopAt cx (look (spec_keysApart.phis N)) spec_keysApart.A N n (encL cx spec_keysApart.lvL0.ms y).1 (encL cx spec_keysApart.lvL0.ms y).2 (bodyOf Tryd.f42) 0 (Kfin cx spec_keysApart.A spec_keysApart.sg Tryd.f42.results.toList) [1, 0, 1, 1] []
theorem spec_keysApart.r2 (N : Nat) (m0 : Nat) : ∀ (n : Nat) (y : (List (ImplTree)) × Int × Int × Unit), spec_keysApart.a2 N m0 n y = spec_keysApart.L2 N (fun z => spec_keysApart.a0 N m0 z) n y
  | 0, y => by kernel_rfl
  | n + 1, y => by
    have h : spec_keysApart.a2 N m0 (n + 1) y = spec_keysApart.B2 N (fun z => spec_keysApart.a0 N m0 z) (fun z => spec_keysApart.a2 N m0 n z) y := by kernel_rfl
    have e : (fun z => spec_keysApart.a2 N m0 n z) = spec_keysApart.L2 N (fun z => spec_keysApart.a0 N m0 z) n := funext fun z => spec_keysApart.r2 N m0 n z
    rw [h]
    try rw [e]
    first | done | rfl
theorem spec_keysApart.r0 (N : Nat) : ∀ (n : Nat) (y : (List (ImplTree)) × Int × Unit), spec_keysApart.a0 N n y = spec_keysApart.L0 N n y
  | 0, y => by kernel_rfl
  | n + 1, y => by
    have h : spec_keysApart.a0 N (n + 1) y = spec_keysApart.B0 N (fun z => spec_keysApart.a2 N n N z) y := by kernel_rfl
    have e : (fun z => spec_keysApart.a0 N n z) = spec_keysApart.L0 N n := funext fun z => spec_keysApart.r0 N n z
    have e2 : (fun z => spec_keysApart.a2 N n N z) = spec_keysApart.L2 N (fun z => spec_keysApart.a0 N n z) N := funext fun z => spec_keysApart.r2 N n N z
    rw [h, e2]
    try rw [e]
    first | done | rfl
theorem spec_keysApart.run (N : Nat) (x : (List (ImplTree)) × Unit) : runF cx (look (spec_keysApart.phis N)) spec_keysApart.A N (bodyOf Tryd.f42) Tryd.f42.results.toList spec_keysApart.sg x = spec_keysApart N x.1 := by
  have h : runF cx (look (spec_keysApart.phis N)) spec_keysApart.A N (bodyOf Tryd.f42) Tryd.f42.results.toList spec_keysApart.sg x = spec_keysApart.B N (fun z => spec_keysApart.a0 N N z) x.1 := by kernel_rfl
  have e0 : (fun z => spec_keysApart.a0 N N z) = spec_keysApart.L0 N N := funext fun z => spec_keysApart.r0 N N z
  rw [h, e0]
  try rfl
noncomputable def spec_keysApart.sm (N : Nat) : Sm D := (⟨spec_keysApart.sg, fun (x : (List (ImplTree)) × Unit) => spec_keysApart N x.1⟩ : Sm D)
theorem spec_keysApart.sound (N : Nat) : Sound cx Tryd.prog gam 42 (spec_keysApart.sm N) := fn_sound (A := spec_keysApart.A) (Φ := (look (spec_keysApart.phis N))) pok (G := gam) ΦOk.nil mixed N Tryd.func42 (c := (bodyOf Tryd.f42)) (by kernel_rfl) spec_keysApart.sg (by kernel_rfl) (by kernel_rfl) (by kernel_rfl) (spec_keysApart.run N)

@[reducible] def spec_validPart.sg : Sg := { ms := [{ k := (.st 32) }], keep := [false], rs := [{ k := .bool }] }
@[reducible] def spec_validPart.lvL0 : Lv := { id := 0, slots := [1, 3], ms := [{ ptr := true, id := 600, t := 33, k := (.st 32), fl := [none, none, none, none, none] }, { k := (.int .i64) }] }
noncomputable def spec_validPart.A : Ann := { dp := fun d => isIn [] d, lp := look [(0, spec_validPart.lvL0)], jn := look [], pins := [], nt := 65 }
noncomputable def spec_validPart.phis (N : Nat) (d : Nat) : List (Nat × Sm D) := [(40, spec_validShown.sm N), (17, spec_inRange.sm N), (41, spec_validPropList.sm N), (29, (⟨spec_validPart.sg, fun (x : ImplTree × Unit) => spec_validPart.R N d x.1⟩ : Sm D)), (42, spec_keysApart.sm N)]
noncomputable def spec_validPart.a0 (N : Nat) (d : Nat) (n : Nat) (y : ImplTree × Int × Unit) : Option (Bool × Unit) := loopAt cx (look (spec_validPart.phis N d)) spec_validPart.A N n (encL cx spec_validPart.lvL0.ms y).1 (encL cx spec_validPart.lvL0.ms y).2 (bodyOf Tryd.f29) 0 (Kfin cx spec_validPart.A spec_validPart.sg Tryd.f29.results.toList) [1, 1, 1, 0, 1, 1] []
theorem spec_validPart.r0 (N : Nat) (d : Nat) : ∀ (n : Nat) (y : ImplTree × Int × Unit), spec_validPart.a0 N d n y = spec_validPart.L0 N (spec_validPart.R N d) n y
  | 0, y => by kernel_rfl
  | n + 1, y => by
    have h : spec_validPart.a0 N d (n + 1) y = spec_validPart.B0 N (spec_validPart.R N d) (fun z => spec_validPart.a0 N d n z) y := by kernel_rfl
    have e : (fun z => spec_validPart.a0 N d n z) = spec_validPart.L0 N (spec_validPart.R N d) n := funext fun z => spec_validPart.r0 N d n z
    rw [h]
    try rw [e]
    first | done | rfl
theorem spec_validPart.run (N : Nat) (d : Nat) (x : ImplTree × Unit) : runF cx (look (spec_validPart.phis N d)) spec_validPart.A N (bodyOf Tryd.f29) Tryd.f29.results.toList spec_validPart.sg x = spec_validPart.R N (d + 1) x.1 := by
  have h : runF cx (look (spec_validPart.phis N d)) spec_validPart.A N (bodyOf Tryd.f29) Tryd.f29.results.toList spec_validPart.sg x = spec_validPart.B N (spec_validPart.R N d) (fun z => spec_validPart.a0 N d N z) x.1 := by kernel_rfl
  have e0 : (fun z => spec_validPart.a0 N d N z) = spec_validPart.L0 N (spec_validPart.R N d) N := funext fun z => spec_validPart.r0 N d N z
  rw [h, e0]
  try rfl
theorem spec_validPart.step (N : Nat) (d : Nat) (h_spec_validPart : Sound cx Tryd.prog gam 29 (⟨spec_validPart.sg, fun (x : ImplTree × Unit) => spec_validPart.R N d x.1⟩ : Sm D)) : Sound cx Tryd.prog gam 29 (⟨spec_validPart.sg, fun (x : ImplTree × Unit) => spec_validPart.R N (d + 1) x.1⟩ : Sm D) := fn_sound (A := spec_validPart.A) (Φ := (look (spec_validPart.phis N d))) pok (G := gam) (ΦOk.cons (spec_validShown.sound N) (fnOk_of (f := 40) (by kernel_rfl)) (ΦOk.cons (spec_inRange.sound N) (fnOk_of (f := 17) (by kernel_rfl)) (ΦOk.cons (spec_validPropList.sound N) (fnOk_of (f := 41) (by kernel_rfl)) (ΦOk.cons h_spec_validPart (fnOk_of (f := 29) (by kernel_rfl)) (ΦOk.cons (spec_keysApart.sound N) (fnOk_of (f := 42) (by kernel_rfl)) ΦOk.nil))))) mixed N Tryd.func29 (c := (bodyOf Tryd.f29)) (by kernel_rfl) spec_validPart.sg (by kernel_rfl) (by kernel_rfl) (by kernel_rfl) (spec_validPart.run N d)

theorem spec_validPart.scc (N : Nat) : ∀ d, Sound cx Tryd.prog gam 29 (⟨spec_validPart.sg, fun (x : ImplTree × Unit) => spec_validPart.R N d x.1⟩ : Sm D)
  | 0 => none_sound 29 spec_validPart.sg
  | d + 1 => by
    have ih := spec_validPart.scc N d
    exact spec_validPart.step N d ih
noncomputable def spec_validPart.sm (N : Nat) : Sm D := (⟨spec_validPart.sg, fun (x : ImplTree × Unit) => spec_validPart.R N N x.1⟩ : Sm D)
theorem spec_validPart.sound (N : Nat) : Sound cx Tryd.prog gam 29 (spec_validPart.sm N) := (spec_validPart.scc N N)
@[reducible] def spec_validTree.sg : Sg := { ms := [{ k := (.st 32) }], keep := [false], rs := [{ k := .bool }] }
noncomputable def spec_validTree.A : Ann := { dp := fun d => isIn [] d, lp := look [], jn := look [], pins := [], nt := 10 }
noncomputable def spec_validTree.phis (N : Nat) : List (Nat × Sm D) := [(28, spec_treeSize.sm N), (29, spec_validPart.sm N)]
theorem spec_validTree.run (N : Nat) (x : ImplTree × Unit) : runF cx (look (spec_validTree.phis N)) spec_validTree.A N (bodyOf Tryd.f15) Tryd.f15.results.toList spec_validTree.sg x = spec_validTree N x.1 := by
  have h : runF cx (look (spec_validTree.phis N)) spec_validTree.A N (bodyOf Tryd.f15) Tryd.f15.results.toList spec_validTree.sg x = spec_validTree.B N x.1 := by kernel_rfl
  rw [h]
  try rfl
noncomputable def spec_validTree.sm (N : Nat) : Sm D := (⟨spec_validTree.sg, fun (x : ImplTree × Unit) => spec_validTree N x.1⟩ : Sm D)
theorem spec_validTree.sound (N : Nat) : Sound cx Tryd.prog gam 15 (spec_validTree.sm N) := fn_sound (A := spec_validTree.A) (Φ := (look (spec_validTree.phis N))) pok (G := gam) (ΦOk.cons (spec_treeSize.sound N) (fnOk_of (f := 28) (by kernel_rfl)) (ΦOk.cons (spec_validPart.sound N) (fnOk_of (f := 29) (by kernel_rfl)) ΦOk.nil)) mixed N Tryd.func15 (c := (bodyOf Tryd.f15)) (by kernel_rfl) spec_validTree.sg (by kernel_rfl) (by kernel_rfl) (by kernel_rfl) (spec_validTree.run N)

@[reducible] def spec_validRule.sg : Sg := { ms := [{ k := (.st 57) }], keep := [false], rs := [{ k := .bool }] }
noncomputable def spec_validRule.A : Ann := { dp := fun d => isIn [] d, lp := look [], jn := look [], pins := [], nt := 42 }
noncomputable def spec_validRule.phis (N : Nat) : List (Nat × Sm D) := [(17, spec_inRange.sm N), (43, spec_validValue.sm N)]
theorem spec_validRule.run (N : Nat) (x : ImplRule × Unit) : runF cx (look (spec_validRule.phis N)) spec_validRule.A N (bodyOf Tryd.f30) Tryd.f30.results.toList spec_validRule.sg x = spec_validRule N x.1 := by
  have h : runF cx (look (spec_validRule.phis N)) spec_validRule.A N (bodyOf Tryd.f30) Tryd.f30.results.toList spec_validRule.sg x = spec_validRule.B N x.1 := by kernel_rfl
  rw [h]
  try rfl
noncomputable def spec_validRule.sm (N : Nat) : Sm D := (⟨spec_validRule.sg, fun (x : ImplRule × Unit) => spec_validRule N x.1⟩ : Sm D)
theorem spec_validRule.sound (N : Nat) : Sound cx Tryd.prog gam 30 (spec_validRule.sm N) := fn_sound (A := spec_validRule.A) (Φ := (look (spec_validRule.phis N))) pok (G := gam) (ΦOk.cons (spec_inRange.sound N) (fnOk_of (f := 17) (by kernel_rfl)) (ΦOk.cons (spec_validValue.sound N) (fnOk_of (f := 43) (by kernel_rfl)) ΦOk.nil)) mixed N Tryd.func30 (c := (bodyOf Tryd.f30)) (by kernel_rfl) spec_validRule.sg (by kernel_rfl) (by kernel_rfl) (by kernel_rfl) (spec_validRule.run N)

@[reducible] def spec_validRules.sg : Sg := { ms := [{ k := (.sl (.st 57)), fl := [none] }], keep := [false], rs := [{ k := .bool }] }
@[reducible] def spec_validRules.lvL0 : Lv := { id := 0, slots := [0, 3], ms := [{ k := (.sl (.st 57)), fl := [none] }, { k := (.int .i64) }] }
noncomputable def spec_validRules.A : Ann := { dp := fun d => isIn [] d, lp := look [(0, spec_validRules.lvL0)], jn := look [], pins := [], nt := 19 }
noncomputable def spec_validRules.phis (N : Nat) : List (Nat × Sm D) := [(30, spec_validRule.sm N)]
noncomputable def spec_validRules.a0 (N : Nat) (n : Nat) (y : (List (ImplRule)) × Int × Unit) : Option (Bool × Unit) := loopAt cx (look (spec_validRules.phis N)) spec_validRules.A N n (encL cx spec_validRules.lvL0.ms y).1 (encL cx spec_validRules.lvL0.ms y).2 (bodyOf Tryd.f16) 0 (Kfin cx spec_validRules.A spec_validRules.sg Tryd.f16.results.toList) [1, 1, 0, 1, 1] []
theorem spec_validRules.r0 (N : Nat) : ∀ (n : Nat) (y : (List (ImplRule)) × Int × Unit), spec_validRules.a0 N n y = spec_validRules.L0 N n y
  | 0, y => by kernel_rfl
  | n + 1, y => by
    have h : spec_validRules.a0 N (n + 1) y = spec_validRules.B0 N (fun z => spec_validRules.a0 N n z) y := by kernel_rfl
    have e : (fun z => spec_validRules.a0 N n z) = spec_validRules.L0 N n := funext fun z => spec_validRules.r0 N n z
    rw [h]
    try rw [e]
    first | done | rfl
theorem spec_validRules.run (N : Nat) (x : (List (ImplRule)) × Unit) : runF cx (look (spec_validRules.phis N)) spec_validRules.A N (bodyOf Tryd.f16) Tryd.f16.results.toList spec_validRules.sg x = spec_validRules N x.1 := by
  have h : runF cx (look (spec_validRules.phis N)) spec_validRules.A N (bodyOf Tryd.f16) Tryd.f16.results.toList spec_validRules.sg x = spec_validRules.B N (fun z => spec_validRules.a0 N N z) x.1 := by kernel_rfl
  have e0 : (fun z => spec_validRules.a0 N N z) = spec_validRules.L0 N N := funext fun z => spec_validRules.r0 N N z
  rw [h, e0]
  try rfl
noncomputable def spec_validRules.sm (N : Nat) : Sm D := (⟨spec_validRules.sg, fun (x : (List (ImplRule)) × Unit) => spec_validRules N x.1⟩ : Sm D)
theorem spec_validRules.sound (N : Nat) : Sound cx Tryd.prog gam 16 (spec_validRules.sm N) := fn_sound (A := spec_validRules.A) (Φ := (look (spec_validRules.phis N))) pok (G := gam) (ΦOk.cons (spec_validRule.sound N) (fnOk_of (f := 30) (by kernel_rfl)) ΦOk.nil) mixed N Tryd.func16 (c := (bodyOf Tryd.f16)) (by kernel_rfl) spec_validRules.sg (by kernel_rfl) (by kernel_rfl) (by kernel_rfl) (spec_validRules.run N)

@[reducible] def spec_textLooks.sg : Sg := { ms := [{ k := (.sl (.int .i64)), fl := [none] }], keep := [false], rs := [{ k := (.sl (.int .i64)), fl := [none] }], hold := true }
noncomputable def spec_textLooks.A : Ann := { dp := fun d => isIn [] d, lp := look [], jn := look [], pins := [], nt := 11 }
noncomputable def spec_textLooks.phis (N : Nat) : List (Nat × Sm D) := []
theorem spec_textLooks.run (N : Nat) (x : (List (Int)) × Unit) : runF cx (look (spec_textLooks.phis N)) spec_textLooks.A N (bodyOf Tryd.f54) Tryd.f54.results.toList spec_textLooks.sg x = spec_textLooks N x.1 := by
  have h : runF cx (look (spec_textLooks.phis N)) spec_textLooks.A N (bodyOf Tryd.f54) Tryd.f54.results.toList spec_textLooks.sg x = spec_textLooks.B N x.1 := by kernel_rfl
  rw [h]
  try rfl
noncomputable def spec_textLooks.sm (N : Nat) : Sm D := (⟨spec_textLooks.sg, fun (x : (List (Int)) × Unit) => spec_textLooks N x.1⟩ : Sm D)
theorem spec_textLooks.sound (N : Nat) : Sound cx Tryd.prog gam 54 (spec_textLooks.sm N) := fn_sound (A := spec_textLooks.A) (Φ := (look (spec_textLooks.phis N))) pok (G := gam) ΦOk.nil mixed N Tryd.func54 (c := (bodyOf Tryd.f54)) (by kernel_rfl) spec_textLooks.sg (by kernel_rfl) (by kernel_rfl) (by kernel_rfl) (spec_textLooks.run N)

@[reducible] def spec_hasInt.sg : Sg := { ms := [{ k := (.sl (.int .i64)), fl := [none] }, { k := (.int .i64) }], keep := [false, false], rs := [{ k := .bool }] }
@[reducible] def spec_hasInt.lvL0 : Lv := { id := 0, slots := [0, 1, 5], ms := [{ k := (.sl (.int .i64)), fl := [none] }, { k := (.int .i64) }, { k := (.int .i64) }] }
noncomputable def spec_hasInt.A : Ann := { dp := fun d => isIn [] d, lp := look [(0, spec_hasInt.lvL0)], jn := look [], pins := [], nt := 18 }
noncomputable def spec_hasInt.phis (N : Nat) : List (Nat × Sm D) := []
noncomputable def spec_hasInt.a0 (N : Nat) (n : Nat) (y : (List (Int)) × Int × Int × Unit) : Option (Bool × Unit) := loopAt cx (look (spec_hasInt.phis N)) spec_hasInt.A N n (encL cx spec_hasInt.lvL0.ms y).1 (encL cx spec_hasInt.lvL0.ms y).2 (bodyOf Tryd.f67) 0 (Kfin cx spec_hasInt.A spec_hasInt.sg Tryd.f67.results.toList) [1, 0, 1, 1] []
theorem spec_hasInt.r0 (N : Nat) : ∀ (n : Nat) (y : (List (Int)) × Int × Int × Unit), spec_hasInt.a0 N n y = spec_hasInt.L0 N n y
  | 0, y => by kernel_rfl
  | n + 1, y => by
    have h : spec_hasInt.a0 N (n + 1) y = spec_hasInt.B0 N (fun z => spec_hasInt.a0 N n z) y := by kernel_rfl
    have e : (fun z => spec_hasInt.a0 N n z) = spec_hasInt.L0 N n := funext fun z => spec_hasInt.r0 N n z
    rw [h]
    try rw [e]
    first | done | rfl
theorem spec_hasInt.run (N : Nat) (x : (List (Int)) × Int × Unit) : runF cx (look (spec_hasInt.phis N)) spec_hasInt.A N (bodyOf Tryd.f67) Tryd.f67.results.toList spec_hasInt.sg x = spec_hasInt N x.1 x.2.1 := by
  have h : runF cx (look (spec_hasInt.phis N)) spec_hasInt.A N (bodyOf Tryd.f67) Tryd.f67.results.toList spec_hasInt.sg x = spec_hasInt.B N (fun z => spec_hasInt.a0 N N z) x.1 x.2.1 := by kernel_rfl
  have e0 : (fun z => spec_hasInt.a0 N N z) = spec_hasInt.L0 N N := funext fun z => spec_hasInt.r0 N N z
  rw [h, e0]
  try rfl
noncomputable def spec_hasInt.sm (N : Nat) : Sm D := (⟨spec_hasInt.sg, fun (x : (List (Int)) × Int × Unit) => spec_hasInt N x.1 x.2.1⟩ : Sm D)
theorem spec_hasInt.sound (N : Nat) : Sound cx Tryd.prog gam 67 (spec_hasInt.sm N) := fn_sound (A := spec_hasInt.A) (Φ := (look (spec_hasInt.phis N))) pok (G := gam) ΦOk.nil mixed N Tryd.func67 (c := (bodyOf Tryd.f67)) (by kernel_rfl) spec_hasInt.sg (by kernel_rfl) (by kernel_rfl) (by kernel_rfl) (spec_hasInt.run N)

@[reducible] def spec_propAt.sg : Sg := { ms := [{ k := (.sl (.st 74)), fl := [none] }, { k := (.int .i64) }], keep := [false, false], rs := [{ k := (.int .i64) }] }
@[reducible] def spec_propAt.lvL0 : Lv := { id := 0, slots := [0, 1, 5], ms := [{ k := (.sl (.st 74)), fl := [none] }, { k := (.int .i64) }, { k := (.int .i64) }] }
noncomputable def spec_propAt.A : Ann := { dp := fun d => isIn [] d, lp := look [(0, spec_propAt.lvL0)], jn := look [], pins := [], nt := 20 }
noncomputable def spec_propAt.phis (N : Nat) : List (Nat × Sm D) := []
noncomputable def spec_propAt.a0 (N : Nat) (n : Nat) (y : (List (ImplProp)) × Int × Int × Unit) : Option (Int × Unit) := loopAt cx (look (spec_propAt.phis N)) spec_propAt.A N n (encL cx spec_propAt.lvL0.ms y).1 (encL cx spec_propAt.lvL0.ms y).2 (bodyOf Tryd.f68) 0 (Kfin cx spec_propAt.A spec_propAt.sg Tryd.f68.results.toList) [1, 0, 1, 1] []
theorem spec_propAt.r0 (N : Nat) : ∀ (n : Nat) (y : (List (ImplProp)) × Int × Int × Unit), spec_propAt.a0 N n y = spec_propAt.L0 N n y
  | 0, y => by kernel_rfl
  | n + 1, y => by
    have h : spec_propAt.a0 N (n + 1) y = spec_propAt.B0 N (fun z => spec_propAt.a0 N n z) y := by kernel_rfl
    have e : (fun z => spec_propAt.a0 N n z) = spec_propAt.L0 N n := funext fun z => spec_propAt.r0 N n z
    rw [h]
    try rw [e]
    first | done | rfl
theorem spec_propAt.run (N : Nat) (x : (List (ImplProp)) × Int × Unit) : runF cx (look (spec_propAt.phis N)) spec_propAt.A N (bodyOf Tryd.f68) Tryd.f68.results.toList spec_propAt.sg x = spec_propAt N x.1 x.2.1 := by
  have h : runF cx (look (spec_propAt.phis N)) spec_propAt.A N (bodyOf Tryd.f68) Tryd.f68.results.toList spec_propAt.sg x = spec_propAt.B N (fun z => spec_propAt.a0 N N z) x.1 x.2.1 := by kernel_rfl
  have e0 : (fun z => spec_propAt.a0 N N z) = spec_propAt.L0 N N := funext fun z => spec_propAt.r0 N N z
  rw [h, e0]
  try rfl
noncomputable def spec_propAt.sm (N : Nat) : Sm D := (⟨spec_propAt.sg, fun (x : (List (ImplProp)) × Int × Unit) => spec_propAt N x.1 x.2.1⟩ : Sm D)
theorem spec_propAt.sound (N : Nat) : Sound cx Tryd.prog gam 68 (spec_propAt.sm N) := fn_sound (A := spec_propAt.A) (Φ := (look (spec_propAt.phis N))) pok (G := gam) ΦOk.nil mixed N Tryd.func68 (c := (bodyOf Tryd.f68)) (by kernel_rfl) spec_propAt.sg (by kernel_rfl) (by kernel_rfl) (by kernel_rfl) (spec_propAt.run N)

@[reducible] def spec_meets.sg : Sg := { ms := [{ k := (.st 57) }, { k := (.st 32) }, { k := (.sl (.int .i64)), fl := [none] }], keep := [false, false, false], rs := [{ k := .bool }] }
noncomputable def spec_meets.A : Ann := { dp := fun d => isIn [] d, lp := look [], jn := look [], pins := [], nt := 51 }
noncomputable def spec_meets.phis (N : Nat) : List (Nat × Sm D) := [(67, spec_hasInt.sm N), (68, spec_propAt.sm N)]
theorem spec_meets.run (N : Nat) (x : ImplRule × ImplTree × (List (Int)) × Unit) : runF cx (look (spec_meets.phis N)) spec_meets.A N (bodyOf Tryd.f63) Tryd.f63.results.toList spec_meets.sg x = spec_meets N x.1 x.2.1 x.2.2.1 := by
  have h : runF cx (look (spec_meets.phis N)) spec_meets.A N (bodyOf Tryd.f63) Tryd.f63.results.toList spec_meets.sg x = spec_meets.B N x.1 x.2.1 x.2.2.1 := by kernel_rfl
  rw [h]
  try rfl
noncomputable def spec_meets.sm (N : Nat) : Sm D := (⟨spec_meets.sg, fun (x : ImplRule × ImplTree × (List (Int)) × Unit) => spec_meets N x.1 x.2.1 x.2.2.1⟩ : Sm D)
theorem spec_meets.sound (N : Nat) : Sound cx Tryd.prog gam 63 (spec_meets.sm N) := fn_sound (A := spec_meets.A) (Φ := (look (spec_meets.phis N))) pok (G := gam) (ΦOk.cons (spec_hasInt.sound N) (fnOk_of (f := 67) (by kernel_rfl)) (ΦOk.cons (spec_propAt.sound N) (fnOk_of (f := 68) (by kernel_rfl)) ΦOk.nil)) mixed N Tryd.func63 (c := (bodyOf Tryd.f63)) (by kernel_rfl) spec_meets.sg (by kernel_rfl) (by kernel_rfl) (by kernel_rfl) (spec_meets.run N)

@[reducible] def spec_weight.sg : Sg := { ms := [{ k := (.st 57) }], keep := [false], rs := [{ k := (.int .i64) }] }
@[reducible] def spec_weight.lvJ6 : Lv := { id := 6, slots := [1, 3], ms := [{ ptr := true, id := 600, t := 58, k := (.st 57), fl := [none, none, none, none, none, none, none, none] }, { k := (.int .i64) }] }
@[reducible] def spec_weight.lvJ4 : Lv := { id := 4, slots := [1, 3], ms := [{ ptr := true, id := 600, t := 58, k := (.st 57), fl := [none, none, none, none, none, none, none, none] }, { k := (.int .i64) }] }
noncomputable def spec_weight.A : Ann := { dp := fun d => isIn [] d, lp := look [], jn := look [(6, spec_weight.lvJ6), (4, spec_weight.lvJ4)], pins := [], nt := 20 }
noncomputable def spec_weight.phis (N : Nat) : List (Nat × Sm D) := []
theorem spec_weight.run (N : Nat) (x : ImplRule × Unit) : runF cx (look (spec_weight.phis N)) spec_weight.A N (bodyOf Tryd.f64) Tryd.f64.results.toList spec_weight.sg x = spec_weight N x.1 := by
  have h : runF cx (look (spec_weight.phis N)) spec_weight.A N (bodyOf Tryd.f64) Tryd.f64.results.toList spec_weight.sg x = spec_weight.B N x.1 := by kernel_rfl
  rw [h]
  try rfl
noncomputable def spec_weight.sm (N : Nat) : Sm D := (⟨spec_weight.sg, fun (x : ImplRule × Unit) => spec_weight N x.1⟩ : Sm D)
theorem spec_weight.sound (N : Nat) : Sound cx Tryd.prog gam 64 (spec_weight.sm N) := fn_sound (A := spec_weight.A) (Φ := (look (spec_weight.phis N))) pok (G := gam) ΦOk.nil mixed N Tryd.func64 (c := (bodyOf Tryd.f64)) (by kernel_rfl) spec_weight.sg (by kernel_rfl) (by kernel_rfl) (by kernel_rfl) (spec_weight.run N)

@[reducible] def spec_looks.sg : Sg := { ms := [{ k := (.sl (.st 57)), fl := [none] }, { k := (.st 32) }, { k := (.sl (.int .i64)), fl := [none] }, { k := (.sl (.int .i64)), fl := [none] }], keep := [false, false, false, false], rs := [{ k := (.sl (.int .i64)), fl := [none] }], hold := true }
@[reducible] def spec_looks.lvL0 : Lv := { id := 0, slots := [0, 2, 5, 9, 10, 11], ms := [{ k := (.sl (.st 57)), fl := [none] }, { k := (.sl (.int .i64)), fl := [none] }, { ptr := true, id := 640, t := 33, k := (.st 32), fl := [none, none, none, none, none] }, { k := (.sl (.int .i64)), fl := [some (false, 660)] }, { k := (.sl (.int .i64)), fl := [some (false, 680)] }, { k := (.int .i64) }] }
noncomputable def spec_looks.A : Ann := { dp := fun d => isIn [] d, lp := look [(0, spec_looks.lvL0)], jn := look [], pins := [], nt := 59 }
noncomputable def spec_looks.phis (N : Nat) : List (Nat × Sm D) := [(63, spec_meets.sm N), (64, spec_weight.sm N)]
noncomputable def spec_looks.a0 (N : Nat) (n : Nat) (y : (List (ImplRule)) × (List (Int)) × ImplTree × (List (Int)) × (List (Int)) × Int × Unit) : Option ((List (Int)) × Unit) := loopAt cx (look (spec_looks.phis N)) spec_looks.A N n (encL cx spec_looks.lvL0.ms y).1 (encL cx spec_looks.lvL0.ms y).2 (bodyOf Tryd.f55) 0 (Kfin cx spec_looks.A spec_looks.sg Tryd.f55.results.toList) [1, 1, 1, 1, 0, 1, 1] []
theorem spec_looks.r0 (N : Nat) : ∀ (n : Nat) (y : (List (ImplRule)) × (List (Int)) × ImplTree × (List (Int)) × (List (Int)) × Int × Unit), spec_looks.a0 N n y = spec_looks.L0 N n y
  | 0, y => by kernel_rfl
  | n + 1, y => by
    have h : spec_looks.a0 N (n + 1) y = spec_looks.B0 N (fun z => spec_looks.a0 N n z) y := by kernel_rfl
    have e : (fun z => spec_looks.a0 N n z) = spec_looks.L0 N n := funext fun z => spec_looks.r0 N n z
    rw [h]
    try rw [e]
    first | done | rfl
theorem spec_looks.run (N : Nat) (x : (List (ImplRule)) × ImplTree × (List (Int)) × (List (Int)) × Unit) : runF cx (look (spec_looks.phis N)) spec_looks.A N (bodyOf Tryd.f55) Tryd.f55.results.toList spec_looks.sg x = spec_looks N x.1 x.2.1 x.2.2.1 x.2.2.2.1 := by
  have h : runF cx (look (spec_looks.phis N)) spec_looks.A N (bodyOf Tryd.f55) Tryd.f55.results.toList spec_looks.sg x = spec_looks.B N (fun z => spec_looks.a0 N N z) x.1 x.2.1 x.2.2.1 x.2.2.2.1 := by kernel_rfl
  have e0 : (fun z => spec_looks.a0 N N z) = spec_looks.L0 N N := funext fun z => spec_looks.r0 N N z
  rw [h, e0]
  try rfl
noncomputable def spec_looks.sm (N : Nat) : Sm D := (⟨spec_looks.sg, fun (x : (List (ImplRule)) × ImplTree × (List (Int)) × (List (Int)) × Unit) => spec_looks N x.1 x.2.1 x.2.2.1 x.2.2.2.1⟩ : Sm D)
theorem spec_looks.sound (N : Nat) : Sound cx Tryd.prog gam 55 (spec_looks.sm N) := fn_sound (A := spec_looks.A) (Φ := (look (spec_looks.phis N))) pok (G := gam) (ΦOk.cons (spec_meets.sound N) (fnOk_of (f := 63) (by kernel_rfl)) (ΦOk.cons (spec_weight.sound N) (fnOk_of (f := 64) (by kernel_rfl)) ΦOk.nil)) mixed N Tryd.func55 (c := (bodyOf Tryd.f55)) (by kernel_rfl) spec_looks.sg (by kernel_rfl) (by kernel_rfl) (by kernel_rfl) (spec_looks.run N)

@[reducible] def spec_looksOf.sg : Sg := { ms := [{ k := (.sl (.st 57)), fl := [none] }, { k := (.st 32) }, { k := (.sl (.int .i64)), fl := [none] }, { k := (.sl (.int .i64)), fl := [none] }], keep := [false, false, false, false], rs := [{ k := (.sl (.int .i64)), fl := [none] }], hold := true }
noncomputable def spec_looksOf.A : Ann := { dp := fun d => isIn [] d, lp := look [], jn := look [], pins := [], nt := 19 }
noncomputable def spec_looksOf.phis (N : Nat) : List (Nat × Sm D) := [(54, spec_textLooks.sm N), (55, spec_looks.sm N)]
theorem spec_looksOf.run (N : Nat) (x : (List (ImplRule)) × ImplTree × (List (Int)) × (List (Int)) × Unit) : runF cx (look (spec_looksOf.phis N)) spec_looksOf.A N (bodyOf Tryd.f44) Tryd.f44.results.toList spec_looksOf.sg x = spec_looksOf N x.1 x.2.1 x.2.2.1 x.2.2.2.1 := by
  have h : runF cx (look (spec_looksOf.phis N)) spec_looksOf.A N (bodyOf Tryd.f44) Tryd.f44.results.toList spec_looksOf.sg x = spec_looksOf.B N x.1 x.2.1 x.2.2.1 x.2.2.2.1 := by kernel_rfl
  rw [h]
  try rfl
noncomputable def spec_looksOf.sm (N : Nat) : Sm D := (⟨spec_looksOf.sg, fun (x : (List (ImplRule)) × ImplTree × (List (Int)) × (List (Int)) × Unit) => spec_looksOf N x.1 x.2.1 x.2.2.1 x.2.2.2.1⟩ : Sm D)
theorem spec_looksOf.sound (N : Nat) : Sound cx Tryd.prog gam 44 (spec_looksOf.sm N) := fn_sound (A := spec_looksOf.A) (Φ := (look (spec_looksOf.phis N))) pok (G := gam) (ΦOk.cons (spec_textLooks.sound N) (fnOk_of (f := 54) (by kernel_rfl)) (ΦOk.cons (spec_looks.sound N) (fnOk_of (f := 55) (by kernel_rfl)) ΦOk.nil)) mixed N Tryd.func44 (c := (bodyOf Tryd.f44)) (by kernel_rfl) spec_looksOf.sg (by kernel_rfl) (by kernel_rfl) (by kernel_rfl) (spec_looksOf.run N)

@[reducible] def spec_textBox.sg : Sg := { ms := [{ k := (.int .i64) }, { k := (.int .i64) }], keep := [false, false], rs := [{ k := (.int .i64) }, { k := (.int .i64) }] }
noncomputable def spec_textBox.A : Ann := { dp := fun d => isIn [] d, lp := look [], jn := look [], pins := [], nt := 21 }
noncomputable def spec_textBox.phis (N : Nat) : List (Nat × Sm D) := []
theorem spec_textBox.run (N : Nat) (x : Int × Int × Unit) : runF cx (look (spec_textBox.phis N)) spec_textBox.A N (bodyOf Tryd.f45) Tryd.f45.results.toList spec_textBox.sg x = spec_textBox N x.1 x.2.1 := by
  have h : runF cx (look (spec_textBox.phis N)) spec_textBox.A N (bodyOf Tryd.f45) Tryd.f45.results.toList spec_textBox.sg x = spec_textBox.B N x.1 x.2.1 := by kernel_rfl
  rw [h]
  try rfl
noncomputable def spec_textBox.sm (N : Nat) : Sm D := (⟨spec_textBox.sg, fun (x : Int × Int × Unit) => spec_textBox N x.1 x.2.1⟩ : Sm D)
theorem spec_textBox.sound (N : Nat) : Sound cx Tryd.prog gam 45 (spec_textBox.sm N) := fn_sound (A := spec_textBox.A) (Φ := (look (spec_textBox.phis N))) pok (G := gam) ΦOk.nil mixed N Tryd.func45 (c := (bodyOf Tryd.f45)) (by kernel_rfl) spec_textBox.sg (by kernel_rfl) (by kernel_rfl) (by kernel_rfl) (spec_textBox.run N)

@[reducible] def spec_placer_wishes.sg : Sg := { ms := [{ ptr := true, id := 10, t := 71, k := (.st 70), fl := [none, some (false, 12)] }, { k := (.sl (.st 32)), fl := [none] }, { k := (.sl (.int .i64)), fl := [none] }, { k := (.sl (.int .i64)), fl := [none] }, { k := (.int .i64) }], keep := [true, false, false, false, false], rs := [{ k := (.sl (.int .i64)), fl := [none] }], hold := true }
@[reducible] def spec_placer_wishes.lvL2 : Lv := { id := 2, slots := [0, 1, 2, 3, 11, 12, 13, 16], ms := [{ ptr := true, id := 10, t := 71, k := (.st 70), fl := [none, some (false, 602)] }, { k := (.sl (.st 32)), fl := [none] }, { k := (.sl (.int .i64)), fl := [none] }, { k := (.sl (.int .i64)), fl := [none] }, { k := (.sl (.int .i64)), fl := [some (false, 680)] }, { k := (.int .i64) }, { k := (.int .i64) }, { k := (.int .i64) }] }
@[reducible] def spec_placer_wishes.lvL0 : Lv := { id := 0, slots := [0, 1, 2, 3, 11, 12, 13, 14], ms := [{ ptr := true, id := 10, t := 71, k := (.st 70), fl := [none, some (false, 602)] }, { k := (.sl (.st 32)), fl := [none] }, { k := (.sl (.int .i64)), fl := [none] }, { k := (.sl (.int .i64)), fl := [none] }, { k := (.sl (.int .i64)), fl := [some (false, 680)] }, { k := (.int .i64) }, { k := (.int .i64) }, { k := (.int .i64) }] }
noncomputable def spec_placer_wishes.A : Ann := { dp := fun d => isIn [] d, lp := look [(2, spec_placer_wishes.lvL2), (0, spec_placer_wishes.lvL0)], jn := look [], pins := [10], nt := 94 }
noncomputable def spec_placer_wishes.phis (N : Nat) : List (Nat × Sm D) := [(44, spec_looksOf.sm N)]
noncomputable def spec_placer_wishes.a2 (N : Nat) (n : Nat) (y : SpecPlacer × (List (ImplTree)) × (List (Int)) × (List (Int)) × (List (Int)) × Int × Int × Int × Unit) : Option (SpecPlacer × (List (Int)) × Unit) := loopAt cx (look (spec_placer_wishes.phis N)) spec_placer_wishes.A N n (encL cx spec_placer_wishes.lvL2.ms y).1 (encL cx spec_placer_wishes.lvL2.ms y).2 (bodyOf Tryd.f56) 0 (Kfin cx spec_placer_wishes.A spec_placer_wishes.sg Tryd.f56.results.toList) [1, 1, 1, 1, 1, 0, 1, 1] []
noncomputable def spec_placer_wishes.a0 (N : Nat) (n : Nat) (y : SpecPlacer × (List (ImplTree)) × (List (Int)) × (List (Int)) × (List (Int)) × Int × Int × Int × Unit) : Option (SpecPlacer × (List (Int)) × Unit) := loopAt cx (look (spec_placer_wishes.phis N)) spec_placer_wishes.A N n (encL cx spec_placer_wishes.lvL0.ms y).1 (encL cx spec_placer_wishes.lvL0.ms y).2 (bodyOf Tryd.f56) 0 (Kfin cx spec_placer_wishes.A spec_placer_wishes.sg Tryd.f56.results.toList) [1, 1, 1, 1, 0, 1, 1] []
theorem spec_placer_wishes.r2 (N : Nat) : ∀ (n : Nat) (y : SpecPlacer × (List (ImplTree)) × (List (Int)) × (List (Int)) × (List (Int)) × Int × Int × Int × Unit), spec_placer_wishes.a2 N n y = spec_placer_wishes.L2 N n y
  | 0, y => by kernel_rfl
  | n + 1, y => by
    have h : spec_placer_wishes.a2 N (n + 1) y = spec_placer_wishes.B2 N (fun z => spec_placer_wishes.a2 N n z) y := by kernel_rfl
    have e : (fun z => spec_placer_wishes.a2 N n z) = spec_placer_wishes.L2 N n := funext fun z => spec_placer_wishes.r2 N n z
    rw [h]
    try rw [e]
    first | done | rfl
theorem spec_placer_wishes.r0 (N : Nat) : ∀ (n : Nat) (y : SpecPlacer × (List (ImplTree)) × (List (Int)) × (List (Int)) × (List (Int)) × Int × Int × Int × Unit), spec_placer_wishes.a0 N n y = spec_placer_wishes.L0 N n y
  | 0, y => by kernel_rfl
  | n + 1, y => by
    have h : spec_placer_wishes.a0 N (n + 1) y = spec_placer_wishes.B0 N (fun z => spec_placer_wishes.a0 N n z) (fun z => spec_placer_wishes.a2 N N z) y := by kernel_rfl
    have e : (fun z => spec_placer_wishes.a0 N n z) = spec_placer_wishes.L0 N n := funext fun z => spec_placer_wishes.r0 N n z
    have e2 : (fun z => spec_placer_wishes.a2 N N z) = spec_placer_wishes.L2 N N := funext fun z => spec_placer_wishes.r2 N N z
    rw [h, e2]
    try rw [e]
    first | done | rfl
theorem spec_placer_wishes.run (N : Nat) (x : SpecPlacer × (List (ImplTree)) × (List (Int)) × (List (Int)) × Int × Unit) : runF cx (look (spec_placer_wishes.phis N)) spec_placer_wishes.A N (bodyOf Tryd.f56) Tryd.f56.results.toList spec_placer_wishes.sg x = spec_placer_wishes N x.1 x.2.1 x.2.2.1 x.2.2.2.1 x.2.2.2.2.1 := by
  have h : runF cx (look (spec_placer_wishes.phis N)) spec_placer_wishes.A N (bodyOf Tryd.f56) Tryd.f56.results.toList spec_placer_wishes.sg x = spec_placer_wishes.B N (fun z => spec_placer_wishes.a0 N N z) x.1 x.2.1 x.2.2.1 x.2.2.2.1 x.2.2.2.2.1 := by kernel_rfl
  have e0 : (fun z => spec_placer_wishes.a0 N N z) = spec_placer_wishes.L0 N N := funext fun z => spec_placer_wishes.r0 N N z
  rw [h, e0]
  try rfl
noncomputable def spec_placer_wishes.sm (N : Nat) : Sm D := (⟨spec_placer_wishes.sg, fun (x : SpecPlacer × (List (ImplTree)) × (List (Int)) × (List (Int)) × Int × Unit) => spec_placer_wishes N x.1 x.2.1 x.2.2.1 x.2.2.2.1 x.2.2.2.2.1⟩ : Sm D)
theorem spec_placer_wishes.sound (N : Nat) : Sound cx Tryd.prog gam 56 (spec_placer_wishes.sm N) := fn_sound (A := spec_placer_wishes.A) (Φ := (look (spec_placer_wishes.phis N))) pok (G := gam) (ΦOk.cons (spec_looksOf.sound N) (fnOk_of (f := 44) (by kernel_rfl)) ΦOk.nil) mixed N Tryd.func56 (c := (bodyOf Tryd.f56)) (by kernel_rfl) spec_placer_wishes.sg (by kernel_rfl) (by kernel_rfl) (by kernel_rfl) (spec_placer_wishes.run N)

@[reducible] def spec_placer_down.sg : Sg := { ms := [{ ptr := true, id := 10, t := 71, k := (.st 70), fl := [none, some (false, 12)] }, { k := (.sl (.st 32)), fl := [none] }, { k := (.sl (.int .i64)), fl := [none] }, { k := (.sl (.int .i64)), fl := [none] }, { k := (.int .i64) }, { k := (.int .i64) }, { k := (.int .i64) }], keep := [true, false, false, false, false, false, false], rs := [{ k := (.int .i64) }], hold := true }
@[reducible] def spec_placer_across.sg : Sg := { ms := [{ ptr := true, id := 10, t := 71, k := (.st 70), fl := [none, some (false, 12)] }, { k := (.sl (.st 32)), fl := [none] }, { k := (.sl (.int .i64)), fl := [none] }, { k := (.sl (.int .i64)), fl := [none] }, { k := (.int .i64) }, { k := (.int .i64) }, { k := (.int .i64) }], keep := [true, false, false, false, false, false, false], rs := [{ k := (.int .i64) }], hold := true }
@[reducible] def spec_placer_part.sg : Sg := { ms := [{ ptr := true, id := 10, t := 71, k := (.st 70), fl := [none, some (false, 12)] }, { k := (.st 32) }, { k := (.sl (.int .i64)), fl := [none] }, { k := (.sl (.int .i64)), fl := [none] }, { k := (.int .i64) }, { k := (.int .i64) }, { k := (.int .i64) }], keep := [true, false, false, false, false, false, false], rs := [{ k := (.st 50) }], hold := true }
@[reducible] def spec_placer_down.lvL0 : Lv := { id := 0, slots := [0, 1, 2, 3, 4, 5, 6, 15, 16], ms := [{ ptr := true, id := 10, t := 71, k := (.st 70), fl := [none, some (false, 602)] }, { k := (.sl (.st 32)), fl := [none] }, { k := (.sl (.int .i64)), fl := [none] }, { k := (.sl (.int .i64)), fl := [none] }, { k := (.int .i64) }, { k := (.int .i64) }, { k := (.int .i64) }, { k := (.int .i64) }, { k := (.int .i64) }] }
noncomputable def spec_placer_down.A : Ann := { dp := fun d => isIn [] d, lp := look [(0, spec_placer_down.lvL0)], jn := look [], pins := [10], nt := 42 }
noncomputable def spec_placer_down.phis (N : Nat) (d : Nat) : List (Nat × Sm D) := [(31, (⟨spec_placer_part.sg, fun (x : SpecPlacer × ImplTree × (List (Int)) × (List (Int)) × Int × Int × Int × Unit) => spec_placer_part.R N d x.1 x.2.1 x.2.2.1 x.2.2.2.1 x.2.2.2.2.1 x.2.2.2.2.2.1 x.2.2.2.2.2.2.1⟩ : Sm D))]
noncomputable def spec_placer_down.a0 (N : Nat) (d : Nat) (n : Nat) (y : SpecPlacer × (List (ImplTree)) × (List (Int)) × (List (Int)) × Int × Int × Int × Int × Int × Unit) : Option (SpecPlacer × Int × Unit) := loopAt cx (look (spec_placer_down.phis N d)) spec_placer_down.A N n (encL cx spec_placer_down.lvL0.ms y).1 (encL cx spec_placer_down.lvL0.ms y).2 (bodyOf Tryd.f47) 0 (Kfin cx spec_placer_down.A spec_placer_down.sg Tryd.f47.results.toList) [1, 1, 0, 1, 1] []
theorem spec_placer_down.r0 (N : Nat) (d : Nat) : ∀ (n : Nat) (y : SpecPlacer × (List (ImplTree)) × (List (Int)) × (List (Int)) × Int × Int × Int × Int × Int × Unit), spec_placer_down.a0 N d n y = spec_placer_down.L0 N (spec_placer_down.R N d) (spec_placer_across.R N d) (spec_placer_part.R N d) n y
  | 0, y => by kernel_rfl
  | n + 1, y => by
    have h : spec_placer_down.a0 N d (n + 1) y = spec_placer_down.B0 N (spec_placer_down.R N d) (spec_placer_across.R N d) (spec_placer_part.R N d) (fun z => spec_placer_down.a0 N d n z) y := by kernel_rfl
    have e : (fun z => spec_placer_down.a0 N d n z) = spec_placer_down.L0 N (spec_placer_down.R N d) (spec_placer_across.R N d) (spec_placer_part.R N d) n := funext fun z => spec_placer_down.r0 N d n z
    rw [h]
    try rw [e]
    first | done | rfl
theorem spec_placer_down.run (N : Nat) (d : Nat) (x : SpecPlacer × (List (ImplTree)) × (List (Int)) × (List (Int)) × Int × Int × Int × Unit) : runF cx (look (spec_placer_down.phis N d)) spec_placer_down.A N (bodyOf Tryd.f47) Tryd.f47.results.toList spec_placer_down.sg x = spec_placer_down.R N (d + 1) x.1 x.2.1 x.2.2.1 x.2.2.2.1 x.2.2.2.2.1 x.2.2.2.2.2.1 x.2.2.2.2.2.2.1 := by
  have h : runF cx (look (spec_placer_down.phis N d)) spec_placer_down.A N (bodyOf Tryd.f47) Tryd.f47.results.toList spec_placer_down.sg x = spec_placer_down.B N (spec_placer_down.R N d) (spec_placer_across.R N d) (spec_placer_part.R N d) (fun z => spec_placer_down.a0 N d N z) x.1 x.2.1 x.2.2.1 x.2.2.2.1 x.2.2.2.2.1 x.2.2.2.2.2.1 x.2.2.2.2.2.2.1 := by kernel_rfl
  have e0 : (fun z => spec_placer_down.a0 N d N z) = spec_placer_down.L0 N (spec_placer_down.R N d) (spec_placer_across.R N d) (spec_placer_part.R N d) N := funext fun z => spec_placer_down.r0 N d N z
  rw [h, e0]
  try rfl
theorem spec_placer_down.step (N : Nat) (d : Nat) (h_spec_placer_part : Sound cx Tryd.prog gam 31 (⟨spec_placer_part.sg, fun (x : SpecPlacer × ImplTree × (List (Int)) × (List (Int)) × Int × Int × Int × Unit) => spec_placer_part.R N d x.1 x.2.1 x.2.2.1 x.2.2.2.1 x.2.2.2.2.1 x.2.2.2.2.2.1 x.2.2.2.2.2.2.1⟩ : Sm D)) : Sound cx Tryd.prog gam 47 (⟨spec_placer_down.sg, fun (x : SpecPlacer × (List (ImplTree)) × (List (Int)) × (List (Int)) × Int × Int × Int × Unit) => spec_placer_down.R N (d + 1) x.1 x.2.1 x.2.2.1 x.2.2.2.1 x.2.2.2.2.1 x.2.2.2.2.2.1 x.2.2.2.2.2.2.1⟩ : Sm D) := fn_sound (A := spec_placer_down.A) (Φ := (look (spec_placer_down.phis N d))) pok (G := gam) (ΦOk.cons h_spec_placer_part (fnOk_of (f := 31) (by kernel_rfl)) ΦOk.nil) mixed N Tryd.func47 (c := (bodyOf Tryd.f47)) (by kernel_rfl) spec_placer_down.sg (by kernel_rfl) (by kernel_rfl) (by kernel_rfl) (spec_placer_down.run N d)

end
end Go.Ev
