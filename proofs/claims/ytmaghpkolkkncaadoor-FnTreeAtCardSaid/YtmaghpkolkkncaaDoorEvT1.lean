/- Each function that the law reaches does what its plain form says; no condition beyond the table of the library. -/
import Derived.Test.YtmaghpkolkkncaaDoorEvT0
set_option linter.all false
set_option linter.unusedVariables false
set_option linter.unusedSimpArgs false
set_option maxRecDepth 100000
set_option maxHeartbeats 0
namespace Go.Ev
noncomputable section
open Go.Proofs
@[reducible] def spec_treeSize.sg : Sg := { ms := [{ k := (.st 25) }, { k := (.int .i64) }], keep := [false, false], rs := [{ k := (.int .i64) }] }
@[reducible] def spec_treeSize.lvL0 : Lv := { id := 0, slots := [1, 2, 5, 6], ms := [{ k := (.int .i64) }, { ptr := true, id := 620, t := 26, k := (.st 25), fl := [none, none, none, none, none] }, { k := (.int .i64) }, { k := (.int .i64) }] }
noncomputable def spec_treeSize.A : Ann := { dp := fun d => isIn [] d, lp := look [(0, spec_treeSize.lvL0)], jn := look [], pins := [], nt := 32 }
noncomputable def spec_treeSize.phis (N : Nat) (d : Nat) : List (Nat × Sm D) := [(52, (⟨spec_treeSize.sg, fun (x : ImplTree × Int × Unit) => spec_treeSize.R N d x.1 x.2.1⟩ : Sm D))]
noncomputable def spec_treeSize.a0 (N : Nat) (d : Nat) (n : Nat) (y : Int × ImplTree × Int × Int × Unit) : Option (Int × Unit) := loopAt cx (look (spec_treeSize.phis N d)) spec_treeSize.A N n (encL cx spec_treeSize.lvL0.ms y).1 (encL cx spec_treeSize.lvL0.ms y).2 (bodyOf Tryd.f52) 0 (Kfin cx spec_treeSize.A spec_treeSize.sg Tryd.f52.results.toList) [1, 1, 1, 0, 1, 1] []
theorem spec_treeSize.r0 (N : Nat) (d : Nat) : ∀ (n : Nat) (y : Int × ImplTree × Int × Int × Unit), spec_treeSize.a0 N d n y = spec_treeSize.L0 N (spec_treeSize.R N d) n y
  | 0, y => by kernel_rfl
  | n + 1, y => by
    have h : spec_treeSize.a0 N d (n + 1) y = spec_treeSize.B0 N (spec_treeSize.R N d) (fun z => spec_treeSize.a0 N d n z) y := by kernel_rfl
    have e : (fun z => spec_treeSize.a0 N d n z) = spec_treeSize.L0 N (spec_treeSize.R N d) n := funext fun z => spec_treeSize.r0 N d n z
    rw [h]
    try rw [e]
    first | done | rfl
theorem spec_treeSize.run (N : Nat) (d : Nat) (x : ImplTree × Int × Unit) : runF cx (look (spec_treeSize.phis N d)) spec_treeSize.A N (bodyOf Tryd.f52) Tryd.f52.results.toList spec_treeSize.sg x = spec_treeSize.R N (d + 1) x.1 x.2.1 := by
  have h : runF cx (look (spec_treeSize.phis N d)) spec_treeSize.A N (bodyOf Tryd.f52) Tryd.f52.results.toList spec_treeSize.sg x = spec_treeSize.B N (spec_treeSize.R N d) (fun z => spec_treeSize.a0 N d N z) x.1 x.2.1 := by kernel_rfl
  have e0 : (fun z => spec_treeSize.a0 N d N z) = spec_treeSize.L0 N (spec_treeSize.R N d) N := funext fun z => spec_treeSize.r0 N d N z
  rw [h, e0]
  try rfl
theorem spec_treeSize.step (N : Nat) (d : Nat) (h_spec_treeSize : Sound cx Tryd.prog gam 52 (⟨spec_treeSize.sg, fun (x : ImplTree × Int × Unit) => spec_treeSize.R N d x.1 x.2.1⟩ : Sm D)) : Sound cx Tryd.prog gam 52 (⟨spec_treeSize.sg, fun (x : ImplTree × Int × Unit) => spec_treeSize.R N (d + 1) x.1 x.2.1⟩ : Sm D) := fn_sound (A := spec_treeSize.A) (Φ := (look (spec_treeSize.phis N d))) pok (G := gam) (ΦOk.cons h_spec_treeSize (fnOk_of (f := 52) (by kernel_rfl)) ΦOk.nil) mixed N Tryd.func52 (c := (bodyOf Tryd.f52)) (by kernel_rfl) spec_treeSize.sg (by kernel_rfl) (by kernel_rfl) (by kernel_rfl) (spec_treeSize.run N d)

theorem spec_treeSize.scc (N : Nat) : ∀ d, Sound cx Tryd.prog gam 52 (⟨spec_treeSize.sg, fun (x : ImplTree × Int × Unit) => spec_treeSize.R N d x.1 x.2.1⟩ : Sm D)
  | 0 => none_sound 52 spec_treeSize.sg
  | d + 1 => by
    have ih := spec_treeSize.scc N d
    exact spec_treeSize.step N d ih
noncomputable def spec_treeSize.sm (N : Nat) : Sm D := (⟨spec_treeSize.sg, fun (x : ImplTree × Int × Unit) => spec_treeSize.R N N x.1 x.2.1⟩ : Sm D)
theorem spec_treeSize.sound (N : Nat) : Sound cx Tryd.prog gam 52 (spec_treeSize.sm N) := (spec_treeSize.scc N N)
@[reducible] def spec_decimal.sg : Sg := { ms := [{ k := (.int .i64) }], keep := [false], rs := [{ k := .str }] }
noncomputable def spec_decimal.A : Ann := { dp := fun d => isIn [] d, lp := look [], jn := look [], pins := [], nt := 22 }
noncomputable def spec_decimal.phis (N : Nat) (d : Nat) : List (Nat × Sm D) := [(75, (⟨spec_decimal.sg, fun (x : Int × Unit) => spec_decimal.R N d x.1⟩ : Sm D))]
theorem spec_decimal.run (N : Nat) (d : Nat) (x : Int × Unit) : runF cx (look (spec_decimal.phis N d)) spec_decimal.A N (bodyOf Tryd.f75) Tryd.f75.results.toList spec_decimal.sg x = spec_decimal.R N (d + 1) x.1 := by
  have h : runF cx (look (spec_decimal.phis N d)) spec_decimal.A N (bodyOf Tryd.f75) Tryd.f75.results.toList spec_decimal.sg x = spec_decimal.B N (spec_decimal.R N d) x.1 := by kernel_rfl
  rw [h]
  try rfl
theorem spec_decimal.step (N : Nat) (d : Nat) (h_spec_decimal : Sound cx Tryd.prog gam 75 (⟨spec_decimal.sg, fun (x : Int × Unit) => spec_decimal.R N d x.1⟩ : Sm D)) : Sound cx Tryd.prog gam 75 (⟨spec_decimal.sg, fun (x : Int × Unit) => spec_decimal.R N (d + 1) x.1⟩ : Sm D) := fn_sound (A := spec_decimal.A) (Φ := (look (spec_decimal.phis N d))) pok (G := gam) (ΦOk.cons h_spec_decimal (fnOk_of (f := 75) (by kernel_rfl)) ΦOk.nil) mixed N Tryd.func75 (c := (bodyOf Tryd.f75)) (by kernel_rfl) spec_decimal.sg (by kernel_rfl) (by kernel_rfl) (by kernel_rfl) (spec_decimal.run N d)

theorem spec_decimal.scc (N : Nat) : ∀ d, Sound cx Tryd.prog gam 75 (⟨spec_decimal.sg, fun (x : Int × Unit) => spec_decimal.R N d x.1⟩ : Sm D)
  | 0 => none_sound 75 spec_decimal.sg
  | d + 1 => by
    have ih := spec_decimal.scc N d
    exact spec_decimal.step N d ih
noncomputable def spec_decimal.sm (N : Nat) : Sm D := (⟨spec_decimal.sg, fun (x : Int × Unit) => spec_decimal.R N N x.1⟩ : Sm D)
theorem spec_decimal.sound (N : Nat) : Sound cx Tryd.prog gam 75 (spec_decimal.sm N) := (spec_decimal.scc N N)
@[reducible] def spec_validShown.sg : Sg := { ms := [{ k := .str }], keep := [false], rs := [{ k := .bool }] }
@[reducible] def spec_validShown.lvL0 : Lv := { id := 0, slots := [0, 3], ms := [{ k := .str }, { k := (.int .i64) }] }
noncomputable def spec_validShown.A : Ann := { dp := fun d => isIn [] d, lp := look [(0, spec_validShown.lvL0)], jn := look [], pins := [], nt := 23 }
noncomputable def spec_validShown.phis (N : Nat) : List (Nat × Sm D) := [(105, spec_validWord.sm N), (75, spec_decimal.sm N)]
noncomputable def spec_validShown.a0 (N : Nat) (n : Nat) (y : (List UInt8) × Int × Unit) : Option (Bool × Unit) := loopAt cx (look (spec_validShown.phis N)) spec_validShown.A N n (encL cx spec_validShown.lvL0.ms y).1 (encL cx spec_validShown.lvL0.ms y).2 (bodyOf Tryd.f93) 0 (Kfin cx spec_validShown.A spec_validShown.sg Tryd.f93.results.toList) [1, 1, 0, 1, 1] []
theorem spec_validShown.r0 (N : Nat) : ∀ (n : Nat) (y : (List UInt8) × Int × Unit), spec_validShown.a0 N n y = spec_validShown.L0 N n y
  | 0, y => by kernel_rfl
  | n + 1, y => by
    have h : spec_validShown.a0 N (n + 1) y = spec_validShown.B0 N (fun z => spec_validShown.a0 N n z) y := by kernel_rfl
    have e : (fun z => spec_validShown.a0 N n z) = spec_validShown.L0 N n := funext fun z => spec_validShown.r0 N n z
    rw [h]
    try rw [e]
    first | done | rfl
theorem spec_validShown.run (N : Nat) (x : (List UInt8) × Unit) : runF cx (look (spec_validShown.phis N)) spec_validShown.A N (bodyOf Tryd.f93) Tryd.f93.results.toList spec_validShown.sg x = spec_validShown N x.1 := by
  have h : runF cx (look (spec_validShown.phis N)) spec_validShown.A N (bodyOf Tryd.f93) Tryd.f93.results.toList spec_validShown.sg x = spec_validShown.B N (fun z => spec_validShown.a0 N N z) x.1 := by kernel_rfl
  have e0 : (fun z => spec_validShown.a0 N N z) = spec_validShown.L0 N N := funext fun z => spec_validShown.r0 N N z
  rw [h, e0]
  try rfl
noncomputable def spec_validShown.sm (N : Nat) : Sm D := (⟨spec_validShown.sg, fun (x : (List UInt8) × Unit) => spec_validShown N x.1⟩ : Sm D)
theorem spec_validShown.sound (N : Nat) : Sound cx Tryd.prog gam 93 (spec_validShown.sm N) := fn_sound (A := spec_validShown.A) (Φ := (look (spec_validShown.phis N))) pok (G := gam) (ΦOk.cons (spec_validWord.sound N) (fnOk_of (f := 105) (by kernel_rfl)) (ΦOk.cons (spec_decimal.sound N) (fnOk_of (f := 75) (by kernel_rfl)) ΦOk.nil)) mixed N Tryd.func93 (c := (bodyOf Tryd.f93)) (by kernel_rfl) spec_validShown.sg (by kernel_rfl) (by kernel_rfl) (by kernel_rfl) (spec_validShown.run N)

@[reducible] def spec_validPropList.sg : Sg := { ms := [{ k := (.sl (.st 83)), fl := [none] }], keep := [false], rs := [{ k := .bool }] }
@[reducible] def spec_validPropList.lvL0 : Lv := { id := 0, slots := [0, 3], ms := [{ k := (.sl (.st 83)), fl := [none] }, { k := (.int .i64) }] }
noncomputable def spec_validPropList.A : Ann := { dp := fun d => isIn [] d, lp := look [(0, spec_validPropList.lvL0)], jn := look [], pins := [], nt := 44 }
noncomputable def spec_validPropList.phis (N : Nat) : List (Nat × Sm D) := [(63, spec_inRange.sm N), (103, spec_validValue.sm N)]
noncomputable def spec_validPropList.a0 (N : Nat) (n : Nat) (y : (List (ImplProp)) × Int × Unit) : Option (Bool × Unit) := loopAt cx (look (spec_validPropList.phis N)) spec_validPropList.A N n (encL cx spec_validPropList.lvL0.ms y).1 (encL cx spec_validPropList.lvL0.ms y).2 (bodyOf Tryd.f94) 0 (Kfin cx spec_validPropList.A spec_validPropList.sg Tryd.f94.results.toList) [1, 0, 1, 1] []
theorem spec_validPropList.r0 (N : Nat) : ∀ (n : Nat) (y : (List (ImplProp)) × Int × Unit), spec_validPropList.a0 N n y = spec_validPropList.L0 N n y
  | 0, y => by kernel_rfl
  | n + 1, y => by
    have h : spec_validPropList.a0 N (n + 1) y = spec_validPropList.B0 N (fun z => spec_validPropList.a0 N n z) y := by kernel_rfl
    have e : (fun z => spec_validPropList.a0 N n z) = spec_validPropList.L0 N n := funext fun z => spec_validPropList.r0 N n z
    rw [h]
    try rw [e]
    first | done | rfl
theorem spec_validPropList.run (N : Nat) (x : (List (ImplProp)) × Unit) : runF cx (look (spec_validPropList.phis N)) spec_validPropList.A N (bodyOf Tryd.f94) Tryd.f94.results.toList spec_validPropList.sg x = spec_validPropList N x.1 := by
  have h : runF cx (look (spec_validPropList.phis N)) spec_validPropList.A N (bodyOf Tryd.f94) Tryd.f94.results.toList spec_validPropList.sg x = spec_validPropList.B N (fun z => spec_validPropList.a0 N N z) x.1 := by kernel_rfl
  have e0 : (fun z => spec_validPropList.a0 N N z) = spec_validPropList.L0 N N := funext fun z => spec_validPropList.r0 N N z
  rw [h, e0]
  try rfl
noncomputable def spec_validPropList.sm (N : Nat) : Sm D := (⟨spec_validPropList.sg, fun (x : (List (ImplProp)) × Unit) => spec_validPropList N x.1⟩ : Sm D)
theorem spec_validPropList.sound (N : Nat) : Sound cx Tryd.prog gam 94 (spec_validPropList.sm N) := fn_sound (A := spec_validPropList.A) (Φ := (look (spec_validPropList.phis N))) pok (G := gam) (ΦOk.cons (spec_inRange.sound N) (fnOk_of (f := 63) (by kernel_rfl)) (ΦOk.cons (spec_validValue.sound N) (fnOk_of (f := 103) (by kernel_rfl)) ΦOk.nil)) mixed N Tryd.func94 (c := (bodyOf Tryd.f94)) (by kernel_rfl) spec_validPropList.sg (by kernel_rfl) (by kernel_rfl) (by kernel_rfl) (spec_validPropList.run N)

@[reducible] def spec_keysApart.sg : Sg := { ms := [{ k := (.sl (.st 25)), fl := [none] }], keep := [false], rs := [{ k := .bool }] }
@[reducible] def spec_keysApart.lvL2 : Lv := { id := 2, slots := [0, 3, 4], ms := [{ k := (.sl (.st 25)), fl := [none] }, { k := (.int .i64) }, { k := (.int .i64) }] }
@[reducible] def spec_keysApart.lvL0 : Lv := { id := 0, slots := [0, 3], ms := [{ k := (.sl (.st 25)), fl := [none] }, { k := (.int .i64) }] }
noncomputable def spec_keysApart.A : Ann := { dp := fun d => isIn [] d, lp := look [(2, spec_keysApart.lvL2), (0, spec_keysApart.lvL0)], jn := look [], pins := [], nt := 35 }
noncomputable def spec_keysApart.phis (N : Nat) : List (Nat × Sm D) := []
noncomputable def spec_keysApart.a2 (N : Nat) (m0 : Nat) (n : Nat) (y : (List (ImplTree)) × Int × Int × Unit) : Option (Bool × Unit) := loopAt cx (look (spec_keysApart.phis N)) spec_keysApart.A N n (encL cx spec_keysApart.lvL2.ms y).1 (encL cx spec_keysApart.lvL2.ms y).2 (bodyOf Tryd.f95) 0 (Kfin cx spec_keysApart.A spec_keysApart.sg Tryd.f95.results.toList) [1, 0, 1, 1, 1, 1, 0, 1, 1, 1] [m0]
noncomputable def spec_keysApart.a0 (N : Nat) (n : Nat) (y : (List (ImplTree)) × Int × Unit) : Option (Bool × Unit) := loopAt cx (look (spec_keysApart.phis N)) spec_keysApart.A N n (encL cx spec_keysApart.lvL0.ms y).1 (encL cx spec_keysApart.lvL0.ms y).2 (bodyOf Tryd.f95) 0 (Kfin cx spec_keysApart.A spec_keysApart.sg Tryd.f95.results.toList) [1, 0, 1, 1] []
theorem spec_keysApart.r2 (N : Nat) (m0 : Nat) : ∀ (n : Nat) (y : (List (ImplTree)) × Int × Int × Unit), spec_keysApart.a2 N m0 n y = spec_keysApart.L2 N (fun z => spec_keysApart.a0 N m0 z) n y
  | 0, y => by kernel_rfl
  | n + 1, y => by
    have h : spec_keysApart.a2 N m0 (n + 1) y = spec_keysApart.B2 N (fun z => spec_keysApart.a0 N m0 z) (fun z => spec_keysApart.a2 N m0 n z) y := by kernel_rfl
    have e : (fun z => spec_keysApart.a2 N m0 n z) = spec_keysApart.L2 N (fun z => spec_keysApart.a0 N m0 z) n := funext fun z => spec_keysApart.r2 N m0 n z
    rw [h]
    try rw [e]
    first | done | rfl
theorem spec_keysApart.r0 (N : Nat) : ∀ (n : Nat) (y : (List (ImplTree)) × Int × Unit), spec_keysApart.a0 N n y = spec_keysApart.L0 N n y
  | 0, y => by kernel_rfl
  | n + 1, y => by
    have h : spec_keysApart.a0 N (n + 1) y = spec_keysApart.B0 N (fun z => spec_keysApart.a2 N n N z) y := by kernel_rfl
    have e : (fun z => spec_keysApart.a0 N n z) = spec_keysApart.L0 N n := funext fun z => spec_keysApart.r0 N n z
    have e2 : (fun z => spec_keysApart.a2 N n N z) = spec_keysApart.L2 N (fun z => spec_keysApart.a0 N n z) N := funext fun z => spec_keysApart.r2 N n N z
    rw [h, e2]
    try rw [e]
    first | done | rfl
theorem spec_keysApart.run (N : Nat) (x : (List (ImplTree)) × Unit) : runF cx (look (spec_keysApart.phis N)) spec_keysApart.A N (bodyOf Tryd.f95) Tryd.f95.results.toList spec_keysApart.sg x = spec_keysApart N x.1 := by
  have h : runF cx (look (spec_keysApart.phis N)) spec_keysApart.A N (bodyOf Tryd.f95) Tryd.f95.results.toList spec_keysApart.sg x = spec_keysApart.B N (fun z => spec_keysApart.a0 N N z) x.1 := by kernel_rfl
  have e0 : (fun z => spec_keysApart.a0 N N z) = spec_keysApart.L0 N N := funext fun z => spec_keysApart.r0 N N z
  rw [h, e0]
  try rfl
noncomputable def spec_keysApart.sm (N : Nat) : Sm D := (⟨spec_keysApart.sg, fun (x : (List (ImplTree)) × Unit) => spec_keysApart N x.1⟩ : Sm D)
theorem spec_keysApart.sound (N : Nat) : Sound cx Tryd.prog gam 95 (spec_keysApart.sm N) := fn_sound (A := spec_keysApart.A) (Φ := (look (spec_keysApart.phis N))) pok (G := gam) ΦOk.nil mixed N Tryd.func95 (c := (bodyOf Tryd.f95)) (by kernel_rfl) spec_keysApart.sg (by kernel_rfl) (by kernel_rfl) (by kernel_rfl) (spec_keysApart.run N)

@[reducible] def spec_validPart.sg : Sg := { ms := [{ k := (.st 25) }], keep := [false], rs := [{ k := .bool }] }
@[reducible] def spec_validPart.lvL0 : Lv := { id := 0, slots := [1, 3], ms := [{ ptr := true, id := 600, t := 26, k := (.st 25), fl := [none, none, none, none, none] }, { k := (.int .i64) }] }
noncomputable def spec_validPart.A : Ann := { dp := fun d => isIn [] d, lp := look [(0, spec_validPart.lvL0)], jn := look [], pins := [], nt := 65 }
noncomputable def spec_validPart.phis (N : Nat) (d : Nat) : List (Nat × Sm D) := [(93, spec_validShown.sm N), (63, spec_inRange.sm N), (94, spec_validPropList.sm N), (74, (⟨spec_validPart.sg, fun (x : ImplTree × Unit) => spec_validPart.R N d x.1⟩ : Sm D)), (95, spec_keysApart.sm N)]
noncomputable def spec_validPart.a0 (N : Nat) (d : Nat) (n : Nat) (y : ImplTree × Int × Unit) : Option (Bool × Unit) := loopAt cx (look (spec_validPart.phis N d)) spec_validPart.A N n (encL cx spec_validPart.lvL0.ms y).1 (encL cx spec_validPart.lvL0.ms y).2 (bodyOf Tryd.f74) 0 (Kfin cx spec_validPart.A spec_validPart.sg Tryd.f74.results.toList) [1, 1, 1, 0, 1, 1] []
theorem spec_validPart.r0 (N : Nat) (d : Nat) : ∀ (n : Nat) (y : ImplTree × Int × Unit), spec_validPart.a0 N d n y = spec_validPart.L0 N (spec_validPart.R N d) n y
  | 0, y => by kernel_rfl
  | n + 1, y => by
    have h : spec_validPart.a0 N d (n + 1) y = spec_validPart.B0 N (spec_validPart.R N d) (fun z => spec_validPart.a0 N d n z) y := by kernel_rfl
    have e : (fun z => spec_validPart.a0 N d n z) = spec_validPart.L0 N (spec_validPart.R N d) n := funext fun z => spec_validPart.r0 N d n z
    rw [h]
    try rw [e]
    first | done | rfl
theorem spec_validPart.run (N : Nat) (d : Nat) (x : ImplTree × Unit) : runF cx (look (spec_validPart.phis N d)) spec_validPart.A N (bodyOf Tryd.f74) Tryd.f74.results.toList spec_validPart.sg x = spec_validPart.R N (d + 1) x.1 := by
  have h : runF cx (look (spec_validPart.phis N d)) spec_validPart.A N (bodyOf Tryd.f74) Tryd.f74.results.toList spec_validPart.sg x = spec_validPart.B N (spec_validPart.R N d) (fun z => spec_validPart.a0 N d N z) x.1 := by kernel_rfl
  have e0 : (fun z => spec_validPart.a0 N d N z) = spec_validPart.L0 N (spec_validPart.R N d) N := funext fun z => spec_validPart.r0 N d N z
  rw [h, e0]
  try rfl
theorem spec_validPart.step (N : Nat) (d : Nat) (h_spec_validPart : Sound cx Tryd.prog gam 74 (⟨spec_validPart.sg, fun (x : ImplTree × Unit) => spec_validPart.R N d x.1⟩ : Sm D)) : Sound cx Tryd.prog gam 74 (⟨spec_validPart.sg, fun (x : ImplTree × Unit) => spec_validPart.R N (d + 1) x.1⟩ : Sm D) := fn_sound (A := spec_validPart.A) (Φ := (look (spec_validPart.phis N d))) pok (G := gam) (ΦOk.cons (spec_validShown.sound N) (fnOk_of (f := 93) (by kernel_rfl)) (ΦOk.cons (spec_inRange.sound N) (fnOk_of (f := 63) (by kernel_rfl)) (ΦOk.cons (spec_validPropList.sound N) (fnOk_of (f := 94) (by kernel_rfl)) (ΦOk.cons h_spec_validPart (fnOk_of (f := 74) (by kernel_rfl)) (ΦOk.cons (spec_keysApart.sound N) (fnOk_of (f := 95) (by kernel_rfl)) ΦOk.nil))))) mixed N Tryd.func74 (c := (bodyOf Tryd.f74)) (by kernel_rfl) spec_validPart.sg (by kernel_rfl) (by kernel_rfl) (by kernel_rfl) (spec_validPart.run N d)

theorem spec_validPart.scc (N : Nat) : ∀ d, Sound cx Tryd.prog gam 74 (⟨spec_validPart.sg, fun (x : ImplTree × Unit) => spec_validPart.R N d x.1⟩ : Sm D)
  | 0 => none_sound 74 spec_validPart.sg
  | d + 1 => by
    have ih := spec_validPart.scc N d
    exact spec_validPart.step N d ih
noncomputable def spec_validPart.sm (N : Nat) : Sm D := (⟨spec_validPart.sg, fun (x : ImplTree × Unit) => spec_validPart.R N N x.1⟩ : Sm D)
theorem spec_validPart.sound (N : Nat) : Sound cx Tryd.prog gam 74 (spec_validPart.sm N) := (spec_validPart.scc N N)
@[reducible] def spec_validTree.sg : Sg := { ms := [{ k := (.st 25) }], keep := [false], rs := [{ k := .bool }] }
noncomputable def spec_validTree.A : Ann := { dp := fun d => isIn [] d, lp := look [], jn := look [], pins := [], nt := 10 }
noncomputable def spec_validTree.phis (N : Nat) : List (Nat × Sm D) := [(52, spec_treeSize.sm N), (74, spec_validPart.sm N)]
theorem spec_validTree.run (N : Nat) (x : ImplTree × Unit) : runF cx (look (spec_validTree.phis N)) spec_validTree.A N (bodyOf Tryd.f43) Tryd.f43.results.toList spec_validTree.sg x = spec_validTree N x.1 := by
  have h : runF cx (look (spec_validTree.phis N)) spec_validTree.A N (bodyOf Tryd.f43) Tryd.f43.results.toList spec_validTree.sg x = spec_validTree.B N x.1 := by kernel_rfl
  rw [h]
  try rfl
noncomputable def spec_validTree.sm (N : Nat) : Sm D := (⟨spec_validTree.sg, fun (x : ImplTree × Unit) => spec_validTree N x.1⟩ : Sm D)
theorem spec_validTree.sound (N : Nat) : Sound cx Tryd.prog gam 43 (spec_validTree.sm N) := fn_sound (A := spec_validTree.A) (Φ := (look (spec_validTree.phis N))) pok (G := gam) (ΦOk.cons (spec_treeSize.sound N) (fnOk_of (f := 52) (by kernel_rfl)) (ΦOk.cons (spec_validPart.sound N) (fnOk_of (f := 74) (by kernel_rfl)) ΦOk.nil)) mixed N Tryd.func43 (c := (bodyOf Tryd.f43)) (by kernel_rfl) spec_validTree.sg (by kernel_rfl) (by kernel_rfl) (by kernel_rfl) (spec_validTree.run N)

@[reducible] def spec_source_way.sg : Sg := { ms := [{ ptr := true, id := 10, t := 78, k := (.st 77) }, { k := (.st 25) }], keep := [true, false], rs := [{ k := (.sl (.int .i64)), fl := [none] }], hold := true }
@[reducible] def spec_source_way.lvL0 : Lv := { id := 0, slots := [0, 3, 5], ms := [{ ptr := true, id := 10, t := 78, k := (.st 77), fl := [none, none, none] }, { ptr := true, id := 620, t := 26, k := (.st 25), fl := [none, none, none, none, none] }, { k := (.sl (.int .i64)), fl := [some (false, 640)] }] }
noncomputable def spec_source_way.A : Ann := { dp := fun d => isIn [] d, lp := look [(0, spec_source_way.lvL0)], jn := look [], pins := [10], nt := 40 }
noncomputable def spec_source_way.phis (N : Nat) : List (Nat × Sm D) := [(61, spec_source_pick.sm N), (82, spec_source_rarely.sm N), (60, spec_source_one.sm N)]
noncomputable def spec_source_way.a0 (N : Nat) (n : Nat) (y : SpecSource × ImplTree × (List (Int)) × Unit) : Option (SpecSource × (List (Int)) × Unit) := loopAt cx (look (spec_source_way.phis N)) spec_source_way.A N n (encL cx spec_source_way.lvL0.ms y).1 (encL cx spec_source_way.lvL0.ms y).2 (bodyOf Tryd.f54) 0 (Kfin cx spec_source_way.A spec_source_way.sg Tryd.f54.results.toList) [1, 1, 0, 1] []
theorem spec_source_way.r0 (N : Nat) : ∀ (n : Nat) (y : SpecSource × ImplTree × (List (Int)) × Unit), spec_source_way.a0 N n y = spec_source_way.L0 N n y
  | 0, y => by kernel_rfl
  | n + 1, y => by
    have h : spec_source_way.a0 N (n + 1) y = spec_source_way.B0 N (fun z => spec_source_way.a0 N n z) y := by kernel_rfl
    have e : (fun z => spec_source_way.a0 N n z) = spec_source_way.L0 N n := funext fun z => spec_source_way.r0 N n z
    rw [h]
    try rw [e]
    first | done | rfl
theorem spec_source_way.run (N : Nat) (x : SpecSource × ImplTree × Unit) : runF cx (look (spec_source_way.phis N)) spec_source_way.A N (bodyOf Tryd.f54) Tryd.f54.results.toList spec_source_way.sg x = spec_source_way N x.1 x.2.1 := by
  have h : runF cx (look (spec_source_way.phis N)) spec_source_way.A N (bodyOf Tryd.f54) Tryd.f54.results.toList spec_source_way.sg x = spec_source_way.B N (fun z => spec_source_way.a0 N N z) x.1 x.2.1 := by kernel_rfl
  have e0 : (fun z => spec_source_way.a0 N N z) = spec_source_way.L0 N N := funext fun z => spec_source_way.r0 N N z
  rw [h, e0]
  try rfl
noncomputable def spec_source_way.sm (N : Nat) : Sm D := (⟨spec_source_way.sg, fun (x : SpecSource × ImplTree × Unit) => spec_source_way N x.1 x.2.1⟩ : Sm D)
theorem spec_source_way.sound (N : Nat) : Sound cx Tryd.prog gam 54 (spec_source_way.sm N) := fn_sound (A := spec_source_way.A) (Φ := (look (spec_source_way.phis N))) pok (G := gam) (ΦOk.cons (spec_source_pick.sound N) (fnOk_of (f := 61) (by kernel_rfl)) (ΦOk.cons (spec_source_rarely.sound N) (fnOk_of (f := 82) (by kernel_rfl)) (ΦOk.cons (spec_source_one.sound N) (fnOk_of (f := 60) (by kernel_rfl)) ΦOk.nil))) mixed N Tryd.func54 (c := (bodyOf Tryd.f54)) (by kernel_rfl) spec_source_way.sg (by kernel_rfl) (by kernel_rfl) (by kernel_rfl) (spec_source_way.run N)

@[reducible] def spec_DrawTreeAt.sg : Sg := { ms := [{ k := (.sl (.int .u8)), fl := [none] }], keep := [false], rs := [{ k := (.st 25) }, { k := (.sl (.int .i64)), fl := [none] }], hold := true }
noncomputable def spec_DrawTreeAt.A : Ann := { dp := fun d => isIn [] d, lp := look [], jn := look [], pins := [], nt := 14 }
noncomputable def spec_DrawTreeAt.phis (N : Nat) : List (Nat × Sm D) := [(40, spec_newSource.sm N), (41, spec_source_whole.sm N), (54, spec_source_way.sm N)]
theorem spec_DrawTreeAt.run (N : Nat) (x : (List (Int)) × Unit) : runF cx (look (spec_DrawTreeAt.phis N)) spec_DrawTreeAt.A N (bodyOf Tryd.f23) Tryd.f23.results.toList spec_DrawTreeAt.sg x = spec_DrawTreeAt N x.1 := by
  have h : runF cx (look (spec_DrawTreeAt.phis N)) spec_DrawTreeAt.A N (bodyOf Tryd.f23) Tryd.f23.results.toList spec_DrawTreeAt.sg x = spec_DrawTreeAt.B N x.1 := by kernel_rfl
  rw [h]
  try rfl
noncomputable def spec_DrawTreeAt.sm (N : Nat) : Sm D := (⟨spec_DrawTreeAt.sg, fun (x : (List (Int)) × Unit) => spec_DrawTreeAt N x.1⟩ : Sm D)
theorem spec_DrawTreeAt.sound (N : Nat) : Sound cx Tryd.prog gam 23 (spec_DrawTreeAt.sm N) := fn_sound (A := spec_DrawTreeAt.A) (Φ := (look (spec_DrawTreeAt.phis N))) pok (G := gam) (ΦOk.cons (spec_newSource.sound N) (fnOk_of (f := 40) (by kernel_rfl)) (ΦOk.cons (spec_source_whole.sound N) (fnOk_of (f := 41) (by kernel_rfl)) (ΦOk.cons (spec_source_way.sound N) (fnOk_of (f := 54) (by kernel_rfl)) ΦOk.nil))) mixed N Tryd.func23 (c := (bodyOf Tryd.f23)) (by kernel_rfl) spec_DrawTreeAt.sg (by kernel_rfl) (by kernel_rfl) (by kernel_rfl) (spec_DrawTreeAt.run N)

@[reducible] def impl_treesCopy.sg : Sg := { ms := [{ k := (.sl (.st 25)), fl := [none] }], keep := [false], rs := [{ k := (.sl (.st 25)), fl := [none] }], hold := true }
@[reducible] def impl_treeCopy.sg : Sg := { ms := [{ k := (.st 25) }], keep := [false], rs := [{ k := (.st 25) }], hold := true }
@[reducible] def impl_treesCopy.lvL0 : Lv := { id := 0, slots := [3, 6, 7, 8], ms := [{ k := (.sl (.st 25)), fl := [some (false, 600)] }, { k := (.sl (.st 25)), fl := [none] }, { k := (.int .i64) }, { k := (.int .i64) }] }
noncomputable def impl_treesCopy.A : Ann := { dp := fun d => isIn [] d, lp := look [(0, impl_treesCopy.lvL0)], jn := look [], pins := [], nt := 19 }
noncomputable def impl_treesCopy.phis (N : Nat) (d : Nat) : List (Nat × Sm D) := [(56, (⟨impl_treeCopy.sg, fun (x : ImplTree × Unit) => impl_treeCopy.R N d x.1⟩ : Sm D))]
noncomputable def impl_treesCopy.a0 (N : Nat) (d : Nat) (n : Nat) (y : (List (ImplTree)) × (List (ImplTree)) × Int × Int × Unit) : Option ((List (ImplTree)) × Unit) := loopAt cx (look (impl_treesCopy.phis N d)) impl_treesCopy.A N n (encL cx impl_treesCopy.lvL0.ms y).1 (encL cx impl_treesCopy.lvL0.ms y).2 (bodyOf Tryd.f83) 0 (Kfin cx impl_treesCopy.A impl_treesCopy.sg Tryd.f83.results.toList) [1, 1, 0, 1, 1] []
theorem impl_treesCopy.r0 (N : Nat) (d : Nat) : ∀ (n : Nat) (y : (List (ImplTree)) × (List (ImplTree)) × Int × Int × Unit), impl_treesCopy.a0 N d n y = impl_treesCopy.L0 N (impl_treesCopy.R N d) (impl_treeCopy.R N d) n y
  | 0, y => by kernel_rfl
  | n + 1, y => by
    have h : impl_treesCopy.a0 N d (n + 1) y = impl_treesCopy.B0 N (impl_treesCopy.R N d) (impl_treeCopy.R N d) (fun z => impl_treesCopy.a0 N d n z) y := by kernel_rfl
    have e : (fun z => impl_treesCopy.a0 N d n z) = impl_treesCopy.L0 N (impl_treesCopy.R N d) (impl_treeCopy.R N d) n := funext fun z => impl_treesCopy.r0 N d n z
    rw [h]
    try rw [e]
    first | done | rfl
theorem impl_treesCopy.run (N : Nat) (d : Nat) (x : (List (ImplTree)) × Unit) : runF cx (look (impl_treesCopy.phis N d)) impl_treesCopy.A N (bodyOf Tryd.f83) Tryd.f83.results.toList impl_treesCopy.sg x = impl_treesCopy.R N (d + 1) x.1 := by
  have h : runF cx (look (impl_treesCopy.phis N d)) impl_treesCopy.A N (bodyOf Tryd.f83) Tryd.f83.results.toList impl_treesCopy.sg x = impl_treesCopy.B N (impl_treesCopy.R N d) (impl_treeCopy.R N d) (fun z => impl_treesCopy.a0 N d N z) x.1 := by kernel_rfl
  have e0 : (fun z => impl_treesCopy.a0 N d N z) = impl_treesCopy.L0 N (impl_treesCopy.R N d) (impl_treeCopy.R N d) N := funext fun z => impl_treesCopy.r0 N d N z
  rw [h, e0]
  try rfl
theorem impl_treesCopy.step (N : Nat) (d : Nat) (h_impl_treeCopy : Sound cx Tryd.prog gam 56 (⟨impl_treeCopy.sg, fun (x : ImplTree × Unit) => impl_treeCopy.R N d x.1⟩ : Sm D)) : Sound cx Tryd.prog gam 83 (⟨impl_treesCopy.sg, fun (x : (List (ImplTree)) × Unit) => impl_treesCopy.R N (d + 1) x.1⟩ : Sm D) := fn_sound (A := impl_treesCopy.A) (Φ := (look (impl_treesCopy.phis N d))) pok (G := gam) (ΦOk.cons h_impl_treeCopy (fnOk_of (f := 56) (by kernel_rfl)) ΦOk.nil) mixed N Tryd.func83 (c := (bodyOf Tryd.f83)) (by kernel_rfl) impl_treesCopy.sg (by kernel_rfl) (by kernel_rfl) (by kernel_rfl) (impl_treesCopy.run N d)

noncomputable def impl_treeCopy.A : Ann := { dp := fun d => isIn [] d, lp := look [], jn := look [], pins := [], nt := 14 }
noncomputable def impl_treeCopy.phis (N : Nat) (d : Nat) : List (Nat × Sm D) := [(83, (⟨impl_treesCopy.sg, fun (x : (List (ImplTree)) × Unit) => impl_treesCopy.R N d x.1⟩ : Sm D))]
theorem impl_treeCopy.run (N : Nat) (d : Nat) (x : ImplTree × Unit) : runF cx (look (impl_treeCopy.phis N d)) impl_treeCopy.A N (bodyOf Tryd.f56) Tryd.f56.results.toList impl_treeCopy.sg x = impl_treeCopy.R N (d + 1) x.1 := by
  have h : runF cx (look (impl_treeCopy.phis N d)) impl_treeCopy.A N (bodyOf Tryd.f56) Tryd.f56.results.toList impl_treeCopy.sg x = impl_treeCopy.B N (impl_treesCopy.R N d) (impl_treeCopy.R N d) x.1 := by kernel_rfl
  rw [h]
  try rfl
theorem impl_treeCopy.step (N : Nat) (d : Nat) (h_impl_treesCopy : Sound cx Tryd.prog gam 83 (⟨impl_treesCopy.sg, fun (x : (List (ImplTree)) × Unit) => impl_treesCopy.R N d x.1⟩ : Sm D)) : Sound cx Tryd.prog gam 56 (⟨impl_treeCopy.sg, fun (x : ImplTree × Unit) => impl_treeCopy.R N (d + 1) x.1⟩ : Sm D) := fn_sound (A := impl_treeCopy.A) (Φ := (look (impl_treeCopy.phis N d))) pok (G := gam) (ΦOk.cons h_impl_treesCopy (fnOk_of (f := 83) (by kernel_rfl)) ΦOk.nil) mixed N Tryd.func56 (c := (bodyOf Tryd.f56)) (by kernel_rfl) impl_treeCopy.sg (by kernel_rfl) (by kernel_rfl) (by kernel_rfl) (impl_treeCopy.run N d)

theorem impl_treesCopy.scc (N : Nat) : ∀ d, Sound cx Tryd.prog gam 83 (⟨impl_treesCopy.sg, fun (x : (List (ImplTree)) × Unit) => impl_treesCopy.R N d x.1⟩ : Sm D) ∧ Sound cx Tryd.prog gam 56 (⟨impl_treeCopy.sg, fun (x : ImplTree × Unit) => impl_treeCopy.R N d x.1⟩ : Sm D)
  | 0 => ⟨none_sound 83 impl_treesCopy.sg, none_sound 56 impl_treeCopy.sg⟩
  | d + 1 => by
    have ih := impl_treesCopy.scc N d
    obtain ⟨ih0, ih1⟩ := ih
    exact ⟨impl_treesCopy.step N d ih1, impl_treeCopy.step N d ih0⟩
noncomputable def impl_treesCopy.sm (N : Nat) : Sm D := (⟨impl_treesCopy.sg, fun (x : (List (ImplTree)) × Unit) => impl_treesCopy.R N N x.1⟩ : Sm D)
theorem impl_treesCopy.sound (N : Nat) : Sound cx Tryd.prog gam 83 (impl_treesCopy.sm N) := (impl_treesCopy.scc N N).1
noncomputable def impl_treeCopy.sm (N : Nat) : Sm D := (⟨impl_treeCopy.sg, fun (x : ImplTree × Unit) => impl_treeCopy.R N N x.1⟩ : Sm D)
theorem impl_treeCopy.sound (N : Nat) : Sound cx Tryd.prog gam 56 (impl_treeCopy.sm N) := (impl_treesCopy.scc N N).2
@[reducible] def impl_TreeAt.sg : Sg := { ms := [{ k := (.st 25) }, { k := (.sl (.int .i64)), fl := [none] }], keep := [false, false], rs := [{ k := (.st 25) }, { k := .bool }], hold := true }
@[reducible] def impl_TreeAt.lvL0 : Lv := { id := 0, slots := [2, 4, 12, 13, 14], ms := [{ ptr := true, id := 600, t := 26, k := (.st 25), fl := [none, none, none, none, none] }, { ptr := true, id := 620, t := 26, k := (.st 25), fl := [none, none, none, some (false, 624), some (false, 625)] }, { k := (.sl (.int .i64)), fl := [none] }, { k := (.int .i64) }, { k := (.int .i64) }] }
noncomputable def impl_TreeAt.A : Ann := { dp := fun d => isIn [] d, lp := look [(0, impl_TreeAt.lvL0)], jn := look [], pins := [], nt := 34 }
noncomputable def impl_TreeAt.phis (N : Nat) : List (Nat × Sm D) := [(19, impl_TreeOk.sm N), (55, impl_within.sm N), (56, impl_treeCopy.sm N)]
noncomputable def impl_TreeAt.a0 (N : Nat) (n : Nat) (y : ImplTree × ImplTree × (List (Int)) × Int × Int × Unit) : Option (ImplTree × Bool × Unit) := loopAt cx (look (impl_TreeAt.phis N)) impl_TreeAt.A N n (encL cx impl_TreeAt.lvL0.ms y).1 (encL cx impl_TreeAt.lvL0.ms y).2 (bodyOf Tryd.f24) 0 (Kfin cx impl_TreeAt.A impl_TreeAt.sg Tryd.f24.results.toList) [1, 1, 0, 1, 1] []
theorem impl_TreeAt.r0 (N : Nat) : ∀ (n : Nat) (y : ImplTree × ImplTree × (List (Int)) × Int × Int × Unit), impl_TreeAt.a0 N n y = impl_TreeAt.L0 N n y
  | 0, y => by kernel_rfl
  | n + 1, y => by
    have h : impl_TreeAt.a0 N (n + 1) y = impl_TreeAt.B0 N (fun z => impl_TreeAt.a0 N n z) y := by kernel_rfl
    have e : (fun z => impl_TreeAt.a0 N n z) = impl_TreeAt.L0 N n := funext fun z => impl_TreeAt.r0 N n z
    rw [h]
    try rw [e]
    first | done | rfl
theorem impl_TreeAt.run (N : Nat) (x : ImplTree × (List (Int)) × Unit) : runF cx (look (impl_TreeAt.phis N)) impl_TreeAt.A N (bodyOf Tryd.f24) Tryd.f24.results.toList impl_TreeAt.sg x = impl_TreeAt N x.1 x.2.1 := by
  have h : runF cx (look (impl_TreeAt.phis N)) impl_TreeAt.A N (bodyOf Tryd.f24) Tryd.f24.results.toList impl_TreeAt.sg x = impl_TreeAt.B N (fun z => impl_TreeAt.a0 N N z) x.1 x.2.1 := by kernel_rfl
  have e0 : (fun z => impl_TreeAt.a0 N N z) = impl_TreeAt.L0 N N := funext fun z => impl_TreeAt.r0 N N z
  rw [h, e0]
  try rfl
noncomputable def impl_TreeAt.sm (N : Nat) : Sm D := (⟨impl_TreeAt.sg, fun (x : ImplTree × (List (Int)) × Unit) => impl_TreeAt N x.1 x.2.1⟩ : Sm D)
theorem impl_TreeAt.sound (N : Nat) : Sound cx Tryd.prog gam 24 (impl_TreeAt.sm N) := fn_sound (A := impl_TreeAt.A) (Φ := (look (impl_TreeAt.phis N))) pok (G := gam) (ΦOk.cons (impl_TreeOk.sound N) (fnOk_of (f := 19) (by kernel_rfl)) (ΦOk.cons (impl_within.sound N) (fnOk_of (f := 55) (by kernel_rfl)) (ΦOk.cons (impl_treeCopy.sound N) (fnOk_of (f := 56) (by kernel_rfl)) ΦOk.nil))) mixed N Tryd.func24 (c := (bodyOf Tryd.f24)) (by kernel_rfl) impl_TreeAt.sg (by kernel_rfl) (by kernel_rfl) (by kernel_rfl) (impl_TreeAt.run N)

@[reducible] def spec_partAt.sg : Sg := { ms := [{ k := (.st 25) }, { k := (.sl (.int .i64)), fl := [none] }], keep := [false, false], rs := [{ k := (.st 25) }, { k := .bool }], hold := true }
@[reducible] def spec_partAt.lvL0 : Lv := { id := 0, slots := [1, 2, 4, 6], ms := [{ k := (.sl (.int .i64)), fl := [none] }, { ptr := true, id := 620, t := 26, k := (.st 25), fl := [none, none, none, none, none] }, { ptr := true, id := 640, t := 26, k := (.st 25), fl := [none, none, none, some (false, 644), some (false, 645)] }, { k := (.int .i64) }] }
noncomputable def spec_partAt.A : Ann := { dp := fun d => isIn [] d, lp := look [(0, spec_partAt.lvL0)], jn := look [], pins := [], nt := 33 }
noncomputable def spec_partAt.phis (N : Nat) : List (Nat × Sm D) := [(63, spec_inRange.sm N)]
noncomputable def spec_partAt.a0 (N : Nat) (n : Nat) (y : (List (Int)) × ImplTree × ImplTree × Int × Unit) : Option (ImplTree × Bool × Unit) := loopAt cx (look (spec_partAt.phis N)) spec_partAt.A N n (encL cx spec_partAt.lvL0.ms y).1 (encL cx spec_partAt.lvL0.ms y).2 (bodyOf Tryd.f57) 0 (Kfin cx spec_partAt.A spec_partAt.sg Tryd.f57.results.toList) [1, 0, 1, 1] []
theorem spec_partAt.r0 (N : Nat) : ∀ (n : Nat) (y : (List (Int)) × ImplTree × ImplTree × Int × Unit), spec_partAt.a0 N n y = spec_partAt.L0 N n y
  | 0, y => by kernel_rfl
  | n + 1, y => by
    have h : spec_partAt.a0 N (n + 1) y = spec_partAt.B0 N (fun z => spec_partAt.a0 N n z) y := by kernel_rfl
    have e : (fun z => spec_partAt.a0 N n z) = spec_partAt.L0 N n := funext fun z => spec_partAt.r0 N n z
    rw [h]
    try rw [e]
    first | done | rfl
theorem spec_partAt.run (N : Nat) (x : ImplTree × (List (Int)) × Unit) : runF cx (look (spec_partAt.phis N)) spec_partAt.A N (bodyOf Tryd.f57) Tryd.f57.results.toList spec_partAt.sg x = spec_partAt N x.1 x.2.1 := by
  have h : runF cx (look (spec_partAt.phis N)) spec_partAt.A N (bodyOf Tryd.f57) Tryd.f57.results.toList spec_partAt.sg x = spec_partAt.B N (fun z => spec_partAt.a0 N N z) x.1 x.2.1 := by kernel_rfl
  have e0 : (fun z => spec_partAt.a0 N N z) = spec_partAt.L0 N N := funext fun z => spec_partAt.r0 N N z
  rw [h, e0]
  try rfl
noncomputable def spec_partAt.sm (N : Nat) : Sm D := (⟨spec_partAt.sg, fun (x : ImplTree × (List (Int)) × Unit) => spec_partAt N x.1 x.2.1⟩ : Sm D)
theorem spec_partAt.sound (N : Nat) : Sound cx Tryd.prog gam 57 (spec_partAt.sm N) := fn_sound (A := spec_partAt.A) (Φ := (look (spec_partAt.phis N))) pok (G := gam) (ΦOk.cons (spec_inRange.sound N) (fnOk_of (f := 63) (by kernel_rfl)) ΦOk.nil) mixed N Tryd.func57 (c := (bodyOf Tryd.f57)) (by kernel_rfl) spec_partAt.sg (by kernel_rfl) (by kernel_rfl) (by kernel_rfl) (spec_partAt.run N)

@[reducible] def spec_copyTree.sg : Sg := { ms := [{ k := (.st 25) }], keep := [false], rs := [{ k := (.st 25) }], hold := true }
@[reducible] def spec_copyTree.lvL0 : Lv := { id := 0, slots := [1, 2, 3, 4], ms := [{ ptr := true, id := 600, t := 26, k := (.st 25), fl := [none, none, none, none, none] }, { ptr := true, id := 620, t := 26, k := (.st 25), fl := [none, none, none, some (false, 624), some (false, 625)] }, { ptr := true, id := 640, t := 26, k := (.st 25), fl := [none, none, none, some (false, 644), some (false, 645)] }, { k := (.int .i64) }] }
noncomputable def spec_copyTree.A : Ann := { dp := fun d => isIn [] d, lp := look [(0, spec_copyTree.lvL0)], jn := look [], pins := [], nt := 35 }
noncomputable def spec_copyTree.phis (N : Nat) (d : Nat) : List (Nat × Sm D) := [(58, (⟨spec_copyTree.sg, fun (x : ImplTree × Unit) => spec_copyTree.R N d x.1⟩ : Sm D))]
noncomputable def spec_copyTree.a0 (N : Nat) (d : Nat) (n : Nat) (y : ImplTree × ImplTree × ImplTree × Int × Unit) : Option (ImplTree × Unit) := loopAt cx (look (spec_copyTree.phis N d)) spec_copyTree.A N n (encL cx spec_copyTree.lvL0.ms y).1 (encL cx spec_copyTree.lvL0.ms y).2 (bodyOf Tryd.f58) 0 (Kfin cx spec_copyTree.A spec_copyTree.sg Tryd.f58.results.toList) [1, 1, 0, 1, 1] []
theorem spec_copyTree.r0 (N : Nat) (d : Nat) : ∀ (n : Nat) (y : ImplTree × ImplTree × ImplTree × Int × Unit), spec_copyTree.a0 N d n y = spec_copyTree.L0 N (spec_copyTree.R N d) n y
  | 0, y => by kernel_rfl
  | n + 1, y => by
    have h : spec_copyTree.a0 N d (n + 1) y = spec_copyTree.B0 N (spec_copyTree.R N d) (fun z => spec_copyTree.a0 N d n z) y := by kernel_rfl
    have e : (fun z => spec_copyTree.a0 N d n z) = spec_copyTree.L0 N (spec_copyTree.R N d) n := funext fun z => spec_copyTree.r0 N d n z
    rw [h]
    try rw [e]
    first | done | rfl
theorem spec_copyTree.run (N : Nat) (d : Nat) (x : ImplTree × Unit) : runF cx (look (spec_copyTree.phis N d)) spec_copyTree.A N (bodyOf Tryd.f58) Tryd.f58.results.toList spec_copyTree.sg x = spec_copyTree.R N (d + 1) x.1 := by
  have h : runF cx (look (spec_copyTree.phis N d)) spec_copyTree.A N (bodyOf Tryd.f58) Tryd.f58.results.toList spec_copyTree.sg x = spec_copyTree.B N (spec_copyTree.R N d) (fun z => spec_copyTree.a0 N d N z) x.1 := by kernel_rfl
  have e0 : (fun z => spec_copyTree.a0 N d N z) = spec_copyTree.L0 N (spec_copyTree.R N d) N := funext fun z => spec_copyTree.r0 N d N z
  rw [h, e0]
  try rfl
theorem spec_copyTree.step (N : Nat) (d : Nat) (h_spec_copyTree : Sound cx Tryd.prog gam 58 (⟨spec_copyTree.sg, fun (x : ImplTree × Unit) => spec_copyTree.R N d x.1⟩ : Sm D)) : Sound cx Tryd.prog gam 58 (⟨spec_copyTree.sg, fun (x : ImplTree × Unit) => spec_copyTree.R N (d + 1) x.1⟩ : Sm D) := fn_sound (A := spec_copyTree.A) (Φ := (look (spec_copyTree.phis N d))) pok (G := gam) (ΦOk.cons h_spec_copyTree (fnOk_of (f := 58) (by kernel_rfl)) ΦOk.nil) mixed N Tryd.func58 (c := (bodyOf Tryd.f58)) (by kernel_rfl) spec_copyTree.sg (by kernel_rfl) (by kernel_rfl) (by kernel_rfl) (spec_copyTree.run N d)

theorem spec_copyTree.scc (N : Nat) : ∀ d, Sound cx Tryd.prog gam 58 (⟨spec_copyTree.sg, fun (x : ImplTree × Unit) => spec_copyTree.R N d x.1⟩ : Sm D)
  | 0 => none_sound 58 spec_copyTree.sg
  | d + 1 => by
    have ih := spec_copyTree.scc N d
    exact spec_copyTree.step N d ih
noncomputable def spec_copyTree.sm (N : Nat) : Sm D := (⟨spec_copyTree.sg, fun (x : ImplTree × Unit) => spec_copyTree.R N N x.1⟩ : Sm D)
theorem spec_copyTree.sound (N : Nat) : Sound cx Tryd.prog gam 58 (spec_copyTree.sm N) := (spec_copyTree.scc N N)
@[reducible] def spec_TreeAt.sg : Sg := { ms := [{ k := (.st 25) }, { k := (.sl (.int .i64)), fl := [none] }], keep := [false, false], rs := [{ k := (.st 25) }, { k := .bool }], hold := true }
noncomputable def spec_TreeAt.A : Ann := { dp := fun d => isIn [] d, lp := look [], jn := look [], pins := [], nt := 23 }
noncomputable def spec_TreeAt.phis (N : Nat) : List (Nat × Sm D) := [(43, spec_validTree.sm N), (57, spec_partAt.sm N), (58, spec_copyTree.sm N)]
theorem spec_TreeAt.run (N : Nat) (x : ImplTree × (List (Int)) × Unit) : runF cx (look (spec_TreeAt.phis N)) spec_TreeAt.A N (bodyOf Tryd.f25) Tryd.f25.results.toList spec_TreeAt.sg x = spec_TreeAt N x.1 x.2.1 := by
  have h : runF cx (look (spec_TreeAt.phis N)) spec_TreeAt.A N (bodyOf Tryd.f25) Tryd.f25.results.toList spec_TreeAt.sg x = spec_TreeAt.B N x.1 x.2.1 := by kernel_rfl
  rw [h]
  try rfl
noncomputable def spec_TreeAt.sm (N : Nat) : Sm D := (⟨spec_TreeAt.sg, fun (x : ImplTree × (List (Int)) × Unit) => spec_TreeAt N x.1 x.2.1⟩ : Sm D)
theorem spec_TreeAt.sound (N : Nat) : Sound cx Tryd.prog gam 25 (spec_TreeAt.sm N) := fn_sound (A := spec_TreeAt.A) (Φ := (look (spec_TreeAt.phis N))) pok (G := gam) (ΦOk.cons (spec_validTree.sound N) (fnOk_of (f := 43) (by kernel_rfl)) (ΦOk.cons (spec_partAt.sound N) (fnOk_of (f := 57) (by kernel_rfl)) (ΦOk.cons (spec_copyTree.sound N) (fnOk_of (f := 58) (by kernel_rfl)) ΦOk.nil))) mixed N Tryd.func25 (c := (bodyOf Tryd.f25)) (by kernel_rfl) spec_TreeAt.sg (by kernel_rfl) (by kernel_rfl) (by kernel_rfl) (spec_TreeAt.run N)

@[reducible] def spec_sameProps.sg : Sg := { ms := [{ k := (.sl (.st 83)), fl := [none] }, { k := (.sl (.st 83)), fl := [none] }], keep := [false, false], rs := [{ k := .bool }] }
@[reducible] def spec_sameProps.lvL0 : Lv := { id := 0, slots := [0, 1, 5], ms := [{ k := (.sl (.st 83)), fl := [none] }, { k := (.sl (.st 83)), fl := [none] }, { k := (.int .i64) }] }
noncomputable def spec_sameProps.A : Ann := { dp := fun d => isIn [] d, lp := look [(0, spec_sameProps.lvL0)], jn := look [], pins := [], nt := 26 }
noncomputable def spec_sameProps.phis (N : Nat) : List (Nat × Sm D) := []
noncomputable def spec_sameProps.a0 (N : Nat) (n : Nat) (y : (List (ImplProp)) × (List (ImplProp)) × Int × Unit) : Option (Bool × Unit) := loopAt cx (look (spec_sameProps.phis N)) spec_sameProps.A N n (encL cx spec_sameProps.lvL0.ms y).1 (encL cx spec_sameProps.lvL0.ms y).2 (bodyOf Tryd.f84) 0 (Kfin cx spec_sameProps.A spec_sameProps.sg Tryd.f84.results.toList) [1, 1, 0, 1, 1] []
theorem spec_sameProps.r0 (N : Nat) : ∀ (n : Nat) (y : (List (ImplProp)) × (List (ImplProp)) × Int × Unit), spec_sameProps.a0 N n y = spec_sameProps.L0 N n y
  | 0, y => by kernel_rfl
  | n + 1, y => by
    have h : spec_sameProps.a0 N (n + 1) y = spec_sameProps.B0 N (fun z => spec_sameProps.a0 N n z) y := by kernel_rfl
    have e : (fun z => spec_sameProps.a0 N n z) = spec_sameProps.L0 N n := funext fun z => spec_sameProps.r0 N n z
    rw [h]
    try rw [e]
    first | done | rfl
theorem spec_sameProps.run (N : Nat) (x : (List (ImplProp)) × (List (ImplProp)) × Unit) : runF cx (look (spec_sameProps.phis N)) spec_sameProps.A N (bodyOf Tryd.f84) Tryd.f84.results.toList spec_sameProps.sg x = spec_sameProps N x.1 x.2.1 := by
  have h : runF cx (look (spec_sameProps.phis N)) spec_sameProps.A N (bodyOf Tryd.f84) Tryd.f84.results.toList spec_sameProps.sg x = spec_sameProps.B N (fun z => spec_sameProps.a0 N N z) x.1 x.2.1 := by kernel_rfl
  have e0 : (fun z => spec_sameProps.a0 N N z) = spec_sameProps.L0 N N := funext fun z => spec_sameProps.r0 N N z
  rw [h, e0]
  try rfl
noncomputable def spec_sameProps.sm (N : Nat) : Sm D := (⟨spec_sameProps.sg, fun (x : (List (ImplProp)) × (List (ImplProp)) × Unit) => spec_sameProps N x.1 x.2.1⟩ : Sm D)
theorem spec_sameProps.sound (N : Nat) : Sound cx Tryd.prog gam 84 (spec_sameProps.sm N) := fn_sound (A := spec_sameProps.A) (Φ := (look (spec_sameProps.phis N))) pok (G := gam) ΦOk.nil mixed N Tryd.func84 (c := (bodyOf Tryd.f84)) (by kernel_rfl) spec_sameProps.sg (by kernel_rfl) (by kernel_rfl) (by kernel_rfl) (spec_sameProps.run N)

end
end Go.Ev
