/- Each function that the law reaches does what its plain form says; no condition beyond the table of the library. -/
import Derived.Test.YtfgdaioblgfipaaDoorEvT0
set_option linter.all false
set_option linter.unusedVariables false
set_option linter.unusedSimpArgs false
set_option maxRecDepth 100000
set_option maxHeartbeats 0
namespace Go.Ev
noncomputable section
open Go.Proofs
@[reducible] def spec_treeSize.sg : Sg := { ms := [{ k := (.st 36) }, { k := (.int .i64) }], keep := [false, false], rs := [{ k := (.int .i64) }] }
@[reducible] def spec_treeSize.lvL0 : Lv := { id := 0, slots := [1, 2, 5, 6], ms := [{ k := (.int .i64) }, { ptr := true, id := 620, t := 37, k := (.st 36), fl := [none, none, none, none, none] }, { k := (.int .i64) }, { k := (.int .i64) }] }
noncomputable def spec_treeSize.A : Ann := { dp := fun d => isIn [] d, lp := look [(0, spec_treeSize.lvL0)], jn := look [], pins := [], nt := 32 }
noncomputable def spec_treeSize.phis (N : Nat) (d : Nat) : List (Nat × Sm D) := [(52, (⟨spec_treeSize.sg, fun (x : ImplTree × Int × Unit) => spec_treeSize.R N d x.1 x.2.1⟩ : Sm D))]
noncomputable def spec_treeSize.a0 (N : Nat) (d : Nat) (n : Nat) (y : Int × ImplTree × Int × Int × Unit) : Option (Int × Unit) := loopAt cx (look (spec_treeSize.phis N d)) spec_treeSize.A N n (encL cx spec_treeSize.lvL0.ms y).1 (encL cx spec_treeSize.lvL0.ms y).2 (bodyOf Tryd.f52) 0 (Kfin cx spec_treeSize.A spec_treeSize.sg Tryd.f52.results.toList) [1, 1, 1, 0, 1, 1] []
theorem spec_treeSize.r0 (N : Nat) (d : Nat) : ∀ (n : Nat) (y : Int × ImplTree × Int × Int × Unit), spec_treeSize.a0 N d n y = spec_treeSize.L0 N (spec_treeSize.R N d) n y
  | 0, y => by kernel_rfl
  | n + 1, y => by
    have h : spec_treeSize.a0 N d (n + 1) y = spec_treeSize.B0 N (spec_treeSize.R N d) (fun z => spec_treeSize.a0 N d n z) y := by kernel_rfl
    have e : (fun z => spec_treeSize.a0 N d n z) = spec_treeSize.L0 N (spec_treeSize.R N d) n := funext fun z => spec_treeSize.r0 N d n z
    rw [h]
    try rw [e]
    first | done | rfl
theorem spec_treeSize.run (N : Nat) (d : Nat) (x : ImplTree × Int × Unit) : runF cx (look (spec_treeSize.phis N d)) spec_treeSize.A N (bodyOf Tryd.f52) Tryd.f52.results.toList spec_treeSize.sg x = spec_treeSize.R N (d + 1) x.1 x.2.1 := by
  have h : runF cx (look (spec_treeSize.phis N d)) spec_treeSize.A N (bodyOf Tryd.f52) Tryd.f52.results.toList spec_treeSize.sg x = spec_treeSize.B N (spec_treeSize.R N d) (fun z => spec_treeSize.a0 N d N z) x.1 x.2.1 := by kernel_rfl
  have e0 : (fun z => spec_treeSize.a0 N d N z) = spec_treeSize.L0 N (spec_treeSize.R N d) N := funext fun z => spec_treeSize.r0 N d N z
  rw [h, e0]
  try rfl
theorem spec_treeSize.step (N : Nat) (d : Nat) (h_spec_treeSize : Sound cx Tryd.prog gam 52 (⟨spec_treeSize.sg, fun (x : ImplTree × Int × Unit) => spec_treeSize.R N d x.1 x.2.1⟩ : Sm D)) : Sound cx Tryd.prog gam 52 (⟨spec_treeSize.sg, fun (x : ImplTree × Int × Unit) => spec_treeSize.R N (d + 1) x.1 x.2.1⟩ : Sm D) := fn_sound (A := spec_treeSize.A) (Φ := (look (spec_treeSize.phis N d))) pok (G := gam) (ΦOk.cons h_spec_treeSize (fnOk_of (f := 52) (by kernel_rfl)) ΦOk.nil) mixed N Tryd.func52 (c := (bodyOf Tryd.f52)) (by kernel_rfl) spec_treeSize.sg (by kernel_rfl) (by kernel_rfl) (by kernel_rfl) (spec_treeSize.run N d)

theorem spec_treeSize.scc (N : Nat) : ∀ d, Sound cx Tryd.prog gam 52 (⟨spec_treeSize.sg, fun (x : ImplTree × Int × Unit) => spec_treeSize.R N d x.1 x.2.1⟩ : Sm D)
  | 0 => none_sound 52 spec_treeSize.sg
  | d + 1 => by
    have ih := spec_treeSize.scc N d
    exact spec_treeSize.step N d ih
noncomputable def spec_treeSize.sm (N : Nat) : Sm D := (⟨spec_treeSize.sg, fun (x : ImplTree × Int × Unit) => spec_treeSize.R N N x.1 x.2.1⟩ : Sm D)
theorem spec_treeSize.sound (N : Nat) : Sound cx Tryd.prog gam 52 (spec_treeSize.sm N) := (spec_treeSize.scc N N)
@[reducible] def spec_decimal.sg : Sg := { ms := [{ k := (.int .i64) }], keep := [false], rs := [{ k := .str }] }
noncomputable def spec_decimal.A : Ann := { dp := fun d => isIn [] d, lp := look [], jn := look [], pins := [], nt := 22 }
noncomputable def spec_decimal.phis (N : Nat) (d : Nat) : List (Nat × Sm D) := [(109, (⟨spec_decimal.sg, fun (x : Int × Unit) => spec_decimal.R N d x.1⟩ : Sm D))]
theorem spec_decimal.run (N : Nat) (d : Nat) (x : Int × Unit) : runF cx (look (spec_decimal.phis N d)) spec_decimal.A N (bodyOf Tryd.f109) Tryd.f109.results.toList spec_decimal.sg x = spec_decimal.R N (d + 1) x.1 := by
  have h : runF cx (look (spec_decimal.phis N d)) spec_decimal.A N (bodyOf Tryd.f109) Tryd.f109.results.toList spec_decimal.sg x = spec_decimal.B N (spec_decimal.R N d) x.1 := by kernel_rfl
  rw [h]
  try rfl
theorem spec_decimal.step (N : Nat) (d : Nat) (h_spec_decimal : Sound cx Tryd.prog gam 109 (⟨spec_decimal.sg, fun (x : Int × Unit) => spec_decimal.R N d x.1⟩ : Sm D)) : Sound cx Tryd.prog gam 109 (⟨spec_decimal.sg, fun (x : Int × Unit) => spec_decimal.R N (d + 1) x.1⟩ : Sm D) := fn_sound (A := spec_decimal.A) (Φ := (look (spec_decimal.phis N d))) pok (G := gam) (ΦOk.cons h_spec_decimal (fnOk_of (f := 109) (by kernel_rfl)) ΦOk.nil) mixed N Tryd.func109 (c := (bodyOf Tryd.f109)) (by kernel_rfl) spec_decimal.sg (by kernel_rfl) (by kernel_rfl) (by kernel_rfl) (spec_decimal.run N d)

theorem spec_decimal.scc (N : Nat) : ∀ d, Sound cx Tryd.prog gam 109 (⟨spec_decimal.sg, fun (x : Int × Unit) => spec_decimal.R N d x.1⟩ : Sm D)
  | 0 => none_sound 109 spec_decimal.sg
  | d + 1 => by
    have ih := spec_decimal.scc N d
    exact spec_decimal.step N d ih
noncomputable def spec_decimal.sm (N : Nat) : Sm D := (⟨spec_decimal.sg, fun (x : Int × Unit) => spec_decimal.R N N x.1⟩ : Sm D)
theorem spec_decimal.sound (N : Nat) : Sound cx Tryd.prog gam 109 (spec_decimal.sm N) := (spec_decimal.scc N N)
@[reducible] def spec_validShown.sg : Sg := { ms := [{ k := .str }], keep := [false], rs := [{ k := .bool }] }
@[reducible] def spec_validShown.lvL0 : Lv := { id := 0, slots := [0, 3], ms := [{ k := .str }, { k := (.int .i64) }] }
noncomputable def spec_validShown.A : Ann := { dp := fun d => isIn [] d, lp := look [(0, spec_validShown.lvL0)], jn := look [], pins := [], nt := 23 }
noncomputable def spec_validShown.phis (N : Nat) : List (Nat × Sm D) := [(126, spec_validWord.sm N), (109, spec_decimal.sm N)]
noncomputable def spec_validShown.a0 (N : Nat) (n : Nat) (y : (List UInt8) × Int × Unit) : Option (Bool × Unit) := loopAt cx (look (spec_validShown.phis N)) spec_validShown.A N n (encL cx spec_validShown.lvL0.ms y).1 (encL cx spec_validShown.lvL0.ms y).2 (bodyOf Tryd.f118) 0 (Kfin cx spec_validShown.A spec_validShown.sg Tryd.f118.results.toList) [1, 1, 0, 1, 1] []
theorem spec_validShown.r0 (N : Nat) : ∀ (n : Nat) (y : (List UInt8) × Int × Unit), spec_validShown.a0 N n y = spec_validShown.L0 N n y
  | 0, y => by kernel_rfl
  | n + 1, y => by
    have h : spec_validShown.a0 N (n + 1) y = spec_validShown.B0 N (fun z => spec_validShown.a0 N n z) y := by kernel_rfl
    have e : (fun z => spec_validShown.a0 N n z) = spec_validShown.L0 N n := funext fun z => spec_validShown.r0 N n z
    rw [h]
    try rw [e]
    first | done | rfl
theorem spec_validShown.run (N : Nat) (x : (List UInt8) × Unit) : runF cx (look (spec_validShown.phis N)) spec_validShown.A N (bodyOf Tryd.f118) Tryd.f118.results.toList spec_validShown.sg x = spec_validShown N x.1 := by
  have h : runF cx (look (spec_validShown.phis N)) spec_validShown.A N (bodyOf Tryd.f118) Tryd.f118.results.toList spec_validShown.sg x = spec_validShown.B N (fun z => spec_validShown.a0 N N z) x.1 := by kernel_rfl
  have e0 : (fun z => spec_validShown.a0 N N z) = spec_validShown.L0 N N := funext fun z => spec_validShown.r0 N N z
  rw [h, e0]
  try rfl
noncomputable def spec_validShown.sm (N : Nat) : Sm D := (⟨spec_validShown.sg, fun (x : (List UInt8) × Unit) => spec_validShown N x.1⟩ : Sm D)
theorem spec_validShown.sound (N : Nat) : Sound cx Tryd.prog gam 118 (spec_validShown.sm N) := fn_sound (A := spec_validShown.A) (Φ := (look (spec_validShown.phis N))) pok (G := gam) (ΦOk.cons (spec_validWord.sound N) (fnOk_of (f := 126) (by kernel_rfl)) (ΦOk.cons (spec_decimal.sound N) (fnOk_of (f := 109) (by kernel_rfl)) ΦOk.nil)) mixed N Tryd.func118 (c := (bodyOf Tryd.f118)) (by kernel_rfl) spec_validShown.sg (by kernel_rfl) (by kernel_rfl) (by kernel_rfl) (spec_validShown.run N)

@[reducible] def spec_validPropList.sg : Sg := { ms := [{ k := (.sl (.st 116)), fl := [none] }], keep := [false], rs := [{ k := .bool }] }
@[reducible] def spec_validPropList.lvL0 : Lv := { id := 0, slots := [0, 3], ms := [{ k := (.sl (.st 116)), fl := [none] }, { k := (.int .i64) }] }
noncomputable def spec_validPropList.A : Ann := { dp := fun d => isIn [] d, lp := look [(0, spec_validPropList.lvL0)], jn := look [], pins := [], nt := 44 }
noncomputable def spec_validPropList.phis (N : Nat) : List (Nat × Sm D) := [(85, spec_inRange.sm N), (123, spec_validValue.sm N)]
noncomputable def spec_validPropList.a0 (N : Nat) (n : Nat) (y : (List (ImplProp)) × Int × Unit) : Option (Bool × Unit) := loopAt cx (look (spec_validPropList.phis N)) spec_validPropList.A N n (encL cx spec_validPropList.lvL0.ms y).1 (encL cx spec_validPropList.lvL0.ms y).2 (bodyOf Tryd.f119) 0 (Kfin cx spec_validPropList.A spec_validPropList.sg Tryd.f119.results.toList) [1, 0, 1, 1] []
theorem spec_validPropList.r0 (N : Nat) : ∀ (n : Nat) (y : (List (ImplProp)) × Int × Unit), spec_validPropList.a0 N n y = spec_validPropList.L0 N n y
  | 0, y => by kernel_rfl
  | n + 1, y => by
    have h : spec_validPropList.a0 N (n + 1) y = spec_validPropList.B0 N (fun z => spec_validPropList.a0 N n z) y := by kernel_rfl
    have e : (fun z => spec_validPropList.a0 N n z) = spec_validPropList.L0 N n := funext fun z => spec_validPropList.r0 N n z
    rw [h]
    try rw [e]
    first | done | rfl
theorem spec_validPropList.run (N : Nat) (x : (List (ImplProp)) × Unit) : runF cx (look (spec_validPropList.phis N)) spec_validPropList.A N (bodyOf Tryd.f119) Tryd.f119.results.toList spec_validPropList.sg x = spec_validPropList N x.1 := by
  have h : runF cx (look (spec_validPropList.phis N)) spec_validPropList.A N (bodyOf Tryd.f119) Tryd.f119.results.toList spec_validPropList.sg x = spec_validPropList.B N (fun z => spec_validPropList.a0 N N z) x.1 := by kernel_rfl
  have e0 : (fun z => spec_validPropList.a0 N N z) = spec_validPropList.L0 N N := funext fun z => spec_validPropList.r0 N N z
  rw [h, e0]
  try rfl
noncomputable def spec_validPropList.sm (N : Nat) : Sm D := (⟨spec_validPropList.sg, fun (x : (List (ImplProp)) × Unit) => spec_validPropList N x.1⟩ : Sm D)
theorem spec_validPropList.sound (N : Nat) : Sound cx Tryd.prog gam 119 (spec_validPropList.sm N) := fn_sound (A := spec_validPropList.A) (Φ := (look (spec_validPropList.phis N))) pok (G := gam) (ΦOk.cons (spec_inRange.sound N) (fnOk_of (f := 85) (by kernel_rfl)) (ΦOk.cons (spec_validValue.sound N) (fnOk_of (f := 123) (by kernel_rfl)) ΦOk.nil)) mixed N Tryd.func119 (c := (bodyOf Tryd.f119)) (by kernel_rfl) spec_validPropList.sg (by kernel_rfl) (by kernel_rfl) (by kernel_rfl) (spec_validPropList.run N)

@[reducible] def spec_keysApart.sg : Sg := { ms := [{ k := (.sl (.st 36)), fl := [none] }], keep := [false], rs := [{ k := .bool }] }
@[reducible] def spec_keysApart.lvL2 : Lv := { id := 2, slots := [0, 3, 4], ms := [{ k := (.sl (.st 36)), fl := [none] }, { k := (.int .i64) }, { k := (.int .i64) }] }
@[reducible] def spec_keysApart.lvL0 : Lv := { id := 0, slots := [0, 3], ms := [{ k := (.sl (.st 36)), fl := [none] }, { k := (.int .i64) }] }
noncomputable def spec_keysApart.A : Ann := { dp := fun d => isIn [] d, lp := look [(2, spec_keysApart.lvL2), (0, spec_keysApart.lvL0)], jn := look [], pins := [], nt := 35 }
noncomputable def spec_keysApart.phis (N : Nat) : List (Nat × Sm D) := []
noncomputable def spec_keysApart.a2 (N : Nat) (m0 : Nat) (n : Nat) (y : (List (ImplTree)) × Int × Int × Unit) : Option (Bool × Unit) := loopAt cx (look (spec_keysApart.phis N)) spec_keysApart.A N n (encL cx spec_keysApart.lvL2.ms y).1 (encL cx spec_keysApart.lvL2.ms y).2 (bodyOf Tryd.f120) 0 (Kfin cx spec_keysApart.A spec_keysApart.sg Tryd.f120.results.toList) [1, 0, 1, 1, 1, 1, 0, 1, 1, 1] [m0]
noncomputable def spec_keysApart.a0 (N : Nat) (n : Nat) (y : (List (ImplTree)) × Int × Unit) : Option (Bool × Unit) := loopAt cx (look (spec_keysApart.phis N)) spec_keysApart.A N n (encL cx spec_keysApart.lvL0.ms y).1 (encL cx spec_keysApart.lvL0.ms y).2 (bodyOf Tryd.f120) 0 (Kfin cx spec_keysApart.A spec_keysApart.sg Tryd.f120.results.toList) [1, 0, 1, 1] []
theorem spec_keysApart.r2 (N : Nat) (m0 : Nat) : ∀ (n : Nat) (y : (List (ImplTree)) × Int × Int × Unit), spec_keysApart.a2 N m0 n y = spec_keysApart.L2 N (fun z => spec_keysApart.a0 N m0 z) n y
  | 0, y => by kernel_rfl
  | n + 1, y => by
    have h : spec_keysApart.a2 N m0 (n + 1) y = spec_keysApart.B2 N (fun z => spec_keysApart.a0 N m0 z) (fun z => spec_keysApart.a2 N m0 n z) y := by kernel_rfl
    have e : (fun z => spec_keysApart.a2 N m0 n z) = spec_keysApart.L2 N (fun z => spec_keysApart.a0 N m0 z) n := funext fun z => spec_keysApart.r2 N m0 n z
    rw [h]
    try rw [e]
    first | done | rfl
theorem spec_keysApart.r0 (N : Nat) : ∀ (n : Nat) (y : (List (ImplTree)) × Int × Unit), spec_keysApart.a0 N n y = spec_keysApart.L0 N n y
  | 0, y => by kernel_rfl
  | n + 1, y => by
    have h : spec_keysApart.a0 N (n + 1) y = spec_keysApart.B0 N (fun z => spec_keysApart.a2 N n N z) y := by kernel_rfl
    have e : (fun z => spec_keysApart.a0 N n z) = spec_keysApart.L0 N n := funext fun z => spec_keysApart.r0 N n z
    have e2 : (fun z => spec_keysApart.a2 N n N z) = spec_keysApart.L2 N (fun z => spec_keysApart.a0 N n z) N := funext fun z => spec_keysApart.r2 N n N z
    rw [h, e2]
    try rw [e]
    first | done | rfl
theorem spec_keysApart.run (N : Nat) (x : (List (ImplTree)) × Unit) : runF cx (look (spec_keysApart.phis N)) spec_keysApart.A N (bodyOf Tryd.f120) Tryd.f120.results.toList spec_keysApart.sg x = spec_keysApart N x.1 := by
  have h : runF cx (look (spec_keysApart.phis N)) spec_keysApart.A N (bodyOf Tryd.f120) Tryd.f120.results.toList spec_keysApart.sg x = spec_keysApart.B N (fun z => spec_keysApart.a0 N N z) x.1 := by kernel_rfl
  have e0 : (fun z => spec_keysApart.a0 N N z) = spec_keysApart.L0 N N := funext fun z => spec_keysApart.r0 N N z
  rw [h, e0]
  try rfl
noncomputable def spec_keysApart.sm (N : Nat) : Sm D := (⟨spec_keysApart.sg, fun (x : (List (ImplTree)) × Unit) => spec_keysApart N x.1⟩ : Sm D)
theorem spec_keysApart.sound (N : Nat) : Sound cx Tryd.prog gam 120 (spec_keysApart.sm N) := fn_sound (A := spec_keysApart.A) (Φ := (look (spec_keysApart.phis N))) pok (G := gam) ΦOk.nil mixed N Tryd.func120 (c := (bodyOf Tryd.f120)) (by kernel_rfl) spec_keysApart.sg (by kernel_rfl) (by kernel_rfl) (by kernel_rfl) (spec_keysApart.run N)

@[reducible] def spec_validPart.sg : Sg := { ms := [{ k := (.st 36) }], keep := [false], rs := [{ k := .bool }] }
@[reducible] def spec_validPart.lvL0 : Lv := { id := 0, slots := [1, 3], ms := [{ ptr := true, id := 600, t := 37, k := (.st 36), fl := [none, none, none, none, none] }, { k := (.int .i64) }] }
noncomputable def spec_validPart.A : Ann := { dp := fun d => isIn [] d, lp := look [(0, spec_validPart.lvL0)], jn := look [], pins := [], nt := 65 }
noncomputable def spec_validPart.phis (N : Nat) (d : Nat) : List (Nat × Sm D) := [(118, spec_validShown.sm N), (85, spec_inRange.sm N), (119, spec_validPropList.sm N), (90, (⟨spec_validPart.sg, fun (x : ImplTree × Unit) => spec_validPart.R N d x.1⟩ : Sm D)), (120, spec_keysApart.sm N)]
noncomputable def spec_validPart.a0 (N : Nat) (d : Nat) (n : Nat) (y : ImplTree × Int × Unit) : Option (Bool × Unit) := loopAt cx (look (spec_validPart.phis N d)) spec_validPart.A N n (encL cx spec_validPart.lvL0.ms y).1 (encL cx spec_validPart.lvL0.ms y).2 (bodyOf Tryd.f90) 0 (Kfin cx spec_validPart.A spec_validPart.sg Tryd.f90.results.toList) [1, 1, 1, 0, 1, 1] []
theorem spec_validPart.r0 (N : Nat) (d : Nat) : ∀ (n : Nat) (y : ImplTree × Int × Unit), spec_validPart.a0 N d n y = spec_validPart.L0 N (spec_validPart.R N d) n y
  | 0, y => by kernel_rfl
  | n + 1, y => by
    have h : spec_validPart.a0 N d (n + 1) y = spec_validPart.B0 N (spec_validPart.R N d) (fun z => spec_validPart.a0 N d n z) y := by kernel_rfl
    have e : (fun z => spec_validPart.a0 N d n z) = spec_validPart.L0 N (spec_validPart.R N d) n := funext fun z => spec_validPart.r0 N d n z
    rw [h]
    try rw [e]
    first | done | rfl
theorem spec_validPart.run (N : Nat) (d : Nat) (x : ImplTree × Unit) : runF cx (look (spec_validPart.phis N d)) spec_validPart.A N (bodyOf Tryd.f90) Tryd.f90.results.toList spec_validPart.sg x = spec_validPart.R N (d + 1) x.1 := by
  have h : runF cx (look (spec_validPart.phis N d)) spec_validPart.A N (bodyOf Tryd.f90) Tryd.f90.results.toList spec_validPart.sg x = spec_validPart.B N (spec_validPart.R N d) (fun z => spec_validPart.a0 N d N z) x.1 := by kernel_rfl
  have e0 : (fun z => spec_validPart.a0 N d N z) = spec_validPart.L0 N (spec_validPart.R N d) N := funext fun z => spec_validPart.r0 N d N z
  rw [h, e0]
  try rfl
theorem spec_validPart.step (N : Nat) (d : Nat) (h_spec_validPart : Sound cx Tryd.prog gam 90 (⟨spec_validPart.sg, fun (x : ImplTree × Unit) => spec_validPart.R N d x.1⟩ : Sm D)) : Sound cx Tryd.prog gam 90 (⟨spec_validPart.sg, fun (x : ImplTree × Unit) => spec_validPart.R N (d + 1) x.1⟩ : Sm D) := fn_sound (A := spec_validPart.A) (Φ := (look (spec_validPart.phis N d))) pok (G := gam) (ΦOk.cons (spec_validShown.sound N) (fnOk_of (f := 118) (by kernel_rfl)) (ΦOk.cons (spec_inRange.sound N) (fnOk_of (f := 85) (by kernel_rfl)) (ΦOk.cons (spec_validPropList.sound N) (fnOk_of (f := 119) (by kernel_rfl)) (ΦOk.cons h_spec_validPart (fnOk_of (f := 90) (by kernel_rfl)) (ΦOk.cons (spec_keysApart.sound N) (fnOk_of (f := 120) (by kernel_rfl)) ΦOk.nil))))) mixed N Tryd.func90 (c := (bodyOf Tryd.f90)) (by kernel_rfl) spec_validPart.sg (by kernel_rfl) (by kernel_rfl) (by kernel_rfl) (spec_validPart.run N d)

theorem spec_validPart.scc (N : Nat) : ∀ d, Sound cx Tryd.prog gam 90 (⟨spec_validPart.sg, fun (x : ImplTree × Unit) => spec_validPart.R N d x.1⟩ : Sm D)
  | 0 => none_sound 90 spec_validPart.sg
  | d + 1 => by
    have ih := spec_validPart.scc N d
    exact spec_validPart.step N d ih
noncomputable def spec_validPart.sm (N : Nat) : Sm D := (⟨spec_validPart.sg, fun (x : ImplTree × Unit) => spec_validPart.R N N x.1⟩ : Sm D)
theorem spec_validPart.sound (N : Nat) : Sound cx Tryd.prog gam 90 (spec_validPart.sm N) := (spec_validPart.scc N N)
@[reducible] def spec_validTree.sg : Sg := { ms := [{ k := (.st 36) }], keep := [false], rs := [{ k := .bool }] }
noncomputable def spec_validTree.A : Ann := { dp := fun d => isIn [] d, lp := look [], jn := look [], pins := [], nt := 10 }
noncomputable def spec_validTree.phis (N : Nat) : List (Nat × Sm D) := [(52, spec_treeSize.sm N), (90, spec_validPart.sm N)]
theorem spec_validTree.run (N : Nat) (x : ImplTree × Unit) : runF cx (look (spec_validTree.phis N)) spec_validTree.A N (bodyOf Tryd.f51) Tryd.f51.results.toList spec_validTree.sg x = spec_validTree N x.1 := by
  have h : runF cx (look (spec_validTree.phis N)) spec_validTree.A N (bodyOf Tryd.f51) Tryd.f51.results.toList spec_validTree.sg x = spec_validTree.B N x.1 := by kernel_rfl
  rw [h]
  try rfl
noncomputable def spec_validTree.sm (N : Nat) : Sm D := (⟨spec_validTree.sg, fun (x : ImplTree × Unit) => spec_validTree N x.1⟩ : Sm D)
theorem spec_validTree.sound (N : Nat) : Sound cx Tryd.prog gam 51 (spec_validTree.sm N) := fn_sound (A := spec_validTree.A) (Φ := (look (spec_validTree.phis N))) pok (G := gam) (ΦOk.cons (spec_treeSize.sound N) (fnOk_of (f := 52) (by kernel_rfl)) (ΦOk.cons (spec_validPart.sound N) (fnOk_of (f := 90) (by kernel_rfl)) ΦOk.nil)) mixed N Tryd.func51 (c := (bodyOf Tryd.f51)) (by kernel_rfl) spec_validTree.sg (by kernel_rfl) (by kernel_rfl) (by kernel_rfl) (spec_validTree.run N)

@[reducible] def spec_DrawTextOf.sg : Sg := { ms := [{ k := (.sl (.int .u8)), fl := [none] }], keep := [false], rs := [{ k := (.st 36) }], hold := true }
noncomputable def spec_DrawTextOf.A : Ann := { dp := fun d => isIn [] d, lp := look [], jn := look [], pins := [], nt := 8 }
noncomputable def spec_DrawTextOf.phis (N : Nat) : List (Nat × Sm D) := [(37, spec_newSource.sm N), (49, spec_source_whole.sm N)]
theorem spec_DrawTextOf.run (N : Nat) (x : (List (Int)) × Unit) : runF cx (look (spec_DrawTextOf.phis N)) spec_DrawTextOf.A N (bodyOf Tryd.f17) Tryd.f17.results.toList spec_DrawTextOf.sg x = spec_DrawTextOf N x.1 := by
  have h : runF cx (look (spec_DrawTextOf.phis N)) spec_DrawTextOf.A N (bodyOf Tryd.f17) Tryd.f17.results.toList spec_DrawTextOf.sg x = spec_DrawTextOf.B N x.1 := by kernel_rfl
  rw [h]
  try rfl
noncomputable def spec_DrawTextOf.sm (N : Nat) : Sm D := (⟨spec_DrawTextOf.sg, fun (x : (List (Int)) × Unit) => spec_DrawTextOf N x.1⟩ : Sm D)
theorem spec_DrawTextOf.sound (N : Nat) : Sound cx Tryd.prog gam 17 (spec_DrawTextOf.sm N) := fn_sound (A := spec_DrawTextOf.A) (Φ := (look (spec_DrawTextOf.phis N))) pok (G := gam) (ΦOk.cons (spec_newSource.sound N) (fnOk_of (f := 37) (by kernel_rfl)) (ΦOk.cons (spec_source_whole.sound N) (fnOk_of (f := 49) (by kernel_rfl)) ΦOk.nil)) mixed N Tryd.func17 (c := (bodyOf Tryd.f17)) (by kernel_rfl) spec_DrawTextOf.sg (by kernel_rfl) (by kernel_rfl) (by kernel_rfl) (spec_DrawTextOf.run N)

@[reducible] def impl_textOf.sg : Sg := { ms := [{ k := (.st 36) }], keep := [false], rs := [{ k := .str }] }
@[reducible] def impl_textOf.lvL0 : Lv := { id := 0, slots := [3, 9, 10, 11], ms := [{ k := .str }, { k := (.sl (.st 36)), fl := [none] }, { k := (.int .i64) }, { k := (.int .i64) }] }
noncomputable def impl_textOf.A : Ann := { dp := fun d => isIn [] d, lp := look [(0, impl_textOf.lvL0)], jn := look [], pins := [], nt := 21 }
noncomputable def impl_textOf.phis (N : Nat) (d : Nat) : List (Nat × Sm D) := [(53, (⟨impl_textOf.sg, fun (x : ImplTree × Unit) => impl_textOf.R N d x.1⟩ : Sm D))]
noncomputable def impl_textOf.a0 (N : Nat) (d : Nat) (n : Nat) (y : (List UInt8) × (List (ImplTree)) × Int × Int × Unit) : Option ((List UInt8) × Unit) := loopAt cx (look (impl_textOf.phis N d)) impl_textOf.A N n (encL cx impl_textOf.lvL0.ms y).1 (encL cx impl_textOf.lvL0.ms y).2 (bodyOf Tryd.f53) 0 (Kfin cx impl_textOf.A impl_textOf.sg Tryd.f53.results.toList) [1, 1, 0, 1, 1] []
theorem impl_textOf.r0 (N : Nat) (d : Nat) : ∀ (n : Nat) (y : (List UInt8) × (List (ImplTree)) × Int × Int × Unit), impl_textOf.a0 N d n y = impl_textOf.L0 N (impl_textOf.R N d) n y
  | 0, y => by kernel_rfl
  | n + 1, y => by
    have h : impl_textOf.a0 N d (n + 1) y = impl_textOf.B0 N (impl_textOf.R N d) (fun z => impl_textOf.a0 N d n z) y := by kernel_rfl
    have e : (fun z => impl_textOf.a0 N d n z) = impl_textOf.L0 N (impl_textOf.R N d) n := funext fun z => impl_textOf.r0 N d n z
    rw [h]
    try rw [e]
    first | done | rfl
theorem impl_textOf.run (N : Nat) (d : Nat) (x : ImplTree × Unit) : runF cx (look (impl_textOf.phis N d)) impl_textOf.A N (bodyOf Tryd.f53) Tryd.f53.results.toList impl_textOf.sg x = impl_textOf.R N (d + 1) x.1 := by
  have h : runF cx (look (impl_textOf.phis N d)) impl_textOf.A N (bodyOf Tryd.f53) Tryd.f53.results.toList impl_textOf.sg x = impl_textOf.B N (impl_textOf.R N d) (fun z => impl_textOf.a0 N d N z) x.1 := by kernel_rfl
  have e0 : (fun z => impl_textOf.a0 N d N z) = impl_textOf.L0 N (impl_textOf.R N d) N := funext fun z => impl_textOf.r0 N d N z
  rw [h, e0]
  try rfl
theorem impl_textOf.step (N : Nat) (d : Nat) (h_impl_textOf : Sound cx Tryd.prog gam 53 (⟨impl_textOf.sg, fun (x : ImplTree × Unit) => impl_textOf.R N d x.1⟩ : Sm D)) : Sound cx Tryd.prog gam 53 (⟨impl_textOf.sg, fun (x : ImplTree × Unit) => impl_textOf.R N (d + 1) x.1⟩ : Sm D) := fn_sound (A := impl_textOf.A) (Φ := (look (impl_textOf.phis N d))) pok (G := gam) (ΦOk.cons h_impl_textOf (fnOk_of (f := 53) (by kernel_rfl)) ΦOk.nil) mixed N Tryd.func53 (c := (bodyOf Tryd.f53)) (by kernel_rfl) impl_textOf.sg (by kernel_rfl) (by kernel_rfl) (by kernel_rfl) (impl_textOf.run N d)

theorem impl_textOf.scc (N : Nat) : ∀ d, Sound cx Tryd.prog gam 53 (⟨impl_textOf.sg, fun (x : ImplTree × Unit) => impl_textOf.R N d x.1⟩ : Sm D)
  | 0 => none_sound 53 impl_textOf.sg
  | d + 1 => by
    have ih := impl_textOf.scc N d
    exact impl_textOf.step N d ih
noncomputable def impl_textOf.sm (N : Nat) : Sm D := (⟨impl_textOf.sg, fun (x : ImplTree × Unit) => impl_textOf.R N N x.1⟩ : Sm D)
theorem impl_textOf.sound (N : Nat) : Sound cx Tryd.prog gam 53 (impl_textOf.sm N) := (impl_textOf.scc N N)
@[reducible] def impl_TextOf.sg : Sg := { ms := [{ k := (.st 36) }], keep := [false], rs := [{ k := .str }] }
noncomputable def impl_TextOf.A : Ann := { dp := fun d => isIn [] d, lp := look [], jn := look [], pins := [], nt := 8 }
noncomputable def impl_TextOf.phis (N : Nat) : List (Nat × Sm D) := [(20, impl_TreeOk.sm N), (53, impl_textOf.sm N)]
theorem impl_TextOf.run (N : Nat) (x : ImplTree × Unit) : runF cx (look (impl_TextOf.phis N)) impl_TextOf.A N (bodyOf Tryd.f18) Tryd.f18.results.toList impl_TextOf.sg x = impl_TextOf N x.1 := by
  have h : runF cx (look (impl_TextOf.phis N)) impl_TextOf.A N (bodyOf Tryd.f18) Tryd.f18.results.toList impl_TextOf.sg x = impl_TextOf.B N x.1 := by kernel_rfl
  rw [h]
  try rfl
noncomputable def impl_TextOf.sm (N : Nat) : Sm D := (⟨impl_TextOf.sg, fun (x : ImplTree × Unit) => impl_TextOf N x.1⟩ : Sm D)
theorem impl_TextOf.sound (N : Nat) : Sound cx Tryd.prog gam 18 (impl_TextOf.sm N) := fn_sound (A := impl_TextOf.A) (Φ := (look (impl_TextOf.phis N))) pok (G := gam) (ΦOk.cons (impl_TreeOk.sound N) (fnOk_of (f := 20) (by kernel_rfl)) (ΦOk.cons (impl_textOf.sound N) (fnOk_of (f := 53) (by kernel_rfl)) ΦOk.nil)) mixed N Tryd.func18 (c := (bodyOf Tryd.f18)) (by kernel_rfl) impl_TextOf.sg (by kernel_rfl) (by kernel_rfl) (by kernel_rfl) (impl_TextOf.run N)

@[reducible] def spec_textOf.sg : Sg := { ms := [{ k := (.st 36) }], keep := [false], rs := [{ k := .str }] }
@[reducible] def spec_textOf.lvL0 : Lv := { id := 0, slots := [1, 3, 4], ms := [{ ptr := true, id := 600, t := 37, k := (.st 36), fl := [none, none, none, none, none] }, { k := .str }, { k := (.int .i64) }] }
noncomputable def spec_textOf.A : Ann := { dp := fun d => isIn [] d, lp := look [(0, spec_textOf.lvL0)], jn := look [], pins := [], nt := 23 }
noncomputable def spec_textOf.phis (N : Nat) (d : Nat) : List (Nat × Sm D) := [(54, (⟨spec_textOf.sg, fun (x : ImplTree × Unit) => spec_textOf.R N d x.1⟩ : Sm D))]
noncomputable def spec_textOf.a0 (N : Nat) (d : Nat) (n : Nat) (y : ImplTree × (List UInt8) × Int × Unit) : Option ((List UInt8) × Unit) := loopAt cx (look (spec_textOf.phis N d)) spec_textOf.A N n (encL cx spec_textOf.lvL0.ms y).1 (encL cx spec_textOf.lvL0.ms y).2 (bodyOf Tryd.f54) 0 (Kfin cx spec_textOf.A spec_textOf.sg Tryd.f54.results.toList) [1, 1, 0, 1, 1] []
theorem spec_textOf.r0 (N : Nat) (d : Nat) : ∀ (n : Nat) (y : ImplTree × (List UInt8) × Int × Unit), spec_textOf.a0 N d n y = spec_textOf.L0 N (spec_textOf.R N d) n y
  | 0, y => by kernel_rfl
  | n + 1, y => by
    have h : spec_textOf.a0 N d (n + 1) y = spec_textOf.B0 N (spec_textOf.R N d) (fun z => spec_textOf.a0 N d n z) y := by kernel_rfl
    have e : (fun z => spec_textOf.a0 N d n z) = spec_textOf.L0 N (spec_textOf.R N d) n := funext fun z => spec_textOf.r0 N d n z
    rw [h]
    try rw [e]
    first | done | rfl
theorem spec_textOf.run (N : Nat) (d : Nat) (x : ImplTree × Unit) : runF cx (look (spec_textOf.phis N d)) spec_textOf.A N (bodyOf Tryd.f54) Tryd.f54.results.toList spec_textOf.sg x = spec_textOf.R N (d + 1) x.1 := by
  have h : runF cx (look (spec_textOf.phis N d)) spec_textOf.A N (bodyOf Tryd.f54) Tryd.f54.results.toList spec_textOf.sg x = spec_textOf.B N (spec_textOf.R N d) (fun z => spec_textOf.a0 N d N z) x.1 := by kernel_rfl
  have e0 : (fun z => spec_textOf.a0 N d N z) = spec_textOf.L0 N (spec_textOf.R N d) N := funext fun z => spec_textOf.r0 N d N z
  rw [h, e0]
  try rfl
theorem spec_textOf.step (N : Nat) (d : Nat) (h_spec_textOf : Sound cx Tryd.prog gam 54 (⟨spec_textOf.sg, fun (x : ImplTree × Unit) => spec_textOf.R N d x.1⟩ : Sm D)) : Sound cx Tryd.prog gam 54 (⟨spec_textOf.sg, fun (x : ImplTree × Unit) => spec_textOf.R N (d + 1) x.1⟩ : Sm D) := fn_sound (A := spec_textOf.A) (Φ := (look (spec_textOf.phis N d))) pok (G := gam) (ΦOk.cons h_spec_textOf (fnOk_of (f := 54) (by kernel_rfl)) ΦOk.nil) mixed N Tryd.func54 (c := (bodyOf Tryd.f54)) (by kernel_rfl) spec_textOf.sg (by kernel_rfl) (by kernel_rfl) (by kernel_rfl) (spec_textOf.run N d)

theorem spec_textOf.scc (N : Nat) : ∀ d, Sound cx Tryd.prog gam 54 (⟨spec_textOf.sg, fun (x : ImplTree × Unit) => spec_textOf.R N d x.1⟩ : Sm D)
  | 0 => none_sound 54 spec_textOf.sg
  | d + 1 => by
    have ih := spec_textOf.scc N d
    exact spec_textOf.step N d ih
noncomputable def spec_textOf.sm (N : Nat) : Sm D := (⟨spec_textOf.sg, fun (x : ImplTree × Unit) => spec_textOf.R N N x.1⟩ : Sm D)
theorem spec_textOf.sound (N : Nat) : Sound cx Tryd.prog gam 54 (spec_textOf.sm N) := (spec_textOf.scc N N)
@[reducible] def spec_TextOf.sg : Sg := { ms := [{ k := (.st 36) }], keep := [false], rs := [{ k := .str }] }
noncomputable def spec_TextOf.A : Ann := { dp := fun d => isIn [] d, lp := look [], jn := look [], pins := [], nt := 8 }
noncomputable def spec_TextOf.phis (N : Nat) : List (Nat × Sm D) := [(51, spec_validTree.sm N), (54, spec_textOf.sm N)]
theorem spec_TextOf.run (N : Nat) (x : ImplTree × Unit) : runF cx (look (spec_TextOf.phis N)) spec_TextOf.A N (bodyOf Tryd.f19) Tryd.f19.results.toList spec_TextOf.sg x = spec_TextOf N x.1 := by
  have h : runF cx (look (spec_TextOf.phis N)) spec_TextOf.A N (bodyOf Tryd.f19) Tryd.f19.results.toList spec_TextOf.sg x = spec_TextOf.B N x.1 := by kernel_rfl
  rw [h]
  try rfl
noncomputable def spec_TextOf.sm (N : Nat) : Sm D := (⟨spec_TextOf.sg, fun (x : ImplTree × Unit) => spec_TextOf N x.1⟩ : Sm D)
theorem spec_TextOf.sound (N : Nat) : Sound cx Tryd.prog gam 19 (spec_TextOf.sm N) := fn_sound (A := spec_TextOf.A) (Φ := (look (spec_TextOf.phis N))) pok (G := gam) (ΦOk.cons (spec_validTree.sound N) (fnOk_of (f := 51) (by kernel_rfl)) (ΦOk.cons (spec_textOf.sound N) (fnOk_of (f := 54) (by kernel_rfl)) ΦOk.nil)) mixed N Tryd.func19 (c := (bodyOf Tryd.f19)) (by kernel_rfl) spec_TextOf.sg (by kernel_rfl) (by kernel_rfl) (by kernel_rfl) (spec_TextOf.run N)

@[reducible] def laws_FnTextOf.sg : Sg := { ms := [{ k := (.sl (.int .u8)), fl := [none] }], keep := [false], rs := [{ k := .bool }] }
@[reducible] def laws_FnTextOf.lvL0 : Lv := { id := 0, slots := [3, 4, 7, 8], ms := [{ ptr := true, id := 600, t := 37, k := (.st 36), fl := [none, none, none, none, none] }, { k := .str }, { k := .str }, { k := (.int .i64) }] }
noncomputable def laws_FnTextOf.A : Ann := { dp := fun d => isIn [] d, lp := look [(0, laws_FnTextOf.lvL0)], jn := look [], pins := [], nt := 49 }
noncomputable def laws_FnTextOf.phis (N : Nat) : List (Nat × Sm D) := [(17, spec_DrawTextOf.sm N), (18, impl_TextOf.sm N), (19, spec_TextOf.sm N), (20, impl_TreeOk.sm N)]
noncomputable def laws_FnTextOf.a0 (N : Nat) (n : Nat) (y : ImplTree × (List UInt8) × (List UInt8) × Int × Unit) : Option (Bool × Unit) := loopAt cx (look (laws_FnTextOf.phis N)) laws_FnTextOf.A N n (encL cx laws_FnTextOf.lvL0.ms y).1 (encL cx laws_FnTextOf.lvL0.ms y).2 (bodyOf Tryd.f5) 0 (Kfin cx laws_FnTextOf.A laws_FnTextOf.sg Tryd.f5.results.toList) [1, 1, 1, 1, 1, 1, 1, 1, 0, 1, 1] []
theorem laws_FnTextOf.r0 (N : Nat) : ∀ (n : Nat) (y : ImplTree × (List UInt8) × (List UInt8) × Int × Unit), laws_FnTextOf.a0 N n y = laws_FnTextOf.L0 N n y
  | 0, y => by kernel_rfl
  | n + 1, y => by
    have h : laws_FnTextOf.a0 N (n + 1) y = laws_FnTextOf.B0 N (fun z => laws_FnTextOf.a0 N n z) y := by kernel_rfl
    have e : (fun z => laws_FnTextOf.a0 N n z) = laws_FnTextOf.L0 N n := funext fun z => laws_FnTextOf.r0 N n z
    rw [h]
    try rw [e]
    first | done | rfl
theorem laws_FnTextOf.run (N : Nat) (x : (List (Int)) × Unit) : runF cx (look (laws_FnTextOf.phis N)) laws_FnTextOf.A N (bodyOf Tryd.f5) Tryd.f5.results.toList laws_FnTextOf.sg x = laws_FnTextOf N x.1 := by
  have h : runF cx (look (laws_FnTextOf.phis N)) laws_FnTextOf.A N (bodyOf Tryd.f5) Tryd.f5.results.toList laws_FnTextOf.sg x = laws_FnTextOf.B N (fun z => laws_FnTextOf.a0 N N z) x.1 := by kernel_rfl
  have e0 : (fun z => laws_FnTextOf.a0 N N z) = laws_FnTextOf.L0 N N := funext fun z => laws_FnTextOf.r0 N N z
  rw [h, e0]
  try rfl
noncomputable def laws_FnTextOf.sm (N : Nat) : Sm D := (⟨laws_FnTextOf.sg, fun (x : (List (Int)) × Unit) => laws_FnTextOf N x.1⟩ : Sm D)
theorem laws_FnTextOf.sound (N : Nat) : Sound cx Tryd.prog gam 5 (laws_FnTextOf.sm N) := fn_sound (A := laws_FnTextOf.A) (Φ := (look (laws_FnTextOf.phis N))) pok (G := gam) (ΦOk.cons (spec_DrawTextOf.sound N) (fnOk_of (f := 17) (by kernel_rfl)) (ΦOk.cons (impl_TextOf.sound N) (fnOk_of (f := 18) (by kernel_rfl)) (ΦOk.cons (spec_TextOf.sound N) (fnOk_of (f := 19) (by kernel_rfl)) (ΦOk.cons (impl_TreeOk.sound N) (fnOk_of (f := 20) (by kernel_rfl)) ΦOk.nil)))) mixed N Tryd.func5 (c := (bodyOf Tryd.f5)) (by kernel_rfl) laws_FnTextOf.sg (by kernel_rfl) (by kernel_rfl) (by kernel_rfl) (laws_FnTextOf.run N)

end
end Go.Ev
