/- Each function that the law reaches does what its plain form says; no condition beyond the table of the library. -/
import Derived.Test.YtfgdaioblgfipaaDoorEvT0
set_option linter.all false
set_option linter.unusedVariables false
set_option linter.unusedSimpArgs false
set_option maxRecDepth 100000
set_option maxHeartbeats 0
namespace Go.Ev
noncomputable section
open Go.Proofs
@[reducible] def impl_TreeOk.sg : Sg := { ms := [{ k := (.st 36) }], keep := [false], rs := [{ k := .bool }] }
noncomputable def impl_TreeOk.A : Ann := { dp := fun d => isIn [] d, lp := look [], jn := look [], pins := [], nt := 6 }
noncomputable def impl_TreeOk.phis (N : Nat) : List (Nat × Sm D) := [(55, impl_treeFits.sm N)]
theorem impl_TreeOk.run (N : Nat) (x : ImplTree × Unit) : runF cx (look (impl_TreeOk.phis N)) impl_TreeOk.A N (bodyOf Tryd.f20) Tryd.f20.results.toList impl_TreeOk.sg x = impl_TreeOk N x.1 := by
  have h : runF cx (look (impl_TreeOk.phis N)) impl_TreeOk.A N (bodyOf Tryd.f20) Tryd.f20.results.toList impl_TreeOk.sg x = impl_TreeOk.B N x.1 := by kernel_rfl
  rw [h]
  try rfl
noncomputable def impl_TreeOk.sm (N : Nat) : Sm D := (⟨impl_TreeOk.sg, fun (x : ImplTree × Unit) => impl_TreeOk N x.1⟩ : Sm D)
theorem impl_TreeOk.sound (N : Nat) : Sound cx Tryd.prog gam 20 (impl_TreeOk.sm N) := fn_sound (A := impl_TreeOk.A) (Φ := (look (impl_TreeOk.phis N))) pok (G := gam) (ΦOk.cons (impl_treeFits.sound N) (fnOk_of (f := 55) (by kernel_rfl)) ΦOk.nil) mixed N Tryd.func20 (c := (bodyOf Tryd.f20)) (by kernel_rfl) impl_TreeOk.sg (by kernel_rfl) (by kernel_rfl) (by kernel_rfl) (impl_TreeOk.run N)

@[reducible] def impl_treeCount.sg : Sg := { ms := [{ k := (.st 36) }], keep := [false], rs := [{ k := (.int .i64) }] }
@[reducible] def impl_treeCount.lvL0 : Lv := { id := 0, slots := [3, 7, 8, 9], ms := [{ k := (.int .i64) }, { k := (.sl (.st 36)), fl := [none] }, { k := (.int .i64) }, { k := (.int .i64) }] }
noncomputable def impl_treeCount.A : Ann := { dp := fun d => isIn [] d, lp := look [(0, impl_treeCount.lvL0)], jn := look [], pins := [], nt := 19 }
noncomputable def impl_treeCount.phis (N : Nat) (d : Nat) : List (Nat × Sm D) := [(50, (⟨impl_treeCount.sg, fun (x : ImplTree × Unit) => impl_treeCount.R N d x.1⟩ : Sm D))]
noncomputable def impl_treeCount.a0 (N : Nat) (d : Nat) (n : Nat) (y : Int × (List (ImplTree)) × Int × Int × Unit) : Option (Int × Unit) := loopAt cx (look (impl_treeCount.phis N d)) impl_treeCount.A N n (encL cx impl_treeCount.lvL0.ms y).1 (encL cx impl_treeCount.lvL0.ms y).2 (bodyOf Tryd.f50) 0 (Kfin cx impl_treeCount.A impl_treeCount.sg Tryd.f50.results.toList) [1, 1, 0, 1, 1] []
theorem impl_treeCount.r0 (N : Nat) (d : Nat) : ∀ (n : Nat) (y : Int × (List (ImplTree)) × Int × Int × Unit), impl_treeCount.a0 N d n y = impl_treeCount.L0 N (impl_treeCount.R N d) n y
  | 0, y => by kernel_rfl
  | n + 1, y => by
    have h : impl_treeCount.a0 N d (n + 1) y = impl_treeCount.B0 N (impl_treeCount.R N d) (fun z => impl_treeCount.a0 N d n z) y := by kernel_rfl
    have e : (fun z => impl_treeCount.a0 N d n z) = impl_treeCount.L0 N (impl_treeCount.R N d) n := funext fun z => impl_treeCount.r0 N d n z
    rw [h]
    try rw [e]
    first | done | rfl
theorem impl_treeCount.run (N : Nat) (d : Nat) (x : ImplTree × Unit) : runF cx (look (impl_treeCount.phis N d)) impl_treeCount.A N (bodyOf Tryd.f50) Tryd.f50.results.toList impl_treeCount.sg x = impl_treeCount.R N (d + 1) x.1 := by
  have h : runF cx (look (impl_treeCount.phis N d)) impl_treeCount.A N (bodyOf Tryd.f50) Tryd.f50.results.toList impl_treeCount.sg x = impl_treeCount.B N (impl_treeCount.R N d) (fun z => impl_treeCount.a0 N d N z) x.1 := by kernel_rfl
  have e0 : (fun z => impl_treeCount.a0 N d N z) = impl_treeCount.L0 N (impl_treeCount.R N d) N := funext fun z => impl_treeCount.r0 N d N z
  rw [h, e0]
  try rfl
theorem impl_treeCount.step (N : Nat) (d : Nat) (h_impl_treeCount : Sound cx Tryd.prog gam 50 (⟨impl_treeCount.sg, fun (x : ImplTree × Unit) => impl_treeCount.R N d x.1⟩ : Sm D)) : Sound cx Tryd.prog gam 50 (⟨impl_treeCount.sg, fun (x : ImplTree × Unit) => impl_treeCount.R N (d + 1) x.1⟩ : Sm D) := fn_sound (A := impl_treeCount.A) (Φ := (look (impl_treeCount.phis N d))) pok (G := gam) (ΦOk.cons h_impl_treeCount (fnOk_of (f := 50) (by kernel_rfl)) ΦOk.nil) mixed N Tryd.func50 (c := (bodyOf Tryd.f50)) (by kernel_rfl) impl_treeCount.sg (by kernel_rfl) (by kernel_rfl) (by kernel_rfl) (impl_treeCount.run N d)

theorem impl_treeCount.scc (N : Nat) : ∀ d, Sound cx Tryd.prog gam 50 (⟨impl_treeCount.sg, fun (x : ImplTree × Unit) => impl_treeCount.R N d x.1⟩ : Sm D)
  | 0 => none_sound 50 impl_treeCount.sg
  | d + 1 => by
    have ih := impl_treeCount.scc N d
    exact impl_treeCount.step N d ih
noncomputable def impl_treeCount.sm (N : Nat) : Sm D := (⟨impl_treeCount.sg, fun (x : ImplTree × Unit) => impl_treeCount.R N N x.1⟩ : Sm D)
theorem impl_treeCount.sound (N : Nat) : Sound cx Tryd.prog gam 50 (impl_treeCount.sm N) := (impl_treeCount.scc N N)
@[reducible] def impl_TreeSize.sg : Sg := { ms := [{ k := (.st 36) }], keep := [false], rs := [{ k := (.int .i64) }] }
noncomputable def impl_TreeSize.A : Ann := { dp := fun d => isIn [] d, lp := look [], jn := look [], pins := [], nt := 8 }
noncomputable def impl_TreeSize.phis (N : Nat) : List (Nat × Sm D) := [(20, impl_TreeOk.sm N), (50, impl_treeCount.sm N)]
theorem impl_TreeSize.run (N : Nat) (x : ImplTree × Unit) : runF cx (look (impl_TreeSize.phis N)) impl_TreeSize.A N (bodyOf Tryd.f15) Tryd.f15.results.toList impl_TreeSize.sg x = impl_TreeSize N x.1 := by
  have h : runF cx (look (impl_TreeSize.phis N)) impl_TreeSize.A N (bodyOf Tryd.f15) Tryd.f15.results.toList impl_TreeSize.sg x = impl_TreeSize.B N x.1 := by kernel_rfl
  rw [h]
  try rfl
noncomputable def impl_TreeSize.sm (N : Nat) : Sm D := (⟨impl_TreeSize.sg, fun (x : ImplTree × Unit) => impl_TreeSize N x.1⟩ : Sm D)
theorem impl_TreeSize.sound (N : Nat) : Sound cx Tryd.prog gam 15 (impl_TreeSize.sm N) := fn_sound (A := impl_TreeSize.A) (Φ := (look (impl_TreeSize.phis N))) pok (G := gam) (ΦOk.cons (impl_TreeOk.sound N) (fnOk_of (f := 20) (by kernel_rfl)) (ΦOk.cons (impl_treeCount.sound N) (fnOk_of (f := 50) (by kernel_rfl)) ΦOk.nil)) mixed N Tryd.func15 (c := (bodyOf Tryd.f15)) (by kernel_rfl) impl_TreeSize.sg (by kernel_rfl) (by kernel_rfl) (by kernel_rfl) (impl_TreeSize.run N)

@[reducible] def spec_treeSize.sg : Sg := { ms := [{ k := (.st 36) }, { k := (.int .i64) }], keep := [false, false], rs := [{ k := (.int .i64) }] }
@[reducible] def spec_treeSize.lvL0 : Lv := { id := 0, slots := [1, 2, 5, 6], ms := [{ k := (.int .i64) }, { ptr := true, id := 620, t := 37, k := (.st 36), fl := [none, none, none, none, none] }, { k := (.int .i64) }, { k := (.int .i64) }] }
noncomputable def spec_treeSize.A : Ann := { dp := fun d => isIn [] d, lp := look [(0, spec_treeSize.lvL0)], jn := look [], pins := [], nt := 32 }
noncomputable def spec_treeSize.phis (N : Nat) (d : Nat) : List (Nat × Sm D) := [(52, (⟨spec_treeSize.sg, fun (x : ImplTree × Int × Unit) => spec_treeSize.R N d x.1 x.2.1⟩ : Sm D))]
noncomputable def spec_treeSize.a0 (N : Nat) (d : Nat) (n : Nat) (y : Int × ImplTree × Int × Int × Unit) : Option (Int × Unit) := loopAt cx (look (spec_treeSize.phis N d)) spec_treeSize.A N n (encL cx spec_treeSize.lvL0.ms y).1 (encL cx spec_treeSize.lvL0.ms y).2 (bodyOf Tryd.f52) 0 (Kfin cx spec_treeSize.A spec_treeSize.sg Tryd.f52.results.toList) [1, 1, 1, 0, 1, 1] []
theorem spec_treeSize.r0 (N : Nat) (d : Nat) : ∀ (n : Nat) (y : Int × ImplTree × Int × Int × Unit), spec_treeSize.a0 N d n y = spec_treeSize.L0 N (spec_treeSize.R N d) n y
  | 0, y => by kernel_rfl
  | n + 1, y => by
    have h : spec_treeSize.a0 N d (n + 1) y = spec_treeSize.B0 N (spec_treeSize.R N d) (fun z => spec_treeSize.a0 N d n z) y := by kernel_rfl
    have e : (fun z => spec_treeSize.a0 N d n z) = spec_treeSize.L0 N (spec_treeSize.R N d) n := funext fun z => spec_treeSize.r0 N d n z
    rw [h]
    try rw [e]
    first | done | rfl
theorem spec_treeSize.run (N : Nat) (d : Nat) (x : ImplTree × Int × Unit) : runF cx (look (spec_treeSize.phis N d)) spec_treeSize.A N (bodyOf Tryd.f52) Tryd.f52.results.toList spec_treeSize.sg x = spec_treeSize.R N (d + 1) x.1 x.2.1 := by
  have h : runF cx (look (spec_treeSize.phis N d)) spec_treeSize.A N (bodyOf Tryd.f52) Tryd.f52.results.toList spec_treeSize.sg x = spec_treeSize.B N (spec_treeSize.R N d) (fun z => spec_treeSize.a0 N d N z) x.1 x.2.1 := by kernel_rfl
  have e0 : (fun z => spec_treeSize.a0 N d N z) = spec_treeSize.L0 N (spec_treeSize.R N d) N := funext fun z => spec_treeSize.r0 N d N z
  rw [h, e0]
  try rfl
theorem spec_treeSize.step (N : Nat) (d : Nat) (h_spec_treeSize : Sound cx Tryd.prog gam 52 (⟨spec_treeSize.sg, fun (x : ImplTree × Int × Unit) => spec_treeSize.R N d x.1 x.2.1⟩ : Sm D)) : Sound cx Tryd.prog gam 52 (⟨spec_treeSize.sg, fun (x : ImplTree × Int × Unit) => spec_treeSize.R N (d + 1) x.1 x.2.1⟩ : Sm D) := fn_sound (A := spec_treeSize.A) (Φ := (look (spec_treeSize.phis N d))) pok (G := gam) (ΦOk.cons h_spec_treeSize (fnOk_of (f := 52) (by kernel_rfl)) ΦOk.nil) mixed N Tryd.func52 (c := (bodyOf Tryd.f52)) (by kernel_rfl) spec_treeSize.sg (by kernel_rfl) (by kernel_rfl) (by kernel_rfl) (spec_treeSize.run N d)

theorem spec_treeSize.scc (N : Nat) : ∀ d, Sound cx Tryd.prog gam 52 (⟨spec_treeSize.sg, fun (x : ImplTree × Int × Unit) => spec_treeSize.R N d x.1 x.2.1⟩ : Sm D)
  | 0 => none_sound 52 spec_treeSize.sg
  | d + 1 => by
    have ih := spec_treeSize.scc N d
    exact spec_treeSize.step N d ih
noncomputable def spec_treeSize.sm (N : Nat) : Sm D := (⟨spec_treeSize.sg, fun (x : ImplTree × Int × Unit) => spec_treeSize.R N N x.1 x.2.1⟩ : Sm D)
theorem spec_treeSize.sound (N : Nat) : Sound cx Tryd.prog gam 52 (spec_treeSize.sm N) := (spec_treeSize.scc N N)
@[reducible] def spec_decimal.sg : Sg := { ms := [{ k := (.int .i64) }], keep := [false], rs := [{ k := .str }] }
noncomputable def spec_decimal.A : Ann := { dp := fun d => isIn [] d, lp := look [], jn := look [], pins := [], nt := 22 }
noncomputable def spec_decimal.phis (N : Nat) (d : Nat) : List (Nat × Sm D) := [(109, (⟨spec_decimal.sg, fun (x : Int × Unit) => spec_decimal.R N d x.1⟩ : Sm D))]
theorem spec_decimal.run (N : Nat) (d : Nat) (x : Int × Unit) : runF cx (look (spec_decimal.phis N d)) spec_decimal.A N (bodyOf Tryd.f109) Tryd.f109.results.toList spec_decimal.sg x = spec_decimal.R N (d + 1) x.1 := by
  have h : runF cx (look (spec_decimal.phis N d)) spec_decimal.A N (bodyOf Tryd.f109) Tryd.f109.results.toList spec_decimal.sg x = spec_decimal.B N (spec_decimal.R N d) x.1 := by kernel_rfl
  rw [h]
  try rfl
theorem spec_decimal.step (N : Nat) (d : Nat) (h_spec_decimal : Sound cx Tryd.prog gam 109 (⟨spec_decimal.sg, fun (x : Int × Unit) => spec_decimal.R N d x.1⟩ : Sm D)) : Sound cx Tryd.prog gam 109 (⟨spec_decimal.sg, fun (x : Int × Unit) => spec_decimal.R N (d + 1) x.1⟩ : Sm D) := fn_sound (A := spec_decimal.A) (Φ := (look (spec_decimal.phis N d))) pok (G := gam) (ΦOk.cons h_spec_decimal (fnOk_of (f := 109) (by kernel_rfl)) ΦOk.nil) mixed N Tryd.func109 (c := (bodyOf Tryd.f109)) (by kernel_rfl) spec_decimal.sg (by kernel_rfl) (by kernel_rfl) (by kernel_rfl) (spec_decimal.run N d)

theorem spec_decimal.scc (N : Nat) : ∀ d, Sound cx Tryd.prog gam 109 (⟨spec_decimal.sg, fun (x : Int × Unit) => spec_decimal.R N d x.1⟩ : Sm D)
  | 0 => none_sound 109 spec_decimal.sg
  | d + 1 => by
    have ih := spec_decimal.scc N d
    exact spec_decimal.step N d ih
noncomputable def spec_decimal.sm (N : Nat) : Sm D := (⟨spec_decimal.sg, fun (x : Int × Unit) => spec_decimal.R N N x.1⟩ : Sm D)
theorem spec_decimal.sound (N : Nat) : Sound cx Tryd.prog gam 109 (spec_decimal.sm N) := (spec_decimal.scc N N)
@[reducible] def spec_validShown.sg : Sg := { ms := [{ k := .str }], keep := [false], rs := [{ k := .bool }] }
@[reducible] def spec_validShown.lvL0 : Lv := { id := 0, slots := [0, 3], ms := [{ k := .str }, { k := (.int .i64) }] }
noncomputable def spec_validShown.A : Ann := { dp := fun d => isIn [] d, lp := look [(0, spec_validShown.lvL0)], jn := look [], pins := [], nt := 23 }
noncomputable def spec_validShown.phis (N : Nat) : List (Nat × Sm D) := [(126, spec_validWord.sm N), (109, spec_decimal.sm N)]
noncomputable def spec_validShown.a0 (N : Nat) (n : Nat) (y : (List UInt8) × Int × Unit) : Option (Bool × Unit) := loopAt cx (look (spec_validShown.phis N)) spec_validShown.A N n (encL cx spec_validShown.lvL0.ms y).1 (encL cx spec_validShown.lvL0.ms y).2 (bodyOf Tryd.f118) 0 (Kfin cx spec_validShown.A spec_validShown.sg Tryd.f118.results.toList) [1, 1, 0, 1, 1] []
theorem spec_validShown.r0 (N : Nat) : ∀ (n : Nat) (y : (List UInt8) × Int × Unit), spec_validShown.a0 N n y = spec_validShown.L0 N n y
  | 0, y => by kernel_rfl
  | n + 1, y => by
    have h : spec_validShown.a0 N (n + 1) y = spec_validShown.B0 N (fun z => spec_validShown.a0 N n z) y := by kernel_rfl
    have e : (fun z => spec_validShown.a0 N n z) = spec_validShown.L0 N n := funext fun z => spec_validShown.r0 N n z
    rw [h]
    try rw [e]
    first | done | rfl
theorem spec_validShown.run (N : Nat) (x : (List UInt8) × Unit) : runF cx (look (spec_validShown.phis N)) spec_validShown.A N (bodyOf Tryd.f118) Tryd.f118.results.toList spec_validShown.sg x = spec_validShown N x.1 := by
  have h : runF cx (look (spec_validShown.phis N)) spec_validShown.A N (bodyOf Tryd.f118) Tryd.f118.results.toList spec_validShown.sg x = spec_validShown.B N (fun z => spec_validShown.a0 N N z) x.1 := by kernel_rfl
  have e0 : (fun z => spec_validShown.a0 N N z) = spec_validShown.L0 N N := funext fun z => spec_validShown.r0 N N z
  rw [h, e0]
  try rfl
noncomputable def spec_validShown.sm (N : Nat) : Sm D := (⟨spec_validShown.sg, fun (x : (List UInt8) × Unit) => spec_validShown N x.1⟩ : Sm D)
theorem spec_validShown.sound (N : Nat) : Sound cx Tryd.prog gam 118 (spec_validShown.sm N) := fn_sound (A := spec_validShown.A) (Φ := (look (spec_validShown.phis N))) pok (G := gam) (ΦOk.cons (spec_validWord.sound N) (fnOk_of (f := 126) (by kernel_rfl)) (ΦOk.cons (spec_decimal.sound N) (fnOk_of (f := 109) (by kernel_rfl)) ΦOk.nil)) mixed N Tryd.func118 (c := (bodyOf Tryd.f118)) (by kernel_rfl) spec_validShown.sg (by kernel_rfl) (by kernel_rfl) (by kernel_rfl) (spec_validShown.run N)

@[reducible] def spec_validPropList.sg : Sg := { ms := [{ k := (.sl (.st 116)), fl := [none] }], keep := [false], rs := [{ k := .bool }] }
@[reducible] def spec_validPropList.lvL0 : Lv := { id := 0, slots := [0, 3], ms := [{ k := (.sl (.st 116)), fl := [none] }, { k := (.int .i64) }] }
noncomputable def spec_validPropList.A : Ann := { dp := fun d => isIn [] d, lp := look [(0, spec_validPropList.lvL0)], jn := look [], pins := [], nt := 44 }
noncomputable def spec_validPropList.phis (N : Nat) : List (Nat × Sm D) := [(85, spec_inRange.sm N), (123, spec_validValue.sm N)]
noncomputable def spec_validPropList.a0 (N : Nat) (n : Nat) (y : (List (ImplProp)) × Int × Unit) : Option (Bool × Unit) := loopAt cx (look (spec_validPropList.phis N)) spec_validPropList.A N n (encL cx spec_validPropList.lvL0.ms y).1 (encL cx spec_validPropList.lvL0.ms y).2 (bodyOf Tryd.f119) 0 (Kfin cx spec_validPropList.A spec_validPropList.sg Tryd.f119.results.toList) [1, 0, 1, 1] []
theorem spec_validPropList.r0 (N : Nat) : ∀ (n : Nat) (y : (List (ImplProp)) × Int × Unit), spec_validPropList.a0 N n y = spec_validPropList.L0 N n y
  | 0, y => by kernel_rfl
  | n + 1, y => by
    have h : spec_validPropList.a0 N (n + 1) y = spec_validPropList.B0 N (fun z => spec_validPropList.a0 N n z) y := by kernel_rfl
    have e : (fun z => spec_validPropList.a0 N n z) = spec_validPropList.L0 N n := funext fun z => spec_validPropList.r0 N n z
    rw [h]
    try rw [e]
    first | done | rfl
theorem spec_validPropList.run (N : Nat) (x : (List (ImplProp)) × Unit) : runF cx (look (spec_validPropList.phis N)) spec_validPropList.A N (bodyOf Tryd.f119) Tryd.f119.results.toList spec_validPropList.sg x = spec_validPropList N x.1 := by
  have h : runF cx (look (spec_validPropList.phis N)) spec_validPropList.A N (bodyOf Tryd.f119) Tryd.f119.results.toList spec_validPropList.sg x = spec_validPropList.B N (fun z => spec_validPropList.a0 N N z) x.1 := by kernel_rfl
  have e0 : (fun z => spec_validPropList.a0 N N z) = spec_validPropList.L0 N N := funext fun z => spec_validPropList.r0 N N z
  rw [h, e0]
  try rfl
noncomputable def spec_validPropList.sm (N : Nat) : Sm D := (⟨spec_validPropList.sg, fun (x : (List (ImplProp)) × Unit) => spec_validPropList N x.1⟩ : Sm D)
theorem spec_validPropList.sound (N : Nat) : Sound cx Tryd.prog gam 119 (spec_validPropList.sm N) := fn_sound (A := spec_validPropList.A) (Φ := (look (spec_validPropList.phis N))) pok (G := gam) (ΦOk.cons (spec_inRange.sound N) (fnOk_of (f := 85) (by kernel_rfl)) (ΦOk.cons (spec_validValue.sound N) (fnOk_of (f := 123) (by kernel_rfl)) ΦOk.nil)) mixed N Tryd.func119 (c := (bodyOf Tryd.f119)) (by kernel_rfl) spec_validPropList.sg (by kernel_rfl) (by kernel_rfl) (by kernel_rfl) (spec_validPropList.run N)

@[reducible] def spec_keysApart.sg : Sg := { ms := [{ k := (.sl (.st 36)), fl := [none] }], keep := [false], rs := [{ k := .bool }] }
@[reducible] def spec_keysApart.lvL2 : Lv := { id := 2, slots := [0, 3, 4], ms := [{ k := (.sl (.st 36)), fl := [none] }, { k := (.int .i64) }, { k := (.int .i64) }] }
@[reducible] def spec_keysApart.lvL0 : Lv := { id := 0, slots := [0, 3], ms := [{ k := (.sl (.st 36)), fl := [none] }, { k := (.int .i64) }] }
noncomputable def spec_keysApart.A : Ann := { dp := fun d => isIn [] d, lp := look [(2, spec_keysApart.lvL2), (0, spec_keysApart.lvL0)], jn := look [], pins := [], nt := 35 }
noncomputable def spec_keysApart.phis (N : Nat) : List (Nat × Sm D) := []
noncomputable def spec_keysApart.a2 (N : Nat) (m0 : Nat) (n : Nat) (y : (List (ImplTree)) × Int × Int × Unit) : Option (Bool × Unit) := loopAt cx (look (spec_keysApart.phis N)) spec_keysApart.A N n (encL cx spec_keysApart.lvL2.ms y).1 (encL cx spec_keysApart.lvL2.ms y).2 (bodyOf Tryd.f120) 0 (Kfin cx spec_keysApart.A spec_keysApart.sg Tryd.f120.results.toList) [1, 0, 1, 1, 1, 1, 0, 1, 1, 1] [m0]
noncomputable def spec_keysApart.a0 (N : Nat) (n : Nat) (y : (List (ImplTree)) × Int × Unit) : Option (Bool × Unit) := loopAt cx (look (spec_keysApart.phis N)) spec_keysApart.A N n (encL cx spec_keysApart.lvL0.ms y).1 (encL cx spec_keysApart.lvL0.ms y).2 (bodyOf Tryd.f120) 0 (Kfin cx spec_keysApart.A spec_keysApart.sg Tryd.f120.results.toList) [1, 0, 1, 1] []
theorem spec_keysApart.r2 (N : Nat) (m0 : Nat) : ∀ (n : Nat) (y : (List (ImplTree)) × Int × Int × Unit), spec_keysApart.a2 N m0 n y = spec_keysApart.L2 N (fun z => spec_keysApart.a0 N m0 z) n y
  | 0, y => by kernel_rfl
  | n + 1, y => by
    have h : spec_keysApart.a2 N m0 (n + 1) y = spec_keysApart.B2 N (fun z => spec_keysApart.a0 N m0 z) (fun z => spec_keysApart.a2 N m0 n z) y := by kernel_rfl
    have e : (fun z => spec_keysApart.a2 N m0 n z) = spec_keysApart.L2 N (fun z => spec_keysApart.a0 N m0 z) n := funext fun z => spec_keysApart.r2 N m0 n z
    rw [h]
    try rw [e]
    first | done | rfl
theorem spec_keysApart.r0 (N : Nat) : ∀ (n : Nat) (y : (List (ImplTree)) × Int × Unit), spec_keysApart.a0 N n y = spec_keysApart.L0 N n y
  | 0, y => by kernel_rfl
  | n + 1, y => by
    have h : spec_keysApart.a0 N (n + 1) y = spec_keysApart.B0 N (fun z => spec_keysApart.a2 N n N z) y := by kernel_rfl
    have e : (fun z => spec_keysApart.a0 N n z) = spec_keysApart.L0 N n := funext fun z => spec_keysApart.r0 N n z
    have e2 : (fun z => spec_keysApart.a2 N n N z) = spec_keysApart.L2 N (fun z => spec_keysApart.a0 N n z) N := funext fun z => spec_keysApart.r2 N n N z
    rw [h, e2]
    try rw [e]
    first | done | rfl
theorem spec_keysApart.run (N : Nat) (x : (List (ImplTree)) × Unit) : runF cx (look (spec_keysApart.phis N)) spec_keysApart.A N (bodyOf Tryd.f120) Tryd.f120.results.toList spec_keysApart.sg x = spec_keysApart N x.1 := by
  have h : runF cx (look (spec_keysApart.phis N)) spec_keysApart.A N (bodyOf Tryd.f120) Tryd.f120.results.toList spec_keysApart.sg x = spec_keysApart.B N (fun z => spec_keysApart.a0 N N z) x.1 := by kernel_rfl
  have e0 : (fun z => spec_keysApart.a0 N N z) = spec_keysApart.L0 N N := funext fun z => spec_keysApart.r0 N N z
  rw [h, e0]
  try rfl
noncomputable def spec_keysApart.sm (N : Nat) : Sm D := (⟨spec_keysApart.sg, fun (x : (List (ImplTree)) × Unit) => spec_keysApart N x.1⟩ : Sm D)
theorem spec_keysApart.sound (N : Nat) : Sound cx Tryd.prog gam 120 (spec_keysApart.sm N) := fn_sound (A := spec_keysApart.A) (Φ := (look (spec_keysApart.phis N))) pok (G := gam) ΦOk.nil mixed N Tryd.func120 (c := (bodyOf Tryd.f120)) (by kernel_rfl) spec_keysApart.sg (by kernel_rfl) (by kernel_rfl) (by kernel_rfl) (spec_keysApart.run N)

@[reducible] def spec_validPart.sg : Sg := { ms := [{ k := (.st 36) }], keep := [false], rs := [{ k := .bool }] }
@[reducible] def spec_validPart.lvL0 : Lv := { id := 0, slots := [1, 3], ms := [{ ptr := true, id := 600, t := 37, k := (.st 36), fl := [none, none, none, none, none] }, { k := (.int .i64) }] }
noncomputable def spec_validPart.A : Ann := { dp := fun d => isIn [] d, lp := look [(0, spec_validPart.lvL0)], jn := look [], pins := [], nt := 65 }
noncomputable def spec_validPart.phis (N : Nat) (d : Nat) : List (Nat × Sm D) := [(118, spec_validShown.sm N), (85, spec_inRange.sm N), (119, spec_validPropList.sm N), (90, (⟨spec_validPart.sg, fun (x : ImplTree × Unit) => spec_validPart.R N d x.1⟩ : Sm D)), (120, spec_keysApart.sm N)]
noncomputable def spec_validPart.a0 (N : Nat) (d : Nat) (n : Nat) (y : ImplTree × Int × Unit) : Option (Bool × Unit) := loopAt cx (look (spec_validPart.phis N d)) spec_validPart.A N n (encL cx spec_validPart.lvL0.ms y).1 (encL cx spec_validPart.lvL0.ms y).2 (bodyOf Tryd.f90) 0 (Kfin cx spec_validPart.A spec_validPart.sg Tryd.f90.results.toList) [1, 1, 1, 0, 1, 1] []
theorem spec_validPart.r0 (N : Nat) (d : Nat) : ∀ (n : Nat) (y : ImplTree × Int × Unit), spec_validPart.a0 N d n y = spec_validPart.L0 N (spec_validPart.R N d) n y
  | 0, y => by kernel_rfl
  | n + 1, y => by
    have h : spec_validPart.a0 N d (n + 1) y = spec_validPart.B0 N (spec_validPart.R N d) (fun z => spec_validPart.a0 N d n z) y := by kernel_rfl
    have e : (fun z => spec_validPart.a0 N d n z) = spec_validPart.L0 N (spec_validPart.R N d) n := funext fun z => spec_validPart.r0 N d n z
    rw [h]
    try rw [e]
    first | done | rfl
theorem spec_validPart.run (N : Nat) (d : Nat) (x : ImplTree × Unit) : runF cx (look (spec_validPart.phis N d)) spec_validPart.A N (bodyOf Tryd.f90) Tryd.f90.results.toList spec_validPart.sg x = spec_validPart.R N (d + 1) x.1 := by
  have h : runF cx (look (spec_validPart.phis N d)) spec_validPart.A N (bodyOf Tryd.f90) Tryd.f90.results.toList spec_validPart.sg x = spec_validPart.B N (spec_validPart.R N d) (fun z => spec_validPart.a0 N d N z) x.1 := by kernel_rfl
  have e0 : (fun z => spec_validPart.a0 N d N z) = spec_validPart.L0 N (spec_validPart.R N d) N := funext fun z => spec_validPart.r0 N d N z
  rw [h, e0]
  try rfl
theorem spec_validPart.step (N : Nat) (d : Nat) (h_spec_validPart : Sound cx Tryd.prog gam 90 (⟨spec_validPart.sg, fun (x : ImplTree × Unit) => spec_validPart.R N d x.1⟩ : Sm D)) : Sound cx Tryd.prog gam 90 (⟨spec_validPart.sg, fun (x : ImplTree × Unit) => spec_validPart.R N (d + 1) x.1⟩ : Sm D) := fn_sound (A := spec_validPart.A) (Φ := (look (spec_validPart.phis N d))) pok (G := gam) (ΦOk.cons (spec_validShown.sound N) (fnOk_of (f := 118) (by kernel_rfl)) (ΦOk.cons (spec_inRange.sound N) (fnOk_of (f := 85) (by kernel_rfl)) (ΦOk.cons (spec_validPropList.sound N) (fnOk_of (f := 119) (by kernel_rfl)) (ΦOk.cons h_spec_validPart (fnOk_of (f := 90) (by kernel_rfl)) (ΦOk.cons (spec_keysApart.sound N) (fnOk_of (f := 120) (by kernel_rfl)) ΦOk.nil))))) mixed N Tryd.func90 (c := (bodyOf Tryd.f90)) (by kernel_rfl) spec_validPart.sg (by kernel_rfl) (by kernel_rfl) (by kernel_rfl) (spec_validPart.run N d)

theorem spec_validPart.scc (N : Nat) : ∀ d, Sound cx Tryd.prog gam 90 (⟨spec_validPart.sg, fun (x : ImplTree × Unit) => spec_validPart.R N d x.1⟩ : Sm D)
  | 0 => none_sound 90 spec_validPart.sg
  | d + 1 => by
    have ih := spec_validPart.scc N d
    exact spec_validPart.step N d ih
noncomputable def spec_validPart.sm (N : Nat) : Sm D := (⟨spec_validPart.sg, fun (x : ImplTree × Unit) => spec_validPart.R N N x.1⟩ : Sm D)
theorem spec_validPart.sound (N : Nat) : Sound cx Tryd.prog gam 90 (spec_validPart.sm N) := (spec_validPart.scc N N)
@[reducible] def spec_validTree.sg : Sg := { ms := [{ k := (.st 36) }], keep := [false], rs := [{ k := .bool }] }
noncomputable def spec_validTree.A : Ann := { dp := fun d => isIn [] d, lp := look [], jn := look [], pins := [], nt := 10 }
noncomputable def spec_validTree.phis (N : Nat) : List (Nat × Sm D) := [(52, spec_treeSize.sm N), (90, spec_validPart.sm N)]
theorem spec_validTree.run (N : Nat) (x : ImplTree × Unit) : runF cx (look (spec_validTree.phis N)) spec_validTree.A N (bodyOf Tryd.f51) Tryd.f51.results.toList spec_validTree.sg x = spec_validTree N x.1 := by
  have h : runF cx (look (spec_validTree.phis N)) spec_validTree.A N (bodyOf Tryd.f51) Tryd.f51.results.toList spec_validTree.sg x = spec_validTree.B N x.1 := by kernel_rfl
  rw [h]
  try rfl
noncomputable def spec_validTree.sm (N : Nat) : Sm D := (⟨spec_validTree.sg, fun (x : ImplTree × Unit) => spec_validTree N x.1⟩ : Sm D)
theorem spec_validTree.sound (N : Nat) : Sound cx Tryd.prog gam 51 (spec_validTree.sm N) := fn_sound (A := spec_validTree.A) (Φ := (look (spec_validTree.phis N))) pok (G := gam) (ΦOk.cons (spec_treeSize.sound N) (fnOk_of (f := 52) (by kernel_rfl)) (ΦOk.cons (spec_validPart.sound N) (fnOk_of (f := 90) (by kernel_rfl)) ΦOk.nil)) mixed N Tryd.func51 (c := (bodyOf Tryd.f51)) (by kernel_rfl) spec_validTree.sg (by kernel_rfl) (by kernel_rfl) (by kernel_rfl) (spec_validTree.run N)

@[reducible] def spec_TreeSize.sg : Sg := { ms := [{ k := (.st 36) }], keep := [false], rs := [{ k := (.int .i64) }] }
noncomputable def spec_TreeSize.A : Ann := { dp := fun d => isIn [] d, lp := look [], jn := look [], pins := [], nt := 8 }
noncomputable def spec_TreeSize.phis (N : Nat) : List (Nat × Sm D) := [(51, spec_validTree.sm N), (52, spec_treeSize.sm N)]
theorem spec_TreeSize.run (N : Nat) (x : ImplTree × Unit) : runF cx (look (spec_TreeSize.phis N)) spec_TreeSize.A N (bodyOf Tryd.f16) Tryd.f16.results.toList spec_TreeSize.sg x = spec_TreeSize N x.1 := by
  have h : runF cx (look (spec_TreeSize.phis N)) spec_TreeSize.A N (bodyOf Tryd.f16) Tryd.f16.results.toList spec_TreeSize.sg x = spec_TreeSize.B N x.1 := by kernel_rfl
  rw [h]
  try rfl
noncomputable def spec_TreeSize.sm (N : Nat) : Sm D := (⟨spec_TreeSize.sg, fun (x : ImplTree × Unit) => spec_TreeSize N x.1⟩ : Sm D)
theorem spec_TreeSize.sound (N : Nat) : Sound cx Tryd.prog gam 16 (spec_TreeSize.sm N) := fn_sound (A := spec_TreeSize.A) (Φ := (look (spec_TreeSize.phis N))) pok (G := gam) (ΦOk.cons (spec_validTree.sound N) (fnOk_of (f := 51) (by kernel_rfl)) (ΦOk.cons (spec_treeSize.sound N) (fnOk_of (f := 52) (by kernel_rfl)) ΦOk.nil)) mixed N Tryd.func16 (c := (bodyOf Tryd.f16)) (by kernel_rfl) spec_TreeSize.sg (by kernel_rfl) (by kernel_rfl) (by kernel_rfl) (spec_TreeSize.run N)

@[reducible] def laws_FnTreeSize.sg : Sg := { ms := [{ k := (.sl (.int .u8)), fl := [none] }], keep := [false], rs := [{ k := .bool }] }
@[reducible] def laws_FnTreeSize.lvL0 : Lv := { id := 0, slots := [3, 4, 7, 8], ms := [{ ptr := true, id := 600, t := 37, k := (.st 36), fl := [none, none, none, none, none] }, { k := (.int .i64) }, { k := (.int .i64) }, { k := (.int .i64) }] }
noncomputable def laws_FnTreeSize.A : Ann := { dp := fun d => isIn [] d, lp := look [(0, laws_FnTreeSize.lvL0)], jn := look [], pins := [], nt := 46 }
noncomputable def laws_FnTreeSize.phis (N : Nat) : List (Nat × Sm D) := [(14, spec_DrawTreeSize.sm N), (15, impl_TreeSize.sm N), (16, spec_TreeSize.sm N)]
noncomputable def laws_FnTreeSize.a0 (N : Nat) (n : Nat) (y : ImplTree × Int × Int × Int × Unit) : Option (Bool × Unit) := loopAt cx (look (laws_FnTreeSize.phis N)) laws_FnTreeSize.A N n (encL cx laws_FnTreeSize.lvL0.ms y).1 (encL cx laws_FnTreeSize.lvL0.ms y).2 (bodyOf Tryd.f4) 0 (Kfin cx laws_FnTreeSize.A laws_FnTreeSize.sg Tryd.f4.results.toList) [1, 1, 1, 1, 1, 1, 1, 1, 0, 1, 1] []
theorem laws_FnTreeSize.r0 (N : Nat) : ∀ (n : Nat) (y : ImplTree × Int × Int × Int × Unit), laws_FnTreeSize.a0 N n y = laws_FnTreeSize.L0 N n y
  | 0, y => by kernel_rfl
  | n + 1, y => by
    have h : laws_FnTreeSize.a0 N (n + 1) y = laws_FnTreeSize.B0 N (fun z => laws_FnTreeSize.a0 N n z) y := by kernel_rfl
    have e : (fun z => laws_FnTreeSize.a0 N n z) = laws_FnTreeSize.L0 N n := funext fun z => laws_FnTreeSize.r0 N n z
    rw [h]
    try rw [e]
    first | done | rfl
theorem laws_FnTreeSize.run (N : Nat) (x : (List (Int)) × Unit) : runF cx (look (laws_FnTreeSize.phis N)) laws_FnTreeSize.A N (bodyOf Tryd.f4) Tryd.f4.results.toList laws_FnTreeSize.sg x = laws_FnTreeSize N x.1 := by
  have h : runF cx (look (laws_FnTreeSize.phis N)) laws_FnTreeSize.A N (bodyOf Tryd.f4) Tryd.f4.results.toList laws_FnTreeSize.sg x = laws_FnTreeSize.B N (fun z => laws_FnTreeSize.a0 N N z) x.1 := by kernel_rfl
  have e0 : (fun z => laws_FnTreeSize.a0 N N z) = laws_FnTreeSize.L0 N N := funext fun z => laws_FnTreeSize.r0 N N z
  rw [h, e0]
  try rfl
noncomputable def laws_FnTreeSize.sm (N : Nat) : Sm D := (⟨laws_FnTreeSize.sg, fun (x : (List (Int)) × Unit) => laws_FnTreeSize N x.1⟩ : Sm D)
theorem laws_FnTreeSize.sound (N : Nat) : Sound cx Tryd.prog gam 4 (laws_FnTreeSize.sm N) := fn_sound (A := laws_FnTreeSize.A) (Φ := (look (laws_FnTreeSize.phis N))) pok (G := gam) (ΦOk.cons (spec_DrawTreeSize.sound N) (fnOk_of (f := 14) (by kernel_rfl)) (ΦOk.cons (impl_TreeSize.sound N) (fnOk_of (f := 15) (by kernel_rfl)) (ΦOk.cons (spec_TreeSize.sound N) (fnOk_of (f := 16) (by kernel_rfl)) ΦOk.nil))) mixed N Tryd.func4 (c := (bodyOf Tryd.f4)) (by kernel_rfl) laws_FnTreeSize.sg (by kernel_rfl) (by kernel_rfl) (by kernel_rfl) (laws_FnTreeSize.run N)

end
end Go.Ev
