/- Each function that the law reaches does what its plain form says; no condition beyond the table of the library. -/
import Derived.Test.YtmaghpkolkkncaaDoorEvT0
set_option linter.all false
set_option linter.unusedVariables false
set_option linter.unusedSimpArgs false
set_option maxRecDepth 100000
set_option maxHeartbeats 0
namespace Go.Ev
noncomputable section
open Go.Proofs
@[reducible] def impl_valText.sg : Sg := { ms := [{ k := (.st 81) }], keep := [false], rs := [{ k := .str }] }
noncomputable def impl_valText.A : Ann := { dp := fun d => isIn [] d, lp := look [], jn := look [], pins := [], nt := 15 }
noncomputable def impl_valText.phis (N : Nat) : List (Nat × Sm D) := [(72, LibItoa.sm N), (71, impl_quote.sm N)]
theorem impl_valText.run (N : Nat) (x : ImplValue × Unit) : runF cx (look (impl_valText.phis N)) impl_valText.A N (bodyOf Tryd.f73) Tryd.f73.results.toList impl_valText.sg x = impl_valText N x.1 := by
  have h : runF cx (look (impl_valText.phis N)) impl_valText.A N (bodyOf Tryd.f73) Tryd.f73.results.toList impl_valText.sg x = impl_valText.B N x.1 := by kernel_rfl
  rw [h]
  try rfl
noncomputable def impl_valText.sm (N : Nat) : Sm D := (⟨impl_valText.sg, fun (x : ImplValue × Unit) => impl_valText N x.1⟩ : Sm D)
theorem impl_valText.sound (N : Nat) : Sound cx Tryd.prog gam 73 (impl_valText.sm N) := fn_sound (A := impl_valText.A) (Φ := (look (impl_valText.phis N))) pok (G := gam) (ΦOk.cons (LibItoa.sound N) (fnOk_of (f := 72) (by kernel_rfl)) (ΦOk.cons (impl_quote.sound N) (fnOk_of (f := 71) (by kernel_rfl)) ΦOk.nil)) mixed N Tryd.func73 (c := (bodyOf Tryd.f73)) (by kernel_rfl) impl_valText.sg (by kernel_rfl) (by kernel_rfl) (by kernel_rfl) (impl_valText.run N)

@[reducible] def impl_treeWrite.sg : Sg := { ms := [{ k := (.st 25) }], keep := [false], rs := [{ k := .str }] }
@[reducible] def impl_treeWrite.lvL2 : Lv := { id := 2, slots := [3, 47, 48, 49], ms := [{ k := .str }, { k := (.sl (.st 25)), fl := [none] }, { k := (.int .i64) }, { k := (.int .i64) }] }
@[reducible] def impl_treeWrite.lvL0 : Lv := { id := 0, slots := [1, 3, 28, 29, 30], ms := [{ ptr := true, id := 600, t := 26, k := (.st 25), fl := [none, none, none, none, none] }, { k := .str }, { k := (.sl (.st 83)), fl := [none] }, { k := (.int .i64) }, { k := (.int .i64) }] }
@[reducible] def impl_treeWrite.lvJ6 : Lv := { id := 6, slots := [1, 3], ms := [{ ptr := true, id := 600, t := 26, k := (.st 25), fl := [none, none, none, none, none] }, { k := .str }] }
noncomputable def impl_treeWrite.A : Ann := { dp := fun d => isIn [] d, lp := look [(2, impl_treeWrite.lvL2), (0, impl_treeWrite.lvL0)], jn := look [(6, impl_treeWrite.lvJ6)], pins := [], nt := 61 }
noncomputable def impl_treeWrite.phis (N : Nat) (d : Nat) : List (Nat × Sm D) := [(71, impl_quote.sm N), (72, LibItoa.sm N), (73, impl_valText.sm N), (42, (⟨impl_treeWrite.sg, fun (x : ImplTree × Unit) => impl_treeWrite.R N d x.1⟩ : Sm D))]
noncomputable def impl_treeWrite.a2 (N : Nat) (d : Nat) (n : Nat) (y : (List UInt8) × (List (ImplTree)) × Int × Int × Unit) : Option ((List UInt8) × Unit) := loopAt cx (look (impl_treeWrite.phis N d)) impl_treeWrite.A N n (encL cx impl_treeWrite.lvL2.ms y).1 (encL cx impl_treeWrite.lvL2.ms y).2 (bodyOf Tryd.f42) 0 (Kfin cx impl_treeWrite.A impl_treeWrite.sg Tryd.f42.results.toList) [1, 1, 1, 1, 1, 0, 1, 1] []
noncomputable def impl_treeWrite.a0 (N : Nat) (d : Nat) (n : Nat) (y : ImplTree × (List UInt8) × (List (ImplProp)) × Int × Int × Unit) : Option ((List UInt8) × Unit) := loopAt cx (look (impl_treeWrite.phis N d)) impl_treeWrite.A N n (encL cx impl_treeWrite.lvL0.ms y).1 (encL cx impl_treeWrite.lvL0.ms y).2 (bodyOf Tryd.f42) 0 (Kfin cx impl_treeWrite.A impl_treeWrite.sg Tryd.f42.results.toList) [1, 1, 1, 1, 0, 1, 1] []
theorem impl_treeWrite.r2 (N : Nat) (d : Nat) : ∀ (n : Nat) (y : (List UInt8) × (List (ImplTree)) × Int × Int × Unit), impl_treeWrite.a2 N d n y = impl_treeWrite.L2 N (impl_treeWrite.R N d) n y
  | 0, y => by kernel_rfl
  | n + 1, y => by
    have h : impl_treeWrite.a2 N d (n + 1) y = impl_treeWrite.B2 N (impl_treeWrite.R N d) (fun z => impl_treeWrite.a2 N d n z) y := by kernel_rfl
    have e : (fun z => impl_treeWrite.a2 N d n z) = impl_treeWrite.L2 N (impl_treeWrite.R N d) n := funext fun z => impl_treeWrite.r2 N d n z
    rw [h]
    try rw [e]
    first | done | rfl
theorem impl_treeWrite.r0 (N : Nat) (d : Nat) : ∀ (n : Nat) (y : ImplTree × (List UInt8) × (List (ImplProp)) × Int × Int × Unit), impl_treeWrite.a0 N d n y = impl_treeWrite.L0 N (impl_treeWrite.R N d) n y
  | 0, y => by kernel_rfl
  | n + 1, y => by
    have h : impl_treeWrite.a0 N d (n + 1) y = impl_treeWrite.B0 N (impl_treeWrite.R N d) (fun z => impl_treeWrite.a0 N d n z) (fun z => impl_treeWrite.a2 N d N z) y := by kernel_rfl
    have e : (fun z => impl_treeWrite.a0 N d n z) = impl_treeWrite.L0 N (impl_treeWrite.R N d) n := funext fun z => impl_treeWrite.r0 N d n z
    have e2 : (fun z => impl_treeWrite.a2 N d N z) = impl_treeWrite.L2 N (impl_treeWrite.R N d) N := funext fun z => impl_treeWrite.r2 N d N z
    rw [h, e2]
    try rw [e]
    first | done | rfl
theorem impl_treeWrite.run (N : Nat) (d : Nat) (x : ImplTree × Unit) : runF cx (look (impl_treeWrite.phis N d)) impl_treeWrite.A N (bodyOf Tryd.f42) Tryd.f42.results.toList impl_treeWrite.sg x = impl_treeWrite.R N (d + 1) x.1 := by
  have h : runF cx (look (impl_treeWrite.phis N d)) impl_treeWrite.A N (bodyOf Tryd.f42) Tryd.f42.results.toList impl_treeWrite.sg x = impl_treeWrite.B N (impl_treeWrite.R N d) (fun z => impl_treeWrite.a0 N d N z) x.1 := by kernel_rfl
  have e0 : (fun z => impl_treeWrite.a0 N d N z) = impl_treeWrite.L0 N (impl_treeWrite.R N d) N := funext fun z => impl_treeWrite.r0 N d N z
  rw [h, e0]
  try rfl
theorem impl_treeWrite.step (N : Nat) (d : Nat) (h_impl_treeWrite : Sound cx Tryd.prog gam 42 (⟨impl_treeWrite.sg, fun (x : ImplTree × Unit) => impl_treeWrite.R N d x.1⟩ : Sm D)) : Sound cx Tryd.prog gam 42 (⟨impl_treeWrite.sg, fun (x : ImplTree × Unit) => impl_treeWrite.R N (d + 1) x.1⟩ : Sm D) := fn_sound (A := impl_treeWrite.A) (Φ := (look (impl_treeWrite.phis N d))) pok (G := gam) (ΦOk.cons (impl_quote.sound N) (fnOk_of (f := 71) (by kernel_rfl)) (ΦOk.cons (LibItoa.sound N) (fnOk_of (f := 72) (by kernel_rfl)) (ΦOk.cons (impl_valText.sound N) (fnOk_of (f := 73) (by kernel_rfl)) (ΦOk.cons h_impl_treeWrite (fnOk_of (f := 42) (by kernel_rfl)) ΦOk.nil)))) mixed N Tryd.func42 (c := (bodyOf Tryd.f42)) (by kernel_rfl) impl_treeWrite.sg (by kernel_rfl) (by kernel_rfl) (by kernel_rfl) (impl_treeWrite.run N d)

theorem impl_treeWrite.scc (N : Nat) : ∀ d, Sound cx Tryd.prog gam 42 (⟨impl_treeWrite.sg, fun (x : ImplTree × Unit) => impl_treeWrite.R N d x.1⟩ : Sm D)
  | 0 => none_sound 42 impl_treeWrite.sg
  | d + 1 => by
    have ih := impl_treeWrite.scc N d
    exact impl_treeWrite.step N d ih
noncomputable def impl_treeWrite.sm (N : Nat) : Sm D := (⟨impl_treeWrite.sg, fun (x : ImplTree × Unit) => impl_treeWrite.R N N x.1⟩ : Sm D)
theorem impl_treeWrite.sound (N : Nat) : Sound cx Tryd.prog gam 42 (impl_treeWrite.sm N) := (impl_treeWrite.scc N N)
@[reducible] def impl_TreeText.sg : Sg := { ms := [{ k := (.st 25) }], keep := [false], rs := [{ k := .str }] }
noncomputable def impl_TreeText.A : Ann := { dp := fun d => isIn [] d, lp := look [], jn := look [], pins := [], nt := 8 }
noncomputable def impl_TreeText.phis (N : Nat) : List (Nat × Sm D) := [(19, impl_TreeOk.sm N), (42, impl_treeWrite.sm N)]
theorem impl_TreeText.run (N : Nat) (x : ImplTree × Unit) : runF cx (look (impl_TreeText.phis N)) impl_TreeText.A N (bodyOf Tryd.f14) Tryd.f14.results.toList impl_TreeText.sg x = impl_TreeText N x.1 := by
  have h : runF cx (look (impl_TreeText.phis N)) impl_TreeText.A N (bodyOf Tryd.f14) Tryd.f14.results.toList impl_TreeText.sg x = impl_TreeText.B N x.1 := by kernel_rfl
  rw [h]
  try rfl
noncomputable def impl_TreeText.sm (N : Nat) : Sm D := (⟨impl_TreeText.sg, fun (x : ImplTree × Unit) => impl_TreeText N x.1⟩ : Sm D)
theorem impl_TreeText.sound (N : Nat) : Sound cx Tryd.prog gam 14 (impl_TreeText.sm N) := fn_sound (A := impl_TreeText.A) (Φ := (look (impl_TreeText.phis N))) pok (G := gam) (ΦOk.cons (impl_TreeOk.sound N) (fnOk_of (f := 19) (by kernel_rfl)) (ΦOk.cons (impl_treeWrite.sound N) (fnOk_of (f := 42) (by kernel_rfl)) ΦOk.nil)) mixed N Tryd.func14 (c := (bodyOf Tryd.f14)) (by kernel_rfl) impl_TreeText.sg (by kernel_rfl) (by kernel_rfl) (by kernel_rfl) (impl_TreeText.run N)

@[reducible] def spec_treeSize.sg : Sg := { ms := [{ k := (.st 25) }, { k := (.int .i64) }], keep := [false, false], rs := [{ k := (.int .i64) }] }
@[reducible] def spec_treeSize.lvL0 : Lv := { id := 0, slots := [1, 2, 5, 6], ms := [{ k := (.int .i64) }, { ptr := true, id := 620, t := 26, k := (.st 25), fl := [none, none, none, none, none] }, { k := (.int .i64) }, { k := (.int .i64) }] }
noncomputable def spec_treeSize.A : Ann := { dp := fun d => isIn [] d, lp := look [(0, spec_treeSize.lvL0)], jn := look [], pins := [], nt := 32 }
noncomputable def spec_treeSize.phis (N : Nat) (d : Nat) : List (Nat × Sm D) := [(52, (⟨spec_treeSize.sg, fun (x : ImplTree × Int × Unit) => spec_treeSize.R N d x.1 x.2.1⟩ : Sm D))]
noncomputable def spec_treeSize.a0 (N : Nat) (d : Nat) (n : Nat) (y : Int × ImplTree × Int × Int × Unit) : Option (Int × Unit) := loopAt cx (look (spec_treeSize.phis N d)) spec_treeSize.A N n (encL cx spec_treeSize.lvL0.ms y).1 (encL cx spec_treeSize.lvL0.ms y).2 (bodyOf Tryd.f52) 0 (Kfin cx spec_treeSize.A spec_treeSize.sg Tryd.f52.results.toList) [1, 1, 1, 0, 1, 1] []
theorem spec_treeSize.r0 (N : Nat) (d : Nat) : ∀ (n : Nat) (y : Int × ImplTree × Int × Int × Unit), spec_treeSize.a0 N d n y = spec_treeSize.L0 N (spec_treeSize.R N d) n y
  | 0, y => by kernel_rfl
  | n + 1, y => by
    have h : spec_treeSize.a0 N d (n + 1) y = spec_treeSize.B0 N (spec_treeSize.R N d) (fun z => spec_treeSize.a0 N d n z) y := by kernel_rfl
    have e : (fun z => spec_treeSize.a0 N d n z) = spec_treeSize.L0 N (spec_treeSize.R N d) n := funext fun z => spec_treeSize.r0 N d n z
    rw [h]
    try rw [e]
    first | done | rfl
theorem spec_treeSize.run (N : Nat) (d : Nat) (x : ImplTree × Int × Unit) : runF cx (look (spec_treeSize.phis N d)) spec_treeSize.A N (bodyOf Tryd.f52) Tryd.f52.results.toList spec_treeSize.sg x = spec_treeSize.R N (d + 1) x.1 x.2.1 := by
  have h : runF cx (look (spec_treeSize.phis N d)) spec_treeSize.A N (bodyOf Tryd.f52) Tryd.f52.results.toList spec_treeSize.sg x = spec_treeSize.B N (spec_treeSize.R N d) (fun z => spec_treeSize.a0 N d N z) x.1 x.2.1 := by kernel_rfl
  have e0 : (fun z => spec_treeSize.a0 N d N z) = spec_treeSize.L0 N (spec_treeSize.R N d) N := funext fun z => spec_treeSize.r0 N d N z
  rw [h, e0]
  try rfl
theorem spec_treeSize.step (N : Nat) (d : Nat) (h_spec_treeSize : Sound cx Tryd.prog gam 52 (⟨spec_treeSize.sg, fun (x : ImplTree × Int × Unit) => spec_treeSize.R N d x.1 x.2.1⟩ : Sm D)) : Sound cx Tryd.prog gam 52 (⟨spec_treeSize.sg, fun (x : ImplTree × Int × Unit) => spec_treeSize.R N (d + 1) x.1 x.2.1⟩ : Sm D) := fn_sound (A := spec_treeSize.A) (Φ := (look (spec_treeSize.phis N d))) pok (G := gam) (ΦOk.cons h_spec_treeSize (fnOk_of (f := 52) (by kernel_rfl)) ΦOk.nil) mixed N Tryd.func52 (c := (bodyOf Tryd.f52)) (by kernel_rfl) spec_treeSize.sg (by kernel_rfl) (by kernel_rfl) (by kernel_rfl) (spec_treeSize.run N d)

theorem spec_treeSize.scc (N : Nat) : ∀ d, Sound cx Tryd.prog gam 52 (⟨spec_treeSize.sg, fun (x : ImplTree × Int × Unit) => spec_treeSize.R N d x.1 x.2.1⟩ : Sm D)
  | 0 => none_sound 52 spec_treeSize.sg
  | d + 1 => by
    have ih := spec_treeSize.scc N d
    exact spec_treeSize.step N d ih
noncomputable def spec_treeSize.sm (N : Nat) : Sm D := (⟨spec_treeSize.sg, fun (x : ImplTree × Int × Unit) => spec_treeSize.R N N x.1 x.2.1⟩ : Sm D)
theorem spec_treeSize.sound (N : Nat) : Sound cx Tryd.prog gam 52 (spec_treeSize.sm N) := (spec_treeSize.scc N N)
@[reducible] def spec_decimal.sg : Sg := { ms := [{ k := (.int .i64) }], keep := [false], rs := [{ k := .str }] }
noncomputable def spec_decimal.A : Ann := { dp := fun d => isIn [] d, lp := look [], jn := look [], pins := [], nt := 22 }
noncomputable def spec_decimal.phis (N : Nat) (d : Nat) : List (Nat × Sm D) := [(75, (⟨spec_decimal.sg, fun (x : Int × Unit) => spec_decimal.R N d x.1⟩ : Sm D))]
theorem spec_decimal.run (N : Nat) (d : Nat) (x : Int × Unit) : runF cx (look (spec_decimal.phis N d)) spec_decimal.A N (bodyOf Tryd.f75) Tryd.f75.results.toList spec_decimal.sg x = spec_decimal.R N (d + 1) x.1 := by
  have h : runF cx (look (spec_decimal.phis N d)) spec_decimal.A N (bodyOf Tryd.f75) Tryd.f75.results.toList spec_decimal.sg x = spec_decimal.B N (spec_decimal.R N d) x.1 := by kernel_rfl
  rw [h]
  try rfl
theorem spec_decimal.step (N : Nat) (d : Nat) (h_spec_decimal : Sound cx Tryd.prog gam 75 (⟨spec_decimal.sg, fun (x : Int × Unit) => spec_decimal.R N d x.1⟩ : Sm D)) : Sound cx Tryd.prog gam 75 (⟨spec_decimal.sg, fun (x : Int × Unit) => spec_decimal.R N (d + 1) x.1⟩ : Sm D) := fn_sound (A := spec_decimal.A) (Φ := (look (spec_decimal.phis N d))) pok (G := gam) (ΦOk.cons h_spec_decimal (fnOk_of (f := 75) (by kernel_rfl)) ΦOk.nil) mixed N Tryd.func75 (c := (bodyOf Tryd.f75)) (by kernel_rfl) spec_decimal.sg (by kernel_rfl) (by kernel_rfl) (by kernel_rfl) (spec_decimal.run N d)

theorem spec_decimal.scc (N : Nat) : ∀ d, Sound cx Tryd.prog gam 75 (⟨spec_decimal.sg, fun (x : Int × Unit) => spec_decimal.R N d x.1⟩ : Sm D)
  | 0 => none_sound 75 spec_decimal.sg
  | d + 1 => by
    have ih := spec_decimal.scc N d
    exact spec_decimal.step N d ih
noncomputable def spec_decimal.sm (N : Nat) : Sm D := (⟨spec_decimal.sg, fun (x : Int × Unit) => spec_decimal.R N N x.1⟩ : Sm D)
theorem spec_decimal.sound (N : Nat) : Sound cx Tryd.prog gam 75 (spec_decimal.sm N) := (spec_decimal.scc N N)
@[reducible] def spec_validShown.sg : Sg := { ms := [{ k := .str }], keep := [false], rs := [{ k := .bool }] }
@[reducible] def spec_validShown.lvL0 : Lv := { id := 0, slots := [0, 3], ms := [{ k := .str }, { k := (.int .i64) }] }
noncomputable def spec_validShown.A : Ann := { dp := fun d => isIn [] d, lp := look [(0, spec_validShown.lvL0)], jn := look [], pins := [], nt := 23 }
noncomputable def spec_validShown.phis (N : Nat) : List (Nat × Sm D) := [(105, spec_validWord.sm N), (75, spec_decimal.sm N)]
noncomputable def spec_validShown.a0 (N : Nat) (n : Nat) (y : (List UInt8) × Int × Unit) : Option (Bool × Unit) := loopAt cx (look (spec_validShown.phis N)) spec_validShown.A N n (encL cx spec_validShown.lvL0.ms y).1 (encL cx spec_validShown.lvL0.ms y).2 (bodyOf Tryd.f93) 0 (Kfin cx spec_validShown.A spec_validShown.sg Tryd.f93.results.toList) [1, 1, 0, 1, 1] []
theorem spec_validShown.r0 (N : Nat) : ∀ (n : Nat) (y : (List UInt8) × Int × Unit), spec_validShown.a0 N n y = spec_validShown.L0 N n y
  | 0, y => by kernel_rfl
  | n + 1, y => by
    have h : spec_validShown.a0 N (n + 1) y = spec_validShown.B0 N (fun z => spec_validShown.a0 N n z) y := by kernel_rfl
    have e : (fun z => spec_validShown.a0 N n z) = spec_validShown.L0 N n := funext fun z => spec_validShown.r0 N n z
    rw [h]
    try rw [e]
    first | done | rfl
theorem spec_validShown.run (N : Nat) (x : (List UInt8) × Unit) : runF cx (look (spec_validShown.phis N)) spec_validShown.A N (bodyOf Tryd.f93) Tryd.f93.results.toList spec_validShown.sg x = spec_validShown N x.1 := by
  have h : runF cx (look (spec_validShown.phis N)) spec_validShown.A N (bodyOf Tryd.f93) Tryd.f93.results.toList spec_validShown.sg x = spec_validShown.B N (fun z => spec_validShown.a0 N N z) x.1 := by kernel_rfl
  have e0 : (fun z => spec_validShown.a0 N N z) = spec_validShown.L0 N N := funext fun z => spec_validShown.r0 N N z
  rw [h, e0]
  try rfl
noncomputable def spec_validShown.sm (N : Nat) : Sm D := (⟨spec_validShown.sg, fun (x : (List UInt8) × Unit) => spec_validShown N x.1⟩ : Sm D)
theorem spec_validShown.sound (N : Nat) : Sound cx Tryd.prog gam 93 (spec_validShown.sm N) := fn_sound (A := spec_validShown.A) (Φ := (look (spec_validShown.phis N))) pok (G := gam) (ΦOk.cons (spec_validWord.sound N) (fnOk_of (f := 105) (by kernel_rfl)) (ΦOk.cons (spec_decimal.sound N) (fnOk_of (f := 75) (by kernel_rfl)) ΦOk.nil)) mixed N Tryd.func93 (c := (bodyOf Tryd.f93)) (by kernel_rfl) spec_validShown.sg (by kernel_rfl) (by kernel_rfl) (by kernel_rfl) (spec_validShown.run N)

@[reducible] def spec_validPropList.sg : Sg := { ms := [{ k := (.sl (.st 83)), fl := [none] }], keep := [false], rs := [{ k := .bool }] }
@[reducible] def spec_validPropList.lvL0 : Lv := { id := 0, slots := [0, 3], ms := [{ k := (.sl (.st 83)), fl := [none] }, { k := (.int .i64) }] }
noncomputable def spec_validPropList.A : Ann := { dp := fun d => isIn [] d, lp := look [(0, spec_validPropList.lvL0)], jn := look [], pins := [], nt := 44 }
noncomputable def spec_validPropList.phis (N : Nat) : List (Nat × Sm D) := [(63, spec_inRange.sm N), (103, spec_validValue.sm N)]
noncomputable def spec_validPropList.a0 (N : Nat) (n : Nat) (y : (List (ImplProp)) × Int × Unit) : Option (Bool × Unit) := loopAt cx (look (spec_validPropList.phis N)) spec_validPropList.A N n (encL cx spec_validPropList.lvL0.ms y).1 (encL cx spec_validPropList.lvL0.ms y).2 (bodyOf Tryd.f94) 0 (Kfin cx spec_validPropList.A spec_validPropList.sg Tryd.f94.results.toList) [1, 0, 1, 1] []
theorem spec_validPropList.r0 (N : Nat) : ∀ (n : Nat) (y : (List (ImplProp)) × Int × Unit), spec_validPropList.a0 N n y = spec_validPropList.L0 N n y
  | 0, y => by kernel_rfl
  | n + 1, y => by
    have h : spec_validPropList.a0 N (n + 1) y = spec_validPropList.B0 N (fun z => spec_validPropList.a0 N n z) y := by kernel_rfl
    have e : (fun z => spec_validPropList.a0 N n z) = spec_validPropList.L0 N n := funext fun z => spec_validPropList.r0 N n z
    rw [h]
    try rw [e]
    first | done | rfl
theorem spec_validPropList.run (N : Nat) (x : (List (ImplProp)) × Unit) : runF cx (look (spec_validPropList.phis N)) spec_validPropList.A N (bodyOf Tryd.f94) Tryd.f94.results.toList spec_validPropList.sg x = spec_validPropList N x.1 := by
  have h : runF cx (look (spec_validPropList.phis N)) spec_validPropList.A N (bodyOf Tryd.f94) Tryd.f94.results.toList spec_validPropList.sg x = spec_validPropList.B N (fun z => spec_validPropList.a0 N N z) x.1 := by kernel_rfl
  have e0 : (fun z => spec_validPropList.a0 N N z) = spec_validPropList.L0 N N := funext fun z => spec_validPropList.r0 N N z
  rw [h, e0]
  try rfl
noncomputable def spec_validPropList.sm (N : Nat) : Sm D := (⟨spec_validPropList.sg, fun (x : (List (ImplProp)) × Unit) => spec_validPropList N x.1⟩ : Sm D)
theorem spec_validPropList.sound (N : Nat) : Sound cx Tryd.prog gam 94 (spec_validPropList.sm N) := fn_sound (A := spec_validPropList.A) (Φ := (look (spec_validPropList.phis N))) pok (G := gam) (ΦOk.cons (spec_inRange.sound N) (fnOk_of (f := 63) (by kernel_rfl)) (ΦOk.cons (spec_validValue.sound N) (fnOk_of (f := 103) (by kernel_rfl)) ΦOk.nil)) mixed N Tryd.func94 (c := (bodyOf Tryd.f94)) (by kernel_rfl) spec_validPropList.sg (by kernel_rfl) (by kernel_rfl) (by kernel_rfl) (spec_validPropList.run N)

@[reducible] def spec_keysApart.sg : Sg := { ms := [{ k := (.sl (.st 25)), fl := [none] }], keep := [false], rs := [{ k := .bool }] }
@[reducible] def spec_keysApart.lvL2 : Lv := { id := 2, slots := [0, 3, 4], ms := [{ k := (.sl (.st 25)), fl := [none] }, { k := (.int .i64) }, { k := (.int .i64) }] }
@[reducible] def spec_keysApart.lvL0 : Lv := { id := 0, slots := [0, 3], ms := [{ k := (.sl (.st 25)), fl := [none] }, { k := (.int .i64) }] }
noncomputable def spec_keysApart.A : Ann := { dp := fun d => isIn [] d, lp := look [(2, spec_keysApart.lvL2), (0, spec_keysApart.lvL0)], jn := look [], pins := [], nt := 35 }
noncomputable def spec_keysApart.phis (N : Nat) : List (Nat × Sm D) := []
noncomputable def spec_keysApart.a2 (N : Nat) (m0 : Nat) (n : Nat) (y : (List (ImplTree)) × Int × Int × Unit) : Option (Bool × Unit) := loopAt cx (look (spec_keysApart.phis N)) spec_keysApart.A N n (encL cx spec_keysApart.lvL2.ms y).1 (encL cx spec_keysApart.lvL2.ms y).2 (bodyOf Tryd.f95) 0 (Kfin cx spec_keysApart.A spec_keysApart.sg Tryd.f95.results.toList) [1, 0, 1, 1, 1, 1, 0, 1, 1, 1] [m0]
noncomputable def spec_keysApart.a0 (N : Nat) (n : Nat) (y : (List (ImplTree)) × Int × Unit) : Option (Bool × Unit) := loopAt cx (look (spec_keysApart.phis N)) spec_keysApart.A N n (encL cx spec_keysApart.lvL0.ms y).1 (encL cx spec_keysApart.lvL0.ms y).2 (bodyOf Tryd.f95) 0 (Kfin cx spec_keysApart.A spec_keysApart.sg Tryd.f95.results.toList) [1, 0, 1, 1] []
theorem spec_keysApart.r2 (N : Nat) (m0 : Nat) : ∀ (n : Nat) (y : (List (ImplTree)) × Int × Int × Unit), spec_keysApart.a2 N m0 n y = spec_keysApart.L2 N (fun z => spec_keysApart.a0 N m0 z) n y
  | 0, y => by kernel_rfl
  | n + 1, y => by
    have h : spec_keysApart.a2 N m0 (n + 1) y = spec_keysApart.B2 N (fun z => spec_keysApart.a0 N m0 z) (fun z => spec_keysApart.a2 N m0 n z) y := by kernel_rfl
    have e : (fun z => spec_keysApart.a2 N m0 n z) = spec_keysApart.L2 N (fun z => spec_keysApart.a0 N m0 z) n := funext fun z => spec_keysApart.r2 N m0 n z
    rw [h]
    try rw [e]
    first | done | rfl
theorem spec_keysApart.r0 (N : Nat) : ∀ (n : Nat) (y : (List (ImplTree)) × Int × Unit), spec_keysApart.a0 N n y = spec_keysApart.L0 N n y
  | 0, y => by kernel_rfl
  | n + 1, y => by
    have h : spec_keysApart.a0 N (n + 1) y = spec_keysApart.B0 N (fun z => spec_keysApart.a2 N n N z) y := by kernel_rfl
    have e : (fun z => spec_keysApart.a0 N n z) = spec_keysApart.L0 N n := funext fun z => spec_keysApart.r0 N n z
    have e2 : (fun z => spec_keysApart.a2 N n N z) = spec_keysApart.L2 N (fun z => spec_keysApart.a0 N n z) N := funext fun z => spec_keysApart.r2 N n N z
    rw [h, e2]
    try rw [e]
    first | done | rfl
theorem spec_keysApart.run (N : Nat) (x : (List (ImplTree)) × Unit) : runF cx (look (spec_keysApart.phis N)) spec_keysApart.A N (bodyOf Tryd.f95) Tryd.f95.results.toList spec_keysApart.sg x = spec_keysApart N x.1 := by
  have h : runF cx (look (spec_keysApart.phis N)) spec_keysApart.A N (bodyOf Tryd.f95) Tryd.f95.results.toList spec_keysApart.sg x = spec_keysApart.B N (fun z => spec_keysApart.a0 N N z) x.1 := by kernel_rfl
  have e0 : (fun z => spec_keysApart.a0 N N z) = spec_keysApart.L0 N N := funext fun z => spec_keysApart.r0 N N z
  rw [h, e0]
  try rfl
noncomputable def spec_keysApart.sm (N : Nat) : Sm D := (⟨spec_keysApart.sg, fun (x : (List (ImplTree)) × Unit) => spec_keysApart N x.1⟩ : Sm D)
theorem spec_keysApart.sound (N : Nat) : Sound cx Tryd.prog gam 95 (spec_keysApart.sm N) := fn_sound (A := spec_keysApart.A) (Φ := (look (spec_keysApart.phis N))) pok (G := gam) ΦOk.nil mixed N Tryd.func95 (c := (bodyOf Tryd.f95)) (by kernel_rfl) spec_keysApart.sg (by kernel_rfl) (by kernel_rfl) (by kernel_rfl) (spec_keysApart.run N)

@[reducible] def spec_validPart.sg : Sg := { ms := [{ k := (.st 25) }], keep := [false], rs := [{ k := .bool }] }
@[reducible] def spec_validPart.lvL0 : Lv := { id := 0, slots := [1, 3], ms := [{ ptr := true, id := 600, t := 26, k := (.st 25), fl := [none, none, none, none, none] }, { k := (.int .i64) }] }
noncomputable def spec_validPart.A : Ann := { dp := fun d => isIn [] d, lp := look [(0, spec_validPart.lvL0)], jn := look [], pins := [], nt := 65 }
noncomputable def spec_validPart.phis (N : Nat) (d : Nat) : List (Nat × Sm D) := [(93, spec_validShown.sm N), (63, spec_inRange.sm N), (94, spec_validPropList.sm N), (74, (⟨spec_validPart.sg, fun (x : ImplTree × Unit) => spec_validPart.R N d x.1⟩ : Sm D)), (95, spec_keysApart.sm N)]
noncomputable def spec_validPart.a0 (N : Nat) (d : Nat) (n : Nat) (y : ImplTree × Int × Unit) : Option (Bool × Unit) := loopAt cx (look (spec_validPart.phis N d)) spec_validPart.A N n (encL cx spec_validPart.lvL0.ms y).1 (encL cx spec_validPart.lvL0.ms y).2 (bodyOf Tryd.f74) 0 (Kfin cx spec_validPart.A spec_validPart.sg Tryd.f74.results.toList) [1, 1, 1, 0, 1, 1] []
theorem spec_validPart.r0 (N : Nat) (d : Nat) : ∀ (n : Nat) (y : ImplTree × Int × Unit), spec_validPart.a0 N d n y = spec_validPart.L0 N (spec_validPart.R N d) n y
  | 0, y => by kernel_rfl
  | n + 1, y => by
    have h : spec_validPart.a0 N d (n + 1) y = spec_validPart.B0 N (spec_validPart.R N d) (fun z => spec_validPart.a0 N d n z) y := by kernel_rfl
    have e : (fun z => spec_validPart.a0 N d n z) = spec_validPart.L0 N (spec_validPart.R N d) n := funext fun z => spec_validPart.r0 N d n z
    rw [h]
    try rw [e]
    first | done | rfl
theorem spec_validPart.run (N : Nat) (d : Nat) (x : ImplTree × Unit) : runF cx (look (spec_validPart.phis N d)) spec_validPart.A N (bodyOf Tryd.f74) Tryd.f74.results.toList spec_validPart.sg x = spec_validPart.R N (d + 1) x.1 := by
  have h : runF cx (look (spec_validPart.phis N d)) spec_validPart.A N (bodyOf Tryd.f74) Tryd.f74.results.toList spec_validPart.sg x = spec_validPart.B N (spec_validPart.R N d) (fun z => spec_validPart.a0 N d N z) x.1 := by kernel_rfl
  have e0 : (fun z => spec_validPart.a0 N d N z) = spec_validPart.L0 N (spec_validPart.R N d) N := funext fun z => spec_validPart.r0 N d N z
  rw [h, e0]
  try rfl
theorem spec_validPart.step (N : Nat) (d : Nat) (h_spec_validPart : Sound cx Tryd.prog gam 74 (⟨spec_validPart.sg, fun (x : ImplTree × Unit) => spec_validPart.R N d x.1⟩ : Sm D)) : Sound cx Tryd.prog gam 74 (⟨spec_validPart.sg, fun (x : ImplTree × Unit) => spec_validPart.R N (d + 1) x.1⟩ : Sm D) := fn_sound (A := spec_validPart.A) (Φ := (look (spec_validPart.phis N d))) pok (G := gam) (ΦOk.cons (spec_validShown.sound N) (fnOk_of (f := 93) (by kernel_rfl)) (ΦOk.cons (spec_inRange.sound N) (fnOk_of (f := 63) (by kernel_rfl)) (ΦOk.cons (spec_validPropList.sound N) (fnOk_of (f := 94) (by kernel_rfl)) (ΦOk.cons h_spec_validPart (fnOk_of (f := 74) (by kernel_rfl)) (ΦOk.cons (spec_keysApart.sound N) (fnOk_of (f := 95) (by kernel_rfl)) ΦOk.nil))))) mixed N Tryd.func74 (c := (bodyOf Tryd.f74)) (by kernel_rfl) spec_validPart.sg (by kernel_rfl) (by kernel_rfl) (by kernel_rfl) (spec_validPart.run N d)

theorem spec_validPart.scc (N : Nat) : ∀ d, Sound cx Tryd.prog gam 74 (⟨spec_validPart.sg, fun (x : ImplTree × Unit) => spec_validPart.R N d x.1⟩ : Sm D)
  | 0 => none_sound 74 spec_validPart.sg
  | d + 1 => by
    have ih := spec_validPart.scc N d
    exact spec_validPart.step N d ih
noncomputable def spec_validPart.sm (N : Nat) : Sm D := (⟨spec_validPart.sg, fun (x : ImplTree × Unit) => spec_validPart.R N N x.1⟩ : Sm D)
theorem spec_validPart.sound (N : Nat) : Sound cx Tryd.prog gam 74 (spec_validPart.sm N) := (spec_validPart.scc N N)
@[reducible] def spec_validTree.sg : Sg := { ms := [{ k := (.st 25) }], keep := [false], rs := [{ k := .bool }] }
noncomputable def spec_validTree.A : Ann := { dp := fun d => isIn [] d, lp := look [], jn := look [], pins := [], nt := 10 }
noncomputable def spec_validTree.phis (N : Nat) : List (Nat × Sm D) := [(52, spec_treeSize.sm N), (74, spec_validPart.sm N)]
theorem spec_validTree.run (N : Nat) (x : ImplTree × Unit) : runF cx (look (spec_validTree.phis N)) spec_validTree.A N (bodyOf Tryd.f43) Tryd.f43.results.toList spec_validTree.sg x = spec_validTree N x.1 := by
  have h : runF cx (look (spec_validTree.phis N)) spec_validTree.A N (bodyOf Tryd.f43) Tryd.f43.results.toList spec_validTree.sg x = spec_validTree.B N x.1 := by kernel_rfl
  rw [h]
  try rfl
noncomputable def spec_validTree.sm (N : Nat) : Sm D := (⟨spec_validTree.sg, fun (x : ImplTree × Unit) => spec_validTree N x.1⟩ : Sm D)
theorem spec_validTree.sound (N : Nat) : Sound cx Tryd.prog gam 43 (spec_validTree.sm N) := fn_sound (A := spec_validTree.A) (Φ := (look (spec_validTree.phis N))) pok (G := gam) (ΦOk.cons (spec_treeSize.sound N) (fnOk_of (f := 52) (by kernel_rfl)) (ΦOk.cons (spec_validPart.sound N) (fnOk_of (f := 74) (by kernel_rfl)) ΦOk.nil)) mixed N Tryd.func43 (c := (bodyOf Tryd.f43)) (by kernel_rfl) spec_validTree.sg (by kernel_rfl) (by kernel_rfl) (by kernel_rfl) (spec_validTree.run N)

@[reducible] def spec_TreeOk.sg : Sg := { ms := [{ k := (.st 25) }], keep := [false], rs := [{ k := .bool }] }
noncomputable def spec_TreeOk.A : Ann := { dp := fun d => isIn [] d, lp := look [], jn := look [], pins := [], nt := 5 }
noncomputable def spec_TreeOk.phis (N : Nat) : List (Nat × Sm D) := [(43, spec_validTree.sm N)]
theorem spec_TreeOk.run (N : Nat) (x : ImplTree × Unit) : runF cx (look (spec_TreeOk.phis N)) spec_TreeOk.A N (bodyOf Tryd.f17) Tryd.f17.results.toList spec_TreeOk.sg x = spec_TreeOk N x.1 := by
  have h : runF cx (look (spec_TreeOk.phis N)) spec_TreeOk.A N (bodyOf Tryd.f17) Tryd.f17.results.toList spec_TreeOk.sg x = spec_TreeOk.B N x.1 := by kernel_rfl
  rw [h]
  try rfl
noncomputable def spec_TreeOk.sm (N : Nat) : Sm D := (⟨spec_TreeOk.sg, fun (x : ImplTree × Unit) => spec_TreeOk N x.1⟩ : Sm D)
theorem spec_TreeOk.sound (N : Nat) : Sound cx Tryd.prog gam 17 (spec_TreeOk.sm N) := fn_sound (A := spec_TreeOk.A) (Φ := (look (spec_TreeOk.phis N))) pok (G := gam) (ΦOk.cons (spec_validTree.sound N) (fnOk_of (f := 43) (by kernel_rfl)) ΦOk.nil) mixed N Tryd.func17 (c := (bodyOf Tryd.f17)) (by kernel_rfl) spec_TreeOk.sg (by kernel_rfl) (by kernel_rfl) (by kernel_rfl) (spec_TreeOk.run N)

@[reducible] def spec_sameProps.sg : Sg := { ms := [{ k := (.sl (.st 83)), fl := [none] }, { k := (.sl (.st 83)), fl := [none] }], keep := [false, false], rs := [{ k := .bool }] }
@[reducible] def spec_sameProps.lvL0 : Lv := { id := 0, slots := [0, 1, 5], ms := [{ k := (.sl (.st 83)), fl := [none] }, { k := (.sl (.st 83)), fl := [none] }, { k := (.int .i64) }] }
noncomputable def spec_sameProps.A : Ann := { dp := fun d => isIn [] d, lp := look [(0, spec_sameProps.lvL0)], jn := look [], pins := [], nt := 26 }
noncomputable def spec_sameProps.phis (N : Nat) : List (Nat × Sm D) := []
noncomputable def spec_sameProps.a0 (N : Nat) (n : Nat) (y : (List (ImplProp)) × (List (ImplProp)) × Int × Unit) : Option (Bool × Unit) := loopAt cx (look (spec_sameProps.phis N)) spec_sameProps.A N n (encL cx spec_sameProps.lvL0.ms y).1 (encL cx spec_sameProps.lvL0.ms y).2 (bodyOf Tryd.f84) 0 (Kfin cx spec_sameProps.A spec_sameProps.sg Tryd.f84.results.toList) [1, 1, 0, 1, 1] []
theorem spec_sameProps.r0 (N : Nat) : ∀ (n : Nat) (y : (List (ImplProp)) × (List (ImplProp)) × Int × Unit), spec_sameProps.a0 N n y = spec_sameProps.L0 N n y
  | 0, y => by kernel_rfl
  | n + 1, y => by
    have h : spec_sameProps.a0 N (n + 1) y = spec_sameProps.B0 N (fun z => spec_sameProps.a0 N n z) y := by kernel_rfl
    have e : (fun z => spec_sameProps.a0 N n z) = spec_sameProps.L0 N n := funext fun z => spec_sameProps.r0 N n z
    rw [h]
    try rw [e]
    first | done | rfl
theorem spec_sameProps.run (N : Nat) (x : (List (ImplProp)) × (List (ImplProp)) × Unit) : runF cx (look (spec_sameProps.phis N)) spec_sameProps.A N (bodyOf Tryd.f84) Tryd.f84.results.toList spec_sameProps.sg x = spec_sameProps N x.1 x.2.1 := by
  have h : runF cx (look (spec_sameProps.phis N)) spec_sameProps.A N (bodyOf Tryd.f84) Tryd.f84.results.toList spec_sameProps.sg x = spec_sameProps.B N (fun z => spec_sameProps.a0 N N z) x.1 x.2.1 := by kernel_rfl
  have e0 : (fun z => spec_sameProps.a0 N N z) = spec_sameProps.L0 N N := funext fun z => spec_sameProps.r0 N N z
  rw [h, e0]
  try rfl
noncomputable def spec_sameProps.sm (N : Nat) : Sm D := (⟨spec_sameProps.sg, fun (x : (List (ImplProp)) × (List (ImplProp)) × Unit) => spec_sameProps N x.1 x.2.1⟩ : Sm D)
theorem spec_sameProps.sound (N : Nat) : Sound cx Tryd.prog gam 84 (spec_sameProps.sm N) := fn_sound (A := spec_sameProps.A) (Φ := (look (spec_sameProps.phis N))) pok (G := gam) ΦOk.nil mixed N Tryd.func84 (c := (bodyOf Tryd.f84)) (by kernel_rfl) spec_sameProps.sg (by kernel_rfl) (by kernel_rfl) (by kernel_rfl) (spec_sameProps.run N)

@[reducible] def spec_sameTree.sg : Sg := { ms := [{ k := (.st 25) }, { k := (.st 25) }], keep := [false, false], rs := [{ k := .bool }] }
@[reducible] def spec_sameTree.lvL0 : Lv := { id := 0, slots := [2, 3, 5], ms := [{ ptr := true, id := 600, t := 26, k := (.st 25), fl := [none, none, none, none, none] }, { ptr := true, id := 620, t := 26, k := (.st 25), fl := [none, none, none, none, none] }, { k := (.int .i64) }] }
noncomputable def spec_sameTree.A : Ann := { dp := fun d => isIn [] d, lp := look [(0, spec_sameTree.lvL0)], jn := look [], pins := [], nt := 61 }
noncomputable def spec_sameTree.phis (N : Nat) (d : Nat) : List (Nat × Sm D) := [(84, spec_sameProps.sm N), (59, (⟨spec_sameTree.sg, fun (x : ImplTree × ImplTree × Unit) => spec_sameTree.R N d x.1 x.2.1⟩ : Sm D))]
noncomputable def spec_sameTree.a0 (N : Nat) (d : Nat) (n : Nat) (y : ImplTree × ImplTree × Int × Unit) : Option (Bool × Unit) := loopAt cx (look (spec_sameTree.phis N d)) spec_sameTree.A N n (encL cx spec_sameTree.lvL0.ms y).1 (encL cx spec_sameTree.lvL0.ms y).2 (bodyOf Tryd.f59) 0 (Kfin cx spec_sameTree.A spec_sameTree.sg Tryd.f59.results.toList) [1, 1, 0, 1, 1] []
theorem spec_sameTree.r0 (N : Nat) (d : Nat) : ∀ (n : Nat) (y : ImplTree × ImplTree × Int × Unit), spec_sameTree.a0 N d n y = spec_sameTree.L0 N (spec_sameTree.R N d) n y
  | 0, y => by kernel_rfl
  | n + 1, y => by
    have h : spec_sameTree.a0 N d (n + 1) y = spec_sameTree.B0 N (spec_sameTree.R N d) (fun z => spec_sameTree.a0 N d n z) y := by kernel_rfl
    have e : (fun z => spec_sameTree.a0 N d n z) = spec_sameTree.L0 N (spec_sameTree.R N d) n := funext fun z => spec_sameTree.r0 N d n z
    rw [h]
    try rw [e]
    first | done | rfl
theorem spec_sameTree.run (N : Nat) (d : Nat) (x : ImplTree × ImplTree × Unit) : runF cx (look (spec_sameTree.phis N d)) spec_sameTree.A N (bodyOf Tryd.f59) Tryd.f59.results.toList spec_sameTree.sg x = spec_sameTree.R N (d + 1) x.1 x.2.1 := by
  have h : runF cx (look (spec_sameTree.phis N d)) spec_sameTree.A N (bodyOf Tryd.f59) Tryd.f59.results.toList spec_sameTree.sg x = spec_sameTree.B N (spec_sameTree.R N d) (fun z => spec_sameTree.a0 N d N z) x.1 x.2.1 := by kernel_rfl
  have e0 : (fun z => spec_sameTree.a0 N d N z) = spec_sameTree.L0 N (spec_sameTree.R N d) N := funext fun z => spec_sameTree.r0 N d N z
  rw [h, e0]
  try rfl
theorem spec_sameTree.step (N : Nat) (d : Nat) (h_spec_sameTree : Sound cx Tryd.prog gam 59 (⟨spec_sameTree.sg, fun (x : ImplTree × ImplTree × Unit) => spec_sameTree.R N d x.1 x.2.1⟩ : Sm D)) : Sound cx Tryd.prog gam 59 (⟨spec_sameTree.sg, fun (x : ImplTree × ImplTree × Unit) => spec_sameTree.R N (d + 1) x.1 x.2.1⟩ : Sm D) := fn_sound (A := spec_sameTree.A) (Φ := (look (spec_sameTree.phis N d))) pok (G := gam) (ΦOk.cons (spec_sameProps.sound N) (fnOk_of (f := 84) (by kernel_rfl)) (ΦOk.cons h_spec_sameTree (fnOk_of (f := 59) (by kernel_rfl)) ΦOk.nil)) mixed N Tryd.func59 (c := (bodyOf Tryd.f59)) (by kernel_rfl) spec_sameTree.sg (by kernel_rfl) (by kernel_rfl) (by kernel_rfl) (spec_sameTree.run N d)

theorem spec_sameTree.scc (N : Nat) : ∀ d, Sound cx Tryd.prog gam 59 (⟨spec_sameTree.sg, fun (x : ImplTree × ImplTree × Unit) => spec_sameTree.R N d x.1 x.2.1⟩ : Sm D)
  | 0 => none_sound 59 spec_sameTree.sg
  | d + 1 => by
    have ih := spec_sameTree.scc N d
    exact spec_sameTree.step N d ih
noncomputable def spec_sameTree.sm (N : Nat) : Sm D := (⟨spec_sameTree.sg, fun (x : ImplTree × ImplTree × Unit) => spec_sameTree.R N N x.1 x.2.1⟩ : Sm D)
theorem spec_sameTree.sound (N : Nat) : Sound cx Tryd.prog gam 59 (spec_sameTree.sm N) := (spec_sameTree.scc N N)
@[reducible] def spec_SameTree.sg : Sg := { ms := [{ k := (.st 25) }, { k := (.st 25) }], keep := [false, false], rs := [{ k := .bool }] }
noncomputable def spec_SameTree.A : Ann := { dp := fun d => isIn [] d, lp := look [], jn := look [], pins := [], nt := 8 }
noncomputable def spec_SameTree.phis (N : Nat) : List (Nat × Sm D) := [(59, spec_sameTree.sm N)]
theorem spec_SameTree.run (N : Nat) (x : ImplTree × ImplTree × Unit) : runF cx (look (spec_SameTree.phis N)) spec_SameTree.A N (bodyOf Tryd.f26) Tryd.f26.results.toList spec_SameTree.sg x = spec_SameTree N x.1 x.2.1 := by
  have h : runF cx (look (spec_SameTree.phis N)) spec_SameTree.A N (bodyOf Tryd.f26) Tryd.f26.results.toList spec_SameTree.sg x = spec_SameTree.B N x.1 x.2.1 := by kernel_rfl
  rw [h]
  try rfl
noncomputable def spec_SameTree.sm (N : Nat) : Sm D := (⟨spec_SameTree.sg, fun (x : ImplTree × ImplTree × Unit) => spec_SameTree N x.1 x.2.1⟩ : Sm D)
theorem spec_SameTree.sound (N : Nat) : Sound cx Tryd.prog gam 26 (spec_SameTree.sm N) := fn_sound (A := spec_SameTree.A) (Φ := (look (spec_SameTree.phis N))) pok (G := gam) (ΦOk.cons (spec_sameTree.sound N) (fnOk_of (f := 59) (by kernel_rfl)) ΦOk.nil) mixed N Tryd.func26 (c := (bodyOf Tryd.f26)) (by kernel_rfl) spec_SameTree.sg (by kernel_rfl) (by kernel_rfl) (by kernel_rfl) (spec_SameTree.run N)

@[reducible] def spec_DrawTreeOk.sg : Sg := { ms := [{ k := (.sl (.int .u8)), fl := [none] }], keep := [false], rs := [{ k := (.st 25) }], hold := true }
noncomputable def spec_DrawTreeOk.A : Ann := { dp := fun d => isIn [] d, lp := look [], jn := look [], pins := [], nt := 8 }
noncomputable def spec_DrawTreeOk.phis (N : Nat) : List (Nat × Sm D) := [(40, spec_newSource.sm N), (41, spec_source_whole.sm N)]
theorem spec_DrawTreeOk.run (N : Nat) (x : (List (Int)) × Unit) : runF cx (look (spec_DrawTreeOk.phis N)) spec_DrawTreeOk.A N (bodyOf Tryd.f38) Tryd.f38.results.toList spec_DrawTreeOk.sg x = spec_DrawTreeOk N x.1 := by
  have h : runF cx (look (spec_DrawTreeOk.phis N)) spec_DrawTreeOk.A N (bodyOf Tryd.f38) Tryd.f38.results.toList spec_DrawTreeOk.sg x = spec_DrawTreeOk.B N x.1 := by kernel_rfl
  rw [h]
  try rfl
noncomputable def spec_DrawTreeOk.sm (N : Nat) : Sm D := (⟨spec_DrawTreeOk.sg, fun (x : (List (Int)) × Unit) => spec_DrawTreeOk N x.1⟩ : Sm D)
theorem spec_DrawTreeOk.sound (N : Nat) : Sound cx Tryd.prog gam 38 (spec_DrawTreeOk.sm N) := fn_sound (A := spec_DrawTreeOk.A) (Φ := (look (spec_DrawTreeOk.phis N))) pok (G := gam) (ΦOk.cons (spec_newSource.sound N) (fnOk_of (f := 40) (by kernel_rfl)) (ΦOk.cons (spec_source_whole.sound N) (fnOk_of (f := 41) (by kernel_rfl)) ΦOk.nil)) mixed N Tryd.func38 (c := (bodyOf Tryd.f38)) (by kernel_rfl) spec_DrawTreeOk.sg (by kernel_rfl) (by kernel_rfl) (by kernel_rfl) (spec_DrawTreeOk.run N)

@[reducible] def impl_treeReader_peek.sg : Sg := { ms := [{ ptr := true, id := 10, t := 75, k := (.st 74) }], keep := [true], rs := [{ k := (.int .u8) }] }
noncomputable def impl_treeReader_peek.A : Ann := { dp := fun d => isIn [] d, lp := look [], jn := look [], pins := [10], nt := 22 }
noncomputable def impl_treeReader_peek.phis (N : Nat) : List (Nat × Sm D) := []
theorem impl_treeReader_peek.run (N : Nat) (x : ImplTreeReader × Unit) : runF cx (look (impl_treeReader_peek.phis N)) impl_treeReader_peek.A N (bodyOf Tryd.f85) Tryd.f85.results.toList impl_treeReader_peek.sg x = impl_treeReader_peek N x.1 := by
  have h : runF cx (look (impl_treeReader_peek.phis N)) impl_treeReader_peek.A N (bodyOf Tryd.f85) Tryd.f85.results.toList impl_treeReader_peek.sg x = impl_treeReader_peek.B N x.1 := by kernel_rfl
  rw [h]
  try rfl
noncomputable def impl_treeReader_peek.sm (N : Nat) : Sm D := (⟨impl_treeReader_peek.sg, fun (x : ImplTreeReader × Unit) => impl_treeReader_peek N x.1⟩ : Sm D)
theorem impl_treeReader_peek.sound (N : Nat) : Sound cx Tryd.prog gam 85 (impl_treeReader_peek.sm N) := fn_sound (A := impl_treeReader_peek.A) (Φ := (look (impl_treeReader_peek.phis N))) pok (G := gam) ΦOk.nil mixed N Tryd.func85 (c := (bodyOf Tryd.f85)) (by kernel_rfl) impl_treeReader_peek.sg (by kernel_rfl) (by kernel_rfl) (by kernel_rfl) (impl_treeReader_peek.run N)

@[reducible] def impl_treeReader_take.sg : Sg := { ms := [{ ptr := true, id := 10, t := 75, k := (.st 74) }, { k := (.int .u8) }], keep := [true, false], rs := [] }
@[reducible] def impl_treeReader_take.lvJ2 : Lv := { id := 2, slots := [0], ms := [{ ptr := true, id := 10, t := 75, k := (.st 74), fl := [none, none, none] }] }
noncomputable def impl_treeReader_take.A : Ann := { dp := fun d => isIn [] d, lp := look [], jn := look [(2, impl_treeReader_take.lvJ2)], pins := [10], nt := 18 }
noncomputable def impl_treeReader_take.phis (N : Nat) : List (Nat × Sm D) := [(85, impl_treeReader_peek.sm N)]
theorem impl_treeReader_take.run (N : Nat) (x : ImplTreeReader × Int × Unit) : runF cx (look (impl_treeReader_take.phis N)) impl_treeReader_take.A N (bodyOf Tryd.f87) Tryd.f87.results.toList impl_treeReader_take.sg x = impl_treeReader_take N x.1 x.2.1 := by
  have h : runF cx (look (impl_treeReader_take.phis N)) impl_treeReader_take.A N (bodyOf Tryd.f87) Tryd.f87.results.toList impl_treeReader_take.sg x = impl_treeReader_take.B N x.1 x.2.1 := by kernel_rfl
  rw [h]
  try rfl
noncomputable def impl_treeReader_take.sm (N : Nat) : Sm D := (⟨impl_treeReader_take.sg, fun (x : ImplTreeReader × Int × Unit) => impl_treeReader_take N x.1 x.2.1⟩ : Sm D)
theorem impl_treeReader_take.sound (N : Nat) : Sound cx Tryd.prog gam 87 (impl_treeReader_take.sm N) := fn_sound (A := impl_treeReader_take.A) (Φ := (look (impl_treeReader_take.phis N))) pok (G := gam) (ΦOk.cons (impl_treeReader_peek.sound N) (fnOk_of (f := 85) (by kernel_rfl)) ΦOk.nil) mixed N Tryd.func87 (c := (bodyOf Tryd.f87)) (by kernel_rfl) impl_treeReader_take.sg (by kernel_rfl) (by kernel_rfl) (by kernel_rfl) (impl_treeReader_take.run N)

@[reducible] def impl_treeReader_quoted.sg : Sg := { ms := [{ ptr := true, id := 10, t := 75, k := (.st 74) }], keep := [true], rs := [{ k := .str }] }
@[reducible] def impl_treeReader_quoted.lvL0 : Lv := { id := 0, slots := [0, 3], ms := [{ ptr := true, id := 10, t := 75, k := (.st 74), fl := [none, none, none] }, { k := (.int .i64) }] }
noncomputable def impl_treeReader_quoted.A : Ann := { dp := fun d => isIn [] d, lp := look [(0, impl_treeReader_quoted.lvL0)], jn := look [], pins := [10], nt := 77 }
noncomputable def impl_treeReader_quoted.phis (N : Nat) : List (Nat × Sm D) := [(87, impl_treeReader_take.sm N)]
noncomputable def impl_treeReader_quoted.a0 (N : Nat) (n : Nat) (y : ImplTreeReader × Int × Unit) : Option (ImplTreeReader × (List UInt8) × Unit) := loopAt cx (look (impl_treeReader_quoted.phis N)) impl_treeReader_quoted.A N n (encL cx impl_treeReader_quoted.lvL0.ms y).1 (encL cx impl_treeReader_quoted.lvL0.ms y).2 (bodyOf Tryd.f86) 0 (Kfin cx impl_treeReader_quoted.A impl_treeReader_quoted.sg Tryd.f86.results.toList) [1, 1, 1, 0, 1] []
theorem impl_treeReader_quoted.r0 (N : Nat) : ∀ (n : Nat) (y : ImplTreeReader × Int × Unit), impl_treeReader_quoted.a0 N n y = impl_treeReader_quoted.L0 N n y
  | 0, y => by kernel_rfl
  | n + 1, y => by
    have h : impl_treeReader_quoted.a0 N (n + 1) y = impl_treeReader_quoted.B0 N (fun z => impl_treeReader_quoted.a0 N n z) y := by kernel_rfl
    have e : (fun z => impl_treeReader_quoted.a0 N n z) = impl_treeReader_quoted.L0 N n := funext fun z => impl_treeReader_quoted.r0 N n z
    rw [h]
    try rw [e]
    first | done | rfl
theorem impl_treeReader_quoted.run (N : Nat) (x : ImplTreeReader × Unit) : runF cx (look (impl_treeReader_quoted.phis N)) impl_treeReader_quoted.A N (bodyOf Tryd.f86) Tryd.f86.results.toList impl_treeReader_quoted.sg x = impl_treeReader_quoted N x.1 := by
  have h : runF cx (look (impl_treeReader_quoted.phis N)) impl_treeReader_quoted.A N (bodyOf Tryd.f86) Tryd.f86.results.toList impl_treeReader_quoted.sg x = impl_treeReader_quoted.B N (fun z => impl_treeReader_quoted.a0 N N z) x.1 := by kernel_rfl
  have e0 : (fun z => impl_treeReader_quoted.a0 N N z) = impl_treeReader_quoted.L0 N N := funext fun z => impl_treeReader_quoted.r0 N N z
  rw [h, e0]
  try rfl
noncomputable def impl_treeReader_quoted.sm (N : Nat) : Sm D := (⟨impl_treeReader_quoted.sg, fun (x : ImplTreeReader × Unit) => impl_treeReader_quoted N x.1⟩ : Sm D)
theorem impl_treeReader_quoted.sound (N : Nat) : Sound cx Tryd.prog gam 86 (impl_treeReader_quoted.sm N) := fn_sound (A := impl_treeReader_quoted.A) (Φ := (look (impl_treeReader_quoted.phis N))) pok (G := gam) (ΦOk.cons (impl_treeReader_take.sound N) (fnOk_of (f := 87) (by kernel_rfl)) ΦOk.nil) mixed N Tryd.func86 (c := (bodyOf Tryd.f86)) (by kernel_rfl) impl_treeReader_quoted.sg (by kernel_rfl) (by kernel_rfl) (by kernel_rfl) (impl_treeReader_quoted.run N)

end
end Go.Ev
