/- Each function that the law reaches does what its plain form says; no condition beyond the table of the library. -/
import Derived.Test.YtedoninjdbaeoaaDoorEvT0
set_option linter.all false
set_option linter.unusedVariables false
set_option linter.unusedSimpArgs false
set_option maxRecDepth 100000
set_option maxHeartbeats 0
namespace Go.Ev
noncomputable section
open Go.Proofs
@[reducible] def spec_validPart.sg : Sg := { ms := [{ k := (.st 32) }], keep := [false], rs := [{ k := .bool }] }
@[reducible] def spec_validPart.lvL0 : Lv := { id := 0, slots := [1, 3], ms := [{ ptr := true, id := 600, t := 33, k := (.st 32), fl := [none, none, none, none, none] }, { k := (.int .i64) }] }
noncomputable def spec_validPart.A : Ann := { dp := fun d => isIn [] d, lp := look [(0, spec_validPart.lvL0)], jn := look [], pins := [], nt := 65 }
noncomputable def spec_validPart.phis (N : Nat) (d : Nat) : List (Nat × Sm D) := [(56, spec_validShown.sm N), (24, spec_inRange.sm N), (57, spec_validPropList.sm N), (44, (⟨spec_validPart.sg, fun (x : ImplTree × Unit) => spec_validPart.R N d x.1⟩ : Sm D)), (58, spec_keysApart.sm N)]
noncomputable def spec_validPart.a0 (N : Nat) (d : Nat) (n : Nat) (y : ImplTree × Int × Unit) : Option (Bool × Unit) := loopAt cx (look (spec_validPart.phis N d)) spec_validPart.A N n (encL cx spec_validPart.lvL0.ms y).1 (encL cx spec_validPart.lvL0.ms y).2 (bodyOf Tryd.f44) 0 (Kfin cx spec_validPart.A spec_validPart.sg Tryd.f44.results.toList) [1, 1, 1, 0, 1, 1] []
theorem spec_validPart.r0 (N : Nat) (d : Nat) : ∀ (n : Nat) (y : ImplTree × Int × Unit), spec_validPart.a0 N d n y = spec_validPart.L0 N (spec_validPart.R N d) n y
  | 0, y => by kernel_rfl
  | n + 1, y => by
    have h : spec_validPart.a0 N d (n + 1) y = spec_validPart.B0 N (spec_validPart.R N d) (fun z => spec_validPart.a0 N d n z) y := by kernel_rfl
    have e : (fun z => spec_validPart.a0 N d n z) = spec_validPart.L0 N (spec_validPart.R N d) n := funext fun z => spec_validPart.r0 N d n z
    rw [h]
    try rw [e]
    first | done | rfl
theorem spec_validPart.run (N : Nat) (d : Nat) (x : ImplTree × Unit) : runF cx (look (spec_validPart.phis N d)) spec_validPart.A N (bodyOf Tryd.f44) Tryd.f44.results.toList spec_validPart.sg x = spec_validPart.R N (d + 1) x.1 := by
  have h : runF cx (look (spec_validPart.phis N d)) spec_validPart.A N (bodyOf Tryd.f44) Tryd.f44.results.toList spec_validPart.sg x = spec_validPart.B N (spec_validPart.R N d) (fun z => spec_validPart.a0 N d N z) x.1 := by kernel_rfl
  have e0 : (fun z => spec_validPart.a0 N d N z) = spec_validPart.L0 N (spec_validPart.R N d) N := funext fun z => spec_validPart.r0 N d N z
  rw [h, e0]
  try rfl
theorem spec_validPart.step (N : Nat) (d : Nat) (h_spec_validPart : Sound cx Tryd.prog gam 44 (⟨spec_validPart.sg, fun (x : ImplTree × Unit) => spec_validPart.R N d x.1⟩ : Sm D)) : Sound cx Tryd.prog gam 44 (⟨spec_validPart.sg, fun (x : ImplTree × Unit) => spec_validPart.R N (d + 1) x.1⟩ : Sm D) := fn_sound (A := spec_validPart.A) (Φ := (look (spec_validPart.phis N d))) pok (G := gam) (ΦOk.cons (spec_validShown.sound N) (fnOk_of (f := 56) (by kernel_rfl)) (ΦOk.cons (spec_inRange.sound N) (fnOk_of (f := 24) (by kernel_rfl)) (ΦOk.cons (spec_validPropList.sound N) (fnOk_of (f := 57) (by kernel_rfl)) (ΦOk.cons h_spec_validPart (fnOk_of (f := 44) (by kernel_rfl)) (ΦOk.cons (spec_keysApart.sound N) (fnOk_of (f := 58) (by kernel_rfl)) ΦOk.nil))))) mixed N Tryd.func44 (c := (bodyOf Tryd.f44)) (by kernel_rfl) spec_validPart.sg (by kernel_rfl) (by kernel_rfl) (by kernel_rfl) (spec_validPart.run N d)

theorem spec_validPart.scc (N : Nat) : ∀ d, Sound cx Tryd.prog gam 44 (⟨spec_validPart.sg, fun (x : ImplTree × Unit) => spec_validPart.R N d x.1⟩ : Sm D)
  | 0 => none_sound 44 spec_validPart.sg
  | d + 1 => by
    have ih := spec_validPart.scc N d
    exact spec_validPart.step N d ih
noncomputable def spec_validPart.sm (N : Nat) : Sm D := (⟨spec_validPart.sg, fun (x : ImplTree × Unit) => spec_validPart.R N N x.1⟩ : Sm D)
theorem spec_validPart.sound (N : Nat) : Sound cx Tryd.prog gam 44 (spec_validPart.sm N) := (spec_validPart.scc N N)
@[reducible] def spec_validTree.sg : Sg := { ms := [{ k := (.st 32) }], keep := [false], rs := [{ k := .bool }] }
noncomputable def spec_validTree.A : Ann := { dp := fun d => isIn [] d, lp := look [], jn := look [], pins := [], nt := 10 }
noncomputable def spec_validTree.phis (N : Nat) : List (Nat × Sm D) := [(25, spec_treeSize.sm N), (44, spec_validPart.sm N)]
theorem spec_validTree.run (N : Nat) (x : ImplTree × Unit) : runF cx (look (spec_validTree.phis N)) spec_validTree.A N (bodyOf Tryd.f23) Tryd.f23.results.toList spec_validTree.sg x = spec_validTree N x.1 := by
  have h : runF cx (look (spec_validTree.phis N)) spec_validTree.A N (bodyOf Tryd.f23) Tryd.f23.results.toList spec_validTree.sg x = spec_validTree.B N x.1 := by kernel_rfl
  rw [h]
  try rfl
noncomputable def spec_validTree.sm (N : Nat) : Sm D := (⟨spec_validTree.sg, fun (x : ImplTree × Unit) => spec_validTree N x.1⟩ : Sm D)
theorem spec_validTree.sound (N : Nat) : Sound cx Tryd.prog gam 23 (spec_validTree.sm N) := fn_sound (A := spec_validTree.A) (Φ := (look (spec_validTree.phis N))) pok (G := gam) (ΦOk.cons (spec_treeSize.sound N) (fnOk_of (f := 25) (by kernel_rfl)) (ΦOk.cons (spec_validPart.sound N) (fnOk_of (f := 44) (by kernel_rfl)) ΦOk.nil)) mixed N Tryd.func23 (c := (bodyOf Tryd.f23)) (by kernel_rfl) spec_validTree.sg (by kernel_rfl) (by kernel_rfl) (by kernel_rfl) (spec_validTree.run N)

@[reducible] def impl_word.sg : Sg := { ms := [{ k := .str }], keep := [false], rs := [{ k := .bool }] }
@[reducible] def impl_word.lvL0 : Lv := { id := 0, slots := [0, 3], ms := [{ k := .str }, { k := (.int .i64) }] }
noncomputable def impl_word.A : Ann := { dp := fun d => isIn [] d, lp := look [(0, impl_word.lvL0)], jn := look [], pins := [], nt := 36 }
noncomputable def impl_word.phis (N : Nat) : List (Nat × Sm D) := []
noncomputable def impl_word.a0 (N : Nat) (n : Nat) (y : (List UInt8) × Int × Unit) : Option (Bool × Unit) := loopAt cx (look (impl_word.phis N)) impl_word.A N n (encL cx impl_word.lvL0.ms y).1 (encL cx impl_word.lvL0.ms y).2 (bodyOf Tryd.f66) 0 (Kfin cx impl_word.A impl_word.sg Tryd.f66.results.toList) [1, 0, 1, 1] []
theorem impl_word.r0 (N : Nat) : ∀ (n : Nat) (y : (List UInt8) × Int × Unit), impl_word.a0 N n y = impl_word.L0 N n y
  | 0, y => by kernel_rfl
  | n + 1, y => by
    have h : impl_word.a0 N (n + 1) y = impl_word.B0 N (fun z => impl_word.a0 N n z) y := by kernel_rfl
    have e : (fun z => impl_word.a0 N n z) = impl_word.L0 N n := funext fun z => impl_word.r0 N n z
    rw [h]
    try rw [e]
    first | done | rfl
theorem impl_word.run (N : Nat) (x : (List UInt8) × Unit) : runF cx (look (impl_word.phis N)) impl_word.A N (bodyOf Tryd.f66) Tryd.f66.results.toList impl_word.sg x = impl_word N x.1 := by
  have h : runF cx (look (impl_word.phis N)) impl_word.A N (bodyOf Tryd.f66) Tryd.f66.results.toList impl_word.sg x = impl_word.B N (fun z => impl_word.a0 N N z) x.1 := by kernel_rfl
  have e0 : (fun z => impl_word.a0 N N z) = impl_word.L0 N N := funext fun z => impl_word.r0 N N z
  rw [h, e0]
  try rfl
noncomputable def impl_word.sm (N : Nat) : Sm D := (⟨impl_word.sg, fun (x : (List UInt8) × Unit) => impl_word N x.1⟩ : Sm D)
theorem impl_word.sound (N : Nat) : Sound cx Tryd.prog gam 66 (impl_word.sm N) := fn_sound (A := impl_word.A) (Φ := (look (impl_word.phis N))) pok (G := gam) ΦOk.nil mixed N Tryd.func66 (c := (bodyOf Tryd.f66)) (by kernel_rfl) impl_word.sg (by kernel_rfl) (by kernel_rfl) (by kernel_rfl) (impl_word.run N)

@[reducible] def impl_within.sg : Sg := { ms := [{ k := (.int .i64) }, { k := (.int .i64) }, { k := (.int .i64) }], keep := [false, false, false], rs := [{ k := .bool }] }
noncomputable def impl_within.A : Ann := { dp := fun d => isIn [] d, lp := look [], jn := look [], pins := [], nt := 15 }
noncomputable def impl_within.phis (N : Nat) : List (Nat × Sm D) := []
theorem impl_within.run (N : Nat) (x : Int × Int × Int × Unit) : runF cx (look (impl_within.phis N)) impl_within.A N (bodyOf Tryd.f37) Tryd.f37.results.toList impl_within.sg x = impl_within N x.1 x.2.1 x.2.2.1 := by
  have h : runF cx (look (impl_within.phis N)) impl_within.A N (bodyOf Tryd.f37) Tryd.f37.results.toList impl_within.sg x = impl_within.B N x.1 x.2.1 x.2.2.1 := by kernel_rfl
  rw [h]
  try rfl
noncomputable def impl_within.sm (N : Nat) : Sm D := (⟨impl_within.sg, fun (x : Int × Int × Int × Unit) => impl_within N x.1 x.2.1 x.2.2.1⟩ : Sm D)
theorem impl_within.sound (N : Nat) : Sound cx Tryd.prog gam 37 (impl_within.sm N) := fn_sound (A := impl_within.A) (Φ := (look (impl_within.phis N))) pok (G := gam) ΦOk.nil mixed N Tryd.func37 (c := (bodyOf Tryd.f37)) (by kernel_rfl) impl_within.sg (by kernel_rfl) (by kernel_rfl) (by kernel_rfl) (impl_within.run N)

@[reducible] def impl_shown.sg : Sg := { ms := [{ k := .str }], keep := [false], rs := [{ k := .bool }] }
noncomputable def impl_shown.A : Ann := { dp := fun d => isIn [] d, lp := look [], jn := look [], pins := [], nt := 24 }
noncomputable def impl_shown.phis (N : Nat) : List (Nat × Sm D) := [(66, impl_word.sm N), (67, LibAtoi.sm N), (37, impl_within.sm N), (68, LibItoa.sm N)]
theorem impl_shown.run (N : Nat) (x : (List UInt8) × Unit) : runF cx (look (impl_shown.phis N)) impl_shown.A N (bodyOf Tryd.f60) Tryd.f60.results.toList impl_shown.sg x = impl_shown N x.1 := by
  have h : runF cx (look (impl_shown.phis N)) impl_shown.A N (bodyOf Tryd.f60) Tryd.f60.results.toList impl_shown.sg x = impl_shown.B N x.1 := by kernel_rfl
  rw [h]
  try rfl
noncomputable def impl_shown.sm (N : Nat) : Sm D := (⟨impl_shown.sg, fun (x : (List UInt8) × Unit) => impl_shown N x.1⟩ : Sm D)
theorem impl_shown.sound (N : Nat) : Sound cx Tryd.prog gam 60 (impl_shown.sm N) := fn_sound (A := impl_shown.A) (Φ := (look (impl_shown.phis N))) pok (G := gam) (ΦOk.cons (impl_word.sound N) (fnOk_of (f := 66) (by kernel_rfl)) (ΦOk.cons (LibAtoi.sound N) (fnOk_of (f := 67) (by kernel_rfl)) (ΦOk.cons (impl_within.sound N) (fnOk_of (f := 37) (by kernel_rfl)) (ΦOk.cons (LibItoa.sound N) (fnOk_of (f := 68) (by kernel_rfl)) ΦOk.nil)))) mixed N Tryd.func60 (c := (bodyOf Tryd.f60)) (by kernel_rfl) impl_shown.sg (by kernel_rfl) (by kernel_rfl) (by kernel_rfl) (impl_shown.run N)

@[reducible] def impl_ValOk.sg : Sg := { ms := [{ k := (.st 60) }], keep := [false], rs := [{ k := .bool }] }
noncomputable def impl_ValOk.A : Ann := { dp := fun d => isIn [] d, lp := look [], jn := look [], pins := [], nt := 35 }
noncomputable def impl_ValOk.phis (N : Nat) : List (Nat × Sm D) := [(37, impl_within.sm N), (66, impl_word.sm N)]
theorem impl_ValOk.run (N : Nat) (x : ImplValue × Unit) : runF cx (look (impl_ValOk.phis N)) impl_ValOk.A N (bodyOf Tryd.f61) Tryd.f61.results.toList impl_ValOk.sg x = impl_ValOk N x.1 := by
  have h : runF cx (look (impl_ValOk.phis N)) impl_ValOk.A N (bodyOf Tryd.f61) Tryd.f61.results.toList impl_ValOk.sg x = impl_ValOk.B N x.1 := by kernel_rfl
  rw [h]
  try rfl
noncomputable def impl_ValOk.sm (N : Nat) : Sm D := (⟨impl_ValOk.sg, fun (x : ImplValue × Unit) => impl_ValOk N x.1⟩ : Sm D)
theorem impl_ValOk.sound (N : Nat) : Sound cx Tryd.prog gam 61 (impl_ValOk.sm N) := fn_sound (A := impl_ValOk.A) (Φ := (look (impl_ValOk.phis N))) pok (G := gam) (ΦOk.cons (impl_within.sound N) (fnOk_of (f := 37) (by kernel_rfl)) (ΦOk.cons (impl_word.sound N) (fnOk_of (f := 66) (by kernel_rfl)) ΦOk.nil)) mixed N Tryd.func61 (c := (bodyOf Tryd.f61)) (by kernel_rfl) impl_ValOk.sg (by kernel_rfl) (by kernel_rfl) (by kernel_rfl) (impl_ValOk.run N)

@[reducible] def impl_treeFits.sg : Sg := { ms := [{ k := (.st 32) }, { k := (.int .i64) }, { ptr := true, id := 50, t := 3, k := (.int .i64) }], keep := [false, false, true], rs := [{ k := .bool }] }
@[reducible] def impl_treeFits.lvL2 : Lv := { id := 2, slots := [1, 2, 9, 100, 101, 102], ms := [{ k := (.int .i64) }, { ptr := true, id := 50, t := 3, k := (.int .i64), fl := [none] }, { ptr := true, id := 640, t := 777777, k := (.sl (.int .i64)), fl := [none] }, { k := (.sl (.st 32)), fl := [none] }, { k := (.int .i64) }, { k := (.int .i64) }] }
@[reducible] def impl_treeFits.lvL0 : Lv := { id := 0, slots := [1, 2, 3, 64, 65, 66], ms := [{ k := (.int .i64) }, { ptr := true, id := 50, t := 3, k := (.int .i64), fl := [none] }, { ptr := true, id := 640, t := 33, k := (.st 32), fl := [none, none, none, none, none] }, { k := (.sl (.st 65)), fl := [none] }, { k := (.int .i64) }, { k := (.int .i64) }] }
noncomputable def impl_treeFits.A : Ann := { dp := fun d => isIn [] d, lp := look [(2, impl_treeFits.lvL2), (0, impl_treeFits.lvL0)], jn := look [], pins := [50], nt := 125 }
noncomputable def impl_treeFits.phis (N : Nat) (d : Nat) : List (Nat × Sm D) := [(60, impl_shown.sm N), (37, impl_within.sm N), (61, impl_ValOk.sm N), (46, (⟨impl_treeFits.sg, fun (x : ImplTree × Int × Int × Unit) => impl_treeFits.R N d x.1 x.2.1 x.2.2.1⟩ : Sm D))]
noncomputable def impl_treeFits.a2 (N : Nat) (d : Nat) (n : Nat) (y : Int × Int × (List (Int)) × (List (ImplTree)) × Int × Int × Unit) : Option (Int × Bool × Unit) := loopAt cx (look (impl_treeFits.phis N d)) impl_treeFits.A N n (encL cx impl_treeFits.lvL2.ms y).1 (encL cx impl_treeFits.lvL2.ms y).2 (bodyOf Tryd.f46) 0 (Kfin cx impl_treeFits.A impl_treeFits.sg Tryd.f46.results.toList) [1, 1, 1, 1, 1, 1, 1, 0, 1, 1] []
noncomputable def impl_treeFits.a0 (N : Nat) (d : Nat) (n : Nat) (y : Int × Int × ImplTree × (List (ImplProp)) × Int × Int × Unit) : Option (Int × Bool × Unit) := loopAt cx (look (impl_treeFits.phis N d)) impl_treeFits.A N n (encL cx impl_treeFits.lvL0.ms y).1 (encL cx impl_treeFits.lvL0.ms y).2 (bodyOf Tryd.f46) 0 (Kfin cx impl_treeFits.A impl_treeFits.sg Tryd.f46.results.toList) [1, 1, 1, 1, 1, 0, 1, 1] []
theorem impl_treeFits.r2 (N : Nat) (d : Nat) : ∀ (n : Nat) (y : Int × Int × (List (Int)) × (List (ImplTree)) × Int × Int × Unit), impl_treeFits.a2 N d n y = impl_treeFits.L2 N (impl_treeFits.R N d) n y
  | 0, y => by kernel_rfl
  | n + 1, y => by
    have h : impl_treeFits.a2 N d (n + 1) y = impl_treeFits.B2 N (impl_treeFits.R N d) (fun z => impl_treeFits.a2 N d n z) y := by kernel_rfl
    have e : (fun z => impl_treeFits.a2 N d n z) = impl_treeFits.L2 N (impl_treeFits.R N d) n := funext fun z => impl_treeFits.r2 N d n z
    rw [h]
    try rw [e]
    first | done | rfl
theorem impl_treeFits.r0 (N : Nat) (d : Nat) : ∀ (n : Nat) (y : Int × Int × ImplTree × (List (ImplProp)) × Int × Int × Unit), impl_treeFits.a0 N d n y = impl_treeFits.L0 N (impl_treeFits.R N d) n y
  | 0, y => by kernel_rfl
  | n + 1, y => by
    have h : impl_treeFits.a0 N d (n + 1) y = impl_treeFits.B0 N (impl_treeFits.R N d) (fun z => impl_treeFits.a0 N d n z) (fun z => impl_treeFits.a2 N d N z) y := by kernel_rfl
    have e : (fun z => impl_treeFits.a0 N d n z) = impl_treeFits.L0 N (impl_treeFits.R N d) n := funext fun z => impl_treeFits.r0 N d n z
    have e2 : (fun z => impl_treeFits.a2 N d N z) = impl_treeFits.L2 N (impl_treeFits.R N d) N := funext fun z => impl_treeFits.r2 N d N z
    rw [h, e2]
    try rw [e]
    first | done | rfl
theorem impl_treeFits.run (N : Nat) (d : Nat) (x : ImplTree × Int × Int × Unit) : runF cx (look (impl_treeFits.phis N d)) impl_treeFits.A N (bodyOf Tryd.f46) Tryd.f46.results.toList impl_treeFits.sg x = impl_treeFits.R N (d + 1) x.1 x.2.1 x.2.2.1 := by
  have h : runF cx (look (impl_treeFits.phis N d)) impl_treeFits.A N (bodyOf Tryd.f46) Tryd.f46.results.toList impl_treeFits.sg x = impl_treeFits.B N (impl_treeFits.R N d) (fun z => impl_treeFits.a0 N d N z) x.1 x.2.1 x.2.2.1 := by kernel_rfl
  have e0 : (fun z => impl_treeFits.a0 N d N z) = impl_treeFits.L0 N (impl_treeFits.R N d) N := funext fun z => impl_treeFits.r0 N d N z
  rw [h, e0]
  try rfl
theorem impl_treeFits.step (N : Nat) (d : Nat) (h_impl_treeFits : Sound cx Tryd.prog gam 46 (⟨impl_treeFits.sg, fun (x : ImplTree × Int × Int × Unit) => impl_treeFits.R N d x.1 x.2.1 x.2.2.1⟩ : Sm D)) : Sound cx Tryd.prog gam 46 (⟨impl_treeFits.sg, fun (x : ImplTree × Int × Int × Unit) => impl_treeFits.R N (d + 1) x.1 x.2.1 x.2.2.1⟩ : Sm D) := fn_sound (A := impl_treeFits.A) (Φ := (look (impl_treeFits.phis N d))) pok (G := gam) (ΦOk.cons (impl_shown.sound N) (fnOk_of (f := 60) (by kernel_rfl)) (ΦOk.cons (impl_within.sound N) (fnOk_of (f := 37) (by kernel_rfl)) (ΦOk.cons (impl_ValOk.sound N) (fnOk_of (f := 61) (by kernel_rfl)) (ΦOk.cons h_impl_treeFits (fnOk_of (f := 46) (by kernel_rfl)) ΦOk.nil)))) mixed N Tryd.func46 (c := (bodyOf Tryd.f46)) (by kernel_rfl) impl_treeFits.sg (by kernel_rfl) (by kernel_rfl) (by kernel_rfl) (impl_treeFits.run N d)

theorem impl_treeFits.scc (N : Nat) : ∀ d, Sound cx Tryd.prog gam 46 (⟨impl_treeFits.sg, fun (x : ImplTree × Int × Int × Unit) => impl_treeFits.R N d x.1 x.2.1 x.2.2.1⟩ : Sm D)
  | 0 => none_sound 46 impl_treeFits.sg
  | d + 1 => by
    have ih := impl_treeFits.scc N d
    exact impl_treeFits.step N d ih
noncomputable def impl_treeFits.sm (N : Nat) : Sm D := (⟨impl_treeFits.sg, fun (x : ImplTree × Int × Int × Unit) => impl_treeFits.R N N x.1 x.2.1 x.2.2.1⟩ : Sm D)
theorem impl_treeFits.sound (N : Nat) : Sound cx Tryd.prog gam 46 (impl_treeFits.sm N) := (impl_treeFits.scc N N)
@[reducible] def impl_TreeOk.sg : Sg := { ms := [{ k := (.st 32) }], keep := [false], rs := [{ k := .bool }] }
noncomputable def impl_TreeOk.A : Ann := { dp := fun d => isIn [] d, lp := look [], jn := look [], pins := [], nt := 6 }
noncomputable def impl_TreeOk.phis (N : Nat) : List (Nat × Sm D) := [(46, impl_treeFits.sm N)]
theorem impl_TreeOk.run (N : Nat) (x : ImplTree × Unit) : runF cx (look (impl_TreeOk.phis N)) impl_TreeOk.A N (bodyOf Tryd.f29) Tryd.f29.results.toList impl_TreeOk.sg x = impl_TreeOk N x.1 := by
  have h : runF cx (look (impl_TreeOk.phis N)) impl_TreeOk.A N (bodyOf Tryd.f29) Tryd.f29.results.toList impl_TreeOk.sg x = impl_TreeOk.B N x.1 := by kernel_rfl
  rw [h]
  try rfl
noncomputable def impl_TreeOk.sm (N : Nat) : Sm D := (⟨impl_TreeOk.sg, fun (x : ImplTree × Unit) => impl_TreeOk N x.1⟩ : Sm D)
theorem impl_TreeOk.sound (N : Nat) : Sound cx Tryd.prog gam 29 (impl_TreeOk.sm N) := fn_sound (A := impl_TreeOk.A) (Φ := (look (impl_TreeOk.phis N))) pok (G := gam) (ΦOk.cons (impl_treeFits.sound N) (fnOk_of (f := 46) (by kernel_rfl)) ΦOk.nil) mixed N Tryd.func29 (c := (bodyOf Tryd.f29)) (by kernel_rfl) impl_TreeOk.sg (by kernel_rfl) (by kernel_rfl) (by kernel_rfl) (impl_TreeOk.run N)

@[reducible] def laws_eqIntS.sg : Sg := { ms := [{ k := (.sl (.int .i64)), fl := [none] }, { k := (.sl (.int .i64)), fl := [none] }], keep := [false, false], rs := [{ k := .bool }] }
@[reducible] def laws_eqIntS.lvL0 : Lv := { id := 0, slots := [0, 1, 5], ms := [{ k := (.sl (.int .i64)), fl := [none] }, { k := (.sl (.int .i64)), fl := [none] }, { k := (.int .i64) }] }
noncomputable def laws_eqIntS.A : Ann := { dp := fun d => isIn [] d, lp := look [(0, laws_eqIntS.lvL0)], jn := look [], pins := [], nt := 26 }
noncomputable def laws_eqIntS.phis (N : Nat) : List (Nat × Sm D) := []
noncomputable def laws_eqIntS.a0 (N : Nat) (n : Nat) (y : (List (Int)) × (List (Int)) × Int × Unit) : Option (Bool × Unit) := loopAt cx (look (laws_eqIntS.phis N)) laws_eqIntS.A N n (encL cx laws_eqIntS.lvL0.ms y).1 (encL cx laws_eqIntS.lvL0.ms y).2 (bodyOf Tryd.f10) 0 (Kfin cx laws_eqIntS.A laws_eqIntS.sg Tryd.f10.results.toList) [1, 1, 0, 1, 1] []
theorem laws_eqIntS.r0 (N : Nat) : ∀ (n : Nat) (y : (List (Int)) × (List (Int)) × Int × Unit), laws_eqIntS.a0 N n y = laws_eqIntS.L0 N n y
  | 0, y => by kernel_rfl
  | n + 1, y => by
    have h : laws_eqIntS.a0 N (n + 1) y = laws_eqIntS.B0 N (fun z => laws_eqIntS.a0 N n z) y := by kernel_rfl
    have e : (fun z => laws_eqIntS.a0 N n z) = laws_eqIntS.L0 N n := funext fun z => laws_eqIntS.r0 N n z
    rw [h]
    try rw [e]
    first | done | rfl
theorem laws_eqIntS.run (N : Nat) (x : (List (Int)) × (List (Int)) × Unit) : runF cx (look (laws_eqIntS.phis N)) laws_eqIntS.A N (bodyOf Tryd.f10) Tryd.f10.results.toList laws_eqIntS.sg x = laws_eqIntS N x.1 x.2.1 := by
  have h : runF cx (look (laws_eqIntS.phis N)) laws_eqIntS.A N (bodyOf Tryd.f10) Tryd.f10.results.toList laws_eqIntS.sg x = laws_eqIntS.B N (fun z => laws_eqIntS.a0 N N z) x.1 x.2.1 := by kernel_rfl
  have e0 : (fun z => laws_eqIntS.a0 N N z) = laws_eqIntS.L0 N N := funext fun z => laws_eqIntS.r0 N N z
  rw [h, e0]
  try rfl
noncomputable def laws_eqIntS.sm (N : Nat) : Sm D := (⟨laws_eqIntS.sg, fun (x : (List (Int)) × (List (Int)) × Unit) => laws_eqIntS N x.1 x.2.1⟩ : Sm D)
theorem laws_eqIntS.sound (N : Nat) : Sound cx Tryd.prog gam 10 (laws_eqIntS.sm N) := fn_sound (A := laws_eqIntS.A) (Φ := (look (laws_eqIntS.phis N))) pok (G := gam) ΦOk.nil mixed N Tryd.func10 (c := (bodyOf Tryd.f10)) (by kernel_rfl) laws_eqIntS.sg (by kernel_rfl) (by kernel_rfl) (by kernel_rfl) (laws_eqIntS.run N)

@[reducible] def laws_eqValue.sg : Sg := { ms := [{ k := (.st 60) }, { k := (.st 60) }], keep := [false, false], rs := [{ k := .bool }] }
noncomputable def laws_eqValue.A : Ann := { dp := fun d => isIn [] d, lp := look [], jn := look [], pins := [], nt := 20 }
noncomputable def laws_eqValue.phis (N : Nat) : List (Nat × Sm D) := []
theorem laws_eqValue.run (N : Nat) (x : ImplValue × ImplValue × Unit) : runF cx (look (laws_eqValue.phis N)) laws_eqValue.A N (bodyOf Tryd.f62) Tryd.f62.results.toList laws_eqValue.sg x = laws_eqValue N x.1 x.2.1 := by
  have h : runF cx (look (laws_eqValue.phis N)) laws_eqValue.A N (bodyOf Tryd.f62) Tryd.f62.results.toList laws_eqValue.sg x = laws_eqValue.B N x.1 x.2.1 := by kernel_rfl
  rw [h]
  try rfl
noncomputable def laws_eqValue.sm (N : Nat) : Sm D := (⟨laws_eqValue.sg, fun (x : ImplValue × ImplValue × Unit) => laws_eqValue N x.1 x.2.1⟩ : Sm D)
theorem laws_eqValue.sound (N : Nat) : Sound cx Tryd.prog gam 62 (laws_eqValue.sm N) := fn_sound (A := laws_eqValue.A) (Φ := (look (laws_eqValue.phis N))) pok (G := gam) ΦOk.nil mixed N Tryd.func62 (c := (bodyOf Tryd.f62)) (by kernel_rfl) laws_eqValue.sg (by kernel_rfl) (by kernel_rfl) (by kernel_rfl) (laws_eqValue.run N)

@[reducible] def laws_eqProp.sg : Sg := { ms := [{ k := (.st 65) }, { k := (.st 65) }], keep := [false, false], rs := [{ k := .bool }] }
noncomputable def laws_eqProp.A : Ann := { dp := fun d => isIn [] d, lp := look [], jn := look [], pins := [], nt := 16 }
noncomputable def laws_eqProp.phis (N : Nat) : List (Nat × Sm D) := [(62, laws_eqValue.sm N)]
theorem laws_eqProp.run (N : Nat) (x : ImplProp × ImplProp × Unit) : runF cx (look (laws_eqProp.phis N)) laws_eqProp.A N (bodyOf Tryd.f48) Tryd.f48.results.toList laws_eqProp.sg x = laws_eqProp N x.1 x.2.1 := by
  have h : runF cx (look (laws_eqProp.phis N)) laws_eqProp.A N (bodyOf Tryd.f48) Tryd.f48.results.toList laws_eqProp.sg x = laws_eqProp.B N x.1 x.2.1 := by kernel_rfl
  rw [h]
  try rfl
noncomputable def laws_eqProp.sm (N : Nat) : Sm D := (⟨laws_eqProp.sg, fun (x : ImplProp × ImplProp × Unit) => laws_eqProp N x.1 x.2.1⟩ : Sm D)
theorem laws_eqProp.sound (N : Nat) : Sound cx Tryd.prog gam 48 (laws_eqProp.sm N) := fn_sound (A := laws_eqProp.A) (Φ := (look (laws_eqProp.phis N))) pok (G := gam) (ΦOk.cons (laws_eqValue.sound N) (fnOk_of (f := 62) (by kernel_rfl)) ΦOk.nil) mixed N Tryd.func48 (c := (bodyOf Tryd.f48)) (by kernel_rfl) laws_eqProp.sg (by kernel_rfl) (by kernel_rfl) (by kernel_rfl) (laws_eqProp.run N)

@[reducible] def laws_eqPropS.sg : Sg := { ms := [{ k := (.sl (.st 65)), fl := [none] }, { k := (.sl (.st 65)), fl := [none] }], keep := [false, false], rs := [{ k := .bool }] }
@[reducible] def laws_eqPropS.lvL0 : Lv := { id := 0, slots := [0, 1, 5], ms := [{ k := (.sl (.st 65)), fl := [none] }, { k := (.sl (.st 65)), fl := [none] }, { k := (.int .i64) }] }
noncomputable def laws_eqPropS.A : Ann := { dp := fun d => isIn [] d, lp := look [(0, laws_eqPropS.lvL0)], jn := look [], pins := [], nt := 27 }
noncomputable def laws_eqPropS.phis (N : Nat) : List (Nat × Sm D) := [(48, laws_eqProp.sm N)]
noncomputable def laws_eqPropS.a0 (N : Nat) (n : Nat) (y : (List (ImplProp)) × (List (ImplProp)) × Int × Unit) : Option (Bool × Unit) := loopAt cx (look (laws_eqPropS.phis N)) laws_eqPropS.A N n (encL cx laws_eqPropS.lvL0.ms y).1 (encL cx laws_eqPropS.lvL0.ms y).2 (bodyOf Tryd.f31) 0 (Kfin cx laws_eqPropS.A laws_eqPropS.sg Tryd.f31.results.toList) [1, 1, 0, 1, 1] []
theorem laws_eqPropS.r0 (N : Nat) : ∀ (n : Nat) (y : (List (ImplProp)) × (List (ImplProp)) × Int × Unit), laws_eqPropS.a0 N n y = laws_eqPropS.L0 N n y
  | 0, y => by kernel_rfl
  | n + 1, y => by
    have h : laws_eqPropS.a0 N (n + 1) y = laws_eqPropS.B0 N (fun z => laws_eqPropS.a0 N n z) y := by kernel_rfl
    have e : (fun z => laws_eqPropS.a0 N n z) = laws_eqPropS.L0 N n := funext fun z => laws_eqPropS.r0 N n z
    rw [h]
    try rw [e]
    first | done | rfl
theorem laws_eqPropS.run (N : Nat) (x : (List (ImplProp)) × (List (ImplProp)) × Unit) : runF cx (look (laws_eqPropS.phis N)) laws_eqPropS.A N (bodyOf Tryd.f31) Tryd.f31.results.toList laws_eqPropS.sg x = laws_eqPropS N x.1 x.2.1 := by
  have h : runF cx (look (laws_eqPropS.phis N)) laws_eqPropS.A N (bodyOf Tryd.f31) Tryd.f31.results.toList laws_eqPropS.sg x = laws_eqPropS.B N (fun z => laws_eqPropS.a0 N N z) x.1 x.2.1 := by kernel_rfl
  have e0 : (fun z => laws_eqPropS.a0 N N z) = laws_eqPropS.L0 N N := funext fun z => laws_eqPropS.r0 N N z
  rw [h, e0]
  try rfl
noncomputable def laws_eqPropS.sm (N : Nat) : Sm D := (⟨laws_eqPropS.sg, fun (x : (List (ImplProp)) × (List (ImplProp)) × Unit) => laws_eqPropS N x.1 x.2.1⟩ : Sm D)
theorem laws_eqPropS.sound (N : Nat) : Sound cx Tryd.prog gam 31 (laws_eqPropS.sm N) := fn_sound (A := laws_eqPropS.A) (Φ := (look (laws_eqPropS.phis N))) pok (G := gam) (ΦOk.cons (laws_eqProp.sound N) (fnOk_of (f := 48) (by kernel_rfl)) ΦOk.nil) mixed N Tryd.func31 (c := (bodyOf Tryd.f31)) (by kernel_rfl) laws_eqPropS.sg (by kernel_rfl) (by kernel_rfl) (by kernel_rfl) (laws_eqPropS.run N)

@[reducible] def laws_eqTreeS.sg : Sg := { ms := [{ k := (.sl (.st 32)), fl := [none] }, { k := (.sl (.st 32)), fl := [none] }], keep := [false, false], rs := [{ k := .bool }] }
@[reducible] def laws_eqTree.sg : Sg := { ms := [{ k := (.st 32) }, { k := (.st 32) }], keep := [false, false], rs := [{ k := .bool }] }
@[reducible] def laws_eqTreeS.lvL0 : Lv := { id := 0, slots := [0, 1, 5], ms := [{ k := (.sl (.st 32)), fl := [none] }, { k := (.sl (.st 32)), fl := [none] }, { k := (.int .i64) }] }
noncomputable def laws_eqTreeS.A : Ann := { dp := fun d => isIn [] d, lp := look [(0, laws_eqTreeS.lvL0)], jn := look [], pins := [], nt := 27 }
noncomputable def laws_eqTreeS.phis (N : Nat) (d : Nat) : List (Nat × Sm D) := [(11, (⟨laws_eqTree.sg, fun (x : ImplTree × ImplTree × Unit) => laws_eqTree.R N d x.1 x.2.1⟩ : Sm D))]
noncomputable def laws_eqTreeS.a0 (N : Nat) (d : Nat) (n : Nat) (y : (List (ImplTree)) × (List (ImplTree)) × Int × Unit) : Option (Bool × Unit) := loopAt cx (look (laws_eqTreeS.phis N d)) laws_eqTreeS.A N n (encL cx laws_eqTreeS.lvL0.ms y).1 (encL cx laws_eqTreeS.lvL0.ms y).2 (bodyOf Tryd.f32) 0 (Kfin cx laws_eqTreeS.A laws_eqTreeS.sg Tryd.f32.results.toList) [1, 1, 0, 1, 1] []
theorem laws_eqTreeS.r0 (N : Nat) (d : Nat) : ∀ (n : Nat) (y : (List (ImplTree)) × (List (ImplTree)) × Int × Unit), laws_eqTreeS.a0 N d n y = laws_eqTreeS.L0 N (laws_eqTreeS.R N d) (laws_eqTree.R N d) n y
  | 0, y => by kernel_rfl
  | n + 1, y => by
    have h : laws_eqTreeS.a0 N d (n + 1) y = laws_eqTreeS.B0 N (laws_eqTreeS.R N d) (laws_eqTree.R N d) (fun z => laws_eqTreeS.a0 N d n z) y := by kernel_rfl
    have e : (fun z => laws_eqTreeS.a0 N d n z) = laws_eqTreeS.L0 N (laws_eqTreeS.R N d) (laws_eqTree.R N d) n := funext fun z => laws_eqTreeS.r0 N d n z
    rw [h]
    try rw [e]
    first | done | rfl
theorem laws_eqTreeS.run (N : Nat) (d : Nat) (x : (List (ImplTree)) × (List (ImplTree)) × Unit) : runF cx (look (laws_eqTreeS.phis N d)) laws_eqTreeS.A N (bodyOf Tryd.f32) Tryd.f32.results.toList laws_eqTreeS.sg x = laws_eqTreeS.R N (d + 1) x.1 x.2.1 := by
  have h : runF cx (look (laws_eqTreeS.phis N d)) laws_eqTreeS.A N (bodyOf Tryd.f32) Tryd.f32.results.toList laws_eqTreeS.sg x = laws_eqTreeS.B N (laws_eqTreeS.R N d) (laws_eqTree.R N d) (fun z => laws_eqTreeS.a0 N d N z) x.1 x.2.1 := by kernel_rfl
  have e0 : (fun z => laws_eqTreeS.a0 N d N z) = laws_eqTreeS.L0 N (laws_eqTreeS.R N d) (laws_eqTree.R N d) N := funext fun z => laws_eqTreeS.r0 N d N z
  rw [h, e0]
  try rfl
theorem laws_eqTreeS.step (N : Nat) (d : Nat) (h_laws_eqTree : Sound cx Tryd.prog gam 11 (⟨laws_eqTree.sg, fun (x : ImplTree × ImplTree × Unit) => laws_eqTree.R N d x.1 x.2.1⟩ : Sm D)) : Sound cx Tryd.prog gam 32 (⟨laws_eqTreeS.sg, fun (x : (List (ImplTree)) × (List (ImplTree)) × Unit) => laws_eqTreeS.R N (d + 1) x.1 x.2.1⟩ : Sm D) := fn_sound (A := laws_eqTreeS.A) (Φ := (look (laws_eqTreeS.phis N d))) pok (G := gam) (ΦOk.cons h_laws_eqTree (fnOk_of (f := 11) (by kernel_rfl)) ΦOk.nil) mixed N Tryd.func32 (c := (bodyOf Tryd.f32)) (by kernel_rfl) laws_eqTreeS.sg (by kernel_rfl) (by kernel_rfl) (by kernel_rfl) (laws_eqTreeS.run N d)

noncomputable def laws_eqTree.A : Ann := { dp := fun d => isIn [] d, lp := look [], jn := look [], pins := [], nt := 32 }
noncomputable def laws_eqTree.phis (N : Nat) (d : Nat) : List (Nat × Sm D) := [(31, laws_eqPropS.sm N), (32, (⟨laws_eqTreeS.sg, fun (x : (List (ImplTree)) × (List (ImplTree)) × Unit) => laws_eqTreeS.R N d x.1 x.2.1⟩ : Sm D))]
theorem laws_eqTree.run (N : Nat) (d : Nat) (x : ImplTree × ImplTree × Unit) : runF cx (look (laws_eqTree.phis N d)) laws_eqTree.A N (bodyOf Tryd.f11) Tryd.f11.results.toList laws_eqTree.sg x = laws_eqTree.R N (d + 1) x.1 x.2.1 := by
  have h : runF cx (look (laws_eqTree.phis N d)) laws_eqTree.A N (bodyOf Tryd.f11) Tryd.f11.results.toList laws_eqTree.sg x = laws_eqTree.B N (laws_eqTreeS.R N d) (laws_eqTree.R N d) x.1 x.2.1 := by kernel_rfl
  rw [h]
  try rfl
theorem laws_eqTree.step (N : Nat) (d : Nat) (h_laws_eqTreeS : Sound cx Tryd.prog gam 32 (⟨laws_eqTreeS.sg, fun (x : (List (ImplTree)) × (List (ImplTree)) × Unit) => laws_eqTreeS.R N d x.1 x.2.1⟩ : Sm D)) : Sound cx Tryd.prog gam 11 (⟨laws_eqTree.sg, fun (x : ImplTree × ImplTree × Unit) => laws_eqTree.R N (d + 1) x.1 x.2.1⟩ : Sm D) := fn_sound (A := laws_eqTree.A) (Φ := (look (laws_eqTree.phis N d))) pok (G := gam) (ΦOk.cons (laws_eqPropS.sound N) (fnOk_of (f := 31) (by kernel_rfl)) (ΦOk.cons h_laws_eqTreeS (fnOk_of (f := 32) (by kernel_rfl)) ΦOk.nil)) mixed N Tryd.func11 (c := (bodyOf Tryd.f11)) (by kernel_rfl) laws_eqTree.sg (by kernel_rfl) (by kernel_rfl) (by kernel_rfl) (laws_eqTree.run N d)

theorem laws_eqTreeS.scc (N : Nat) : ∀ d, Sound cx Tryd.prog gam 32 (⟨laws_eqTreeS.sg, fun (x : (List (ImplTree)) × (List (ImplTree)) × Unit) => laws_eqTreeS.R N d x.1 x.2.1⟩ : Sm D) ∧ Sound cx Tryd.prog gam 11 (⟨laws_eqTree.sg, fun (x : ImplTree × ImplTree × Unit) => laws_eqTree.R N d x.1 x.2.1⟩ : Sm D)
  | 0 => ⟨none_sound 32 laws_eqTreeS.sg, none_sound 11 laws_eqTree.sg⟩
  | d + 1 => by
    have ih := laws_eqTreeS.scc N d
    obtain ⟨ih0, ih1⟩ := ih
    exact ⟨laws_eqTreeS.step N d ih1, laws_eqTree.step N d ih0⟩
noncomputable def laws_eqTreeS.sm (N : Nat) : Sm D := (⟨laws_eqTreeS.sg, fun (x : (List (ImplTree)) × (List (ImplTree)) × Unit) => laws_eqTreeS.R N N x.1 x.2.1⟩ : Sm D)
theorem laws_eqTreeS.sound (N : Nat) : Sound cx Tryd.prog gam 32 (laws_eqTreeS.sm N) := (laws_eqTreeS.scc N N).1
noncomputable def laws_eqTree.sm (N : Nat) : Sm D := (⟨laws_eqTree.sg, fun (x : ImplTree × ImplTree × Unit) => laws_eqTree.R N N x.1 x.2.1⟩ : Sm D)
theorem laws_eqTree.sound (N : Nat) : Sound cx Tryd.prog gam 11 (laws_eqTree.sm N) := (laws_eqTreeS.scc N N).2
@[reducible] def laws_markText.sg : Sg := { ms := [{ k := (.int .i64) }], keep := [false], rs := [{ k := .str }] }
@[reducible] def laws_markText.lvL0 : Lv := { id := 0, slots := [0, 3], ms := [{ k := (.int .i64) }, { k := .str }] }
noncomputable def laws_markText.A : Ann := { dp := fun d => isIn [] d, lp := look [(0, laws_markText.lvL0)], jn := look [], pins := [], nt := 20 }
noncomputable def laws_markText.phis (N : Nat) : List (Nat × Sm D) := []
noncomputable def laws_markText.a0 (N : Nat) (n : Nat) (y : Int × (List UInt8) × Unit) : Option ((List UInt8) × Unit) := loopAt cx (look (laws_markText.phis N)) laws_markText.A N n (encL cx laws_markText.lvL0.ms y).1 (encL cx laws_markText.lvL0.ms y).2 (bodyOf Tryd.f49) 0 (Kfin cx laws_markText.A laws_markText.sg Tryd.f49.results.toList) [1, 1, 1, 0, 1] []
theorem laws_markText.r0 (N : Nat) : ∀ (n : Nat) (y : Int × (List UInt8) × Unit), laws_markText.a0 N n y = laws_markText.L0 N n y
  | 0, y => by kernel_rfl
  | n + 1, y => by
    have h : laws_markText.a0 N (n + 1) y = laws_markText.B0 N (fun z => laws_markText.a0 N n z) y := by kernel_rfl
    have e : (fun z => laws_markText.a0 N n z) = laws_markText.L0 N n := funext fun z => laws_markText.r0 N n z
    rw [h]
    try rw [e]
    first | done | rfl
theorem laws_markText.run (N : Nat) (x : Int × Unit) : runF cx (look (laws_markText.phis N)) laws_markText.A N (bodyOf Tryd.f49) Tryd.f49.results.toList laws_markText.sg x = laws_markText N x.1 := by
  have h : runF cx (look (laws_markText.phis N)) laws_markText.A N (bodyOf Tryd.f49) Tryd.f49.results.toList laws_markText.sg x = laws_markText.B N (fun z => laws_markText.a0 N N z) x.1 := by kernel_rfl
  have e0 : (fun z => laws_markText.a0 N N z) = laws_markText.L0 N N := funext fun z => laws_markText.r0 N N z
  rw [h, e0]
  try rfl
noncomputable def laws_markText.sm (N : Nat) : Sm D := (⟨laws_markText.sg, fun (x : Int × Unit) => laws_markText N x.1⟩ : Sm D)
theorem laws_markText.sound (N : Nat) : Sound cx Tryd.prog gam 49 (laws_markText.sm N) := fn_sound (A := laws_markText.A) (Φ := (look (laws_markText.phis N))) pok (G := gam) ΦOk.nil mixed N Tryd.func49 (c := (bodyOf Tryd.f49)) (by kernel_rfl) laws_markText.sg (by kernel_rfl) (by kernel_rfl) (by kernel_rfl) (laws_markText.run N)

@[reducible] def laws_markPropS.sg : Sg := { ms := [{ k := (.sl (.st 65)), fl := [some (true, 11)] }, { k := (.int .i64) }], keep := [true, false], rs := [{ k := (.int .i64) }] }
@[reducible] def laws_markPropS.lvL0 : Lv := { id := 0, slots := [0, 1, 5], ms := [{ k := (.sl (.st 65)), fl := [some (true, 11)] }, { k := (.int .i64) }, { k := (.int .i64) }] }
noncomputable def laws_markPropS.A : Ann := { dp := fun d => isIn [] d, lp := look [(0, laws_markPropS.lvL0)], jn := look [], pins := [11], nt := 45 }
noncomputable def laws_markPropS.phis (N : Nat) : List (Nat × Sm D) := [(49, laws_markText.sm N)]
noncomputable def laws_markPropS.a0 (N : Nat) (n : Nat) (y : (List (ImplProp)) × Int × Int × Unit) : Option ((List (ImplProp)) × Int × Unit) := loopAt cx (look (laws_markPropS.phis N)) laws_markPropS.A N n (encL cx laws_markPropS.lvL0.ms y).1 (encL cx laws_markPropS.lvL0.ms y).2 (bodyOf Tryd.f33) 0 (Kfin cx laws_markPropS.A laws_markPropS.sg Tryd.f33.results.toList) [1, 0, 1, 1] []
theorem laws_markPropS.r0 (N : Nat) : ∀ (n : Nat) (y : (List (ImplProp)) × Int × Int × Unit), laws_markPropS.a0 N n y = laws_markPropS.L0 N n y
  | 0, y => by kernel_rfl
  | n + 1, y => by
    have h : laws_markPropS.a0 N (n + 1) y = laws_markPropS.B0 N (fun z => laws_markPropS.a0 N n z) y := by kernel_rfl
    have e : (fun z => laws_markPropS.a0 N n z) = laws_markPropS.L0 N n := funext fun z => laws_markPropS.r0 N n z
    rw [h]
    try rw [e]
    first | done | rfl
theorem laws_markPropS.run (N : Nat) (x : (List (ImplProp)) × Int × Unit) : runF cx (look (laws_markPropS.phis N)) laws_markPropS.A N (bodyOf Tryd.f33) Tryd.f33.results.toList laws_markPropS.sg x = laws_markPropS N x.1 x.2.1 := by
  have h : runF cx (look (laws_markPropS.phis N)) laws_markPropS.A N (bodyOf Tryd.f33) Tryd.f33.results.toList laws_markPropS.sg x = laws_markPropS.B N (fun z => laws_markPropS.a0 N N z) x.1 x.2.1 := by kernel_rfl
  have e0 : (fun z => laws_markPropS.a0 N N z) = laws_markPropS.L0 N N := funext fun z => laws_markPropS.r0 N N z
  rw [h, e0]
  try rfl
noncomputable def laws_markPropS.sm (N : Nat) : Sm D := (⟨laws_markPropS.sg, fun (x : (List (ImplProp)) × Int × Unit) => laws_markPropS N x.1 x.2.1⟩ : Sm D)
theorem laws_markPropS.sound (N : Nat) : Sound cx Tryd.prog gam 33 (laws_markPropS.sm N) := fn_sound (A := laws_markPropS.A) (Φ := (look (laws_markPropS.phis N))) pok (G := gam) (ΦOk.cons (laws_markText.sound N) (fnOk_of (f := 49) (by kernel_rfl)) ΦOk.nil) mixed N Tryd.func33 (c := (bodyOf Tryd.f33)) (by kernel_rfl) laws_markPropS.sg (by kernel_rfl) (by kernel_rfl) (by kernel_rfl) (laws_markPropS.run N)

@[reducible] def laws_markTreeS.sg : Sg := { ms := [{ k := (.sl (.st 32)), fl := [some (true, 11)] }, { k := (.int .i64) }], keep := [true, false], rs := [{ k := (.int .i64) }] }
@[reducible] def laws_markTreeS.lvL0 : Lv := { id := 0, slots := [0, 1, 5], ms := [{ k := (.sl (.st 32)), fl := [some (true, 11)] }, { k := (.int .i64) }, { k := (.int .i64) }] }
noncomputable def laws_markTreeS.A : Ann := { dp := fun d => isIn [] d, lp := look [(0, laws_markTreeS.lvL0)], jn := look [], pins := [11], nt := 49 }
noncomputable def laws_markTreeS.phis (N : Nat) (d : Nat) : List (Nat × Sm D) := [(49, laws_markText.sm N), (33, laws_markPropS.sm N), (34, (⟨laws_markTreeS.sg, fun (x : (List (ImplTree)) × Int × Unit) => laws_markTreeS.R N d x.1 x.2.1⟩ : Sm D))]
noncomputable def laws_markTreeS.a0 (N : Nat) (d : Nat) (n : Nat) (y : (List (ImplTree)) × Int × Int × Unit) : Option ((List (ImplTree)) × Int × Unit) := loopAt cx (look (laws_markTreeS.phis N d)) laws_markTreeS.A N n (encL cx laws_markTreeS.lvL0.ms y).1 (encL cx laws_markTreeS.lvL0.ms y).2 (bodyOf Tryd.f34) 0 (Kfin cx laws_markTreeS.A laws_markTreeS.sg Tryd.f34.results.toList) [1, 0, 1, 1] []
theorem laws_markTreeS.r0 (N : Nat) (d : Nat) : ∀ (n : Nat) (y : (List (ImplTree)) × Int × Int × Unit), laws_markTreeS.a0 N d n y = laws_markTreeS.L0 N (laws_markTreeS.R N d) n y
  | 0, y => by kernel_rfl
  | n + 1, y => by
    have h : laws_markTreeS.a0 N d (n + 1) y = laws_markTreeS.B0 N (laws_markTreeS.R N d) (fun z => laws_markTreeS.a0 N d n z) y := by kernel_rfl
    have e : (fun z => laws_markTreeS.a0 N d n z) = laws_markTreeS.L0 N (laws_markTreeS.R N d) n := funext fun z => laws_markTreeS.r0 N d n z
    rw [h]
    try rw [e]
    first | done | rfl
theorem laws_markTreeS.run (N : Nat) (d : Nat) (x : (List (ImplTree)) × Int × Unit) : runF cx (look (laws_markTreeS.phis N d)) laws_markTreeS.A N (bodyOf Tryd.f34) Tryd.f34.results.toList laws_markTreeS.sg x = laws_markTreeS.R N (d + 1) x.1 x.2.1 := by
  have h : runF cx (look (laws_markTreeS.phis N d)) laws_markTreeS.A N (bodyOf Tryd.f34) Tryd.f34.results.toList laws_markTreeS.sg x = laws_markTreeS.B N (laws_markTreeS.R N d) (fun z => laws_markTreeS.a0 N d N z) x.1 x.2.1 := by kernel_rfl
  have e0 : (fun z => laws_markTreeS.a0 N d N z) = laws_markTreeS.L0 N (laws_markTreeS.R N d) N := funext fun z => laws_markTreeS.r0 N d N z
  rw [h, e0]
  try rfl
theorem laws_markTreeS.step (N : Nat) (d : Nat) (h_laws_markTreeS : Sound cx Tryd.prog gam 34 (⟨laws_markTreeS.sg, fun (x : (List (ImplTree)) × Int × Unit) => laws_markTreeS.R N d x.1 x.2.1⟩ : Sm D)) : Sound cx Tryd.prog gam 34 (⟨laws_markTreeS.sg, fun (x : (List (ImplTree)) × Int × Unit) => laws_markTreeS.R N (d + 1) x.1 x.2.1⟩ : Sm D) := fn_sound (A := laws_markTreeS.A) (Φ := (look (laws_markTreeS.phis N d))) pok (G := gam) (ΦOk.cons (laws_markText.sound N) (fnOk_of (f := 49) (by kernel_rfl)) (ΦOk.cons (laws_markPropS.sound N) (fnOk_of (f := 33) (by kernel_rfl)) (ΦOk.cons h_laws_markTreeS (fnOk_of (f := 34) (by kernel_rfl)) ΦOk.nil))) mixed N Tryd.func34 (c := (bodyOf Tryd.f34)) (by kernel_rfl) laws_markTreeS.sg (by kernel_rfl) (by kernel_rfl) (by kernel_rfl) (laws_markTreeS.run N d)

theorem laws_markTreeS.scc (N : Nat) : ∀ d, Sound cx Tryd.prog gam 34 (⟨laws_markTreeS.sg, fun (x : (List (ImplTree)) × Int × Unit) => laws_markTreeS.R N d x.1 x.2.1⟩ : Sm D)
  | 0 => none_sound 34 laws_markTreeS.sg
  | d + 1 => by
    have ih := laws_markTreeS.scc N d
    exact laws_markTreeS.step N d ih
noncomputable def laws_markTreeS.sm (N : Nat) : Sm D := (⟨laws_markTreeS.sg, fun (x : (List (ImplTree)) × Int × Unit) => laws_markTreeS.R N N x.1 x.2.1⟩ : Sm D)
theorem laws_markTreeS.sound (N : Nat) : Sound cx Tryd.prog gam 34 (laws_markTreeS.sm N) := (laws_markTreeS.scc N N)
@[reducible] def laws_markTree.sg : Sg := { ms := [{ k := (.st 32), fl := [none, none, none, some (true, 14), some (true, 15)] }, { k := (.int .i64) }], keep := [true, false], rs := [{ k := (.int .i64) }] }
noncomputable def laws_markTree.A : Ann := { dp := fun d => isIn [] d, lp := look [], jn := look [], pins := [14, 15], nt := 14 }
noncomputable def laws_markTree.phis (N : Nat) : List (Nat × Sm D) := [(33, laws_markPropS.sm N), (34, laws_markTreeS.sm N)]
theorem laws_markTree.run (N : Nat) (x : ImplTree × Int × Unit) : runF cx (look (laws_markTree.phis N)) laws_markTree.A N (bodyOf Tryd.f12) Tryd.f12.results.toList laws_markTree.sg x = laws_markTree N x.1 x.2.1 := by
  have h : runF cx (look (laws_markTree.phis N)) laws_markTree.A N (bodyOf Tryd.f12) Tryd.f12.results.toList laws_markTree.sg x = laws_markTree.B N x.1 x.2.1 := by kernel_rfl
  rw [h]
  try rfl
noncomputable def laws_markTree.sm (N : Nat) : Sm D := (⟨laws_markTree.sg, fun (x : ImplTree × Int × Unit) => laws_markTree N x.1 x.2.1⟩ : Sm D)
theorem laws_markTree.sound (N : Nat) : Sound cx Tryd.prog gam 12 (laws_markTree.sm N) := fn_sound (A := laws_markTree.A) (Φ := (look (laws_markTree.phis N))) pok (G := gam) (ΦOk.cons (laws_markPropS.sound N) (fnOk_of (f := 33) (by kernel_rfl)) (ΦOk.cons (laws_markTreeS.sound N) (fnOk_of (f := 34) (by kernel_rfl)) ΦOk.nil)) mixed N Tryd.func12 (c := (bodyOf Tryd.f12)) (by kernel_rfl) laws_markTree.sg (by kernel_rfl) (by kernel_rfl) (by kernel_rfl) (laws_markTree.run N)

@[reducible] def laws_markIntS.sg : Sg := { ms := [{ k := (.sl (.int .i64)), fl := [some (false, 11)] }, { k := (.int .i64) }], keep := [true, false], rs := [{ k := (.int .i64) }] }
@[reducible] def laws_markIntS.lvL0 : Lv := { id := 0, slots := [0, 1, 5], ms := [{ k := (.sl (.int .i64)), fl := [some (false, 11)] }, { k := (.int .i64) }, { k := (.int .i64) }] }
noncomputable def laws_markIntS.A : Ann := { dp := fun d => isIn [] d, lp := look [(0, laws_markIntS.lvL0)], jn := look [], pins := [11], nt := 19 }
noncomputable def laws_markIntS.phis (N : Nat) : List (Nat × Sm D) := []
noncomputable def laws_markIntS.a0 (N : Nat) (n : Nat) (y : (List (Int)) × Int × Int × Unit) : Option ((List (Int)) × Int × Unit) := loopAt cx (look (laws_markIntS.phis N)) laws_markIntS.A N n (encL cx laws_markIntS.lvL0.ms y).1 (encL cx laws_markIntS.lvL0.ms y).2 (bodyOf Tryd.f13) 0 (Kfin cx laws_markIntS.A laws_markIntS.sg Tryd.f13.results.toList) [1, 0, 1, 1] []
theorem laws_markIntS.r0 (N : Nat) : ∀ (n : Nat) (y : (List (Int)) × Int × Int × Unit), laws_markIntS.a0 N n y = laws_markIntS.L0 N n y
  | 0, y => by kernel_rfl
  | n + 1, y => by
    have h : laws_markIntS.a0 N (n + 1) y = laws_markIntS.B0 N (fun z => laws_markIntS.a0 N n z) y := by kernel_rfl
    have e : (fun z => laws_markIntS.a0 N n z) = laws_markIntS.L0 N n := funext fun z => laws_markIntS.r0 N n z
    rw [h]
    try rw [e]
    first | done | rfl
theorem laws_markIntS.run (N : Nat) (x : (List (Int)) × Int × Unit) : runF cx (look (laws_markIntS.phis N)) laws_markIntS.A N (bodyOf Tryd.f13) Tryd.f13.results.toList laws_markIntS.sg x = laws_markIntS N x.1 x.2.1 := by
  have h : runF cx (look (laws_markIntS.phis N)) laws_markIntS.A N (bodyOf Tryd.f13) Tryd.f13.results.toList laws_markIntS.sg x = laws_markIntS.B N (fun z => laws_markIntS.a0 N N z) x.1 x.2.1 := by kernel_rfl
  have e0 : (fun z => laws_markIntS.a0 N N z) = laws_markIntS.L0 N N := funext fun z => laws_markIntS.r0 N N z
  rw [h, e0]
  try rfl
noncomputable def laws_markIntS.sm (N : Nat) : Sm D := (⟨laws_markIntS.sg, fun (x : (List (Int)) × Int × Unit) => laws_markIntS N x.1 x.2.1⟩ : Sm D)
theorem laws_markIntS.sound (N : Nat) : Sound cx Tryd.prog gam 13 (laws_markIntS.sm N) := fn_sound (A := laws_markIntS.A) (Φ := (look (laws_markIntS.phis N))) pok (G := gam) ΦOk.nil mixed N Tryd.func13 (c := (bodyOf Tryd.f13)) (by kernel_rfl) laws_markIntS.sg (by kernel_rfl) (by kernel_rfl) (by kernel_rfl) (laws_markIntS.run N)

end
end Go.Ev
