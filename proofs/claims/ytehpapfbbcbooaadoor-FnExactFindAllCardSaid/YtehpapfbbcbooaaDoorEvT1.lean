/- Each function that the law reaches does what its plain form says; no condition beyond the table of the library. -/
import Derived.Test.YtehpapfbbcbooaaDoorEvT0
set_option linter.all false
set_option linter.unusedVariables false
set_option linter.unusedSimpArgs false
set_option maxRecDepth 100000
set_option maxHeartbeats 0
namespace Go.Ev
noncomputable section
open Go.Proofs
@[reducible] def spec_validPart.sg : Sg := { ms := [{ k := (.st 36) }], keep := [false], rs := [{ k := .bool }] }
@[reducible] def spec_validPart.lvL0 : Lv := { id := 0, slots := [1, 3], ms := [{ ptr := true, id := 600, t := 37, k := (.st 36), fl := [none, none, none, none, none] }, { k := (.int .i64) }] }
noncomputable def spec_validPart.A : Ann := { dp := fun d => isIn [] d, lp := look [(0, spec_validPart.lvL0)], jn := look [], pins := [], nt := 65 }
noncomputable def spec_validPart.phis (N : Nat) (d : Nat) : List (Nat × Sm D) := [(49, spec_validShown.sm N), (37, spec_inRange.sm N), (50, spec_validPropList.sm N), (36, (⟨spec_validPart.sg, fun (x : ImplTree × Unit) => spec_validPart.R N d x.1⟩ : Sm D)), (51, spec_keysApart.sm N)]
noncomputable def spec_validPart.a0 (N : Nat) (d : Nat) (n : Nat) (y : ImplTree × Int × Unit) : Option (Bool × Unit) := loopAt cx (look (spec_validPart.phis N d)) spec_validPart.A N n (encL cx spec_validPart.lvL0.ms y).1 (encL cx spec_validPart.lvL0.ms y).2 (bodyOf Tryd.f36) 0 (Kfin cx spec_validPart.A spec_validPart.sg Tryd.f36.results.toList) [1, 1, 1, 0, 1, 1] []
theorem spec_validPart.r0 (N : Nat) (d : Nat) : ∀ (n : Nat) (y : ImplTree × Int × Unit), spec_validPart.a0 N d n y = spec_validPart.L0 N (spec_validPart.R N d) n y
  | 0, y => by kernel_rfl
  | n + 1, y => by
    have h : spec_validPart.a0 N d (n + 1) y = spec_validPart.B0 N (spec_validPart.R N d) (fun z => spec_validPart.a0 N d n z) y := by kernel_rfl
    have e : (fun z => spec_validPart.a0 N d n z) = spec_validPart.L0 N (spec_validPart.R N d) n := funext fun z => spec_validPart.r0 N d n z
    rw [h]
    try rw [e]
    first | done | rfl
theorem spec_validPart.run (N : Nat) (d : Nat) (x : ImplTree × Unit) : runF cx (look (spec_validPart.phis N d)) spec_validPart.A N (bodyOf Tryd.f36) Tryd.f36.results.toList spec_validPart.sg x = spec_validPart.R N (d + 1) x.1 := by
  have h : runF cx (look (spec_validPart.phis N d)) spec_validPart.A N (bodyOf Tryd.f36) Tryd.f36.results.toList spec_validPart.sg x = spec_validPart.B N (spec_validPart.R N d) (fun z => spec_validPart.a0 N d N z) x.1 := by kernel_rfl
  have e0 : (fun z => spec_validPart.a0 N d N z) = spec_validPart.L0 N (spec_validPart.R N d) N := funext fun z => spec_validPart.r0 N d N z
  rw [h, e0]
  try rfl
theorem spec_validPart.step (N : Nat) (d : Nat) (h_spec_validPart : Sound cx Tryd.prog gam 36 (⟨spec_validPart.sg, fun (x : ImplTree × Unit) => spec_validPart.R N d x.1⟩ : Sm D)) : Sound cx Tryd.prog gam 36 (⟨spec_validPart.sg, fun (x : ImplTree × Unit) => spec_validPart.R N (d + 1) x.1⟩ : Sm D) := fn_sound (A := spec_validPart.A) (Φ := (look (spec_validPart.phis N d))) pok (G := gam) (ΦOk.cons (spec_validShown.sound N) (fnOk_of (f := 49) (by kernel_rfl)) (ΦOk.cons (spec_inRange.sound N) (fnOk_of (f := 37) (by kernel_rfl)) (ΦOk.cons (spec_validPropList.sound N) (fnOk_of (f := 50) (by kernel_rfl)) (ΦOk.cons h_spec_validPart (fnOk_of (f := 36) (by kernel_rfl)) (ΦOk.cons (spec_keysApart.sound N) (fnOk_of (f := 51) (by kernel_rfl)) ΦOk.nil))))) mixed N Tryd.func36 (c := (bodyOf Tryd.f36)) (by kernel_rfl) spec_validPart.sg (by kernel_rfl) (by kernel_rfl) (by kernel_rfl) (spec_validPart.run N d)

theorem spec_validPart.scc (N : Nat) : ∀ d, Sound cx Tryd.prog gam 36 (⟨spec_validPart.sg, fun (x : ImplTree × Unit) => spec_validPart.R N d x.1⟩ : Sm D)
  | 0 => none_sound 36 spec_validPart.sg
  | d + 1 => by
    have ih := spec_validPart.scc N d
    exact spec_validPart.step N d ih
noncomputable def spec_validPart.sm (N : Nat) : Sm D := (⟨spec_validPart.sg, fun (x : ImplTree × Unit) => spec_validPart.R N N x.1⟩ : Sm D)
theorem spec_validPart.sound (N : Nat) : Sound cx Tryd.prog gam 36 (spec_validPart.sm N) := (spec_validPart.scc N N)
@[reducible] def spec_validTree.sg : Sg := { ms := [{ k := (.st 36) }], keep := [false], rs := [{ k := .bool }] }
noncomputable def spec_validTree.A : Ann := { dp := fun d => isIn [] d, lp := look [], jn := look [], pins := [], nt := 10 }
noncomputable def spec_validTree.phis (N : Nat) : List (Nat × Sm D) := [(35, spec_treeSize.sm N), (36, spec_validPart.sm N)]
theorem spec_validTree.run (N : Nat) (x : ImplTree × Unit) : runF cx (look (spec_validTree.phis N)) spec_validTree.A N (bodyOf Tryd.f18) Tryd.f18.results.toList spec_validTree.sg x = spec_validTree N x.1 := by
  have h : runF cx (look (spec_validTree.phis N)) spec_validTree.A N (bodyOf Tryd.f18) Tryd.f18.results.toList spec_validTree.sg x = spec_validTree.B N x.1 := by kernel_rfl
  rw [h]
  try rfl
noncomputable def spec_validTree.sm (N : Nat) : Sm D := (⟨spec_validTree.sg, fun (x : ImplTree × Unit) => spec_validTree N x.1⟩ : Sm D)
theorem spec_validTree.sound (N : Nat) : Sound cx Tryd.prog gam 18 (spec_validTree.sm N) := fn_sound (A := spec_validTree.A) (Φ := (look (spec_validTree.phis N))) pok (G := gam) (ΦOk.cons (spec_treeSize.sound N) (fnOk_of (f := 35) (by kernel_rfl)) (ΦOk.cons (spec_validPart.sound N) (fnOk_of (f := 36) (by kernel_rfl)) ΦOk.nil)) mixed N Tryd.func18 (c := (bodyOf Tryd.f18)) (by kernel_rfl) spec_validTree.sg (by kernel_rfl) (by kernel_rfl) (by kernel_rfl) (spec_validTree.run N)

@[reducible] def spec_validRule.sg : Sg := { ms := [{ k := (.st 40) }], keep := [false], rs := [{ k := .bool }] }
noncomputable def spec_validRule.A : Ann := { dp := fun d => isIn [] d, lp := look [], jn := look [], pins := [], nt := 42 }
noncomputable def spec_validRule.phis (N : Nat) : List (Nat × Sm D) := [(37, spec_inRange.sm N), (38, spec_validValue.sm N)]
theorem spec_validRule.run (N : Nat) (x : ImplRule × Unit) : runF cx (look (spec_validRule.phis N)) spec_validRule.A N (bodyOf Tryd.f19) Tryd.f19.results.toList spec_validRule.sg x = spec_validRule N x.1 := by
  have h : runF cx (look (spec_validRule.phis N)) spec_validRule.A N (bodyOf Tryd.f19) Tryd.f19.results.toList spec_validRule.sg x = spec_validRule.B N x.1 := by kernel_rfl
  rw [h]
  try rfl
noncomputable def spec_validRule.sm (N : Nat) : Sm D := (⟨spec_validRule.sg, fun (x : ImplRule × Unit) => spec_validRule N x.1⟩ : Sm D)
theorem spec_validRule.sound (N : Nat) : Sound cx Tryd.prog gam 19 (spec_validRule.sm N) := fn_sound (A := spec_validRule.A) (Φ := (look (spec_validRule.phis N))) pok (G := gam) (ΦOk.cons (spec_inRange.sound N) (fnOk_of (f := 37) (by kernel_rfl)) (ΦOk.cons (spec_validValue.sound N) (fnOk_of (f := 38) (by kernel_rfl)) ΦOk.nil)) mixed N Tryd.func19 (c := (bodyOf Tryd.f19)) (by kernel_rfl) spec_validRule.sg (by kernel_rfl) (by kernel_rfl) (by kernel_rfl) (spec_validRule.run N)

@[reducible] def spec_hasInt.sg : Sg := { ms := [{ k := (.sl (.int .i64)), fl := [none] }, { k := (.int .i64) }], keep := [false, false], rs := [{ k := .bool }] }
@[reducible] def spec_hasInt.lvL0 : Lv := { id := 0, slots := [0, 1, 5], ms := [{ k := (.sl (.int .i64)), fl := [none] }, { k := (.int .i64) }, { k := (.int .i64) }] }
noncomputable def spec_hasInt.A : Ann := { dp := fun d => isIn [] d, lp := look [(0, spec_hasInt.lvL0)], jn := look [], pins := [], nt := 18 }
noncomputable def spec_hasInt.phis (N : Nat) : List (Nat × Sm D) := []
noncomputable def spec_hasInt.a0 (N : Nat) (n : Nat) (y : (List (Int)) × Int × Int × Unit) : Option (Bool × Unit) := loopAt cx (look (spec_hasInt.phis N)) spec_hasInt.A N n (encL cx spec_hasInt.lvL0.ms y).1 (encL cx spec_hasInt.lvL0.ms y).2 (bodyOf Tryd.f53) 0 (Kfin cx spec_hasInt.A spec_hasInt.sg Tryd.f53.results.toList) [1, 0, 1, 1] []
theorem spec_hasInt.r0 (N : Nat) : ∀ (n : Nat) (y : (List (Int)) × Int × Int × Unit), spec_hasInt.a0 N n y = spec_hasInt.L0 N n y
  | 0, y => by kernel_rfl
  | n + 1, y => by
    have h : spec_hasInt.a0 N (n + 1) y = spec_hasInt.B0 N (fun z => spec_hasInt.a0 N n z) y := by kernel_rfl
    have e : (fun z => spec_hasInt.a0 N n z) = spec_hasInt.L0 N n := funext fun z => spec_hasInt.r0 N n z
    rw [h]
    try rw [e]
    first | done | rfl
theorem spec_hasInt.run (N : Nat) (x : (List (Int)) × Int × Unit) : runF cx (look (spec_hasInt.phis N)) spec_hasInt.A N (bodyOf Tryd.f53) Tryd.f53.results.toList spec_hasInt.sg x = spec_hasInt N x.1 x.2.1 := by
  have h : runF cx (look (spec_hasInt.phis N)) spec_hasInt.A N (bodyOf Tryd.f53) Tryd.f53.results.toList spec_hasInt.sg x = spec_hasInt.B N (fun z => spec_hasInt.a0 N N z) x.1 x.2.1 := by kernel_rfl
  have e0 : (fun z => spec_hasInt.a0 N N z) = spec_hasInt.L0 N N := funext fun z => spec_hasInt.r0 N N z
  rw [h, e0]
  try rfl
noncomputable def spec_hasInt.sm (N : Nat) : Sm D := (⟨spec_hasInt.sg, fun (x : (List (Int)) × Int × Unit) => spec_hasInt N x.1 x.2.1⟩ : Sm D)
theorem spec_hasInt.sound (N : Nat) : Sound cx Tryd.prog gam 53 (spec_hasInt.sm N) := fn_sound (A := spec_hasInt.A) (Φ := (look (spec_hasInt.phis N))) pok (G := gam) ΦOk.nil mixed N Tryd.func53 (c := (bodyOf Tryd.f53)) (by kernel_rfl) spec_hasInt.sg (by kernel_rfl) (by kernel_rfl) (by kernel_rfl) (spec_hasInt.run N)

@[reducible] def spec_propAt.sg : Sg := { ms := [{ k := (.sl (.st 73)), fl := [none] }, { k := (.int .i64) }], keep := [false, false], rs := [{ k := (.int .i64) }] }
@[reducible] def spec_propAt.lvL0 : Lv := { id := 0, slots := [0, 1, 5], ms := [{ k := (.sl (.st 73)), fl := [none] }, { k := (.int .i64) }, { k := (.int .i64) }] }
noncomputable def spec_propAt.A : Ann := { dp := fun d => isIn [] d, lp := look [(0, spec_propAt.lvL0)], jn := look [], pins := [], nt := 20 }
noncomputable def spec_propAt.phis (N : Nat) : List (Nat × Sm D) := []
noncomputable def spec_propAt.a0 (N : Nat) (n : Nat) (y : (List (ImplProp)) × Int × Int × Unit) : Option (Int × Unit) := loopAt cx (look (spec_propAt.phis N)) spec_propAt.A N n (encL cx spec_propAt.lvL0.ms y).1 (encL cx spec_propAt.lvL0.ms y).2 (bodyOf Tryd.f54) 0 (Kfin cx spec_propAt.A spec_propAt.sg Tryd.f54.results.toList) [1, 0, 1, 1] []
theorem spec_propAt.r0 (N : Nat) : ∀ (n : Nat) (y : (List (ImplProp)) × Int × Int × Unit), spec_propAt.a0 N n y = spec_propAt.L0 N n y
  | 0, y => by kernel_rfl
  | n + 1, y => by
    have h : spec_propAt.a0 N (n + 1) y = spec_propAt.B0 N (fun z => spec_propAt.a0 N n z) y := by kernel_rfl
    have e : (fun z => spec_propAt.a0 N n z) = spec_propAt.L0 N n := funext fun z => spec_propAt.r0 N n z
    rw [h]
    try rw [e]
    first | done | rfl
theorem spec_propAt.run (N : Nat) (x : (List (ImplProp)) × Int × Unit) : runF cx (look (spec_propAt.phis N)) spec_propAt.A N (bodyOf Tryd.f54) Tryd.f54.results.toList spec_propAt.sg x = spec_propAt N x.1 x.2.1 := by
  have h : runF cx (look (spec_propAt.phis N)) spec_propAt.A N (bodyOf Tryd.f54) Tryd.f54.results.toList spec_propAt.sg x = spec_propAt.B N (fun z => spec_propAt.a0 N N z) x.1 x.2.1 := by kernel_rfl
  have e0 : (fun z => spec_propAt.a0 N N z) = spec_propAt.L0 N N := funext fun z => spec_propAt.r0 N N z
  rw [h, e0]
  try rfl
noncomputable def spec_propAt.sm (N : Nat) : Sm D := (⟨spec_propAt.sg, fun (x : (List (ImplProp)) × Int × Unit) => spec_propAt N x.1 x.2.1⟩ : Sm D)
theorem spec_propAt.sound (N : Nat) : Sound cx Tryd.prog gam 54 (spec_propAt.sm N) := fn_sound (A := spec_propAt.A) (Φ := (look (spec_propAt.phis N))) pok (G := gam) ΦOk.nil mixed N Tryd.func54 (c := (bodyOf Tryd.f54)) (by kernel_rfl) spec_propAt.sg (by kernel_rfl) (by kernel_rfl) (by kernel_rfl) (spec_propAt.run N)

@[reducible] def spec_meets.sg : Sg := { ms := [{ k := (.st 40) }, { k := (.st 36) }, { k := (.sl (.int .i64)), fl := [none] }], keep := [false, false, false], rs := [{ k := .bool }] }
noncomputable def spec_meets.A : Ann := { dp := fun d => isIn [] d, lp := look [], jn := look [], pins := [], nt := 51 }
noncomputable def spec_meets.phis (N : Nat) : List (Nat × Sm D) := [(53, spec_hasInt.sm N), (54, spec_propAt.sm N)]
theorem spec_meets.run (N : Nat) (x : ImplRule × ImplTree × (List (Int)) × Unit) : runF cx (look (spec_meets.phis N)) spec_meets.A N (bodyOf Tryd.f39) Tryd.f39.results.toList spec_meets.sg x = spec_meets N x.1 x.2.1 x.2.2.1 := by
  have h : runF cx (look (spec_meets.phis N)) spec_meets.A N (bodyOf Tryd.f39) Tryd.f39.results.toList spec_meets.sg x = spec_meets.B N x.1 x.2.1 x.2.2.1 := by kernel_rfl
  rw [h]
  try rfl
noncomputable def spec_meets.sm (N : Nat) : Sm D := (⟨spec_meets.sg, fun (x : ImplRule × ImplTree × (List (Int)) × Unit) => spec_meets N x.1 x.2.1 x.2.2.1⟩ : Sm D)
theorem spec_meets.sound (N : Nat) : Sound cx Tryd.prog gam 39 (spec_meets.sm N) := fn_sound (A := spec_meets.A) (Φ := (look (spec_meets.phis N))) pok (G := gam) (ΦOk.cons (spec_hasInt.sound N) (fnOk_of (f := 53) (by kernel_rfl)) (ΦOk.cons (spec_propAt.sound N) (fnOk_of (f := 54) (by kernel_rfl)) ΦOk.nil)) mixed N Tryd.func39 (c := (bodyOf Tryd.f39)) (by kernel_rfl) spec_meets.sg (by kernel_rfl) (by kernel_rfl) (by kernel_rfl) (spec_meets.run N)

@[reducible] def spec_found.sg : Sg := { ms := [{ k := (.st 36) }, { k := (.sl (.int .i64)), fl := [none] }, { k := (.sl (.int .i64)), fl := [none] }, { k := (.st 40) }, { k := (.sl (.sl (.int .i64))), fl := [some (false, 91)] }], keep := [false, false, false, false, false], rs := [{ k := (.sl (.sl (.int .i64))), fl := [some (false, 411)] }], hold := true }
@[reducible] def spec_found.lvL0 : Lv := { id := 0, slots := [1, 2, 4, 5, 8, 11], ms := [{ k := (.sl (.int .i64)), fl := [none] }, { k := (.sl (.int .i64)), fl := [none] }, { k := (.sl (.sl (.int .i64))), fl := [some (false, 640)] }, { ptr := true, id := 660, t := 37, k := (.st 36), fl := [none, none, none, none, none] }, { ptr := true, id := 680, t := 41, k := (.st 40), fl := [none, none, none, none, none, none, none, none] }, { k := (.int .i64) }] }
@[reducible] def spec_found.lvJ5 : Lv := { id := 5, slots := [1, 2, 4, 5, 8], ms := [{ k := (.sl (.int .i64)), fl := [none] }, { k := (.sl (.int .i64)), fl := [none] }, { k := (.sl (.sl (.int .i64))), fl := [some (false, 640)] }, { ptr := true, id := 660, t := 37, k := (.st 36), fl := [none, none, none, none, none] }, { ptr := true, id := 680, t := 41, k := (.st 40), fl := [none, none, none, none, none, none, none, none] }] }
noncomputable def spec_found.A : Ann := { dp := fun d => isIn [] d, lp := look [(0, spec_found.lvL0)], jn := look [(5, spec_found.lvJ5)], pins := [], nt := 55 }
noncomputable def spec_found.phis (N : Nat) (d : Nat) : List (Nat × Sm D) := [(39, spec_meets.sm N), (20, (⟨spec_found.sg, fun (x : ImplTree × (List (Int)) × (List (Int)) × ImplRule × (List (List (Int))) × Unit) => spec_found.R N d x.1 x.2.1 x.2.2.1 x.2.2.2.1 x.2.2.2.2.1⟩ : Sm D))]
noncomputable def spec_found.a0 (N : Nat) (d : Nat) (n : Nat) (y : (List (Int)) × (List (Int)) × (List (List (Int))) × ImplTree × ImplRule × Int × Unit) : Option ((List (List (Int))) × Unit) := loopAt cx (look (spec_found.phis N d)) spec_found.A N n (encL cx spec_found.lvL0.ms y).1 (encL cx spec_found.lvL0.ms y).2 (bodyOf Tryd.f20) 0 (Kfin cx spec_found.A spec_found.sg Tryd.f20.results.toList) [1, 1, 1, 0, 1, 1] []
theorem spec_found.r0 (N : Nat) (d : Nat) : ∀ (n : Nat) (y : (List (Int)) × (List (Int)) × (List (List (Int))) × ImplTree × ImplRule × Int × Unit), spec_found.a0 N d n y = spec_found.L0 N (spec_found.R N d) n y
  | 0, y => by kernel_rfl
  | n + 1, y => by
    have h : spec_found.a0 N d (n + 1) y = spec_found.B0 N (spec_found.R N d) (fun z => spec_found.a0 N d n z) y := by kernel_rfl
    have e : (fun z => spec_found.a0 N d n z) = spec_found.L0 N (spec_found.R N d) n := funext fun z => spec_found.r0 N d n z
    rw [h]
    try rw [e]
    first | done | rfl
theorem spec_found.run (N : Nat) (d : Nat) (x : ImplTree × (List (Int)) × (List (Int)) × ImplRule × (List (List (Int))) × Unit) : runF cx (look (spec_found.phis N d)) spec_found.A N (bodyOf Tryd.f20) Tryd.f20.results.toList spec_found.sg x = spec_found.R N (d + 1) x.1 x.2.1 x.2.2.1 x.2.2.2.1 x.2.2.2.2.1 := by
  have h : runF cx (look (spec_found.phis N d)) spec_found.A N (bodyOf Tryd.f20) Tryd.f20.results.toList spec_found.sg x = spec_found.B N (spec_found.R N d) (fun z => spec_found.a0 N d N z) x.1 x.2.1 x.2.2.1 x.2.2.2.1 x.2.2.2.2.1 := by kernel_rfl
  have e0 : (fun z => spec_found.a0 N d N z) = spec_found.L0 N (spec_found.R N d) N := funext fun z => spec_found.r0 N d N z
  rw [h, e0]
  try rfl
theorem spec_found.step (N : Nat) (d : Nat) (h_spec_found : Sound cx Tryd.prog gam 20 (⟨spec_found.sg, fun (x : ImplTree × (List (Int)) × (List (Int)) × ImplRule × (List (List (Int))) × Unit) => spec_found.R N d x.1 x.2.1 x.2.2.1 x.2.2.2.1 x.2.2.2.2.1⟩ : Sm D)) : Sound cx Tryd.prog gam 20 (⟨spec_found.sg, fun (x : ImplTree × (List (Int)) × (List (Int)) × ImplRule × (List (List (Int))) × Unit) => spec_found.R N (d + 1) x.1 x.2.1 x.2.2.1 x.2.2.2.1 x.2.2.2.2.1⟩ : Sm D) := fn_sound (A := spec_found.A) (Φ := (look (spec_found.phis N d))) pok (G := gam) (ΦOk.cons (spec_meets.sound N) (fnOk_of (f := 39) (by kernel_rfl)) (ΦOk.cons h_spec_found (fnOk_of (f := 20) (by kernel_rfl)) ΦOk.nil)) mixed N Tryd.func20 (c := (bodyOf Tryd.f20)) (by kernel_rfl) spec_found.sg (by kernel_rfl) (by kernel_rfl) (by kernel_rfl) (spec_found.run N d)

theorem spec_found.scc (N : Nat) : ∀ d, Sound cx Tryd.prog gam 20 (⟨spec_found.sg, fun (x : ImplTree × (List (Int)) × (List (Int)) × ImplRule × (List (List (Int))) × Unit) => spec_found.R N d x.1 x.2.1 x.2.2.1 x.2.2.2.1 x.2.2.2.2.1⟩ : Sm D)
  | 0 => none_sound 20 spec_found.sg
  | d + 1 => by
    have ih := spec_found.scc N d
    exact spec_found.step N d ih
noncomputable def spec_found.sm (N : Nat) : Sm D := (⟨spec_found.sg, fun (x : ImplTree × (List (Int)) × (List (Int)) × ImplRule × (List (List (Int))) × Unit) => spec_found.R N N x.1 x.2.1 x.2.2.1 x.2.2.2.1 x.2.2.2.2.1⟩ : Sm D)
theorem spec_found.sound (N : Nat) : Sound cx Tryd.prog gam 20 (spec_found.sm N) := (spec_found.scc N N)
@[reducible] def spec_FindAll.sg : Sg := { ms := [{ k := (.st 36) }, { k := (.st 40) }], keep := [false, false], rs := [{ k := (.sl (.sl (.int .i64))), fl := [none] }], hold := true }
noncomputable def spec_FindAll.A : Ann := { dp := fun d => isIn [] d, lp := look [], jn := look [], pins := [], nt := 19 }
noncomputable def spec_FindAll.phis (N : Nat) : List (Nat × Sm D) := [(18, spec_validTree.sm N), (19, spec_validRule.sm N), (20, spec_found.sm N)]
theorem spec_FindAll.run (N : Nat) (x : ImplTree × ImplRule × Unit) : runF cx (look (spec_FindAll.phis N)) spec_FindAll.A N (bodyOf Tryd.f6) Tryd.f6.results.toList spec_FindAll.sg x = spec_FindAll N x.1 x.2.1 := by
  have h : runF cx (look (spec_FindAll.phis N)) spec_FindAll.A N (bodyOf Tryd.f6) Tryd.f6.results.toList spec_FindAll.sg x = spec_FindAll.B N x.1 x.2.1 := by kernel_rfl
  rw [h]
  try rfl
noncomputable def spec_FindAll.sm (N : Nat) : Sm D := (⟨spec_FindAll.sg, fun (x : ImplTree × ImplRule × Unit) => spec_FindAll N x.1 x.2.1⟩ : Sm D)
theorem spec_FindAll.sound (N : Nat) : Sound cx Tryd.prog gam 6 (spec_FindAll.sm N) := fn_sound (A := spec_FindAll.A) (Φ := (look (spec_FindAll.phis N))) pok (G := gam) (ΦOk.cons (spec_validTree.sound N) (fnOk_of (f := 18) (by kernel_rfl)) (ΦOk.cons (spec_validRule.sound N) (fnOk_of (f := 19) (by kernel_rfl)) (ΦOk.cons (spec_found.sound N) (fnOk_of (f := 20) (by kernel_rfl)) ΦOk.nil))) mixed N Tryd.func6 (c := (bodyOf Tryd.f6)) (by kernel_rfl) spec_FindAll.sg (by kernel_rfl) (by kernel_rfl) (by kernel_rfl) (spec_FindAll.run N)

@[reducible] def impl_word.sg : Sg := { ms := [{ k := .str }], keep := [false], rs := [{ k := .bool }] }
@[reducible] def impl_word.lvL0 : Lv := { id := 0, slots := [0, 3], ms := [{ k := .str }, { k := (.int .i64) }] }
noncomputable def impl_word.A : Ann := { dp := fun d => isIn [] d, lp := look [(0, impl_word.lvL0)], jn := look [], pins := [], nt := 36 }
noncomputable def impl_word.phis (N : Nat) : List (Nat × Sm D) := []
noncomputable def impl_word.a0 (N : Nat) (n : Nat) (y : (List UInt8) × Int × Unit) : Option (Bool × Unit) := loopAt cx (look (impl_word.phis N)) impl_word.A N n (encL cx impl_word.lvL0.ms y).1 (encL cx impl_word.lvL0.ms y).2 (bodyOf Tryd.f56) 0 (Kfin cx impl_word.A impl_word.sg Tryd.f56.results.toList) [1, 0, 1, 1] []
theorem impl_word.r0 (N : Nat) : ∀ (n : Nat) (y : (List UInt8) × Int × Unit), impl_word.a0 N n y = impl_word.L0 N n y
  | 0, y => by kernel_rfl
  | n + 1, y => by
    have h : impl_word.a0 N (n + 1) y = impl_word.B0 N (fun z => impl_word.a0 N n z) y := by kernel_rfl
    have e : (fun z => impl_word.a0 N n z) = impl_word.L0 N n := funext fun z => impl_word.r0 N n z
    rw [h]
    try rw [e]
    first | done | rfl
theorem impl_word.run (N : Nat) (x : (List UInt8) × Unit) : runF cx (look (impl_word.phis N)) impl_word.A N (bodyOf Tryd.f56) Tryd.f56.results.toList impl_word.sg x = impl_word N x.1 := by
  have h : runF cx (look (impl_word.phis N)) impl_word.A N (bodyOf Tryd.f56) Tryd.f56.results.toList impl_word.sg x = impl_word.B N (fun z => impl_word.a0 N N z) x.1 := by kernel_rfl
  have e0 : (fun z => impl_word.a0 N N z) = impl_word.L0 N N := funext fun z => impl_word.r0 N N z
  rw [h, e0]
  try rfl
noncomputable def impl_word.sm (N : Nat) : Sm D := (⟨impl_word.sg, fun (x : (List UInt8) × Unit) => impl_word N x.1⟩ : Sm D)
theorem impl_word.sound (N : Nat) : Sound cx Tryd.prog gam 56 (impl_word.sm N) := fn_sound (A := impl_word.A) (Φ := (look (impl_word.phis N))) pok (G := gam) ΦOk.nil mixed N Tryd.func56 (c := (bodyOf Tryd.f56)) (by kernel_rfl) impl_word.sg (by kernel_rfl) (by kernel_rfl) (by kernel_rfl) (impl_word.run N)

@[reducible] def impl_within.sg : Sg := { ms := [{ k := (.int .i64) }, { k := (.int .i64) }, { k := (.int .i64) }], keep := [false, false, false], rs := [{ k := .bool }] }
noncomputable def impl_within.A : Ann := { dp := fun d => isIn [] d, lp := look [], jn := look [], pins := [], nt := 15 }
noncomputable def impl_within.phis (N : Nat) : List (Nat × Sm D) := []
theorem impl_within.run (N : Nat) (x : Int × Int × Int × Unit) : runF cx (look (impl_within.phis N)) impl_within.A N (bodyOf Tryd.f42) Tryd.f42.results.toList impl_within.sg x = impl_within N x.1 x.2.1 x.2.2.1 := by
  have h : runF cx (look (impl_within.phis N)) impl_within.A N (bodyOf Tryd.f42) Tryd.f42.results.toList impl_within.sg x = impl_within.B N x.1 x.2.1 x.2.2.1 := by kernel_rfl
  rw [h]
  try rfl
noncomputable def impl_within.sm (N : Nat) : Sm D := (⟨impl_within.sg, fun (x : Int × Int × Int × Unit) => impl_within N x.1 x.2.1 x.2.2.1⟩ : Sm D)
theorem impl_within.sound (N : Nat) : Sound cx Tryd.prog gam 42 (impl_within.sm N) := fn_sound (A := impl_within.A) (Φ := (look (impl_within.phis N))) pok (G := gam) ΦOk.nil mixed N Tryd.func42 (c := (bodyOf Tryd.f42)) (by kernel_rfl) impl_within.sg (by kernel_rfl) (by kernel_rfl) (by kernel_rfl) (impl_within.run N)

@[reducible] def impl_shown.sg : Sg := { ms := [{ k := .str }], keep := [false], rs := [{ k := .bool }] }
noncomputable def impl_shown.A : Ann := { dp := fun d => isIn [] d, lp := look [], jn := look [], pins := [], nt := 24 }
noncomputable def impl_shown.phis (N : Nat) : List (Nat × Sm D) := [(56, impl_word.sm N), (60, LibAtoi.sm N), (42, impl_within.sm N), (61, LibItoa.sm N)]
theorem impl_shown.run (N : Nat) (x : (List UInt8) × Unit) : runF cx (look (impl_shown.phis N)) impl_shown.A N (bodyOf Tryd.f55) Tryd.f55.results.toList impl_shown.sg x = impl_shown N x.1 := by
  have h : runF cx (look (impl_shown.phis N)) impl_shown.A N (bodyOf Tryd.f55) Tryd.f55.results.toList impl_shown.sg x = impl_shown.B N x.1 := by kernel_rfl
  rw [h]
  try rfl
noncomputable def impl_shown.sm (N : Nat) : Sm D := (⟨impl_shown.sg, fun (x : (List UInt8) × Unit) => impl_shown N x.1⟩ : Sm D)
theorem impl_shown.sound (N : Nat) : Sound cx Tryd.prog gam 55 (impl_shown.sm N) := fn_sound (A := impl_shown.A) (Φ := (look (impl_shown.phis N))) pok (G := gam) (ΦOk.cons (impl_word.sound N) (fnOk_of (f := 56) (by kernel_rfl)) (ΦOk.cons (LibAtoi.sound N) (fnOk_of (f := 60) (by kernel_rfl)) (ΦOk.cons (impl_within.sound N) (fnOk_of (f := 42) (by kernel_rfl)) (ΦOk.cons (LibItoa.sound N) (fnOk_of (f := 61) (by kernel_rfl)) ΦOk.nil)))) mixed N Tryd.func55 (c := (bodyOf Tryd.f55)) (by kernel_rfl) impl_shown.sg (by kernel_rfl) (by kernel_rfl) (by kernel_rfl) (impl_shown.run N)

@[reducible] def impl_ValOk.sg : Sg := { ms := [{ k := (.st 26) }], keep := [false], rs := [{ k := .bool }] }
noncomputable def impl_ValOk.A : Ann := { dp := fun d => isIn [] d, lp := look [], jn := look [], pins := [], nt := 35 }
noncomputable def impl_ValOk.phis (N : Nat) : List (Nat × Sm D) := [(42, impl_within.sm N), (56, impl_word.sm N)]
theorem impl_ValOk.run (N : Nat) (x : ImplValue × Unit) : runF cx (look (impl_ValOk.phis N)) impl_ValOk.A N (bodyOf Tryd.f43) Tryd.f43.results.toList impl_ValOk.sg x = impl_ValOk N x.1 := by
  have h : runF cx (look (impl_ValOk.phis N)) impl_ValOk.A N (bodyOf Tryd.f43) Tryd.f43.results.toList impl_ValOk.sg x = impl_ValOk.B N x.1 := by kernel_rfl
  rw [h]
  try rfl
noncomputable def impl_ValOk.sm (N : Nat) : Sm D := (⟨impl_ValOk.sg, fun (x : ImplValue × Unit) => impl_ValOk N x.1⟩ : Sm D)
theorem impl_ValOk.sound (N : Nat) : Sound cx Tryd.prog gam 43 (impl_ValOk.sm N) := fn_sound (A := impl_ValOk.A) (Φ := (look (impl_ValOk.phis N))) pok (G := gam) (ΦOk.cons (impl_within.sound N) (fnOk_of (f := 42) (by kernel_rfl)) (ΦOk.cons (impl_word.sound N) (fnOk_of (f := 56) (by kernel_rfl)) ΦOk.nil)) mixed N Tryd.func43 (c := (bodyOf Tryd.f43)) (by kernel_rfl) impl_ValOk.sg (by kernel_rfl) (by kernel_rfl) (by kernel_rfl) (impl_ValOk.run N)

@[reducible] def impl_treeFits.sg : Sg := { ms := [{ k := (.st 36) }, { k := (.int .i64) }, { ptr := true, id := 50, t := 3, k := (.int .i64) }], keep := [false, false, true], rs := [{ k := .bool }] }
@[reducible] def impl_treeFits.lvL2 : Lv := { id := 2, slots := [1, 2, 9, 100, 101, 102], ms := [{ k := (.int .i64) }, { ptr := true, id := 50, t := 3, k := (.int .i64), fl := [none] }, { ptr := true, id := 640, t := 777777, k := (.sl (.int .i64)), fl := [none] }, { k := (.sl (.st 36)), fl := [none] }, { k := (.int .i64) }, { k := (.int .i64) }] }
@[reducible] def impl_treeFits.lvL0 : Lv := { id := 0, slots := [1, 2, 3, 64, 65, 66], ms := [{ k := (.int .i64) }, { ptr := true, id := 50, t := 3, k := (.int .i64), fl := [none] }, { ptr := true, id := 640, t := 37, k := (.st 36), fl := [none, none, none, none, none] }, { k := (.sl (.st 73)), fl := [none] }, { k := (.int .i64) }, { k := (.int .i64) }] }
noncomputable def impl_treeFits.A : Ann := { dp := fun d => isIn [] d, lp := look [(2, impl_treeFits.lvL2), (0, impl_treeFits.lvL0)], jn := look [], pins := [50], nt := 125 }
noncomputable def impl_treeFits.phis (N : Nat) (d : Nat) : List (Nat × Sm D) := [(55, impl_shown.sm N), (42, impl_within.sm N), (43, impl_ValOk.sm N), (41, (⟨impl_treeFits.sg, fun (x : ImplTree × Int × Int × Unit) => impl_treeFits.R N d x.1 x.2.1 x.2.2.1⟩ : Sm D))]
noncomputable def impl_treeFits.a2 (N : Nat) (d : Nat) (n : Nat) (y : Int × Int × (List (Int)) × (List (ImplTree)) × Int × Int × Unit) : Option (Int × Bool × Unit) := loopAt cx (look (impl_treeFits.phis N d)) impl_treeFits.A N n (encL cx impl_treeFits.lvL2.ms y).1 (encL cx impl_treeFits.lvL2.ms y).2 (bodyOf Tryd.f41) 0 (Kfin cx impl_treeFits.A impl_treeFits.sg Tryd.f41.results.toList) [1, 1, 1, 1, 1, 1, 1, 0, 1, 1] []
noncomputable def impl_treeFits.a0 (N : Nat) (d : Nat) (n : Nat) (y : Int × Int × ImplTree × (List (ImplProp)) × Int × Int × Unit) : Option (Int × Bool × Unit) := loopAt cx (look (impl_treeFits.phis N d)) impl_treeFits.A N n (encL cx impl_treeFits.lvL0.ms y).1 (encL cx impl_treeFits.lvL0.ms y).2 (bodyOf Tryd.f41) 0 (Kfin cx impl_treeFits.A impl_treeFits.sg Tryd.f41.results.toList) [1, 1, 1, 1, 1, 0, 1, 1] []
theorem impl_treeFits.r2 (N : Nat) (d : Nat) : ∀ (n : Nat) (y : Int × Int × (List (Int)) × (List (ImplTree)) × Int × Int × Unit), impl_treeFits.a2 N d n y = impl_treeFits.L2 N (impl_treeFits.R N d) n y
  | 0, y => by kernel_rfl
  | n + 1, y => by
    have h : impl_treeFits.a2 N d (n + 1) y = impl_treeFits.B2 N (impl_treeFits.R N d) (fun z => impl_treeFits.a2 N d n z) y := by kernel_rfl
    have e : (fun z => impl_treeFits.a2 N d n z) = impl_treeFits.L2 N (impl_treeFits.R N d) n := funext fun z => impl_treeFits.r2 N d n z
    rw [h]
    try rw [e]
    first | done | rfl
theorem impl_treeFits.r0 (N : Nat) (d : Nat) : ∀ (n : Nat) (y : Int × Int × ImplTree × (List (ImplProp)) × Int × Int × Unit), impl_treeFits.a0 N d n y = impl_treeFits.L0 N (impl_treeFits.R N d) n y
  | 0, y => by kernel_rfl
  | n + 1, y => by
    have h : impl_treeFits.a0 N d (n + 1) y = impl_treeFits.B0 N (impl_treeFits.R N d) (fun z => impl_treeFits.a0 N d n z) (fun z => impl_treeFits.a2 N d N z) y := by kernel_rfl
    have e : (fun z => impl_treeFits.a0 N d n z) = impl_treeFits.L0 N (impl_treeFits.R N d) n := funext fun z => impl_treeFits.r0 N d n z
    have e2 : (fun z => impl_treeFits.a2 N d N z) = impl_treeFits.L2 N (impl_treeFits.R N d) N := funext fun z => impl_treeFits.r2 N d N z
    rw [h, e2]
    try rw [e]
    first | done | rfl
theorem impl_treeFits.run (N : Nat) (d : Nat) (x : ImplTree × Int × Int × Unit) : runF cx (look (impl_treeFits.phis N d)) impl_treeFits.A N (bodyOf Tryd.f41) Tryd.f41.results.toList impl_treeFits.sg x = impl_treeFits.R N (d + 1) x.1 x.2.1 x.2.2.1 := by
  have h : runF cx (look (impl_treeFits.phis N d)) impl_treeFits.A N (bodyOf Tryd.f41) Tryd.f41.results.toList impl_treeFits.sg x = impl_treeFits.B N (impl_treeFits.R N d) (fun z => impl_treeFits.a0 N d N z) x.1 x.2.1 x.2.2.1 := by kernel_rfl
  have e0 : (fun z => impl_treeFits.a0 N d N z) = impl_treeFits.L0 N (impl_treeFits.R N d) N := funext fun z => impl_treeFits.r0 N d N z
  rw [h, e0]
  try rfl
theorem impl_treeFits.step (N : Nat) (d : Nat) (h_impl_treeFits : Sound cx Tryd.prog gam 41 (⟨impl_treeFits.sg, fun (x : ImplTree × Int × Int × Unit) => impl_treeFits.R N d x.1 x.2.1 x.2.2.1⟩ : Sm D)) : Sound cx Tryd.prog gam 41 (⟨impl_treeFits.sg, fun (x : ImplTree × Int × Int × Unit) => impl_treeFits.R N (d + 1) x.1 x.2.1 x.2.2.1⟩ : Sm D) := fn_sound (A := impl_treeFits.A) (Φ := (look (impl_treeFits.phis N d))) pok (G := gam) (ΦOk.cons (impl_shown.sound N) (fnOk_of (f := 55) (by kernel_rfl)) (ΦOk.cons (impl_within.sound N) (fnOk_of (f := 42) (by kernel_rfl)) (ΦOk.cons (impl_ValOk.sound N) (fnOk_of (f := 43) (by kernel_rfl)) (ΦOk.cons h_impl_treeFits (fnOk_of (f := 41) (by kernel_rfl)) ΦOk.nil)))) mixed N Tryd.func41 (c := (bodyOf Tryd.f41)) (by kernel_rfl) impl_treeFits.sg (by kernel_rfl) (by kernel_rfl) (by kernel_rfl) (impl_treeFits.run N d)

theorem impl_treeFits.scc (N : Nat) : ∀ d, Sound cx Tryd.prog gam 41 (⟨impl_treeFits.sg, fun (x : ImplTree × Int × Int × Unit) => impl_treeFits.R N d x.1 x.2.1 x.2.2.1⟩ : Sm D)
  | 0 => none_sound 41 impl_treeFits.sg
  | d + 1 => by
    have ih := impl_treeFits.scc N d
    exact impl_treeFits.step N d ih
noncomputable def impl_treeFits.sm (N : Nat) : Sm D := (⟨impl_treeFits.sg, fun (x : ImplTree × Int × Int × Unit) => impl_treeFits.R N N x.1 x.2.1 x.2.2.1⟩ : Sm D)
theorem impl_treeFits.sound (N : Nat) : Sound cx Tryd.prog gam 41 (impl_treeFits.sm N) := (impl_treeFits.scc N N)
@[reducible] def impl_TreeOk.sg : Sg := { ms := [{ k := (.st 36) }], keep := [false], rs := [{ k := .bool }] }
noncomputable def impl_TreeOk.A : Ann := { dp := fun d => isIn [] d, lp := look [], jn := look [], pins := [], nt := 6 }
noncomputable def impl_TreeOk.phis (N : Nat) : List (Nat × Sm D) := [(41, impl_treeFits.sm N)]
theorem impl_TreeOk.run (N : Nat) (x : ImplTree × Unit) : runF cx (look (impl_TreeOk.phis N)) impl_TreeOk.A N (bodyOf Tryd.f24) Tryd.f24.results.toList impl_TreeOk.sg x = impl_TreeOk N x.1 := by
  have h : runF cx (look (impl_TreeOk.phis N)) impl_TreeOk.A N (bodyOf Tryd.f24) Tryd.f24.results.toList impl_TreeOk.sg x = impl_TreeOk.B N x.1 := by kernel_rfl
  rw [h]
  try rfl
noncomputable def impl_TreeOk.sm (N : Nat) : Sm D := (⟨impl_TreeOk.sg, fun (x : ImplTree × Unit) => impl_TreeOk N x.1⟩ : Sm D)
theorem impl_TreeOk.sound (N : Nat) : Sound cx Tryd.prog gam 24 (impl_TreeOk.sm N) := fn_sound (A := impl_TreeOk.A) (Φ := (look (impl_TreeOk.phis N))) pok (G := gam) (ΦOk.cons (impl_treeFits.sound N) (fnOk_of (f := 41) (by kernel_rfl)) ΦOk.nil) mixed N Tryd.func24 (c := (bodyOf Tryd.f24)) (by kernel_rfl) impl_TreeOk.sg (by kernel_rfl) (by kernel_rfl) (by kernel_rfl) (impl_TreeOk.run N)

@[reducible] def impl_RulesOk.sg : Sg := { ms := [{ k := (.sl (.st 40)), fl := [none] }], keep := [false], rs := [{ k := .bool }] }
@[reducible] def impl_RulesOk.lvL0 : Lv := { id := 0, slots := [0, 5, 6, 7], ms := [{ k := (.sl (.st 40)), fl := [none] }, { k := (.sl (.st 40)), fl := [none] }, { k := (.int .i64) }, { k := (.int .i64) }] }
noncomputable def impl_RulesOk.A : Ann := { dp := fun d => isIn [] d, lp := look [(0, impl_RulesOk.lvL0)], jn := look [], pins := [], nt := 58 }
noncomputable def impl_RulesOk.phis (N : Nat) : List (Nat × Sm D) := [(42, impl_within.sm N), (43, impl_ValOk.sm N)]
noncomputable def impl_RulesOk.a0 (N : Nat) (n : Nat) (y : (List (ImplRule)) × (List (ImplRule)) × Int × Int × Unit) : Option (Bool × Unit) := loopAt cx (look (impl_RulesOk.phis N)) impl_RulesOk.A N n (encL cx impl_RulesOk.lvL0.ms y).1 (encL cx impl_RulesOk.lvL0.ms y).2 (bodyOf Tryd.f25) 0 (Kfin cx impl_RulesOk.A impl_RulesOk.sg Tryd.f25.results.toList) [1, 0, 1, 1] []
theorem impl_RulesOk.r0 (N : Nat) : ∀ (n : Nat) (y : (List (ImplRule)) × (List (ImplRule)) × Int × Int × Unit), impl_RulesOk.a0 N n y = impl_RulesOk.L0 N n y
  | 0, y => by kernel_rfl
  | n + 1, y => by
    have h : impl_RulesOk.a0 N (n + 1) y = impl_RulesOk.B0 N (fun z => impl_RulesOk.a0 N n z) y := by kernel_rfl
    have e : (fun z => impl_RulesOk.a0 N n z) = impl_RulesOk.L0 N n := funext fun z => impl_RulesOk.r0 N n z
    rw [h]
    try rw [e]
    first | done | rfl
theorem impl_RulesOk.run (N : Nat) (x : (List (ImplRule)) × Unit) : runF cx (look (impl_RulesOk.phis N)) impl_RulesOk.A N (bodyOf Tryd.f25) Tryd.f25.results.toList impl_RulesOk.sg x = impl_RulesOk N x.1 := by
  have h : runF cx (look (impl_RulesOk.phis N)) impl_RulesOk.A N (bodyOf Tryd.f25) Tryd.f25.results.toList impl_RulesOk.sg x = impl_RulesOk.B N (fun z => impl_RulesOk.a0 N N z) x.1 := by kernel_rfl
  have e0 : (fun z => impl_RulesOk.a0 N N z) = impl_RulesOk.L0 N N := funext fun z => impl_RulesOk.r0 N N z
  rw [h, e0]
  try rfl
noncomputable def impl_RulesOk.sm (N : Nat) : Sm D := (⟨impl_RulesOk.sg, fun (x : (List (ImplRule)) × Unit) => impl_RulesOk N x.1⟩ : Sm D)
theorem impl_RulesOk.sound (N : Nat) : Sound cx Tryd.prog gam 25 (impl_RulesOk.sm N) := fn_sound (A := impl_RulesOk.A) (Φ := (look (impl_RulesOk.phis N))) pok (G := gam) (ΦOk.cons (impl_within.sound N) (fnOk_of (f := 42) (by kernel_rfl)) (ΦOk.cons (impl_ValOk.sound N) (fnOk_of (f := 43) (by kernel_rfl)) ΦOk.nil)) mixed N Tryd.func25 (c := (bodyOf Tryd.f25)) (by kernel_rfl) impl_RulesOk.sg (by kernel_rfl) (by kernel_rfl) (by kernel_rfl) (impl_RulesOk.run N)

@[reducible] def impl_meets.sg : Sg := { ms := [{ k := (.st 40) }, { k := (.st 36) }, { k := (.sl (.int .i64)), fl := [none] }], keep := [false, false, false], rs := [{ k := .bool }] }
@[reducible] def impl_meets.lvL2 : Lv := { id := 2, slots := [3, 45, 46, 47], ms := [{ ptr := true, id := 600, t := 41, k := (.st 40), fl := [none, none, none, none, none, none, none, none] }, { k := (.sl (.st 73)), fl := [none] }, { k := (.int .i64) }, { k := (.int .i64) }] }
@[reducible] def impl_meets.lvJ12 : Lv := { id := 12, slots := [3, 4], ms := [{ ptr := true, id := 600, t := 41, k := (.st 40), fl := [none, none, none, none, none, none, none, none] }, { ptr := true, id := 620, t := 37, k := (.st 36), fl := [none, none, none, none, none] }] }
@[reducible] def impl_meets.lvL0 : Lv := { id := 0, slots := [3, 4, 7, 25, 26, 27], ms := [{ ptr := true, id := 600, t := 41, k := (.st 40), fl := [none, none, none, none, none, none, none, none] }, { ptr := true, id := 620, t := 37, k := (.st 36), fl := [none, none, none, none, none] }, { k := .bool }, { k := (.sl (.int .i64)), fl := [none] }, { k := (.int .i64) }, { k := (.int .i64) }] }
noncomputable def impl_meets.A : Ann := { dp := fun d => isIn [] d, lp := look [(2, impl_meets.lvL2), (0, impl_meets.lvL0)], jn := look [(12, impl_meets.lvJ12)], pins := [], nt := 64 }
noncomputable def impl_meets.phis (N : Nat) : List (Nat × Sm D) := []
noncomputable def impl_meets.a2 (N : Nat) (n : Nat) (y : ImplRule × (List (ImplProp)) × Int × Int × Unit) : Option (Bool × Unit) := loopAt cx (look (impl_meets.phis N)) impl_meets.A N n (encL cx impl_meets.lvL2.ms y).1 (encL cx impl_meets.lvL2.ms y).2 (bodyOf Tryd.f44) 0 (Kfin cx impl_meets.A impl_meets.sg Tryd.f44.results.toList) [1, 1, 1, 1, 0, 1, 1] []
noncomputable def impl_meets.a0 (N : Nat) (n : Nat) (y : ImplRule × ImplTree × Bool × (List (Int)) × Int × Int × Unit) : Option (Bool × Unit) := loopAt cx (look (impl_meets.phis N)) impl_meets.A N n (encL cx impl_meets.lvL0.ms y).1 (encL cx impl_meets.lvL0.ms y).2 (bodyOf Tryd.f44) 0 (Kfin cx impl_meets.A impl_meets.sg Tryd.f44.results.toList) [1, 1, 0, 1, 0, 1, 0, 1, 1] []
theorem impl_meets.r2 (N : Nat) : ∀ (n : Nat) (y : ImplRule × (List (ImplProp)) × Int × Int × Unit), impl_meets.a2 N n y = impl_meets.L2 N n y
  | 0, y => by kernel_rfl
  | n + 1, y => by
    have h : impl_meets.a2 N (n + 1) y = impl_meets.B2 N (fun z => impl_meets.a2 N n z) y := by kernel_rfl
    have e : (fun z => impl_meets.a2 N n z) = impl_meets.L2 N n := funext fun z => impl_meets.r2 N n z
    rw [h]
    try rw [e]
    first | done | rfl
theorem impl_meets.r0 (N : Nat) : ∀ (n : Nat) (y : ImplRule × ImplTree × Bool × (List (Int)) × Int × Int × Unit), impl_meets.a0 N n y = impl_meets.L0 N n y
  | 0, y => by kernel_rfl
  | n + 1, y => by
    have h : impl_meets.a0 N (n + 1) y = impl_meets.B0 N (fun z => impl_meets.a0 N n z) (fun z => impl_meets.a2 N N z) y := by kernel_rfl
    have e : (fun z => impl_meets.a0 N n z) = impl_meets.L0 N n := funext fun z => impl_meets.r0 N n z
    have e2 : (fun z => impl_meets.a2 N N z) = impl_meets.L2 N N := funext fun z => impl_meets.r2 N N z
    rw [h, e2]
    try rw [e]
    first | done | rfl
theorem impl_meets.run (N : Nat) (x : ImplRule × ImplTree × (List (Int)) × Unit) : runF cx (look (impl_meets.phis N)) impl_meets.A N (bodyOf Tryd.f44) Tryd.f44.results.toList impl_meets.sg x = impl_meets N x.1 x.2.1 x.2.2.1 := by
  have h : runF cx (look (impl_meets.phis N)) impl_meets.A N (bodyOf Tryd.f44) Tryd.f44.results.toList impl_meets.sg x = impl_meets.B N (fun z => impl_meets.a0 N N z) (fun z => impl_meets.a2 N N z) x.1 x.2.1 x.2.2.1 := by kernel_rfl
  have e0 : (fun z => impl_meets.a0 N N z) = impl_meets.L0 N N := funext fun z => impl_meets.r0 N N z
  have e2 : (fun z => impl_meets.a2 N N z) = impl_meets.L2 N N := funext fun z => impl_meets.r2 N N z
  rw [h, e0, e2]
  try rfl
noncomputable def impl_meets.sm (N : Nat) : Sm D := (⟨impl_meets.sg, fun (x : ImplRule × ImplTree × (List (Int)) × Unit) => impl_meets N x.1 x.2.1 x.2.2.1⟩ : Sm D)
theorem impl_meets.sound (N : Nat) : Sound cx Tryd.prog gam 44 (impl_meets.sm N) := fn_sound (A := impl_meets.A) (Φ := (look (impl_meets.phis N))) pok (G := gam) ΦOk.nil mixed N Tryd.func44 (c := (bodyOf Tryd.f44)) (by kernel_rfl) impl_meets.sg (by kernel_rfl) (by kernel_rfl) (by kernel_rfl) (impl_meets.run N)

@[reducible] def impl_wayCopy.sg : Sg := { ms := [{ k := (.sl (.int .i64)), fl := [none] }], keep := [false], rs := [{ k := (.sl (.int .i64)), fl := [some (false, 411)] }] }
noncomputable def impl_wayCopy.A : Ann := { dp := fun d => isIn [] d, lp := look [], jn := look [], pins := [], nt := 5 }
noncomputable def impl_wayCopy.phis (N : Nat) : List (Nat × Sm D) := []
theorem impl_wayCopy.run (N : Nat) (x : (List (Int)) × Unit) : runF cx (look (impl_wayCopy.phis N)) impl_wayCopy.A N (bodyOf Tryd.f45) Tryd.f45.results.toList impl_wayCopy.sg x = impl_wayCopy N x.1 := by
  have h : runF cx (look (impl_wayCopy.phis N)) impl_wayCopy.A N (bodyOf Tryd.f45) Tryd.f45.results.toList impl_wayCopy.sg x = impl_wayCopy.B N x.1 := by kernel_rfl
  rw [h]
  try rfl
noncomputable def impl_wayCopy.sm (N : Nat) : Sm D := (⟨impl_wayCopy.sg, fun (x : (List (Int)) × Unit) => impl_wayCopy N x.1⟩ : Sm D)
theorem impl_wayCopy.sound (N : Nat) : Sound cx Tryd.prog gam 45 (impl_wayCopy.sm N) := fn_sound (A := impl_wayCopy.A) (Φ := (look (impl_wayCopy.phis N))) pok (G := gam) ΦOk.nil mixed N Tryd.func45 (c := (bodyOf Tryd.f45)) (by kernel_rfl) impl_wayCopy.sg (by kernel_rfl) (by kernel_rfl) (by kernel_rfl) (impl_wayCopy.run N)

@[reducible] def impl_wayMore.sg : Sg := { ms := [{ k := (.sl (.int .i64)), fl := [none] }, { k := (.int .i64) }], keep := [false, false], rs := [{ k := (.sl (.int .i64)), fl := [none] }], hold := true }
noncomputable def impl_wayMore.A : Ann := { dp := fun d => isIn [] d, lp := look [], jn := look [], pins := [], nt := 11 }
noncomputable def impl_wayMore.phis (N : Nat) : List (Nat × Sm D) := []
theorem impl_wayMore.run (N : Nat) (x : (List (Int)) × Int × Unit) : runF cx (look (impl_wayMore.phis N)) impl_wayMore.A N (bodyOf Tryd.f46) Tryd.f46.results.toList impl_wayMore.sg x = impl_wayMore N x.1 x.2.1 := by
  have h : runF cx (look (impl_wayMore.phis N)) impl_wayMore.A N (bodyOf Tryd.f46) Tryd.f46.results.toList impl_wayMore.sg x = impl_wayMore.B N x.1 x.2.1 := by kernel_rfl
  rw [h]
  try rfl
noncomputable def impl_wayMore.sm (N : Nat) : Sm D := (⟨impl_wayMore.sg, fun (x : (List (Int)) × Int × Unit) => impl_wayMore N x.1 x.2.1⟩ : Sm D)
theorem impl_wayMore.sound (N : Nat) : Sound cx Tryd.prog gam 46 (impl_wayMore.sm N) := fn_sound (A := impl_wayMore.A) (Φ := (look (impl_wayMore.phis N))) pok (G := gam) ΦOk.nil mixed N Tryd.func46 (c := (bodyOf Tryd.f46)) (by kernel_rfl) impl_wayMore.sg (by kernel_rfl) (by kernel_rfl) (by kernel_rfl) (impl_wayMore.run N)

end
end Go.Ev
