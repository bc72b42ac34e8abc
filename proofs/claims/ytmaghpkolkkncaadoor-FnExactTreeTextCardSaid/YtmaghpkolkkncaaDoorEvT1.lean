/- Each function that the law reaches does what its plain form says; no condition beyond the table of the library. -/
import Derived.Test.YtmaghpkolkkncaaDoorEvT0
set_option linter.all false
set_option linter.unusedVariables false
set_option linter.unusedSimpArgs false
set_option maxRecDepth 100000
set_option maxHeartbeats 0
namespace Go.Ev
noncomputable section
open Go.Proofs
@[reducible] def spec_validPart.sg : Sg := { ms := [{ k := (.st 25) }], keep := [false], rs := [{ k := .bool }] }
@[reducible] def spec_validPart.lvL0 : Lv := { id := 0, slots := [1, 3], ms := [{ ptr := true, id := 600, t := 26, k := (.st 25), fl := [none, none, none, none, none] }, { k := (.int .i64) }] }
noncomputable def spec_validPart.A : Ann := { dp := fun d => isIn [] d, lp := look [(0, spec_validPart.lvL0)], jn := look [], pins := [], nt := 65 }
noncomputable def spec_validPart.phis (N : Nat) (d : Nat) : List (Nat × Sm D) := [(93, spec_validShown.sm N), (63, spec_inRange.sm N), (94, spec_validPropList.sm N), (74, (⟨spec_validPart.sg, fun (x : ImplTree × Unit) => spec_validPart.R N d x.1⟩ : Sm D)), (95, spec_keysApart.sm N)]
noncomputable def spec_validPart.a0 (N : Nat) (d : Nat) (n : Nat) (y : ImplTree × Int × Unit) : Option (Bool × Unit) := loopAt cx (look (spec_validPart.phis N d)) spec_validPart.A N n (encL cx spec_validPart.lvL0.ms y).1 (encL cx spec_validPart.lvL0.ms y).2 (bodyOf Tryd.f74) 0 (Kfin cx spec_validPart.A spec_validPart.sg Tryd.f74.results.toList) [1, 1, 1, 0, 1, 1] []
theorem spec_validPart.r0 (N : Nat) (d : Nat) : ∀ (n : Nat) (y : ImplTree × Int × Unit), spec_validPart.a0 N d n y = spec_validPart.L0 N (spec_validPart.R N d) n y
  | 0, y => by kernel_rfl
  | n + 1, y => by
    have h : spec_validPart.a0 N d (n + 1) y = spec_validPart.B0 N (spec_validPart.R N d) (fun z => spec_validPart.a0 N d n z) y := by kernel_rfl
    have e : (fun z => spec_validPart.a0 N d n z) = spec_validPart.L0 N (spec_validPart.R N d) n := funext fun z => spec_validPart.r0 N d n z
    rw [h]
    try rw [e]
    first | done | rfl
theorem spec_validPart.run (N : Nat) (d : Nat) (x : ImplTree × Unit) : runF cx (look (spec_validPart.phis N d)) spec_validPart.A N (bodyOf Tryd.f74) Tryd.f74.results.toList spec_validPart.sg x = spec_validPart.R N (d + 1) x.1 := by
  have h : runF cx (look (spec_validPart.phis N d)) spec_validPart.A N (bodyOf Tryd.f74) Tryd.f74.results.toList spec_validPart.sg x = spec_validPart.B N (spec_validPart.R N d) (fun z => spec_validPart.a0 N d N z) x.1 := by kernel_rfl
  have e0 : (fun z => spec_validPart.a0 N d N z) = spec_validPart.L0 N (spec_validPart.R N d) N := funext fun z => spec_validPart.r0 N d N z
  rw [h, e0]
  try rfl
theorem spec_validPart.step (N : Nat) (d : Nat) (h_spec_validPart : Sound cx Tryd.prog gam 74 (⟨spec_validPart.sg, fun (x : ImplTree × Unit) => spec_validPart.R N d x.1⟩ : Sm D)) : Sound cx Tryd.prog gam 74 (⟨spec_validPart.sg, fun (x : ImplTree × Unit) => spec_validPart.R N (d + 1) x.1⟩ : Sm D) := fn_sound (A := spec_validPart.A) (Φ := (look (spec_validPart.phis N d))) pok (G := gam) (ΦOk.cons (spec_validShown.sound N) (fnOk_of (f := 93) (by kernel_rfl)) (ΦOk.cons (spec_inRange.sound N) (fnOk_of (f := 63) (by kernel_rfl)) (ΦOk.cons (spec_validPropList.sound N) (fnOk_of (f := 94) (by kernel_rfl)) (ΦOk.cons h_spec_validPart (fnOk_of (f := 74) (by kernel_rfl)) (ΦOk.cons (spec_keysApart.sound N) (fnOk_of (f := 95) (by kernel_rfl)) ΦOk.nil))))) mixed N Tryd.func74 (c := (bodyOf Tryd.f74)) (by kernel_rfl) spec_validPart.sg (by kernel_rfl) (by kernel_rfl) (by kernel_rfl) (spec_validPart.run N d)

theorem spec_validPart.scc (N : Nat) : ∀ d, Sound cx Tryd.prog gam 74 (⟨spec_validPart.sg, fun (x : ImplTree × Unit) => spec_validPart.R N d x.1⟩ : Sm D)
  | 0 => none_sound 74 spec_validPart.sg
  | d + 1 => by
    have ih := spec_validPart.scc N d
    exact spec_validPart.step N d ih
noncomputable def spec_validPart.sm (N : Nat) : Sm D := (⟨spec_validPart.sg, fun (x : ImplTree × Unit) => spec_validPart.R N N x.1⟩ : Sm D)
theorem spec_validPart.sound (N : Nat) : Sound cx Tryd.prog gam 74 (spec_validPart.sm N) := (spec_validPart.scc N N)
@[reducible] def spec_validTree.sg : Sg := { ms := [{ k := (.st 25) }], keep := [false], rs := [{ k := .bool }] }
noncomputable def spec_validTree.A : Ann := { dp := fun d => isIn [] d, lp := look [], jn := look [], pins := [], nt := 10 }
noncomputable def spec_validTree.phis (N : Nat) : List (Nat × Sm D) := [(52, spec_treeSize.sm N), (74, spec_validPart.sm N)]
theorem spec_validTree.run (N : Nat) (x : ImplTree × Unit) : runF cx (look (spec_validTree.phis N)) spec_validTree.A N (bodyOf Tryd.f43) Tryd.f43.results.toList spec_validTree.sg x = spec_validTree N x.1 := by
  have h : runF cx (look (spec_validTree.phis N)) spec_validTree.A N (bodyOf Tryd.f43) Tryd.f43.results.toList spec_validTree.sg x = spec_validTree.B N x.1 := by kernel_rfl
  rw [h]
  try rfl
noncomputable def spec_validTree.sm (N : Nat) : Sm D := (⟨spec_validTree.sg, fun (x : ImplTree × Unit) => spec_validTree N x.1⟩ : Sm D)
theorem spec_validTree.sound (N : Nat) : Sound cx Tryd.prog gam 43 (spec_validTree.sm N) := fn_sound (A := spec_validTree.A) (Φ := (look (spec_validTree.phis N))) pok (G := gam) (ΦOk.cons (spec_treeSize.sound N) (fnOk_of (f := 52) (by kernel_rfl)) (ΦOk.cons (spec_validPart.sound N) (fnOk_of (f := 74) (by kernel_rfl)) ΦOk.nil)) mixed N Tryd.func43 (c := (bodyOf Tryd.f43)) (by kernel_rfl) spec_validTree.sg (by kernel_rfl) (by kernel_rfl) (by kernel_rfl) (spec_validTree.run N)

@[reducible] def spec_quoted.sg : Sg := { ms := [{ k := (.st 81) }], keep := [false], rs := [{ k := .str }] }
noncomputable def spec_quoted.A : Ann := { dp := fun d => isIn [] d, lp := look [], jn := look [], pins := [], nt := 16 }
noncomputable def spec_quoted.phis (N : Nat) : List (Nat × Sm D) := [(75, spec_decimal.sm N)]
theorem spec_quoted.run (N : Nat) (x : ImplValue × Unit) : runF cx (look (spec_quoted.phis N)) spec_quoted.A N (bodyOf Tryd.f76) Tryd.f76.results.toList spec_quoted.sg x = spec_quoted N x.1 := by
  have h : runF cx (look (spec_quoted.phis N)) spec_quoted.A N (bodyOf Tryd.f76) Tryd.f76.results.toList spec_quoted.sg x = spec_quoted.B N x.1 := by kernel_rfl
  rw [h]
  try rfl
noncomputable def spec_quoted.sm (N : Nat) : Sm D := (⟨spec_quoted.sg, fun (x : ImplValue × Unit) => spec_quoted N x.1⟩ : Sm D)
theorem spec_quoted.sound (N : Nat) : Sound cx Tryd.prog gam 76 (spec_quoted.sm N) := fn_sound (A := spec_quoted.A) (Φ := (look (spec_quoted.phis N))) pok (G := gam) (ΦOk.cons (spec_decimal.sound N) (fnOk_of (f := 75) (by kernel_rfl)) ΦOk.nil) mixed N Tryd.func76 (c := (bodyOf Tryd.f76)) (by kernel_rfl) spec_quoted.sg (by kernel_rfl) (by kernel_rfl) (by kernel_rfl) (spec_quoted.run N)

@[reducible] def spec_treeWords.sg : Sg := { ms := [{ k := (.st 25) }], keep := [false], rs := [{ k := .str }] }
@[reducible] def spec_treeWords.lvL2 : Lv := { id := 2, slots := [1, 3, 5], ms := [{ ptr := true, id := 600, t := 26, k := (.st 25), fl := [none, none, none, none, none] }, { k := .str }, { k := (.int .i64) }] }
@[reducible] def spec_treeWords.lvL0 : Lv := { id := 0, slots := [1, 3, 4], ms := [{ ptr := true, id := 600, t := 26, k := (.st 25), fl := [none, none, none, none, none] }, { k := .str }, { k := (.int .i64) }] }
@[reducible] def spec_treeWords.lvJ6 : Lv := { id := 6, slots := [1, 3], ms := [{ ptr := true, id := 600, t := 26, k := (.st 25), fl := [none, none, none, none, none] }, { k := .str }] }
noncomputable def spec_treeWords.A : Ann := { dp := fun d => isIn [] d, lp := look [(2, spec_treeWords.lvL2), (0, spec_treeWords.lvL0)], jn := look [(6, spec_treeWords.lvJ6)], pins := [], nt := 70 }
noncomputable def spec_treeWords.phis (N : Nat) (d : Nat) : List (Nat × Sm D) := [(75, spec_decimal.sm N), (76, spec_quoted.sm N), (44, (⟨spec_treeWords.sg, fun (x : ImplTree × Unit) => spec_treeWords.R N d x.1⟩ : Sm D))]
noncomputable def spec_treeWords.a2 (N : Nat) (d : Nat) (n : Nat) (y : ImplTree × (List UInt8) × Int × Unit) : Option ((List UInt8) × Unit) := loopAt cx (look (spec_treeWords.phis N d)) spec_treeWords.A N n (encL cx spec_treeWords.lvL2.ms y).1 (encL cx spec_treeWords.lvL2.ms y).2 (bodyOf Tryd.f44) 0 (Kfin cx spec_treeWords.A spec_treeWords.sg Tryd.f44.results.toList) [1, 1, 1, 1, 1, 0, 1, 1] []
noncomputable def spec_treeWords.a0 (N : Nat) (d : Nat) (n : Nat) (y : ImplTree × (List UInt8) × Int × Unit) : Option ((List UInt8) × Unit) := loopAt cx (look (spec_treeWords.phis N d)) spec_treeWords.A N n (encL cx spec_treeWords.lvL0.ms y).1 (encL cx spec_treeWords.lvL0.ms y).2 (bodyOf Tryd.f44) 0 (Kfin cx spec_treeWords.A spec_treeWords.sg Tryd.f44.results.toList) [1, 1, 1, 1, 0, 1, 1] []
theorem spec_treeWords.r2 (N : Nat) (d : Nat) : ∀ (n : Nat) (y : ImplTree × (List UInt8) × Int × Unit), spec_treeWords.a2 N d n y = spec_treeWords.L2 N (spec_treeWords.R N d) n y
  | 0, y => by kernel_rfl
  | n + 1, y => by
    have h : spec_treeWords.a2 N d (n + 1) y = spec_treeWords.B2 N (spec_treeWords.R N d) (fun z => spec_treeWords.a2 N d n z) y := by kernel_rfl
    have e : (fun z => spec_treeWords.a2 N d n z) = spec_treeWords.L2 N (spec_treeWords.R N d) n := funext fun z => spec_treeWords.r2 N d n z
    rw [h]
    try rw [e]
    first | done | rfl
theorem spec_treeWords.r0 (N : Nat) (d : Nat) : ∀ (n : Nat) (y : ImplTree × (List UInt8) × Int × Unit), spec_treeWords.a0 N d n y = spec_treeWords.L0 N (spec_treeWords.R N d) n y
  | 0, y => by kernel_rfl
  | n + 1, y => by
    have h : spec_treeWords.a0 N d (n + 1) y = spec_treeWords.B0 N (spec_treeWords.R N d) (fun z => spec_treeWords.a0 N d n z) (fun z => spec_treeWords.a2 N d N z) y := by kernel_rfl
    have e : (fun z => spec_treeWords.a0 N d n z) = spec_treeWords.L0 N (spec_treeWords.R N d) n := funext fun z => spec_treeWords.r0 N d n z
    have e2 : (fun z => spec_treeWords.a2 N d N z) = spec_treeWords.L2 N (spec_treeWords.R N d) N := funext fun z => spec_treeWords.r2 N d N z
    rw [h, e2]
    try rw [e]
    first | done | rfl
theorem spec_treeWords.run (N : Nat) (d : Nat) (x : ImplTree × Unit) : runF cx (look (spec_treeWords.phis N d)) spec_treeWords.A N (bodyOf Tryd.f44) Tryd.f44.results.toList spec_treeWords.sg x = spec_treeWords.R N (d + 1) x.1 := by
  have h : runF cx (look (spec_treeWords.phis N d)) spec_treeWords.A N (bodyOf Tryd.f44) Tryd.f44.results.toList spec_treeWords.sg x = spec_treeWords.B N (spec_treeWords.R N d) (fun z => spec_treeWords.a0 N d N z) x.1 := by kernel_rfl
  have e0 : (fun z => spec_treeWords.a0 N d N z) = spec_treeWords.L0 N (spec_treeWords.R N d) N := funext fun z => spec_treeWords.r0 N d N z
  rw [h, e0]
  try rfl
theorem spec_treeWords.step (N : Nat) (d : Nat) (h_spec_treeWords : Sound cx Tryd.prog gam 44 (⟨spec_treeWords.sg, fun (x : ImplTree × Unit) => spec_treeWords.R N d x.1⟩ : Sm D)) : Sound cx Tryd.prog gam 44 (⟨spec_treeWords.sg, fun (x : ImplTree × Unit) => spec_treeWords.R N (d + 1) x.1⟩ : Sm D) := fn_sound (A := spec_treeWords.A) (Φ := (look (spec_treeWords.phis N d))) pok (G := gam) (ΦOk.cons (spec_decimal.sound N) (fnOk_of (f := 75) (by kernel_rfl)) (ΦOk.cons (spec_quoted.sound N) (fnOk_of (f := 76) (by kernel_rfl)) (ΦOk.cons h_spec_treeWords (fnOk_of (f := 44) (by kernel_rfl)) ΦOk.nil))) mixed N Tryd.func44 (c := (bodyOf Tryd.f44)) (by kernel_rfl) spec_treeWords.sg (by kernel_rfl) (by kernel_rfl) (by kernel_rfl) (spec_treeWords.run N d)

theorem spec_treeWords.scc (N : Nat) : ∀ d, Sound cx Tryd.prog gam 44 (⟨spec_treeWords.sg, fun (x : ImplTree × Unit) => spec_treeWords.R N d x.1⟩ : Sm D)
  | 0 => none_sound 44 spec_treeWords.sg
  | d + 1 => by
    have ih := spec_treeWords.scc N d
    exact spec_treeWords.step N d ih
noncomputable def spec_treeWords.sm (N : Nat) : Sm D := (⟨spec_treeWords.sg, fun (x : ImplTree × Unit) => spec_treeWords.R N N x.1⟩ : Sm D)
theorem spec_treeWords.sound (N : Nat) : Sound cx Tryd.prog gam 44 (spec_treeWords.sm N) := (spec_treeWords.scc N N)
@[reducible] def spec_TreeText.sg : Sg := { ms := [{ k := (.st 25) }], keep := [false], rs := [{ k := .str }] }
noncomputable def spec_TreeText.A : Ann := { dp := fun d => isIn [] d, lp := look [], jn := look [], pins := [], nt := 8 }
noncomputable def spec_TreeText.phis (N : Nat) : List (Nat × Sm D) := [(43, spec_validTree.sm N), (44, spec_treeWords.sm N)]
theorem spec_TreeText.run (N : Nat) (x : ImplTree × Unit) : runF cx (look (spec_TreeText.phis N)) spec_TreeText.A N (bodyOf Tryd.f15) Tryd.f15.results.toList spec_TreeText.sg x = spec_TreeText N x.1 := by
  have h : runF cx (look (spec_TreeText.phis N)) spec_TreeText.A N (bodyOf Tryd.f15) Tryd.f15.results.toList spec_TreeText.sg x = spec_TreeText.B N x.1 := by kernel_rfl
  rw [h]
  try rfl
noncomputable def spec_TreeText.sm (N : Nat) : Sm D := (⟨spec_TreeText.sg, fun (x : ImplTree × Unit) => spec_TreeText N x.1⟩ : Sm D)
theorem spec_TreeText.sound (N : Nat) : Sound cx Tryd.prog gam 15 (spec_TreeText.sm N) := fn_sound (A := spec_TreeText.A) (Φ := (look (spec_TreeText.phis N))) pok (G := gam) (ΦOk.cons (spec_validTree.sound N) (fnOk_of (f := 43) (by kernel_rfl)) (ΦOk.cons (spec_treeWords.sound N) (fnOk_of (f := 44) (by kernel_rfl)) ΦOk.nil)) mixed N Tryd.func15 (c := (bodyOf Tryd.f15)) (by kernel_rfl) spec_TreeText.sg (by kernel_rfl) (by kernel_rfl) (by kernel_rfl) (spec_TreeText.run N)

@[reducible] def laws_szValue.sg : Sg := { ms := [{ k := (.st 81) }, { k := (.int .i64) }], keep := [false, false], rs := [{ k := (.int .i64) }] }
noncomputable def laws_szValue.A : Ann := { dp := fun d => isIn [] d, lp := look [], jn := look [], pins := [], nt := 13 }
noncomputable def laws_szValue.phis (N : Nat) : List (Nat × Sm D) := []
theorem laws_szValue.run (N : Nat) (x : ImplValue × Int × Unit) : runF cx (look (laws_szValue.phis N)) laws_szValue.A N (bodyOf Tryd.f96) Tryd.f96.results.toList laws_szValue.sg x = laws_szValue N x.1 x.2.1 := by
  have h : runF cx (look (laws_szValue.phis N)) laws_szValue.A N (bodyOf Tryd.f96) Tryd.f96.results.toList laws_szValue.sg x = laws_szValue.B N x.1 x.2.1 := by kernel_rfl
  rw [h]
  try rfl
noncomputable def laws_szValue.sm (N : Nat) : Sm D := (⟨laws_szValue.sg, fun (x : ImplValue × Int × Unit) => laws_szValue N x.1 x.2.1⟩ : Sm D)
theorem laws_szValue.sound (N : Nat) : Sound cx Tryd.prog gam 96 (laws_szValue.sm N) := fn_sound (A := laws_szValue.A) (Φ := (look (laws_szValue.phis N))) pok (G := gam) ΦOk.nil mixed N Tryd.func96 (c := (bodyOf Tryd.f96)) (by kernel_rfl) laws_szValue.sg (by kernel_rfl) (by kernel_rfl) (by kernel_rfl) (laws_szValue.run N)

@[reducible] def laws_szProp.sg : Sg := { ms := [{ k := (.st 88) }, { k := (.int .i64) }], keep := [false, false], rs := [{ k := (.int .i64) }] }
noncomputable def laws_szProp.A : Ann := { dp := fun d => isIn [] d, lp := look [], jn := look [], pins := [], nt := 12 }
noncomputable def laws_szProp.phis (N : Nat) : List (Nat × Sm D) := [(96, laws_szValue.sm N)]
theorem laws_szProp.run (N : Nat) (x : LawsProp × Int × Unit) : runF cx (look (laws_szProp.phis N)) laws_szProp.A N (bodyOf Tryd.f77) Tryd.f77.results.toList laws_szProp.sg x = laws_szProp N x.1 x.2.1 := by
  have h : runF cx (look (laws_szProp.phis N)) laws_szProp.A N (bodyOf Tryd.f77) Tryd.f77.results.toList laws_szProp.sg x = laws_szProp.B N x.1 x.2.1 := by kernel_rfl
  rw [h]
  try rfl
noncomputable def laws_szProp.sm (N : Nat) : Sm D := (⟨laws_szProp.sg, fun (x : LawsProp × Int × Unit) => laws_szProp N x.1 x.2.1⟩ : Sm D)
theorem laws_szProp.sound (N : Nat) : Sound cx Tryd.prog gam 77 (laws_szProp.sm N) := fn_sound (A := laws_szProp.A) (Φ := (look (laws_szProp.phis N))) pok (G := gam) (ΦOk.cons (laws_szValue.sound N) (fnOk_of (f := 96) (by kernel_rfl)) ΦOk.nil) mixed N Tryd.func77 (c := (bodyOf Tryd.f77)) (by kernel_rfl) laws_szProp.sg (by kernel_rfl) (by kernel_rfl) (by kernel_rfl) (laws_szProp.run N)

@[reducible] def laws_szPropS.sg : Sg := { ms := [{ k := (.sl (.st 88)), fl := [none] }, { k := (.int .i64) }], keep := [false, false], rs := [{ k := (.int .i64) }] }
@[reducible] def laws_szPropS.lvL0 : Lv := { id := 0, slots := [0, 1, 5], ms := [{ k := (.sl (.st 88)), fl := [none] }, { k := (.int .i64) }, { k := (.int .i64) }] }
noncomputable def laws_szPropS.A : Ann := { dp := fun d => isIn [] d, lp := look [(0, laws_szPropS.lvL0)], jn := look [], pins := [], nt := 27 }
noncomputable def laws_szPropS.phis (N : Nat) : List (Nat × Sm D) := [(77, laws_szProp.sm N)]
noncomputable def laws_szPropS.a0 (N : Nat) (n : Nat) (y : (List (LawsProp)) × Int × Int × Unit) : Option (Int × Unit) := loopAt cx (look (laws_szPropS.phis N)) laws_szPropS.A N n (encL cx laws_szPropS.lvL0.ms y).1 (encL cx laws_szPropS.lvL0.ms y).2 (bodyOf Tryd.f45) 0 (Kfin cx laws_szPropS.A laws_szPropS.sg Tryd.f45.results.toList) [1, 1, 1, 0, 1, 1] []
theorem laws_szPropS.r0 (N : Nat) : ∀ (n : Nat) (y : (List (LawsProp)) × Int × Int × Unit), laws_szPropS.a0 N n y = laws_szPropS.L0 N n y
  | 0, y => by kernel_rfl
  | n + 1, y => by
    have h : laws_szPropS.a0 N (n + 1) y = laws_szPropS.B0 N (fun z => laws_szPropS.a0 N n z) y := by kernel_rfl
    have e : (fun z => laws_szPropS.a0 N n z) = laws_szPropS.L0 N n := funext fun z => laws_szPropS.r0 N n z
    rw [h]
    try rw [e]
    first | done | rfl
theorem laws_szPropS.run (N : Nat) (x : (List (LawsProp)) × Int × Unit) : runF cx (look (laws_szPropS.phis N)) laws_szPropS.A N (bodyOf Tryd.f45) Tryd.f45.results.toList laws_szPropS.sg x = laws_szPropS N x.1 x.2.1 := by
  have h : runF cx (look (laws_szPropS.phis N)) laws_szPropS.A N (bodyOf Tryd.f45) Tryd.f45.results.toList laws_szPropS.sg x = laws_szPropS.B N (fun z => laws_szPropS.a0 N N z) x.1 x.2.1 := by kernel_rfl
  have e0 : (fun z => laws_szPropS.a0 N N z) = laws_szPropS.L0 N N := funext fun z => laws_szPropS.r0 N N z
  rw [h, e0]
  try rfl
noncomputable def laws_szPropS.sm (N : Nat) : Sm D := (⟨laws_szPropS.sg, fun (x : (List (LawsProp)) × Int × Unit) => laws_szPropS N x.1 x.2.1⟩ : Sm D)
theorem laws_szPropS.sound (N : Nat) : Sound cx Tryd.prog gam 45 (laws_szPropS.sm N) := fn_sound (A := laws_szPropS.A) (Φ := (look (laws_szPropS.phis N))) pok (G := gam) (ΦOk.cons (laws_szProp.sound N) (fnOk_of (f := 77) (by kernel_rfl)) ΦOk.nil) mixed N Tryd.func45 (c := (bodyOf Tryd.f45)) (by kernel_rfl) laws_szPropS.sg (by kernel_rfl) (by kernel_rfl) (by kernel_rfl) (laws_szPropS.run N)

@[reducible] def laws_szTreeS.sg : Sg := { ms := [{ k := (.sl (.st 32)), fl := [none] }, { k := (.int .i64) }], keep := [false, false], rs := [{ k := (.int .i64) }] }
@[reducible] def laws_szTree.sg : Sg := { ms := [{ k := (.st 32) }, { k := (.int .i64) }], keep := [false, false], rs := [{ k := (.int .i64) }] }
@[reducible] def laws_szTreeS.lvL0 : Lv := { id := 0, slots := [0, 1, 5], ms := [{ k := (.sl (.st 32)), fl := [none] }, { k := (.int .i64) }, { k := (.int .i64) }] }
noncomputable def laws_szTreeS.A : Ann := { dp := fun d => isIn [] d, lp := look [(0, laws_szTreeS.lvL0)], jn := look [], pins := [], nt := 27 }
noncomputable def laws_szTreeS.phis (N : Nat) (d : Nat) : List (Nat × Sm D) := [(16, (⟨laws_szTree.sg, fun (x : LawsTree × Int × Unit) => laws_szTree.R N d x.1 x.2.1⟩ : Sm D))]
noncomputable def laws_szTreeS.a0 (N : Nat) (d : Nat) (n : Nat) (y : (List (LawsTree)) × Int × Int × Unit) : Option (Int × Unit) := loopAt cx (look (laws_szTreeS.phis N d)) laws_szTreeS.A N n (encL cx laws_szTreeS.lvL0.ms y).1 (encL cx laws_szTreeS.lvL0.ms y).2 (bodyOf Tryd.f46) 0 (Kfin cx laws_szTreeS.A laws_szTreeS.sg Tryd.f46.results.toList) [1, 1, 1, 0, 1, 1] []
theorem laws_szTreeS.r0 (N : Nat) (d : Nat) : ∀ (n : Nat) (y : (List (LawsTree)) × Int × Int × Unit), laws_szTreeS.a0 N d n y = laws_szTreeS.L0 N (laws_szTreeS.R N d) (laws_szTree.R N d) n y
  | 0, y => by kernel_rfl
  | n + 1, y => by
    have h : laws_szTreeS.a0 N d (n + 1) y = laws_szTreeS.B0 N (laws_szTreeS.R N d) (laws_szTree.R N d) (fun z => laws_szTreeS.a0 N d n z) y := by kernel_rfl
    have e : (fun z => laws_szTreeS.a0 N d n z) = laws_szTreeS.L0 N (laws_szTreeS.R N d) (laws_szTree.R N d) n := funext fun z => laws_szTreeS.r0 N d n z
    rw [h]
    try rw [e]
    first | done | rfl
theorem laws_szTreeS.run (N : Nat) (d : Nat) (x : (List (LawsTree)) × Int × Unit) : runF cx (look (laws_szTreeS.phis N d)) laws_szTreeS.A N (bodyOf Tryd.f46) Tryd.f46.results.toList laws_szTreeS.sg x = laws_szTreeS.R N (d + 1) x.1 x.2.1 := by
  have h : runF cx (look (laws_szTreeS.phis N d)) laws_szTreeS.A N (bodyOf Tryd.f46) Tryd.f46.results.toList laws_szTreeS.sg x = laws_szTreeS.B N (laws_szTreeS.R N d) (laws_szTree.R N d) (fun z => laws_szTreeS.a0 N d N z) x.1 x.2.1 := by kernel_rfl
  have e0 : (fun z => laws_szTreeS.a0 N d N z) = laws_szTreeS.L0 N (laws_szTreeS.R N d) (laws_szTree.R N d) N := funext fun z => laws_szTreeS.r0 N d N z
  rw [h, e0]
  try rfl
theorem laws_szTreeS.step (N : Nat) (d : Nat) (h_laws_szTree : Sound cx Tryd.prog gam 16 (⟨laws_szTree.sg, fun (x : LawsTree × Int × Unit) => laws_szTree.R N d x.1 x.2.1⟩ : Sm D)) : Sound cx Tryd.prog gam 46 (⟨laws_szTreeS.sg, fun (x : (List (LawsTree)) × Int × Unit) => laws_szTreeS.R N (d + 1) x.1 x.2.1⟩ : Sm D) := fn_sound (A := laws_szTreeS.A) (Φ := (look (laws_szTreeS.phis N d))) pok (G := gam) (ΦOk.cons h_laws_szTree (fnOk_of (f := 16) (by kernel_rfl)) ΦOk.nil) mixed N Tryd.func46 (c := (bodyOf Tryd.f46)) (by kernel_rfl) laws_szTreeS.sg (by kernel_rfl) (by kernel_rfl) (by kernel_rfl) (laws_szTreeS.run N d)

noncomputable def laws_szTree.A : Ann := { dp := fun d => isIn [] d, lp := look [], jn := look [], pins := [], nt := 25 }
noncomputable def laws_szTree.phis (N : Nat) (d : Nat) : List (Nat × Sm D) := [(45, laws_szPropS.sm N), (46, (⟨laws_szTreeS.sg, fun (x : (List (LawsTree)) × Int × Unit) => laws_szTreeS.R N d x.1 x.2.1⟩ : Sm D))]
theorem laws_szTree.run (N : Nat) (d : Nat) (x : LawsTree × Int × Unit) : runF cx (look (laws_szTree.phis N d)) laws_szTree.A N (bodyOf Tryd.f16) Tryd.f16.results.toList laws_szTree.sg x = laws_szTree.R N (d + 1) x.1 x.2.1 := by
  have h : runF cx (look (laws_szTree.phis N d)) laws_szTree.A N (bodyOf Tryd.f16) Tryd.f16.results.toList laws_szTree.sg x = laws_szTree.B N (laws_szTreeS.R N d) (laws_szTree.R N d) x.1 x.2.1 := by kernel_rfl
  rw [h]
  try rfl
theorem laws_szTree.step (N : Nat) (d : Nat) (h_laws_szTreeS : Sound cx Tryd.prog gam 46 (⟨laws_szTreeS.sg, fun (x : (List (LawsTree)) × Int × Unit) => laws_szTreeS.R N d x.1 x.2.1⟩ : Sm D)) : Sound cx Tryd.prog gam 16 (⟨laws_szTree.sg, fun (x : LawsTree × Int × Unit) => laws_szTree.R N (d + 1) x.1 x.2.1⟩ : Sm D) := fn_sound (A := laws_szTree.A) (Φ := (look (laws_szTree.phis N d))) pok (G := gam) (ΦOk.cons (laws_szPropS.sound N) (fnOk_of (f := 45) (by kernel_rfl)) (ΦOk.cons h_laws_szTreeS (fnOk_of (f := 46) (by kernel_rfl)) ΦOk.nil)) mixed N Tryd.func16 (c := (bodyOf Tryd.f16)) (by kernel_rfl) laws_szTree.sg (by kernel_rfl) (by kernel_rfl) (by kernel_rfl) (laws_szTree.run N d)

theorem laws_szTreeS.scc (N : Nat) : ∀ d, Sound cx Tryd.prog gam 46 (⟨laws_szTreeS.sg, fun (x : (List (LawsTree)) × Int × Unit) => laws_szTreeS.R N d x.1 x.2.1⟩ : Sm D) ∧ Sound cx Tryd.prog gam 16 (⟨laws_szTree.sg, fun (x : LawsTree × Int × Unit) => laws_szTree.R N d x.1 x.2.1⟩ : Sm D)
  | 0 => ⟨none_sound 46 laws_szTreeS.sg, none_sound 16 laws_szTree.sg⟩
  | d + 1 => by
    have ih := laws_szTreeS.scc N d
    obtain ⟨ih0, ih1⟩ := ih
    exact ⟨laws_szTreeS.step N d ih1, laws_szTree.step N d ih0⟩
noncomputable def laws_szTreeS.sm (N : Nat) : Sm D := (⟨laws_szTreeS.sg, fun (x : (List (LawsTree)) × Int × Unit) => laws_szTreeS.R N N x.1 x.2.1⟩ : Sm D)
theorem laws_szTreeS.sound (N : Nat) : Sound cx Tryd.prog gam 46 (laws_szTreeS.sm N) := (laws_szTreeS.scc N N).1
noncomputable def laws_szTree.sm (N : Nat) : Sm D := (⟨laws_szTree.sg, fun (x : LawsTree × Int × Unit) => laws_szTree.R N N x.1 x.2.1⟩ : Sm D)
theorem laws_szTree.sound (N : Nat) : Sound cx Tryd.prog gam 16 (laws_szTree.sm N) := (laws_szTreeS.scc N N).2
@[reducible] def laws_toValue.sg : Sg := { ms := [{ k := (.st 81) }], keep := [false], rs := [{ k := (.st 81) }] }
noncomputable def laws_toValue.A : Ann := { dp := fun d => isIn [] d, lp := look [], jn := look [], pins := [], nt := 14 }
noncomputable def laws_toValue.phis (N : Nat) : List (Nat × Sm D) := []
theorem laws_toValue.run (N : Nat) (x : ImplValue × Unit) : runF cx (look (laws_toValue.phis N)) laws_toValue.A N (bodyOf Tryd.f97) Tryd.f97.results.toList laws_toValue.sg x = laws_toValue N x.1 := by
  have h : runF cx (look (laws_toValue.phis N)) laws_toValue.A N (bodyOf Tryd.f97) Tryd.f97.results.toList laws_toValue.sg x = laws_toValue.B N x.1 := by kernel_rfl
  rw [h]
  try rfl
noncomputable def laws_toValue.sm (N : Nat) : Sm D := (⟨laws_toValue.sg, fun (x : ImplValue × Unit) => laws_toValue N x.1⟩ : Sm D)
theorem laws_toValue.sound (N : Nat) : Sound cx Tryd.prog gam 97 (laws_toValue.sm N) := fn_sound (A := laws_toValue.A) (Φ := (look (laws_toValue.phis N))) pok (G := gam) ΦOk.nil mixed N Tryd.func97 (c := (bodyOf Tryd.f97)) (by kernel_rfl) laws_toValue.sg (by kernel_rfl) (by kernel_rfl) (by kernel_rfl) (laws_toValue.run N)

@[reducible] def laws_toProp.sg : Sg := { ms := [{ k := (.st 88) }], keep := [false], rs := [{ k := (.st 83) }] }
noncomputable def laws_toProp.A : Ann := { dp := fun d => isIn [] d, lp := look [], jn := look [], pins := [], nt := 12 }
noncomputable def laws_toProp.phis (N : Nat) : List (Nat × Sm D) := [(97, laws_toValue.sm N)]
theorem laws_toProp.run (N : Nat) (x : LawsProp × Unit) : runF cx (look (laws_toProp.phis N)) laws_toProp.A N (bodyOf Tryd.f78) Tryd.f78.results.toList laws_toProp.sg x = laws_toProp N x.1 := by
  have h : runF cx (look (laws_toProp.phis N)) laws_toProp.A N (bodyOf Tryd.f78) Tryd.f78.results.toList laws_toProp.sg x = laws_toProp.B N x.1 := by kernel_rfl
  rw [h]
  try rfl
noncomputable def laws_toProp.sm (N : Nat) : Sm D := (⟨laws_toProp.sg, fun (x : LawsProp × Unit) => laws_toProp N x.1⟩ : Sm D)
theorem laws_toProp.sound (N : Nat) : Sound cx Tryd.prog gam 78 (laws_toProp.sm N) := fn_sound (A := laws_toProp.A) (Φ := (look (laws_toProp.phis N))) pok (G := gam) (ΦOk.cons (laws_toValue.sound N) (fnOk_of (f := 97) (by kernel_rfl)) ΦOk.nil) mixed N Tryd.func78 (c := (bodyOf Tryd.f78)) (by kernel_rfl) laws_toProp.sg (by kernel_rfl) (by kernel_rfl) (by kernel_rfl) (laws_toProp.run N)

@[reducible] def laws_toPropS.sg : Sg := { ms := [{ k := (.sl (.st 88)), fl := [none] }], keep := [false], rs := [{ k := (.sl (.st 83)), fl := [none] }], hold := true }
@[reducible] def laws_toPropS.lvL0 : Lv := { id := 0, slots := [0, 3, 4], ms := [{ k := (.sl (.st 88)), fl := [none] }, { k := (.sl (.st 83)), fl := [some (false, 620)] }, { k := (.int .i64) }] }
noncomputable def laws_toPropS.A : Ann := { dp := fun d => isIn [] d, lp := look [(0, laws_toPropS.lvL0)], jn := look [], pins := [], nt := 23 }
noncomputable def laws_toPropS.phis (N : Nat) : List (Nat × Sm D) := [(78, laws_toProp.sm N)]
noncomputable def laws_toPropS.a0 (N : Nat) (n : Nat) (y : (List (LawsProp)) × (List (ImplProp)) × Int × Unit) : Option ((List (ImplProp)) × Unit) := loopAt cx (look (laws_toPropS.phis N)) laws_toPropS.A N n (encL cx laws_toPropS.lvL0.ms y).1 (encL cx laws_toPropS.lvL0.ms y).2 (bodyOf Tryd.f47) 0 (Kfin cx laws_toPropS.A laws_toPropS.sg Tryd.f47.results.toList) [1, 1, 0, 1, 1] []
theorem laws_toPropS.r0 (N : Nat) : ∀ (n : Nat) (y : (List (LawsProp)) × (List (ImplProp)) × Int × Unit), laws_toPropS.a0 N n y = laws_toPropS.L0 N n y
  | 0, y => by kernel_rfl
  | n + 1, y => by
    have h : laws_toPropS.a0 N (n + 1) y = laws_toPropS.B0 N (fun z => laws_toPropS.a0 N n z) y := by kernel_rfl
    have e : (fun z => laws_toPropS.a0 N n z) = laws_toPropS.L0 N n := funext fun z => laws_toPropS.r0 N n z
    rw [h]
    try rw [e]
    first | done | rfl
theorem laws_toPropS.run (N : Nat) (x : (List (LawsProp)) × Unit) : runF cx (look (laws_toPropS.phis N)) laws_toPropS.A N (bodyOf Tryd.f47) Tryd.f47.results.toList laws_toPropS.sg x = laws_toPropS N x.1 := by
  have h : runF cx (look (laws_toPropS.phis N)) laws_toPropS.A N (bodyOf Tryd.f47) Tryd.f47.results.toList laws_toPropS.sg x = laws_toPropS.B N (fun z => laws_toPropS.a0 N N z) x.1 := by kernel_rfl
  have e0 : (fun z => laws_toPropS.a0 N N z) = laws_toPropS.L0 N N := funext fun z => laws_toPropS.r0 N N z
  rw [h, e0]
  try rfl
noncomputable def laws_toPropS.sm (N : Nat) : Sm D := (⟨laws_toPropS.sg, fun (x : (List (LawsProp)) × Unit) => laws_toPropS N x.1⟩ : Sm D)
theorem laws_toPropS.sound (N : Nat) : Sound cx Tryd.prog gam 47 (laws_toPropS.sm N) := fn_sound (A := laws_toPropS.A) (Φ := (look (laws_toPropS.phis N))) pok (G := gam) (ΦOk.cons (laws_toProp.sound N) (fnOk_of (f := 78) (by kernel_rfl)) ΦOk.nil) mixed N Tryd.func47 (c := (bodyOf Tryd.f47)) (by kernel_rfl) laws_toPropS.sg (by kernel_rfl) (by kernel_rfl) (by kernel_rfl) (laws_toPropS.run N)

@[reducible] def laws_toTreeS.sg : Sg := { ms := [{ k := (.sl (.st 32)), fl := [none] }], keep := [false], rs := [{ k := (.sl (.st 25)), fl := [none] }], hold := true }
@[reducible] def laws_toTree.sg : Sg := { ms := [{ k := (.st 32) }], keep := [false], rs := [{ k := (.st 25) }], hold := true }
@[reducible] def laws_toTreeS.lvL0 : Lv := { id := 0, slots := [0, 3, 4], ms := [{ k := (.sl (.st 32)), fl := [none] }, { k := (.sl (.st 25)), fl := [some (false, 620)] }, { k := (.int .i64) }] }
noncomputable def laws_toTreeS.A : Ann := { dp := fun d => isIn [] d, lp := look [(0, laws_toTreeS.lvL0)], jn := look [], pins := [], nt := 23 }
noncomputable def laws_toTreeS.phis (N : Nat) (d : Nat) : List (Nat × Sm D) := [(18, (⟨laws_toTree.sg, fun (x : LawsTree × Unit) => laws_toTree.R N d x.1⟩ : Sm D))]
noncomputable def laws_toTreeS.a0 (N : Nat) (d : Nat) (n : Nat) (y : (List (LawsTree)) × (List (ImplTree)) × Int × Unit) : Option ((List (ImplTree)) × Unit) := loopAt cx (look (laws_toTreeS.phis N d)) laws_toTreeS.A N n (encL cx laws_toTreeS.lvL0.ms y).1 (encL cx laws_toTreeS.lvL0.ms y).2 (bodyOf Tryd.f48) 0 (Kfin cx laws_toTreeS.A laws_toTreeS.sg Tryd.f48.results.toList) [1, 1, 0, 1, 1] []
theorem laws_toTreeS.r0 (N : Nat) (d : Nat) : ∀ (n : Nat) (y : (List (LawsTree)) × (List (ImplTree)) × Int × Unit), laws_toTreeS.a0 N d n y = laws_toTreeS.L0 N (laws_toTreeS.R N d) (laws_toTree.R N d) n y
  | 0, y => by kernel_rfl
  | n + 1, y => by
    have h : laws_toTreeS.a0 N d (n + 1) y = laws_toTreeS.B0 N (laws_toTreeS.R N d) (laws_toTree.R N d) (fun z => laws_toTreeS.a0 N d n z) y := by kernel_rfl
    have e : (fun z => laws_toTreeS.a0 N d n z) = laws_toTreeS.L0 N (laws_toTreeS.R N d) (laws_toTree.R N d) n := funext fun z => laws_toTreeS.r0 N d n z
    rw [h]
    try rw [e]
    first | done | rfl
theorem laws_toTreeS.run (N : Nat) (d : Nat) (x : (List (LawsTree)) × Unit) : runF cx (look (laws_toTreeS.phis N d)) laws_toTreeS.A N (bodyOf Tryd.f48) Tryd.f48.results.toList laws_toTreeS.sg x = laws_toTreeS.R N (d + 1) x.1 := by
  have h : runF cx (look (laws_toTreeS.phis N d)) laws_toTreeS.A N (bodyOf Tryd.f48) Tryd.f48.results.toList laws_toTreeS.sg x = laws_toTreeS.B N (laws_toTreeS.R N d) (laws_toTree.R N d) (fun z => laws_toTreeS.a0 N d N z) x.1 := by kernel_rfl
  have e0 : (fun z => laws_toTreeS.a0 N d N z) = laws_toTreeS.L0 N (laws_toTreeS.R N d) (laws_toTree.R N d) N := funext fun z => laws_toTreeS.r0 N d N z
  rw [h, e0]
  try rfl
theorem laws_toTreeS.step (N : Nat) (d : Nat) (h_laws_toTree : Sound cx Tryd.prog gam 18 (⟨laws_toTree.sg, fun (x : LawsTree × Unit) => laws_toTree.R N d x.1⟩ : Sm D)) : Sound cx Tryd.prog gam 48 (⟨laws_toTreeS.sg, fun (x : (List (LawsTree)) × Unit) => laws_toTreeS.R N (d + 1) x.1⟩ : Sm D) := fn_sound (A := laws_toTreeS.A) (Φ := (look (laws_toTreeS.phis N d))) pok (G := gam) (ΦOk.cons h_laws_toTree (fnOk_of (f := 18) (by kernel_rfl)) ΦOk.nil) mixed N Tryd.func48 (c := (bodyOf Tryd.f48)) (by kernel_rfl) laws_toTreeS.sg (by kernel_rfl) (by kernel_rfl) (by kernel_rfl) (laws_toTreeS.run N d)

noncomputable def laws_toTree.A : Ann := { dp := fun d => isIn [] d, lp := look [], jn := look [], pins := [], nt := 22 }
noncomputable def laws_toTree.phis (N : Nat) (d : Nat) : List (Nat × Sm D) := [(47, laws_toPropS.sm N), (48, (⟨laws_toTreeS.sg, fun (x : (List (LawsTree)) × Unit) => laws_toTreeS.R N d x.1⟩ : Sm D))]
theorem laws_toTree.run (N : Nat) (d : Nat) (x : LawsTree × Unit) : runF cx (look (laws_toTree.phis N d)) laws_toTree.A N (bodyOf Tryd.f18) Tryd.f18.results.toList laws_toTree.sg x = laws_toTree.R N (d + 1) x.1 := by
  have h : runF cx (look (laws_toTree.phis N d)) laws_toTree.A N (bodyOf Tryd.f18) Tryd.f18.results.toList laws_toTree.sg x = laws_toTree.B N (laws_toTreeS.R N d) (laws_toTree.R N d) x.1 := by kernel_rfl
  rw [h]
  try rfl
theorem laws_toTree.step (N : Nat) (d : Nat) (h_laws_toTreeS : Sound cx Tryd.prog gam 48 (⟨laws_toTreeS.sg, fun (x : (List (LawsTree)) × Unit) => laws_toTreeS.R N d x.1⟩ : Sm D)) : Sound cx Tryd.prog gam 18 (⟨laws_toTree.sg, fun (x : LawsTree × Unit) => laws_toTree.R N (d + 1) x.1⟩ : Sm D) := fn_sound (A := laws_toTree.A) (Φ := (look (laws_toTree.phis N d))) pok (G := gam) (ΦOk.cons (laws_toPropS.sound N) (fnOk_of (f := 47) (by kernel_rfl)) (ΦOk.cons h_laws_toTreeS (fnOk_of (f := 48) (by kernel_rfl)) ΦOk.nil)) mixed N Tryd.func18 (c := (bodyOf Tryd.f18)) (by kernel_rfl) laws_toTree.sg (by kernel_rfl) (by kernel_rfl) (by kernel_rfl) (laws_toTree.run N d)

theorem laws_toTreeS.scc (N : Nat) : ∀ d, Sound cx Tryd.prog gam 48 (⟨laws_toTreeS.sg, fun (x : (List (LawsTree)) × Unit) => laws_toTreeS.R N d x.1⟩ : Sm D) ∧ Sound cx Tryd.prog gam 18 (⟨laws_toTree.sg, fun (x : LawsTree × Unit) => laws_toTree.R N d x.1⟩ : Sm D)
  | 0 => ⟨none_sound 48 laws_toTreeS.sg, none_sound 18 laws_toTree.sg⟩
  | d + 1 => by
    have ih := laws_toTreeS.scc N d
    obtain ⟨ih0, ih1⟩ := ih
    exact ⟨laws_toTreeS.step N d ih1, laws_toTree.step N d ih0⟩
noncomputable def laws_toTreeS.sm (N : Nat) : Sm D := (⟨laws_toTreeS.sg, fun (x : (List (LawsTree)) × Unit) => laws_toTreeS.R N N x.1⟩ : Sm D)
theorem laws_toTreeS.sound (N : Nat) : Sound cx Tryd.prog gam 48 (laws_toTreeS.sm N) := (laws_toTreeS.scc N N).1
noncomputable def laws_toTree.sm (N : Nat) : Sm D := (⟨laws_toTree.sg, fun (x : LawsTree × Unit) => laws_toTree.R N N x.1⟩ : Sm D)
theorem laws_toTree.sound (N : Nat) : Sound cx Tryd.prog gam 18 (laws_toTree.sm N) := (laws_toTreeS.scc N N).2
@[reducible] def laws_eqValue.sg : Sg := { ms := [{ k := (.st 81) }, { k := (.st 81) }], keep := [false, false], rs := [{ k := .bool }] }
noncomputable def laws_eqValue.A : Ann := { dp := fun d => isIn [] d, lp := look [], jn := look [], pins := [], nt := 20 }
noncomputable def laws_eqValue.phis (N : Nat) : List (Nat × Sm D) := []
theorem laws_eqValue.run (N : Nat) (x : ImplValue × ImplValue × Unit) : runF cx (look (laws_eqValue.phis N)) laws_eqValue.A N (bodyOf Tryd.f100) Tryd.f100.results.toList laws_eqValue.sg x = laws_eqValue N x.1 x.2.1 := by
  have h : runF cx (look (laws_eqValue.phis N)) laws_eqValue.A N (bodyOf Tryd.f100) Tryd.f100.results.toList laws_eqValue.sg x = laws_eqValue.B N x.1 x.2.1 := by kernel_rfl
  rw [h]
  try rfl
noncomputable def laws_eqValue.sm (N : Nat) : Sm D := (⟨laws_eqValue.sg, fun (x : ImplValue × ImplValue × Unit) => laws_eqValue N x.1 x.2.1⟩ : Sm D)
theorem laws_eqValue.sound (N : Nat) : Sound cx Tryd.prog gam 100 (laws_eqValue.sm N) := fn_sound (A := laws_eqValue.A) (Φ := (look (laws_eqValue.phis N))) pok (G := gam) ΦOk.nil mixed N Tryd.func100 (c := (bodyOf Tryd.f100)) (by kernel_rfl) laws_eqValue.sg (by kernel_rfl) (by kernel_rfl) (by kernel_rfl) (laws_eqValue.run N)

@[reducible] def laws_eqProp.sg : Sg := { ms := [{ k := (.st 83) }, { k := (.st 83) }], keep := [false, false], rs := [{ k := .bool }] }
noncomputable def laws_eqProp.A : Ann := { dp := fun d => isIn [] d, lp := look [], jn := look [], pins := [], nt := 16 }
noncomputable def laws_eqProp.phis (N : Nat) : List (Nat × Sm D) := [(100, laws_eqValue.sm N)]
theorem laws_eqProp.run (N : Nat) (x : ImplProp × ImplProp × Unit) : runF cx (look (laws_eqProp.phis N)) laws_eqProp.A N (bodyOf Tryd.f81) Tryd.f81.results.toList laws_eqProp.sg x = laws_eqProp N x.1 x.2.1 := by
  have h : runF cx (look (laws_eqProp.phis N)) laws_eqProp.A N (bodyOf Tryd.f81) Tryd.f81.results.toList laws_eqProp.sg x = laws_eqProp.B N x.1 x.2.1 := by kernel_rfl
  rw [h]
  try rfl
noncomputable def laws_eqProp.sm (N : Nat) : Sm D := (⟨laws_eqProp.sg, fun (x : ImplProp × ImplProp × Unit) => laws_eqProp N x.1 x.2.1⟩ : Sm D)
theorem laws_eqProp.sound (N : Nat) : Sound cx Tryd.prog gam 81 (laws_eqProp.sm N) := fn_sound (A := laws_eqProp.A) (Φ := (look (laws_eqProp.phis N))) pok (G := gam) (ΦOk.cons (laws_eqValue.sound N) (fnOk_of (f := 100) (by kernel_rfl)) ΦOk.nil) mixed N Tryd.func81 (c := (bodyOf Tryd.f81)) (by kernel_rfl) laws_eqProp.sg (by kernel_rfl) (by kernel_rfl) (by kernel_rfl) (laws_eqProp.run N)

@[reducible] def laws_eqPropS.sg : Sg := { ms := [{ k := (.sl (.st 83)), fl := [none] }, { k := (.sl (.st 83)), fl := [none] }], keep := [false, false], rs := [{ k := .bool }] }
@[reducible] def laws_eqPropS.lvL0 : Lv := { id := 0, slots := [0, 1, 5], ms := [{ k := (.sl (.st 83)), fl := [none] }, { k := (.sl (.st 83)), fl := [none] }, { k := (.int .i64) }] }
noncomputable def laws_eqPropS.A : Ann := { dp := fun d => isIn [] d, lp := look [(0, laws_eqPropS.lvL0)], jn := look [], pins := [], nt := 27 }
noncomputable def laws_eqPropS.phis (N : Nat) : List (Nat × Sm D) := [(81, laws_eqProp.sm N)]
noncomputable def laws_eqPropS.a0 (N : Nat) (n : Nat) (y : (List (ImplProp)) × (List (ImplProp)) × Int × Unit) : Option (Bool × Unit) := loopAt cx (look (laws_eqPropS.phis N)) laws_eqPropS.A N n (encL cx laws_eqPropS.lvL0.ms y).1 (encL cx laws_eqPropS.lvL0.ms y).2 (bodyOf Tryd.f50) 0 (Kfin cx laws_eqPropS.A laws_eqPropS.sg Tryd.f50.results.toList) [1, 1, 0, 1, 1] []
theorem laws_eqPropS.r0 (N : Nat) : ∀ (n : Nat) (y : (List (ImplProp)) × (List (ImplProp)) × Int × Unit), laws_eqPropS.a0 N n y = laws_eqPropS.L0 N n y
  | 0, y => by kernel_rfl
  | n + 1, y => by
    have h : laws_eqPropS.a0 N (n + 1) y = laws_eqPropS.B0 N (fun z => laws_eqPropS.a0 N n z) y := by kernel_rfl
    have e : (fun z => laws_eqPropS.a0 N n z) = laws_eqPropS.L0 N n := funext fun z => laws_eqPropS.r0 N n z
    rw [h]
    try rw [e]
    first | done | rfl
theorem laws_eqPropS.run (N : Nat) (x : (List (ImplProp)) × (List (ImplProp)) × Unit) : runF cx (look (laws_eqPropS.phis N)) laws_eqPropS.A N (bodyOf Tryd.f50) Tryd.f50.results.toList laws_eqPropS.sg x = laws_eqPropS N x.1 x.2.1 := by
  have h : runF cx (look (laws_eqPropS.phis N)) laws_eqPropS.A N (bodyOf Tryd.f50) Tryd.f50.results.toList laws_eqPropS.sg x = laws_eqPropS.B N (fun z => laws_eqPropS.a0 N N z) x.1 x.2.1 := by kernel_rfl
  have e0 : (fun z => laws_eqPropS.a0 N N z) = laws_eqPropS.L0 N N := funext fun z => laws_eqPropS.r0 N N z
  rw [h, e0]
  try rfl
noncomputable def laws_eqPropS.sm (N : Nat) : Sm D := (⟨laws_eqPropS.sg, fun (x : (List (ImplProp)) × (List (ImplProp)) × Unit) => laws_eqPropS N x.1 x.2.1⟩ : Sm D)
theorem laws_eqPropS.sound (N : Nat) : Sound cx Tryd.prog gam 50 (laws_eqPropS.sm N) := fn_sound (A := laws_eqPropS.A) (Φ := (look (laws_eqPropS.phis N))) pok (G := gam) (ΦOk.cons (laws_eqProp.sound N) (fnOk_of (f := 81) (by kernel_rfl)) ΦOk.nil) mixed N Tryd.func50 (c := (bodyOf Tryd.f50)) (by kernel_rfl) laws_eqPropS.sg (by kernel_rfl) (by kernel_rfl) (by kernel_rfl) (laws_eqPropS.run N)

@[reducible] def laws_eqTreeS.sg : Sg := { ms := [{ k := (.sl (.st 25)), fl := [none] }, { k := (.sl (.st 25)), fl := [none] }], keep := [false, false], rs := [{ k := .bool }] }
@[reducible] def laws_eqTree.sg : Sg := { ms := [{ k := (.st 25) }, { k := (.st 25) }], keep := [false, false], rs := [{ k := .bool }] }
@[reducible] def laws_eqTreeS.lvL0 : Lv := { id := 0, slots := [0, 1, 5], ms := [{ k := (.sl (.st 25)), fl := [none] }, { k := (.sl (.st 25)), fl := [none] }, { k := (.int .i64) }] }
noncomputable def laws_eqTreeS.A : Ann := { dp := fun d => isIn [] d, lp := look [(0, laws_eqTreeS.lvL0)], jn := look [], pins := [], nt := 27 }
noncomputable def laws_eqTreeS.phis (N : Nat) (d : Nat) : List (Nat × Sm D) := [(20, (⟨laws_eqTree.sg, fun (x : ImplTree × ImplTree × Unit) => laws_eqTree.R N d x.1 x.2.1⟩ : Sm D))]
noncomputable def laws_eqTreeS.a0 (N : Nat) (d : Nat) (n : Nat) (y : (List (ImplTree)) × (List (ImplTree)) × Int × Unit) : Option (Bool × Unit) := loopAt cx (look (laws_eqTreeS.phis N d)) laws_eqTreeS.A N n (encL cx laws_eqTreeS.lvL0.ms y).1 (encL cx laws_eqTreeS.lvL0.ms y).2 (bodyOf Tryd.f51) 0 (Kfin cx laws_eqTreeS.A laws_eqTreeS.sg Tryd.f51.results.toList) [1, 1, 0, 1, 1] []
theorem laws_eqTreeS.r0 (N : Nat) (d : Nat) : ∀ (n : Nat) (y : (List (ImplTree)) × (List (ImplTree)) × Int × Unit), laws_eqTreeS.a0 N d n y = laws_eqTreeS.L0 N (laws_eqTreeS.R N d) (laws_eqTree.R N d) n y
  | 0, y => by kernel_rfl
  | n + 1, y => by
    have h : laws_eqTreeS.a0 N d (n + 1) y = laws_eqTreeS.B0 N (laws_eqTreeS.R N d) (laws_eqTree.R N d) (fun z => laws_eqTreeS.a0 N d n z) y := by kernel_rfl
    have e : (fun z => laws_eqTreeS.a0 N d n z) = laws_eqTreeS.L0 N (laws_eqTreeS.R N d) (laws_eqTree.R N d) n := funext fun z => laws_eqTreeS.r0 N d n z
    rw [h]
    try rw [e]
    first | done | rfl
theorem laws_eqTreeS.run (N : Nat) (d : Nat) (x : (List (ImplTree)) × (List (ImplTree)) × Unit) : runF cx (look (laws_eqTreeS.phis N d)) laws_eqTreeS.A N (bodyOf Tryd.f51) Tryd.f51.results.toList laws_eqTreeS.sg x = laws_eqTreeS.R N (d + 1) x.1 x.2.1 := by
  have h : runF cx (look (laws_eqTreeS.phis N d)) laws_eqTreeS.A N (bodyOf Tryd.f51) Tryd.f51.results.toList laws_eqTreeS.sg x = laws_eqTreeS.B N (laws_eqTreeS.R N d) (laws_eqTree.R N d) (fun z => laws_eqTreeS.a0 N d N z) x.1 x.2.1 := by kernel_rfl
  have e0 : (fun z => laws_eqTreeS.a0 N d N z) = laws_eqTreeS.L0 N (laws_eqTreeS.R N d) (laws_eqTree.R N d) N := funext fun z => laws_eqTreeS.r0 N d N z
  rw [h, e0]
  try rfl
theorem laws_eqTreeS.step (N : Nat) (d : Nat) (h_laws_eqTree : Sound cx Tryd.prog gam 20 (⟨laws_eqTree.sg, fun (x : ImplTree × ImplTree × Unit) => laws_eqTree.R N d x.1 x.2.1⟩ : Sm D)) : Sound cx Tryd.prog gam 51 (⟨laws_eqTreeS.sg, fun (x : (List (ImplTree)) × (List (ImplTree)) × Unit) => laws_eqTreeS.R N (d + 1) x.1 x.2.1⟩ : Sm D) := fn_sound (A := laws_eqTreeS.A) (Φ := (look (laws_eqTreeS.phis N d))) pok (G := gam) (ΦOk.cons h_laws_eqTree (fnOk_of (f := 20) (by kernel_rfl)) ΦOk.nil) mixed N Tryd.func51 (c := (bodyOf Tryd.f51)) (by kernel_rfl) laws_eqTreeS.sg (by kernel_rfl) (by kernel_rfl) (by kernel_rfl) (laws_eqTreeS.run N d)

noncomputable def laws_eqTree.A : Ann := { dp := fun d => isIn [] d, lp := look [], jn := look [], pins := [], nt := 32 }
noncomputable def laws_eqTree.phis (N : Nat) (d : Nat) : List (Nat × Sm D) := [(50, laws_eqPropS.sm N), (51, (⟨laws_eqTreeS.sg, fun (x : (List (ImplTree)) × (List (ImplTree)) × Unit) => laws_eqTreeS.R N d x.1 x.2.1⟩ : Sm D))]
theorem laws_eqTree.run (N : Nat) (d : Nat) (x : ImplTree × ImplTree × Unit) : runF cx (look (laws_eqTree.phis N d)) laws_eqTree.A N (bodyOf Tryd.f20) Tryd.f20.results.toList laws_eqTree.sg x = laws_eqTree.R N (d + 1) x.1 x.2.1 := by
  have h : runF cx (look (laws_eqTree.phis N d)) laws_eqTree.A N (bodyOf Tryd.f20) Tryd.f20.results.toList laws_eqTree.sg x = laws_eqTree.B N (laws_eqTreeS.R N d) (laws_eqTree.R N d) x.1 x.2.1 := by kernel_rfl
  rw [h]
  try rfl
theorem laws_eqTree.step (N : Nat) (d : Nat) (h_laws_eqTreeS : Sound cx Tryd.prog gam 51 (⟨laws_eqTreeS.sg, fun (x : (List (ImplTree)) × (List (ImplTree)) × Unit) => laws_eqTreeS.R N d x.1 x.2.1⟩ : Sm D)) : Sound cx Tryd.prog gam 20 (⟨laws_eqTree.sg, fun (x : ImplTree × ImplTree × Unit) => laws_eqTree.R N (d + 1) x.1 x.2.1⟩ : Sm D) := fn_sound (A := laws_eqTree.A) (Φ := (look (laws_eqTree.phis N d))) pok (G := gam) (ΦOk.cons (laws_eqPropS.sound N) (fnOk_of (f := 50) (by kernel_rfl)) (ΦOk.cons h_laws_eqTreeS (fnOk_of (f := 51) (by kernel_rfl)) ΦOk.nil)) mixed N Tryd.func20 (c := (bodyOf Tryd.f20)) (by kernel_rfl) laws_eqTree.sg (by kernel_rfl) (by kernel_rfl) (by kernel_rfl) (laws_eqTree.run N d)

theorem laws_eqTreeS.scc (N : Nat) : ∀ d, Sound cx Tryd.prog gam 51 (⟨laws_eqTreeS.sg, fun (x : (List (ImplTree)) × (List (ImplTree)) × Unit) => laws_eqTreeS.R N d x.1 x.2.1⟩ : Sm D) ∧ Sound cx Tryd.prog gam 20 (⟨laws_eqTree.sg, fun (x : ImplTree × ImplTree × Unit) => laws_eqTree.R N d x.1 x.2.1⟩ : Sm D)
  | 0 => ⟨none_sound 51 laws_eqTreeS.sg, none_sound 20 laws_eqTree.sg⟩
  | d + 1 => by
    have ih := laws_eqTreeS.scc N d
    obtain ⟨ih0, ih1⟩ := ih
    exact ⟨laws_eqTreeS.step N d ih1, laws_eqTree.step N d ih0⟩
noncomputable def laws_eqTreeS.sm (N : Nat) : Sm D := (⟨laws_eqTreeS.sg, fun (x : (List (ImplTree)) × (List (ImplTree)) × Unit) => laws_eqTreeS.R N N x.1 x.2.1⟩ : Sm D)
theorem laws_eqTreeS.sound (N : Nat) : Sound cx Tryd.prog gam 51 (laws_eqTreeS.sm N) := (laws_eqTreeS.scc N N).1
noncomputable def laws_eqTree.sm (N : Nat) : Sm D := (⟨laws_eqTree.sg, fun (x : ImplTree × ImplTree × Unit) => laws_eqTree.R N N x.1 x.2.1⟩ : Sm D)
theorem laws_eqTree.sound (N : Nat) : Sound cx Tryd.prog gam 20 (laws_eqTree.sm N) := (laws_eqTreeS.scc N N).2
end
end Go.Ev
