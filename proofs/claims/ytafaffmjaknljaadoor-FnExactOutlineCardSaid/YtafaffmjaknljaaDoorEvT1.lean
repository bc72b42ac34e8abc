/- Each function that the law reaches does what its plain form says; no condition beyond the table of the library. -/
import Derived.Test.YtafaffmjaknljaaDoorEvT0
set_option linter.all false
set_option linter.unusedVariables false
set_option linter.unusedSimpArgs false
set_option maxRecDepth 100000
set_option maxHeartbeats 0
namespace Go.Ev
noncomputable section
open Go.Proofs
@[reducible] def spec_validPart.sg : Sg := { ms := [{ k := (.st 31) }], keep := [false], rs := [{ k := .bool }] }
@[reducible] def spec_validPart.lvL0 : Lv := { id := 0, slots := [1, 3], ms := [{ ptr := true, id := 600, t := 32, k := (.st 31), fl := [none, none, none, none, none] }, { k := (.int .i64) }] }
noncomputable def spec_validPart.A : Ann := { dp := fun d => isIn [] d, lp := look [(0, spec_validPart.lvL0)], jn := look [], pins := [], nt := 65 }
noncomputable def spec_validPart.phis (N : Nat) (d : Nat) : List (Nat × Sm D) := [(36, spec_validShown.sm N), (37, spec_inRange.sm N), (38, spec_validPropList.sm N), (28, (⟨spec_validPart.sg, fun (x : ImplTree × Unit) => spec_validPart.R N d x.1⟩ : Sm D)), (39, spec_keysApart.sm N)]
noncomputable def spec_validPart.a0 (N : Nat) (d : Nat) (n : Nat) (y : ImplTree × Int × Unit) : Option (Bool × Unit) := loopAt cx (look (spec_validPart.phis N d)) spec_validPart.A N n (encL cx spec_validPart.lvL0.ms y).1 (encL cx spec_validPart.lvL0.ms y).2 (bodyOf Tryd.f28) 0 (Kfin cx spec_validPart.A spec_validPart.sg Tryd.f28.results.toList) [1, 1, 1, 0, 1, 1] []
theorem spec_validPart.r0 (N : Nat) (d : Nat) : ∀ (n : Nat) (y : ImplTree × Int × Unit), spec_validPart.a0 N d n y = spec_validPart.L0 N (spec_validPart.R N d) n y
  | 0, y => by kernel_rfl
  | n + 1, y => by
    have h : spec_validPart.a0 N d (n + 1) y = spec_validPart.B0 N (spec_validPart.R N d) (fun z => spec_validPart.a0 N d n z) y := by kernel_rfl
    have e : (fun z => spec_validPart.a0 N d n z) = spec_validPart.L0 N (spec_validPart.R N d) n := funext fun z => spec_validPart.r0 N d n z
    rw [h]
    try rw [e]
    first | done | rfl
theorem spec_validPart.run (N : Nat) (d : Nat) (x : ImplTree × Unit) : runF cx (look (spec_validPart.phis N d)) spec_validPart.A N (bodyOf Tryd.f28) Tryd.f28.results.toList spec_validPart.sg x = spec_validPart.R N (d + 1) x.1 := by
  have h : runF cx (look (spec_validPart.phis N d)) spec_validPart.A N (bodyOf Tryd.f28) Tryd.f28.results.toList spec_validPart.sg x = spec_validPart.B N (spec_validPart.R N d) (fun z => spec_validPart.a0 N d N z) x.1 := by kernel_rfl
  have e0 : (fun z => spec_validPart.a0 N d N z) = spec_validPart.L0 N (spec_validPart.R N d) N := funext fun z => spec_validPart.r0 N d N z
  rw [h, e0]
  try rfl
theorem spec_validPart.step (N : Nat) (d : Nat) (h_spec_validPart : Sound cx Tryd.prog gam 28 (⟨spec_validPart.sg, fun (x : ImplTree × Unit) => spec_validPart.R N d x.1⟩ : Sm D)) : Sound cx Tryd.prog gam 28 (⟨spec_validPart.sg, fun (x : ImplTree × Unit) => spec_validPart.R N (d + 1) x.1⟩ : Sm D) := fn_sound (A := spec_validPart.A) (Φ := (look (spec_validPart.phis N d))) pok (G := gam) (ΦOk.cons (spec_validShown.sound N) (fnOk_of (f := 36) (by kernel_rfl)) (ΦOk.cons (spec_inRange.sound N) (fnOk_of (f := 37) (by kernel_rfl)) (ΦOk.cons (spec_validPropList.sound N) (fnOk_of (f := 38) (by kernel_rfl)) (ΦOk.cons h_spec_validPart (fnOk_of (f := 28) (by kernel_rfl)) (ΦOk.cons (spec_keysApart.sound N) (fnOk_of (f := 39) (by kernel_rfl)) ΦOk.nil))))) mixed N Tryd.func28 (c := (bodyOf Tryd.f28)) (by kernel_rfl) spec_validPart.sg (by kernel_rfl) (by kernel_rfl) (by kernel_rfl) (spec_validPart.run N d)

theorem spec_validPart.scc (N : Nat) : ∀ d, Sound cx Tryd.prog gam 28 (⟨spec_validPart.sg, fun (x : ImplTree × Unit) => spec_validPart.R N d x.1⟩ : Sm D)
  | 0 => none_sound 28 spec_validPart.sg
  | d + 1 => by
    have ih := spec_validPart.scc N d
    exact spec_validPart.step N d ih
noncomputable def spec_validPart.sm (N : Nat) : Sm D := (⟨spec_validPart.sg, fun (x : ImplTree × Unit) => spec_validPart.R N N x.1⟩ : Sm D)
theorem spec_validPart.sound (N : Nat) : Sound cx Tryd.prog gam 28 (spec_validPart.sm N) := (spec_validPart.scc N N)
@[reducible] def spec_validTree.sg : Sg := { ms := [{ k := (.st 31) }], keep := [false], rs := [{ k := .bool }] }
noncomputable def spec_validTree.A : Ann := { dp := fun d => isIn [] d, lp := look [], jn := look [], pins := [], nt := 10 }
noncomputable def spec_validTree.phis (N : Nat) : List (Nat × Sm D) := [(27, spec_treeSize.sm N), (28, spec_validPart.sm N)]
theorem spec_validTree.run (N : Nat) (x : ImplTree × Unit) : runF cx (look (spec_validTree.phis N)) spec_validTree.A N (bodyOf Tryd.f15) Tryd.f15.results.toList spec_validTree.sg x = spec_validTree N x.1 := by
  have h : runF cx (look (spec_validTree.phis N)) spec_validTree.A N (bodyOf Tryd.f15) Tryd.f15.results.toList spec_validTree.sg x = spec_validTree.B N x.1 := by kernel_rfl
  rw [h]
  try rfl
noncomputable def spec_validTree.sm (N : Nat) : Sm D := (⟨spec_validTree.sg, fun (x : ImplTree × Unit) => spec_validTree N x.1⟩ : Sm D)
theorem spec_validTree.sound (N : Nat) : Sound cx Tryd.prog gam 15 (spec_validTree.sm N) := fn_sound (A := spec_validTree.A) (Φ := (look (spec_validTree.phis N))) pok (G := gam) (ΦOk.cons (spec_treeSize.sound N) (fnOk_of (f := 27) (by kernel_rfl)) (ΦOk.cons (spec_validPart.sound N) (fnOk_of (f := 28) (by kernel_rfl)) ΦOk.nil)) mixed N Tryd.func15 (c := (bodyOf Tryd.f15)) (by kernel_rfl) spec_validTree.sg (by kernel_rfl) (by kernel_rfl) (by kernel_rfl) (spec_validTree.run N)

@[reducible] def spec_quoted.sg : Sg := { ms := [{ k := (.st 52) }], keep := [false], rs := [{ k := .str }] }
noncomputable def spec_quoted.A : Ann := { dp := fun d => isIn [] d, lp := look [], jn := look [], pins := [], nt := 16 }
noncomputable def spec_quoted.phis (N : Nat) : List (Nat × Sm D) := [(56, spec_decimal.sm N)]
theorem spec_quoted.run (N : Nat) (x : ImplValue × Unit) : runF cx (look (spec_quoted.phis N)) spec_quoted.A N (bodyOf Tryd.f58) Tryd.f58.results.toList spec_quoted.sg x = spec_quoted N x.1 := by
  have h : runF cx (look (spec_quoted.phis N)) spec_quoted.A N (bodyOf Tryd.f58) Tryd.f58.results.toList spec_quoted.sg x = spec_quoted.B N x.1 := by kernel_rfl
  rw [h]
  try rfl
noncomputable def spec_quoted.sm (N : Nat) : Sm D := (⟨spec_quoted.sg, fun (x : ImplValue × Unit) => spec_quoted N x.1⟩ : Sm D)
theorem spec_quoted.sound (N : Nat) : Sound cx Tryd.prog gam 58 (spec_quoted.sm N) := fn_sound (A := spec_quoted.A) (Φ := (look (spec_quoted.phis N))) pok (G := gam) (ΦOk.cons (spec_decimal.sound N) (fnOk_of (f := 56) (by kernel_rfl)) ΦOk.nil) mixed N Tryd.func58 (c := (bodyOf Tryd.f58)) (by kernel_rfl) spec_quoted.sg (by kernel_rfl) (by kernel_rfl) (by kernel_rfl) (spec_quoted.run N)

@[reducible] def spec_treeWords.sg : Sg := { ms := [{ k := (.st 31) }], keep := [false], rs := [{ k := .str }] }
@[reducible] def spec_treeWords.lvL2 : Lv := { id := 2, slots := [1, 3, 5], ms := [{ ptr := true, id := 600, t := 32, k := (.st 31), fl := [none, none, none, none, none] }, { k := .str }, { k := (.int .i64) }] }
@[reducible] def spec_treeWords.lvL0 : Lv := { id := 0, slots := [1, 3, 4], ms := [{ ptr := true, id := 600, t := 32, k := (.st 31), fl := [none, none, none, none, none] }, { k := .str }, { k := (.int .i64) }] }
@[reducible] def spec_treeWords.lvJ6 : Lv := { id := 6, slots := [1, 3], ms := [{ ptr := true, id := 600, t := 32, k := (.st 31), fl := [none, none, none, none, none] }, { k := .str }] }
noncomputable def spec_treeWords.A : Ann := { dp := fun d => isIn [] d, lp := look [(2, spec_treeWords.lvL2), (0, spec_treeWords.lvL0)], jn := look [(6, spec_treeWords.lvJ6)], pins := [], nt := 70 }
noncomputable def spec_treeWords.phis (N : Nat) (d : Nat) : List (Nat × Sm D) := [(56, spec_decimal.sm N), (58, spec_quoted.sm N), (40, (⟨spec_treeWords.sg, fun (x : ImplTree × Unit) => spec_treeWords.R N d x.1⟩ : Sm D))]
noncomputable def spec_treeWords.a2 (N : Nat) (d : Nat) (n : Nat) (y : ImplTree × (List UInt8) × Int × Unit) : Option ((List UInt8) × Unit) := loopAt cx (look (spec_treeWords.phis N d)) spec_treeWords.A N n (encL cx spec_treeWords.lvL2.ms y).1 (encL cx spec_treeWords.lvL2.ms y).2 (bodyOf Tryd.f40) 0 (Kfin cx spec_treeWords.A spec_treeWords.sg Tryd.f40.results.toList) [1, 1, 1, 1, 1, 0, 1, 1] []
noncomputable def spec_treeWords.a0 (N : Nat) (d : Nat) (n : Nat) (y : ImplTree × (List UInt8) × Int × Unit) : Option ((List UInt8) × Unit) := loopAt cx (look (spec_treeWords.phis N d)) spec_treeWords.A N n (encL cx spec_treeWords.lvL0.ms y).1 (encL cx spec_treeWords.lvL0.ms y).2 (bodyOf Tryd.f40) 0 (Kfin cx spec_treeWords.A spec_treeWords.sg Tryd.f40.results.toList) [1, 1, 1, 1, 0, 1, 1] []
theorem spec_treeWords.r2 (N : Nat) (d : Nat) : ∀ (n : Nat) (y : ImplTree × (List UInt8) × Int × Unit), spec_treeWords.a2 N d n y = spec_treeWords.L2 N (spec_treeWords.R N d) n y
  | 0, y => by kernel_rfl
  | n + 1, y => by
    have h : spec_treeWords.a2 N d (n + 1) y = spec_treeWords.B2 N (spec_treeWords.R N d) (fun z => spec_treeWords.a2 N d n z) y := by kernel_rfl
    have e : (fun z => spec_treeWords.a2 N d n z) = spec_treeWords.L2 N (spec_treeWords.R N d) n := funext fun z => spec_treeWords.r2 N d n z
    rw [h]
    try rw [e]
    first | done | rfl
theorem spec_treeWords.r0 (N : Nat) (d : Nat) : ∀ (n : Nat) (y : ImplTree × (List UInt8) × Int × Unit), spec_treeWords.a0 N d n y = spec_treeWords.L0 N (spec_treeWords.R N d) n y
  | 0, y => by kernel_rfl
  | n + 1, y => by
    have h : spec_treeWords.a0 N d (n + 1) y = spec_treeWords.B0 N (spec_treeWords.R N d) (fun z => spec_treeWords.a0 N d n z) (fun z => spec_treeWords.a2 N d N z) y := by kernel_rfl
    have e : (fun z => spec_treeWords.a0 N d n z) = spec_treeWords.L0 N (spec_treeWords.R N d) n := funext fun z => spec_treeWords.r0 N d n z
    have e2 : (fun z => spec_treeWords.a2 N d N z) = spec_treeWords.L2 N (spec_treeWords.R N d) N := funext fun z => spec_treeWords.r2 N d N z
    rw [h, e2]
    try rw [e]
    first | done | rfl
theorem spec_treeWords.run (N : Nat) (d : Nat) (x : ImplTree × Unit) : runF cx (look (spec_treeWords.phis N d)) spec_treeWords.A N (bodyOf Tryd.f40) Tryd.f40.results.toList spec_treeWords.sg x = spec_treeWords.R N (d + 1) x.1 := by
  have h : runF cx (look (spec_treeWords.phis N d)) spec_treeWords.A N (bodyOf Tryd.f40) Tryd.f40.results.toList spec_treeWords.sg x = spec_treeWords.B N (spec_treeWords.R N d) (fun z => spec_treeWords.a0 N d N z) x.1 := by kernel_rfl
  have e0 : (fun z => spec_treeWords.a0 N d N z) = spec_treeWords.L0 N (spec_treeWords.R N d) N := funext fun z => spec_treeWords.r0 N d N z
  rw [h, e0]
  try rfl
theorem spec_treeWords.step (N : Nat) (d : Nat) (h_spec_treeWords : Sound cx Tryd.prog gam 40 (⟨spec_treeWords.sg, fun (x : ImplTree × Unit) => spec_treeWords.R N d x.1⟩ : Sm D)) : Sound cx Tryd.prog gam 40 (⟨spec_treeWords.sg, fun (x : ImplTree × Unit) => spec_treeWords.R N (d + 1) x.1⟩ : Sm D) := fn_sound (A := spec_treeWords.A) (Φ := (look (spec_treeWords.phis N d))) pok (G := gam) (ΦOk.cons (spec_decimal.sound N) (fnOk_of (f := 56) (by kernel_rfl)) (ΦOk.cons (spec_quoted.sound N) (fnOk_of (f := 58) (by kernel_rfl)) (ΦOk.cons h_spec_treeWords (fnOk_of (f := 40) (by kernel_rfl)) ΦOk.nil))) mixed N Tryd.func40 (c := (bodyOf Tryd.f40)) (by kernel_rfl) spec_treeWords.sg (by kernel_rfl) (by kernel_rfl) (by kernel_rfl) (spec_treeWords.run N d)

theorem spec_treeWords.scc (N : Nat) : ∀ d, Sound cx Tryd.prog gam 40 (⟨spec_treeWords.sg, fun (x : ImplTree × Unit) => spec_treeWords.R N d x.1⟩ : Sm D)
  | 0 => none_sound 40 spec_treeWords.sg
  | d + 1 => by
    have ih := spec_treeWords.scc N d
    exact spec_treeWords.step N d ih
noncomputable def spec_treeWords.sm (N : Nat) : Sm D := (⟨spec_treeWords.sg, fun (x : ImplTree × Unit) => spec_treeWords.R N N x.1⟩ : Sm D)
theorem spec_treeWords.sound (N : Nat) : Sound cx Tryd.prog gam 40 (spec_treeWords.sm N) := (spec_treeWords.scc N N)
@[reducible] def spec_headWords.sg : Sg := { ms := [{ k := (.st 31) }], keep := [false], rs := [{ k := .str }] }
noncomputable def spec_headWords.A : Ann := { dp := fun d => isIn [] d, lp := look [], jn := look [], pins := [], nt := 13 }
noncomputable def spec_headWords.phis (N : Nat) : List (Nat × Sm D) := [(40, spec_treeWords.sm N)]
theorem spec_headWords.run (N : Nat) (x : ImplTree × Unit) : runF cx (look (spec_headWords.phis N)) spec_headWords.A N (bodyOf Tryd.f29) Tryd.f29.results.toList spec_headWords.sg x = spec_headWords N x.1 := by
  have h : runF cx (look (spec_headWords.phis N)) spec_headWords.A N (bodyOf Tryd.f29) Tryd.f29.results.toList spec_headWords.sg x = spec_headWords.B N x.1 := by kernel_rfl
  rw [h]
  try rfl
noncomputable def spec_headWords.sm (N : Nat) : Sm D := (⟨spec_headWords.sg, fun (x : ImplTree × Unit) => spec_headWords N x.1⟩ : Sm D)
theorem spec_headWords.sound (N : Nat) : Sound cx Tryd.prog gam 29 (spec_headWords.sm N) := fn_sound (A := spec_headWords.A) (Φ := (look (spec_headWords.phis N))) pok (G := gam) (ΦOk.cons (spec_treeWords.sound N) (fnOk_of (f := 40) (by kernel_rfl)) ΦOk.nil) mixed N Tryd.func29 (c := (bodyOf Tryd.f29)) (by kernel_rfl) spec_headWords.sg (by kernel_rfl) (by kernel_rfl) (by kernel_rfl) (spec_headWords.run N)

@[reducible] def spec_outlined.sg : Sg := { ms := [{ k := (.st 31) }, { k := (.int .i64) }, { k := (.sl .str), fl := [some (false, 51)] }], keep := [false, false, false], rs := [{ k := (.sl .str), fl := [some (false, 411)] }] }
@[reducible] def spec_outlined.lvL2 : Lv := { id := 2, slots := [1, 2, 3, 9], ms := [{ k := (.int .i64) }, { k := (.sl .str), fl := [some (false, 620)] }, { ptr := true, id := 640, t := 32, k := (.st 31), fl := [none, none, none, none, none] }, { k := (.int .i64) }] }
@[reducible] def spec_outlined.lvL0 : Lv := { id := 0, slots := [1, 2, 3, 7, 8], ms := [{ k := (.int .i64) }, { k := (.sl .str), fl := [some (false, 620)] }, { ptr := true, id := 640, t := 32, k := (.st 31), fl := [none, none, none, none, none] }, { k := .str }, { k := (.int .i64) }] }
noncomputable def spec_outlined.A : Ann := { dp := fun d => isIn [] d, lp := look [(2, spec_outlined.lvL2), (0, spec_outlined.lvL0)], jn := look [], pins := [], nt := 41 }
noncomputable def spec_outlined.phis (N : Nat) (d : Nat) : List (Nat × Sm D) := [(29, spec_headWords.sm N), (16, (⟨spec_outlined.sg, fun (x : ImplTree × Int × (List (List UInt8)) × Unit) => spec_outlined.R N d x.1 x.2.1 x.2.2.1⟩ : Sm D))]
noncomputable def spec_outlined.a2 (N : Nat) (d : Nat) (n : Nat) (y : Int × (List (List UInt8)) × ImplTree × Int × Unit) : Option ((List (List UInt8)) × Unit) := loopAt cx (look (spec_outlined.phis N d)) spec_outlined.A N n (encL cx spec_outlined.lvL2.ms y).1 (encL cx spec_outlined.lvL2.ms y).2 (bodyOf Tryd.f16) 0 (Kfin cx spec_outlined.A spec_outlined.sg Tryd.f16.results.toList) [1, 1, 1, 1, 0, 1, 1] []
noncomputable def spec_outlined.a0 (N : Nat) (d : Nat) (n : Nat) (y : Int × (List (List UInt8)) × ImplTree × (List UInt8) × Int × Unit) : Option ((List (List UInt8)) × Unit) := loopAt cx (look (spec_outlined.phis N d)) spec_outlined.A N n (encL cx spec_outlined.lvL0.ms y).1 (encL cx spec_outlined.lvL0.ms y).2 (bodyOf Tryd.f16) 0 (Kfin cx spec_outlined.A spec_outlined.sg Tryd.f16.results.toList) [1, 1, 0, 1, 1] []
theorem spec_outlined.r2 (N : Nat) (d : Nat) : ∀ (n : Nat) (y : Int × (List (List UInt8)) × ImplTree × Int × Unit), spec_outlined.a2 N d n y = spec_outlined.L2 N (spec_outlined.R N d) n y
  | 0, y => by kernel_rfl
  | n + 1, y => by
    have h : spec_outlined.a2 N d (n + 1) y = spec_outlined.B2 N (spec_outlined.R N d) (fun z => spec_outlined.a2 N d n z) y := by kernel_rfl
    have e : (fun z => spec_outlined.a2 N d n z) = spec_outlined.L2 N (spec_outlined.R N d) n := funext fun z => spec_outlined.r2 N d n z
    rw [h]
    try rw [e]
    first | done | rfl
theorem spec_outlined.r0 (N : Nat) (d : Nat) : ∀ (n : Nat) (y : Int × (List (List UInt8)) × ImplTree × (List UInt8) × Int × Unit), spec_outlined.a0 N d n y = spec_outlined.L0 N (spec_outlined.R N d) n y
  | 0, y => by kernel_rfl
  | n + 1, y => by
    have h : spec_outlined.a0 N d (n + 1) y = spec_outlined.B0 N (spec_outlined.R N d) (fun z => spec_outlined.a0 N d n z) (fun z => spec_outlined.a2 N d N z) y := by kernel_rfl
    have e : (fun z => spec_outlined.a0 N d n z) = spec_outlined.L0 N (spec_outlined.R N d) n := funext fun z => spec_outlined.r0 N d n z
    have e2 : (fun z => spec_outlined.a2 N d N z) = spec_outlined.L2 N (spec_outlined.R N d) N := funext fun z => spec_outlined.r2 N d N z
    rw [h, e2]
    try rw [e]
    first | done | rfl
theorem spec_outlined.run (N : Nat) (d : Nat) (x : ImplTree × Int × (List (List UInt8)) × Unit) : runF cx (look (spec_outlined.phis N d)) spec_outlined.A N (bodyOf Tryd.f16) Tryd.f16.results.toList spec_outlined.sg x = spec_outlined.R N (d + 1) x.1 x.2.1 x.2.2.1 := by
  have h : runF cx (look (spec_outlined.phis N d)) spec_outlined.A N (bodyOf Tryd.f16) Tryd.f16.results.toList spec_outlined.sg x = spec_outlined.B N (spec_outlined.R N d) (fun z => spec_outlined.a0 N d N z) x.1 x.2.1 x.2.2.1 := by kernel_rfl
  have e0 : (fun z => spec_outlined.a0 N d N z) = spec_outlined.L0 N (spec_outlined.R N d) N := funext fun z => spec_outlined.r0 N d N z
  rw [h, e0]
  try rfl
theorem spec_outlined.step (N : Nat) (d : Nat) (h_spec_outlined : Sound cx Tryd.prog gam 16 (⟨spec_outlined.sg, fun (x : ImplTree × Int × (List (List UInt8)) × Unit) => spec_outlined.R N d x.1 x.2.1 x.2.2.1⟩ : Sm D)) : Sound cx Tryd.prog gam 16 (⟨spec_outlined.sg, fun (x : ImplTree × Int × (List (List UInt8)) × Unit) => spec_outlined.R N (d + 1) x.1 x.2.1 x.2.2.1⟩ : Sm D) := fn_sound (A := spec_outlined.A) (Φ := (look (spec_outlined.phis N d))) pok (G := gam) (ΦOk.cons (spec_headWords.sound N) (fnOk_of (f := 29) (by kernel_rfl)) (ΦOk.cons h_spec_outlined (fnOk_of (f := 16) (by kernel_rfl)) ΦOk.nil)) mixed N Tryd.func16 (c := (bodyOf Tryd.f16)) (by kernel_rfl) spec_outlined.sg (by kernel_rfl) (by kernel_rfl) (by kernel_rfl) (spec_outlined.run N d)

theorem spec_outlined.scc (N : Nat) : ∀ d, Sound cx Tryd.prog gam 16 (⟨spec_outlined.sg, fun (x : ImplTree × Int × (List (List UInt8)) × Unit) => spec_outlined.R N d x.1 x.2.1 x.2.2.1⟩ : Sm D)
  | 0 => none_sound 16 spec_outlined.sg
  | d + 1 => by
    have ih := spec_outlined.scc N d
    exact spec_outlined.step N d ih
noncomputable def spec_outlined.sm (N : Nat) : Sm D := (⟨spec_outlined.sg, fun (x : ImplTree × Int × (List (List UInt8)) × Unit) => spec_outlined.R N N x.1 x.2.1 x.2.2.1⟩ : Sm D)
theorem spec_outlined.sound (N : Nat) : Sound cx Tryd.prog gam 16 (spec_outlined.sm N) := (spec_outlined.scc N N)
@[reducible] def spec_Outline.sg : Sg := { ms := [{ k := (.st 31) }], keep := [false], rs := [{ k := (.sl .str), fl := [none] }], hold := true }
noncomputable def spec_Outline.A : Ann := { dp := fun d => isIn [] d, lp := look [], jn := look [], pins := [], nt := 9 }
noncomputable def spec_Outline.phis (N : Nat) : List (Nat × Sm D) := [(15, spec_validTree.sm N), (16, spec_outlined.sm N)]
theorem spec_Outline.run (N : Nat) (x : ImplTree × Unit) : runF cx (look (spec_Outline.phis N)) spec_Outline.A N (bodyOf Tryd.f5) Tryd.f5.results.toList spec_Outline.sg x = spec_Outline N x.1 := by
  have h : runF cx (look (spec_Outline.phis N)) spec_Outline.A N (bodyOf Tryd.f5) Tryd.f5.results.toList spec_Outline.sg x = spec_Outline.B N x.1 := by kernel_rfl
  rw [h]
  try rfl
noncomputable def spec_Outline.sm (N : Nat) : Sm D := (⟨spec_Outline.sg, fun (x : ImplTree × Unit) => spec_Outline N x.1⟩ : Sm D)
theorem spec_Outline.sound (N : Nat) : Sound cx Tryd.prog gam 5 (spec_Outline.sm N) := fn_sound (A := spec_Outline.A) (Φ := (look (spec_Outline.phis N))) pok (G := gam) (ΦOk.cons (spec_validTree.sound N) (fnOk_of (f := 15) (by kernel_rfl)) (ΦOk.cons (spec_outlined.sound N) (fnOk_of (f := 16) (by kernel_rfl)) ΦOk.nil)) mixed N Tryd.func5 (c := (bodyOf Tryd.f5)) (by kernel_rfl) spec_Outline.sg (by kernel_rfl) (by kernel_rfl) (by kernel_rfl) (spec_Outline.run N)

@[reducible] def impl_word.sg : Sg := { ms := [{ k := .str }], keep := [false], rs := [{ k := .bool }] }
@[reducible] def impl_word.lvL0 : Lv := { id := 0, slots := [0, 3], ms := [{ k := .str }, { k := (.int .i64) }] }
noncomputable def impl_word.A : Ann := { dp := fun d => isIn [] d, lp := look [(0, impl_word.lvL0)], jn := look [], pins := [], nt := 36 }
noncomputable def impl_word.phis (N : Nat) : List (Nat × Sm D) := []
noncomputable def impl_word.a0 (N : Nat) (n : Nat) (y : (List UInt8) × Int × Unit) : Option (Bool × Unit) := loopAt cx (look (impl_word.phis N)) impl_word.A N n (encL cx impl_word.lvL0.ms y).1 (encL cx impl_word.lvL0.ms y).2 (bodyOf Tryd.f59) 0 (Kfin cx impl_word.A impl_word.sg Tryd.f59.results.toList) [1, 0, 1, 1] []
theorem impl_word.r0 (N : Nat) : ∀ (n : Nat) (y : (List UInt8) × Int × Unit), impl_word.a0 N n y = impl_word.L0 N n y
  | 0, y => by kernel_rfl
  | n + 1, y => by
    have h : impl_word.a0 N (n + 1) y = impl_word.B0 N (fun z => impl_word.a0 N n z) y := by kernel_rfl
    have e : (fun z => impl_word.a0 N n z) = impl_word.L0 N n := funext fun z => impl_word.r0 N n z
    rw [h]
    try rw [e]
    first | done | rfl
theorem impl_word.run (N : Nat) (x : (List UInt8) × Unit) : runF cx (look (impl_word.phis N)) impl_word.A N (bodyOf Tryd.f59) Tryd.f59.results.toList impl_word.sg x = impl_word N x.1 := by
  have h : runF cx (look (impl_word.phis N)) impl_word.A N (bodyOf Tryd.f59) Tryd.f59.results.toList impl_word.sg x = impl_word.B N (fun z => impl_word.a0 N N z) x.1 := by kernel_rfl
  have e0 : (fun z => impl_word.a0 N N z) = impl_word.L0 N N := funext fun z => impl_word.r0 N N z
  rw [h, e0]
  try rfl
noncomputable def impl_word.sm (N : Nat) : Sm D := (⟨impl_word.sg, fun (x : (List UInt8) × Unit) => impl_word N x.1⟩ : Sm D)
theorem impl_word.sound (N : Nat) : Sound cx Tryd.prog gam 59 (impl_word.sm N) := fn_sound (A := impl_word.A) (Φ := (look (impl_word.phis N))) pok (G := gam) ΦOk.nil mixed N Tryd.func59 (c := (bodyOf Tryd.f59)) (by kernel_rfl) impl_word.sg (by kernel_rfl) (by kernel_rfl) (by kernel_rfl) (impl_word.run N)

@[reducible] def impl_within.sg : Sg := { ms := [{ k := (.int .i64) }, { k := (.int .i64) }, { k := (.int .i64) }], keep := [false, false, false], rs := [{ k := .bool }] }
noncomputable def impl_within.A : Ann := { dp := fun d => isIn [] d, lp := look [], jn := look [], pins := [], nt := 15 }
noncomputable def impl_within.phis (N : Nat) : List (Nat × Sm D) := []
theorem impl_within.run (N : Nat) (x : Int × Int × Int × Unit) : runF cx (look (impl_within.phis N)) impl_within.A N (bodyOf Tryd.f43) Tryd.f43.results.toList impl_within.sg x = impl_within N x.1 x.2.1 x.2.2.1 := by
  have h : runF cx (look (impl_within.phis N)) impl_within.A N (bodyOf Tryd.f43) Tryd.f43.results.toList impl_within.sg x = impl_within.B N x.1 x.2.1 x.2.2.1 := by kernel_rfl
  rw [h]
  try rfl
noncomputable def impl_within.sm (N : Nat) : Sm D := (⟨impl_within.sg, fun (x : Int × Int × Int × Unit) => impl_within N x.1 x.2.1 x.2.2.1⟩ : Sm D)
theorem impl_within.sound (N : Nat) : Sound cx Tryd.prog gam 43 (impl_within.sm N) := fn_sound (A := impl_within.A) (Φ := (look (impl_within.phis N))) pok (G := gam) ΦOk.nil mixed N Tryd.func43 (c := (bodyOf Tryd.f43)) (by kernel_rfl) impl_within.sg (by kernel_rfl) (by kernel_rfl) (by kernel_rfl) (impl_within.run N)

@[reducible] def impl_shown.sg : Sg := { ms := [{ k := .str }], keep := [false], rs := [{ k := .bool }] }
noncomputable def impl_shown.A : Ann := { dp := fun d => isIn [] d, lp := look [], jn := look [], pins := [], nt := 24 }
noncomputable def impl_shown.phis (N : Nat) : List (Nat × Sm D) := [(59, impl_word.sm N), (60, LibAtoi.sm N), (43, impl_within.sm N), (52, LibItoa.sm N)]
theorem impl_shown.run (N : Nat) (x : (List UInt8) × Unit) : runF cx (look (impl_shown.phis N)) impl_shown.A N (bodyOf Tryd.f42) Tryd.f42.results.toList impl_shown.sg x = impl_shown N x.1 := by
  have h : runF cx (look (impl_shown.phis N)) impl_shown.A N (bodyOf Tryd.f42) Tryd.f42.results.toList impl_shown.sg x = impl_shown.B N x.1 := by kernel_rfl
  rw [h]
  try rfl
noncomputable def impl_shown.sm (N : Nat) : Sm D := (⟨impl_shown.sg, fun (x : (List UInt8) × Unit) => impl_shown N x.1⟩ : Sm D)
theorem impl_shown.sound (N : Nat) : Sound cx Tryd.prog gam 42 (impl_shown.sm N) := fn_sound (A := impl_shown.A) (Φ := (look (impl_shown.phis N))) pok (G := gam) (ΦOk.cons (impl_word.sound N) (fnOk_of (f := 59) (by kernel_rfl)) (ΦOk.cons (LibAtoi.sound N) (fnOk_of (f := 60) (by kernel_rfl)) (ΦOk.cons (impl_within.sound N) (fnOk_of (f := 43) (by kernel_rfl)) (ΦOk.cons (LibItoa.sound N) (fnOk_of (f := 52) (by kernel_rfl)) ΦOk.nil)))) mixed N Tryd.func42 (c := (bodyOf Tryd.f42)) (by kernel_rfl) impl_shown.sg (by kernel_rfl) (by kernel_rfl) (by kernel_rfl) (impl_shown.run N)

@[reducible] def impl_ValOk.sg : Sg := { ms := [{ k := (.st 52) }], keep := [false], rs := [{ k := .bool }] }
noncomputable def impl_ValOk.A : Ann := { dp := fun d => isIn [] d, lp := look [], jn := look [], pins := [], nt := 35 }
noncomputable def impl_ValOk.phis (N : Nat) : List (Nat × Sm D) := [(43, impl_within.sm N), (59, impl_word.sm N)]
theorem impl_ValOk.run (N : Nat) (x : ImplValue × Unit) : runF cx (look (impl_ValOk.phis N)) impl_ValOk.A N (bodyOf Tryd.f44) Tryd.f44.results.toList impl_ValOk.sg x = impl_ValOk N x.1 := by
  have h : runF cx (look (impl_ValOk.phis N)) impl_ValOk.A N (bodyOf Tryd.f44) Tryd.f44.results.toList impl_ValOk.sg x = impl_ValOk.B N x.1 := by kernel_rfl
  rw [h]
  try rfl
noncomputable def impl_ValOk.sm (N : Nat) : Sm D := (⟨impl_ValOk.sg, fun (x : ImplValue × Unit) => impl_ValOk N x.1⟩ : Sm D)
theorem impl_ValOk.sound (N : Nat) : Sound cx Tryd.prog gam 44 (impl_ValOk.sm N) := fn_sound (A := impl_ValOk.A) (Φ := (look (impl_ValOk.phis N))) pok (G := gam) (ΦOk.cons (impl_within.sound N) (fnOk_of (f := 43) (by kernel_rfl)) (ΦOk.cons (impl_word.sound N) (fnOk_of (f := 59) (by kernel_rfl)) ΦOk.nil)) mixed N Tryd.func44 (c := (bodyOf Tryd.f44)) (by kernel_rfl) impl_ValOk.sg (by kernel_rfl) (by kernel_rfl) (by kernel_rfl) (impl_ValOk.run N)

@[reducible] def impl_treeFits.sg : Sg := { ms := [{ k := (.st 31) }, { k := (.int .i64) }, { ptr := true, id := 50, t := 3, k := (.int .i64) }], keep := [false, false, true], rs := [{ k := .bool }] }
@[reducible] def impl_treeFits.lvL2 : Lv := { id := 2, slots := [1, 2, 9, 100, 101, 102], ms := [{ k := (.int .i64) }, { ptr := true, id := 50, t := 3, k := (.int .i64), fl := [none] }, { ptr := true, id := 640, t := 777777, k := (.sl (.int .i64)), fl := [none] }, { k := (.sl (.st 31)), fl := [none] }, { k := (.int .i64) }, { k := (.int .i64) }] }
@[reducible] def impl_treeFits.lvL0 : Lv := { id := 0, slots := [1, 2, 3, 64, 65, 66], ms := [{ k := (.int .i64) }, { ptr := true, id := 50, t := 3, k := (.int .i64), fl := [none] }, { ptr := true, id := 640, t := 32, k := (.st 31), fl := [none, none, none, none, none] }, { k := (.sl (.st 58)), fl := [none] }, { k := (.int .i64) }, { k := (.int .i64) }] }
noncomputable def impl_treeFits.A : Ann := { dp := fun d => isIn [] d, lp := look [(2, impl_treeFits.lvL2), (0, impl_treeFits.lvL0)], jn := look [], pins := [50], nt := 125 }
noncomputable def impl_treeFits.phis (N : Nat) (d : Nat) : List (Nat × Sm D) := [(42, impl_shown.sm N), (43, impl_within.sm N), (44, impl_ValOk.sm N), (31, (⟨impl_treeFits.sg, fun (x : ImplTree × Int × Int × Unit) => impl_treeFits.R N d x.1 x.2.1 x.2.2.1⟩ : Sm D))]
noncomputable def impl_treeFits.a2 (N : Nat) (d : Nat) (n : Nat) (y : Int × Int × (List (Int)) × (List (ImplTree)) × Int × Int × Unit) : Option (Int × Bool × Unit) := loopAt cx (look (impl_treeFits.phis N d)) impl_treeFits.A N n (encL cx impl_treeFits.lvL2.ms y).1 (encL cx impl_treeFits.lvL2.ms y).2 (bodyOf Tryd.f31) 0 (Kfin cx impl_treeFits.A impl_treeFits.sg Tryd.f31.results.toList) [1, 1, 1, 1, 1, 1, 1, 0, 1, 1] []
noncomputable def impl_treeFits.a0 (N : Nat) (d : Nat) (n : Nat) (y : Int × Int × ImplTree × (List (ImplProp)) × Int × Int × Unit) : Option (Int × Bool × Unit) := loopAt cx (look (impl_treeFits.phis N d)) impl_treeFits.A N n (encL cx impl_treeFits.lvL0.ms y).1 (encL cx impl_treeFits.lvL0.ms y).2 (bodyOf Tryd.f31) 0 (Kfin cx impl_treeFits.A impl_treeFits.sg Tryd.f31.results.toList) [1, 1, 1, 1, 1, 0, 1, 1] []
theorem impl_treeFits.r2 (N : Nat) (d : Nat) : ∀ (n : Nat) (y : Int × Int × (List (Int)) × (List (ImplTree)) × Int × Int × Unit), impl_treeFits.a2 N d n y = impl_treeFits.L2 N (impl_treeFits.R N d) n y
  | 0, y => by kernel_rfl
  | n + 1, y => by
    have h : impl_treeFits.a2 N d (n + 1) y = impl_treeFits.B2 N (impl_treeFits.R N d) (fun z => impl_treeFits.a2 N d n z) y := by kernel_rfl
    have e : (fun z => impl_treeFits.a2 N d n z) = impl_treeFits.L2 N (impl_treeFits.R N d) n := funext fun z => impl_treeFits.r2 N d n z
    rw [h]
    try rw [e]
    first | done | rfl
theorem impl_treeFits.r0 (N : Nat) (d : Nat) : ∀ (n : Nat) (y : Int × Int × ImplTree × (List (ImplProp)) × Int × Int × Unit), impl_treeFits.a0 N d n y = impl_treeFits.L0 N (impl_treeFits.R N d) n y
  | 0, y => by kernel_rfl
  | n + 1, y => by
    have h : impl_treeFits.a0 N d (n + 1) y = impl_treeFits.B0 N (impl_treeFits.R N d) (fun z => impl_treeFits.a0 N d n z) (fun z => impl_treeFits.a2 N d N z) y := by kernel_rfl
    have e : (fun z => impl_treeFits.a0 N d n z) = impl_treeFits.L0 N (impl_treeFits.R N d) n := funext fun z => impl_treeFits.r0 N d n z
    have e2 : (fun z => impl_treeFits.a2 N d N z) = impl_treeFits.L2 N (impl_treeFits.R N d) N := funext fun z => impl_treeFits.r2 N d N z
    rw [h, e2]
    try rw [e]
    first | done | rfl
theorem impl_treeFits.run (N : Nat) (d : Nat) (x : ImplTree × Int × Int × Unit) : runF cx (look (impl_treeFits.phis N d)) impl_treeFits.A N (bodyOf Tryd.f31) Tryd.f31.results.toList impl_treeFits.sg x = impl_treeFits.R N (d + 1) x.1 x.2.1 x.2.2.1 := by
  have h : runF cx (look (impl_treeFits.phis N d)) impl_treeFits.A N (bodyOf Tryd.f31) Tryd.f31.results.toList impl_treeFits.sg x = impl_treeFits.B N (impl_treeFits.R N d) (fun z => impl_treeFits.a0 N d N z) x.1 x.2.1 x.2.2.1 := by kernel_rfl
  have e0 : (fun z => impl_treeFits.a0 N d N z) = impl_treeFits.L0 N (impl_treeFits.R N d) N := funext fun z => impl_treeFits.r0 N d N z
  rw [h, e0]
  try rfl
theorem impl_treeFits.step (N : Nat) (d : Nat) (h_impl_treeFits : Sound cx Tryd.prog gam 31 (⟨impl_treeFits.sg, fun (x : ImplTree × Int × Int × Unit) => impl_treeFits.R N d x.1 x.2.1 x.2.2.1⟩ : Sm D)) : Sound cx Tryd.prog gam 31 (⟨impl_treeFits.sg, fun (x : ImplTree × Int × Int × Unit) => impl_treeFits.R N (d + 1) x.1 x.2.1 x.2.2.1⟩ : Sm D) := fn_sound (A := impl_treeFits.A) (Φ := (look (impl_treeFits.phis N d))) pok (G := gam) (ΦOk.cons (impl_shown.sound N) (fnOk_of (f := 42) (by kernel_rfl)) (ΦOk.cons (impl_within.sound N) (fnOk_of (f := 43) (by kernel_rfl)) (ΦOk.cons (impl_ValOk.sound N) (fnOk_of (f := 44) (by kernel_rfl)) (ΦOk.cons h_impl_treeFits (fnOk_of (f := 31) (by kernel_rfl)) ΦOk.nil)))) mixed N Tryd.func31 (c := (bodyOf Tryd.f31)) (by kernel_rfl) impl_treeFits.sg (by kernel_rfl) (by kernel_rfl) (by kernel_rfl) (impl_treeFits.run N d)

theorem impl_treeFits.scc (N : Nat) : ∀ d, Sound cx Tryd.prog gam 31 (⟨impl_treeFits.sg, fun (x : ImplTree × Int × Int × Unit) => impl_treeFits.R N d x.1 x.2.1 x.2.2.1⟩ : Sm D)
  | 0 => none_sound 31 impl_treeFits.sg
  | d + 1 => by
    have ih := impl_treeFits.scc N d
    exact impl_treeFits.step N d ih
noncomputable def impl_treeFits.sm (N : Nat) : Sm D := (⟨impl_treeFits.sg, fun (x : ImplTree × Int × Int × Unit) => impl_treeFits.R N N x.1 x.2.1 x.2.2.1⟩ : Sm D)
theorem impl_treeFits.sound (N : Nat) : Sound cx Tryd.prog gam 31 (impl_treeFits.sm N) := (impl_treeFits.scc N N)
@[reducible] def impl_TreeOk.sg : Sg := { ms := [{ k := (.st 31) }], keep := [false], rs := [{ k := .bool }] }
noncomputable def impl_TreeOk.A : Ann := { dp := fun d => isIn [] d, lp := look [], jn := look [], pins := [], nt := 6 }
noncomputable def impl_TreeOk.phis (N : Nat) : List (Nat × Sm D) := [(31, impl_treeFits.sm N)]
theorem impl_TreeOk.run (N : Nat) (x : ImplTree × Unit) : runF cx (look (impl_TreeOk.phis N)) impl_TreeOk.A N (bodyOf Tryd.f19) Tryd.f19.results.toList impl_TreeOk.sg x = impl_TreeOk N x.1 := by
  have h : runF cx (look (impl_TreeOk.phis N)) impl_TreeOk.A N (bodyOf Tryd.f19) Tryd.f19.results.toList impl_TreeOk.sg x = impl_TreeOk.B N x.1 := by kernel_rfl
  rw [h]
  try rfl
noncomputable def impl_TreeOk.sm (N : Nat) : Sm D := (⟨impl_TreeOk.sg, fun (x : ImplTree × Unit) => impl_TreeOk N x.1⟩ : Sm D)
theorem impl_TreeOk.sound (N : Nat) : Sound cx Tryd.prog gam 19 (impl_TreeOk.sm N) := fn_sound (A := impl_TreeOk.A) (Φ := (look (impl_TreeOk.phis N))) pok (G := gam) (ΦOk.cons (impl_treeFits.sound N) (fnOk_of (f := 31) (by kernel_rfl)) ΦOk.nil) mixed N Tryd.func19 (c := (bodyOf Tryd.f19)) (by kernel_rfl) impl_TreeOk.sg (by kernel_rfl) (by kernel_rfl) (by kernel_rfl) (impl_TreeOk.run N)

@[reducible] def impl_quote.sg : Sg := { ms := [{ k := .str }], keep := [false], rs := [{ k := .str }] }
noncomputable def impl_quote.A : Ann := { dp := fun d => isIn [] d, lp := look [], jn := look [], pins := [], nt := 6 }
noncomputable def impl_quote.phis (N : Nat) : List (Nat × Sm D) := []
theorem impl_quote.run (N : Nat) (x : (List UInt8) × Unit) : runF cx (look (impl_quote.phis N)) impl_quote.A N (bodyOf Tryd.f51) Tryd.f51.results.toList impl_quote.sg x = impl_quote N x.1 := by
  have h : runF cx (look (impl_quote.phis N)) impl_quote.A N (bodyOf Tryd.f51) Tryd.f51.results.toList impl_quote.sg x = impl_quote.B N x.1 := by kernel_rfl
  rw [h]
  try rfl
noncomputable def impl_quote.sm (N : Nat) : Sm D := (⟨impl_quote.sg, fun (x : (List UInt8) × Unit) => impl_quote N x.1⟩ : Sm D)
theorem impl_quote.sound (N : Nat) : Sound cx Tryd.prog gam 51 (impl_quote.sm N) := fn_sound (A := impl_quote.A) (Φ := (look (impl_quote.phis N))) pok (G := gam) ΦOk.nil mixed N Tryd.func51 (c := (bodyOf Tryd.f51)) (by kernel_rfl) impl_quote.sg (by kernel_rfl) (by kernel_rfl) (by kernel_rfl) (impl_quote.run N)

@[reducible] def impl_valText.sg : Sg := { ms := [{ k := (.st 52) }], keep := [false], rs := [{ k := .str }] }
noncomputable def impl_valText.A : Ann := { dp := fun d => isIn [] d, lp := look [], jn := look [], pins := [], nt := 15 }
noncomputable def impl_valText.phis (N : Nat) : List (Nat × Sm D) := [(52, LibItoa.sm N), (51, impl_quote.sm N)]
theorem impl_valText.run (N : Nat) (x : ImplValue × Unit) : runF cx (look (impl_valText.phis N)) impl_valText.A N (bodyOf Tryd.f53) Tryd.f53.results.toList impl_valText.sg x = impl_valText N x.1 := by
  have h : runF cx (look (impl_valText.phis N)) impl_valText.A N (bodyOf Tryd.f53) Tryd.f53.results.toList impl_valText.sg x = impl_valText.B N x.1 := by kernel_rfl
  rw [h]
  try rfl
noncomputable def impl_valText.sm (N : Nat) : Sm D := (⟨impl_valText.sg, fun (x : ImplValue × Unit) => impl_valText N x.1⟩ : Sm D)
theorem impl_valText.sound (N : Nat) : Sound cx Tryd.prog gam 53 (impl_valText.sm N) := fn_sound (A := impl_valText.A) (Φ := (look (impl_valText.phis N))) pok (G := gam) (ΦOk.cons (LibItoa.sound N) (fnOk_of (f := 52) (by kernel_rfl)) (ΦOk.cons (impl_quote.sound N) (fnOk_of (f := 51) (by kernel_rfl)) ΦOk.nil)) mixed N Tryd.func53 (c := (bodyOf Tryd.f53)) (by kernel_rfl) impl_valText.sg (by kernel_rfl) (by kernel_rfl) (by kernel_rfl) (impl_valText.run N)

@[reducible] def impl_treeWrite.sg : Sg := { ms := [{ k := (.st 31) }], keep := [false], rs := [{ k := .str }] }
@[reducible] def impl_treeWrite.lvL2 : Lv := { id := 2, slots := [3, 47, 48, 49], ms := [{ k := .str }, { k := (.sl (.st 31)), fl := [none] }, { k := (.int .i64) }, { k := (.int .i64) }] }
@[reducible] def impl_treeWrite.lvL0 : Lv := { id := 0, slots := [1, 3, 28, 29, 30], ms := [{ ptr := true, id := 600, t := 32, k := (.st 31), fl := [none, none, none, none, none] }, { k := .str }, { k := (.sl (.st 58)), fl := [none] }, { k := (.int .i64) }, { k := (.int .i64) }] }
@[reducible] def impl_treeWrite.lvJ6 : Lv := { id := 6, slots := [1, 3], ms := [{ ptr := true, id := 600, t := 32, k := (.st 31), fl := [none, none, none, none, none] }, { k := .str }] }
noncomputable def impl_treeWrite.A : Ann := { dp := fun d => isIn [] d, lp := look [(2, impl_treeWrite.lvL2), (0, impl_treeWrite.lvL0)], jn := look [(6, impl_treeWrite.lvJ6)], pins := [], nt := 61 }
noncomputable def impl_treeWrite.phis (N : Nat) (d : Nat) : List (Nat × Sm D) := [(51, impl_quote.sm N), (52, LibItoa.sm N), (53, impl_valText.sm N), (33, (⟨impl_treeWrite.sg, fun (x : ImplTree × Unit) => impl_treeWrite.R N d x.1⟩ : Sm D))]
noncomputable def impl_treeWrite.a2 (N : Nat) (d : Nat) (n : Nat) (y : (List UInt8) × (List (ImplTree)) × Int × Int × Unit) : Option ((List UInt8) × Unit) := loopAt cx (look (impl_treeWrite.phis N d)) impl_treeWrite.A N n (encL cx impl_treeWrite.lvL2.ms y).1 (encL cx impl_treeWrite.lvL2.ms y).2 (bodyOf Tryd.f33) 0 (Kfin cx impl_treeWrite.A impl_treeWrite.sg Tryd.f33.results.toList) [1, 1, 1, 1, 1, 0, 1, 1] []
noncomputable def impl_treeWrite.a0 (N : Nat) (d : Nat) (n : Nat) (y : ImplTree × (List UInt8) × (List (ImplProp)) × Int × Int × Unit) : Option ((List UInt8) × Unit) := loopAt cx (look (impl_treeWrite.phis N d)) impl_treeWrite.A N n (encL cx impl_treeWrite.lvL0.ms y).1 (encL cx impl_treeWrite.lvL0.ms y).2 (bodyOf Tryd.f33) 0 (Kfin cx impl_treeWrite.A impl_treeWrite.sg Tryd.f33.results.toList) [1, 1, 1, 1, 0, 1, 1] []
theorem impl_treeWrite.r2 (N : Nat) (d : Nat) : ∀ (n : Nat) (y : (List UInt8) × (List (ImplTree)) × Int × Int × Unit), impl_treeWrite.a2 N d n y = impl_treeWrite.L2 N (impl_treeWrite.R N d) n y
  | 0, y => by kernel_rfl
  | n + 1, y => by
    have h : impl_treeWrite.a2 N d (n + 1) y = impl_treeWrite.B2 N (impl_treeWrite.R N d) (fun z => impl_treeWrite.a2 N d n z) y := by kernel_rfl
    have e : (fun z => impl_treeWrite.a2 N d n z) = impl_treeWrite.L2 N (impl_treeWrite.R N d) n := funext fun z => impl_treeWrite.r2 N d n z
    rw [h]
    try rw [e]
    first | done | rfl
theorem impl_treeWrite.r0 (N : Nat) (d : Nat) : ∀ (n : Nat) (y : ImplTree × (List UInt8) × (List (ImplProp)) × Int × Int × Unit), impl_treeWrite.a0 N d n y = impl_treeWrite.L0 N (impl_treeWrite.R N d) n y
  | 0, y => by kernel_rfl
  | n + 1, y => by
    have h : impl_treeWrite.a0 N d (n + 1) y = impl_treeWrite.B0 N (impl_treeWrite.R N d) (fun z => impl_treeWrite.a0 N d n z) (fun z => impl_treeWrite.a2 N d N z) y := by kernel_rfl
    have e : (fun z => impl_treeWrite.a0 N d n z) = impl_treeWrite.L0 N (impl_treeWrite.R N d) n := funext fun z => impl_treeWrite.r0 N d n z
    have e2 : (fun z => impl_treeWrite.a2 N d N z) = impl_treeWrite.L2 N (impl_treeWrite.R N d) N := funext fun z => impl_treeWrite.r2 N d N z
    rw [h, e2]
    try rw [e]
    first | done | rfl
theorem impl_treeWrite.run (N : Nat) (d : Nat) (x : ImplTree × Unit) : runF cx (look (impl_treeWrite.phis N d)) impl_treeWrite.A N (bodyOf Tryd.f33) Tryd.f33.results.toList impl_treeWrite.sg x = impl_treeWrite.R N (d + 1) x.1 := by
  have h : runF cx (look (impl_treeWrite.phis N d)) impl_treeWrite.A N (bodyOf Tryd.f33) Tryd.f33.results.toList impl_treeWrite.sg x = impl_treeWrite.B N (impl_treeWrite.R N d) (fun z => impl_treeWrite.a0 N d N z) x.1 := by kernel_rfl
  have e0 : (fun z => impl_treeWrite.a0 N d N z) = impl_treeWrite.L0 N (impl_treeWrite.R N d) N := funext fun z => impl_treeWrite.r0 N d N z
  rw [h, e0]
  try rfl
theorem impl_treeWrite.step (N : Nat) (d : Nat) (h_impl_treeWrite : Sound cx Tryd.prog gam 33 (⟨impl_treeWrite.sg, fun (x : ImplTree × Unit) => impl_treeWrite.R N d x.1⟩ : Sm D)) : Sound cx Tryd.prog gam 33 (⟨impl_treeWrite.sg, fun (x : ImplTree × Unit) => impl_treeWrite.R N (d + 1) x.1⟩ : Sm D) := fn_sound (A := impl_treeWrite.A) (Φ := (look (impl_treeWrite.phis N d))) pok (G := gam) (ΦOk.cons (impl_quote.sound N) (fnOk_of (f := 51) (by kernel_rfl)) (ΦOk.cons (LibItoa.sound N) (fnOk_of (f := 52) (by kernel_rfl)) (ΦOk.cons (impl_valText.sound N) (fnOk_of (f := 53) (by kernel_rfl)) (ΦOk.cons h_impl_treeWrite (fnOk_of (f := 33) (by kernel_rfl)) ΦOk.nil)))) mixed N Tryd.func33 (c := (bodyOf Tryd.f33)) (by kernel_rfl) impl_treeWrite.sg (by kernel_rfl) (by kernel_rfl) (by kernel_rfl) (impl_treeWrite.run N d)

theorem impl_treeWrite.scc (N : Nat) : ∀ d, Sound cx Tryd.prog gam 33 (⟨impl_treeWrite.sg, fun (x : ImplTree × Unit) => impl_treeWrite.R N d x.1⟩ : Sm D)
  | 0 => none_sound 33 impl_treeWrite.sg
  | d + 1 => by
    have ih := impl_treeWrite.scc N d
    exact impl_treeWrite.step N d ih
noncomputable def impl_treeWrite.sm (N : Nat) : Sm D := (⟨impl_treeWrite.sg, fun (x : ImplTree × Unit) => impl_treeWrite.R N N x.1⟩ : Sm D)
theorem impl_treeWrite.sound (N : Nat) : Sound cx Tryd.prog gam 33 (impl_treeWrite.sm N) := (impl_treeWrite.scc N N)
@[reducible] def impl_outline.sg : Sg := { ms := [{ k := (.st 31) }, { k := (.int .i64) }], keep := [false, false], rs := [{ k := (.sl .str), fl := [some (false, 411)] }] }
@[reducible] def impl_outline.lvL0 : Lv := { id := 0, slots := [1, 6, 18, 19, 20], ms := [{ k := (.int .i64) }, { k := (.sl .str), fl := [some (false, 620)] }, { k := (.sl (.st 31)), fl := [none] }, { k := (.int .i64) }, { k := (.int .i64) }] }
noncomputable def impl_outline.A : Ann := { dp := fun d => isIn [] d, lp := look [(0, impl_outline.lvL0)], jn := look [], pins := [], nt := 32 }
noncomputable def impl_outline.phis (N : Nat) (d : Nat) : List (Nat × Sm D) := [(32, LibRepeat.sm N), (33, impl_treeWrite.sm N), (20, (⟨impl_outline.sg, fun (x : ImplTree × Int × Unit) => impl_outline.R N d x.1 x.2.1⟩ : Sm D))]
noncomputable def impl_outline.a0 (N : Nat) (d : Nat) (n : Nat) (y : Int × (List (List UInt8)) × (List (ImplTree)) × Int × Int × Unit) : Option ((List (List UInt8)) × Unit) := loopAt cx (look (impl_outline.phis N d)) impl_outline.A N n (encL cx impl_outline.lvL0.ms y).1 (encL cx impl_outline.lvL0.ms y).2 (bodyOf Tryd.f20) 0 (Kfin cx impl_outline.A impl_outline.sg Tryd.f20.results.toList) [1, 1, 1, 1, 0, 1, 1] []
theorem impl_outline.r0 (N : Nat) (d : Nat) : ∀ (n : Nat) (y : Int × (List (List UInt8)) × (List (ImplTree)) × Int × Int × Unit), impl_outline.a0 N d n y = impl_outline.L0 N (impl_outline.R N d) n y
  | 0, y => by kernel_rfl
  | n + 1, y => by
    have h : impl_outline.a0 N d (n + 1) y = impl_outline.B0 N (impl_outline.R N d) (fun z => impl_outline.a0 N d n z) y := by kernel_rfl
    have e : (fun z => impl_outline.a0 N d n z) = impl_outline.L0 N (impl_outline.R N d) n := funext fun z => impl_outline.r0 N d n z
    rw [h]
    try rw [e]
    first | done | rfl
theorem impl_outline.run (N : Nat) (d : Nat) (x : ImplTree × Int × Unit) : runF cx (look (impl_outline.phis N d)) impl_outline.A N (bodyOf Tryd.f20) Tryd.f20.results.toList impl_outline.sg x = impl_outline.R N (d + 1) x.1 x.2.1 := by
  have h : runF cx (look (impl_outline.phis N d)) impl_outline.A N (bodyOf Tryd.f20) Tryd.f20.results.toList impl_outline.sg x = impl_outline.B N (impl_outline.R N d) (fun z => impl_outline.a0 N d N z) x.1 x.2.1 := by kernel_rfl
  have e0 : (fun z => impl_outline.a0 N d N z) = impl_outline.L0 N (impl_outline.R N d) N := funext fun z => impl_outline.r0 N d N z
  rw [h, e0]
  try rfl
theorem impl_outline.step (N : Nat) (d : Nat) (h_impl_outline : Sound cx Tryd.prog gam 20 (⟨impl_outline.sg, fun (x : ImplTree × Int × Unit) => impl_outline.R N d x.1 x.2.1⟩ : Sm D)) : Sound cx Tryd.prog gam 20 (⟨impl_outline.sg, fun (x : ImplTree × Int × Unit) => impl_outline.R N (d + 1) x.1 x.2.1⟩ : Sm D) := fn_sound (A := impl_outline.A) (Φ := (look (impl_outline.phis N d))) pok (G := gam) (ΦOk.cons (LibRepeat.sound N) (fnOk_of (f := 32) (by kernel_rfl)) (ΦOk.cons (impl_treeWrite.sound N) (fnOk_of (f := 33) (by kernel_rfl)) (ΦOk.cons h_impl_outline (fnOk_of (f := 20) (by kernel_rfl)) ΦOk.nil))) mixed N Tryd.func20 (c := (bodyOf Tryd.f20)) (by kernel_rfl) impl_outline.sg (by kernel_rfl) (by kernel_rfl) (by kernel_rfl) (impl_outline.run N d)

theorem impl_outline.scc (N : Nat) : ∀ d, Sound cx Tryd.prog gam 20 (⟨impl_outline.sg, fun (x : ImplTree × Int × Unit) => impl_outline.R N d x.1 x.2.1⟩ : Sm D)
  | 0 => none_sound 20 impl_outline.sg
  | d + 1 => by
    have ih := impl_outline.scc N d
    exact impl_outline.step N d ih
noncomputable def impl_outline.sm (N : Nat) : Sm D := (⟨impl_outline.sg, fun (x : ImplTree × Int × Unit) => impl_outline.R N N x.1 x.2.1⟩ : Sm D)
theorem impl_outline.sound (N : Nat) : Sound cx Tryd.prog gam 20 (impl_outline.sm N) := (impl_outline.scc N N)
end
end Go.Ev
