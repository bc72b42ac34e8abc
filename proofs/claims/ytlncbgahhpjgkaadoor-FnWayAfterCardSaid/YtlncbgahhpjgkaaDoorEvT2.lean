/- Each function that the law reaches does what its plain form says; no condition beyond the table of the library. -/
import Derived.Test.YtlncbgahhpjgkaaDoorEvT1
set_option linter.all false
set_option linter.unusedVariables false
set_option linter.unusedSimpArgs false
set_option maxRecDepth 100000
set_option maxHeartbeats 0
namespace Go.Ev
noncomputable section
open Go.Proofs
@[reducible] def spec_validPart.sg : Sg := { ms := [{ k := (.st 25) }], keep := [false], rs := [{ k := .bool }] }
@[reducible] def spec_validPart.lvL0 : Lv := { id := 0, slots := [1, 3], ms := [{ ptr := true, id := 600, t := 26, k := (.st 25), fl := [none, none, none, none, none] }, { k := (.int .i64) }] }
noncomputable def spec_validPart.A : Ann := { dp := fun d => isIn [] d, lp := look [(0, spec_validPart.lvL0)], jn := look [], pins := [], nt := 65 }
noncomputable def spec_validPart.phis (N : Nat) (d : Nat) : List (Nat × Sm D) := [(39, spec_validShown.sm N), (29, spec_inRange.sm N), (40, spec_validPropList.sm N), (28, (⟨spec_validPart.sg, fun (x : ImplTree × Unit) => spec_validPart.R N d x.1⟩ : Sm D)), (41, spec_keysApart.sm N)]
noncomputable def spec_validPart.a0 (N : Nat) (d : Nat) (n : Nat) (y : ImplTree × Int × Unit) : Option (Bool × Unit) := loopAt cx (look (spec_validPart.phis N d)) spec_validPart.A N n (encL cx spec_validPart.lvL0.ms y).1 (encL cx spec_validPart.lvL0.ms y).2 (bodyOf Tryd.f28) 0 (Kfin cx spec_validPart.A spec_validPart.sg Tryd.f28.results.toList) [1, 1, 1, 0, 1, 1] []
theorem spec_validPart.r0 (N : Nat) (d : Nat) : ∀ (n : Nat) (y : ImplTree × Int × Unit), spec_validPart.a0 N d n y = spec_validPart.L0 N (spec_validPart.R N d) n y
  | 0, y => by kernel_rfl
  | n + 1, y => by
    have h : spec_validPart.a0 N d (n + 1) y = spec_validPart.B0 N (spec_validPart.R N d) (fun z => spec_validPart.a0 N d n z) y := by kernel_rfl
    have e : (fun z => spec_validPart.a0 N d n z) = spec_validPart.L0 N (spec_validPart.R N d) n := funext fun z => spec_validPart.r0 N d n z
    rw [h]
    try rw [e]
    first | done | rfl
theorem spec_validPart.run (N : Nat) (d : Nat) (x : ImplTree × Unit) : runF cx (look (spec_validPart.phis N d)) spec_validPart.A N (bodyOf Tryd.f28) Tryd.f28.results.toList spec_validPart.sg x = spec_validPart.R N (d + 1) x.1 := by
  have h : runF cx (look (spec_validPart.phis N d)) spec_validPart.A N (bodyOf Tryd.f28) Tryd.f28.results.toList spec_validPart.sg x = spec_validPart.B N (spec_validPart.R N d) (fun z => spec_validPart.a0 N d N z) x.1 := by kernel_rfl
  have e0 : (fun z => spec_validPart.a0 N d N z) = spec_validPart.L0 N (spec_validPart.R N d) N := funext fun z => spec_validPart.r0 N d N z
  rw [h, e0]
  try rfl
theorem spec_validPart.step (N : Nat) (d : Nat) (h_spec_validPart : Sound cx Tryd.prog gam 28 (⟨spec_validPart.sg, fun (x : ImplTree × Unit) => spec_validPart.R N d x.1⟩ : Sm D)) : Sound cx Tryd.prog gam 28 (⟨spec_validPart.sg, fun (x : ImplTree × Unit) => spec_validPart.R N (d + 1) x.1⟩ : Sm D) := fn_sound (A := spec_validPart.A) (Φ := (look (spec_validPart.phis N d))) pok (G := gam) (ΦOk.cons (spec_validShown.sound N) (fnOk_of (f := 39) (by kernel_rfl)) (ΦOk.cons (spec_inRange.sound N) (fnOk_of (f := 29) (by kernel_rfl)) (ΦOk.cons (spec_validPropList.sound N) (fnOk_of (f := 40) (by kernel_rfl)) (ΦOk.cons h_spec_validPart (fnOk_of (f := 28) (by kernel_rfl)) (ΦOk.cons (spec_keysApart.sound N) (fnOk_of (f := 41) (by kernel_rfl)) ΦOk.nil))))) mixed N Tryd.func28 (c := (bodyOf Tryd.f28)) (by kernel_rfl) spec_validPart.sg (by kernel_rfl) (by kernel_rfl) (by kernel_rfl) (spec_validPart.run N d)

theorem spec_validPart.scc (N : Nat) : ∀ d, Sound cx Tryd.prog gam 28 (⟨spec_validPart.sg, fun (x : ImplTree × Unit) => spec_validPart.R N d x.1⟩ : Sm D)
  | 0 => none_sound 28 spec_validPart.sg
  | d + 1 => by
    have ih := spec_validPart.scc N d
    exact spec_validPart.step N d ih
noncomputable def spec_validPart.sm (N : Nat) : Sm D := (⟨spec_validPart.sg, fun (x : ImplTree × Unit) => spec_validPart.R N N x.1⟩ : Sm D)
theorem spec_validPart.sound (N : Nat) : Sound cx Tryd.prog gam 28 (spec_validPart.sm N) := (spec_validPart.scc N N)
@[reducible] def spec_validTree.sg : Sg := { ms := [{ k := (.st 25) }], keep := [false], rs := [{ k := .bool }] }
noncomputable def spec_validTree.A : Ann := { dp := fun d => isIn [] d, lp := look [], jn := look [], pins := [], nt := 10 }
noncomputable def spec_validTree.phis (N : Nat) : List (Nat × Sm D) := [(27, spec_treeSize.sm N), (28, spec_validPart.sm N)]
theorem spec_validTree.run (N : Nat) (x : ImplTree × Unit) : runF cx (look (spec_validTree.phis N)) spec_validTree.A N (bodyOf Tryd.f15) Tryd.f15.results.toList spec_validTree.sg x = spec_validTree N x.1 := by
  have h : runF cx (look (spec_validTree.phis N)) spec_validTree.A N (bodyOf Tryd.f15) Tryd.f15.results.toList spec_validTree.sg x = spec_validTree.B N x.1 := by kernel_rfl
  rw [h]
  try rfl
noncomputable def spec_validTree.sm (N : Nat) : Sm D := (⟨spec_validTree.sg, fun (x : ImplTree × Unit) => spec_validTree N x.1⟩ : Sm D)
theorem spec_validTree.sound (N : Nat) : Sound cx Tryd.prog gam 15 (spec_validTree.sm N) := fn_sound (A := spec_validTree.A) (Φ := (look (spec_validTree.phis N))) pok (G := gam) (ΦOk.cons (spec_treeSize.sound N) (fnOk_of (f := 27) (by kernel_rfl)) (ΦOk.cons (spec_validPart.sound N) (fnOk_of (f := 28) (by kernel_rfl)) ΦOk.nil)) mixed N Tryd.func15 (c := (bodyOf Tryd.f15)) (by kernel_rfl) spec_validTree.sg (by kernel_rfl) (by kernel_rfl) (by kernel_rfl) (spec_validTree.run N)

@[reducible] def spec_partAt.sg : Sg := { ms := [{ k := (.st 25) }, { k := (.sl (.int .i64)), fl := [none] }], keep := [false, false], rs := [{ k := (.st 25) }, { k := .bool }], hold := true }
@[reducible] def spec_partAt.lvL0 : Lv := { id := 0, slots := [1, 2, 4, 6], ms := [{ k := (.sl (.int .i64)), fl := [none] }, { ptr := true, id := 620, t := 26, k := (.st 25), fl := [none, none, none, none, none] }, { ptr := true, id := 640, t := 26, k := (.st 25), fl := [none, none, none, some (false, 644), some (false, 645)] }, { k := (.int .i64) }] }
noncomputable def spec_partAt.A : Ann := { dp := fun d => isIn [] d, lp := look [(0, spec_partAt.lvL0)], jn := look [], pins := [], nt := 33 }
noncomputable def spec_partAt.phis (N : Nat) : List (Nat × Sm D) := [(29, spec_inRange.sm N)]
noncomputable def spec_partAt.a0 (N : Nat) (n : Nat) (y : (List (Int)) × ImplTree × ImplTree × Int × Unit) : Option (ImplTree × Bool × Unit) := loopAt cx (look (spec_partAt.phis N)) spec_partAt.A N n (encL cx spec_partAt.lvL0.ms y).1 (encL cx spec_partAt.lvL0.ms y).2 (bodyOf Tryd.f16) 0 (Kfin cx spec_partAt.A spec_partAt.sg Tryd.f16.results.toList) [1, 0, 1, 1] []
theorem spec_partAt.r0 (N : Nat) : ∀ (n : Nat) (y : (List (Int)) × ImplTree × ImplTree × Int × Unit), spec_partAt.a0 N n y = spec_partAt.L0 N n y
  | 0, y => by kernel_rfl
  | n + 1, y => by
    have h : spec_partAt.a0 N (n + 1) y = spec_partAt.B0 N (fun z => spec_partAt.a0 N n z) y := by kernel_rfl
    have e : (fun z => spec_partAt.a0 N n z) = spec_partAt.L0 N n := funext fun z => spec_partAt.r0 N n z
    rw [h]
    try rw [e]
    first | done | rfl
theorem spec_partAt.run (N : Nat) (x : ImplTree × (List (Int)) × Unit) : runF cx (look (spec_partAt.phis N)) spec_partAt.A N (bodyOf Tryd.f16) Tryd.f16.results.toList spec_partAt.sg x = spec_partAt N x.1 x.2.1 := by
  have h : runF cx (look (spec_partAt.phis N)) spec_partAt.A N (bodyOf Tryd.f16) Tryd.f16.results.toList spec_partAt.sg x = spec_partAt.B N (fun z => spec_partAt.a0 N N z) x.1 x.2.1 := by kernel_rfl
  have e0 : (fun z => spec_partAt.a0 N N z) = spec_partAt.L0 N N := funext fun z => spec_partAt.r0 N N z
  rw [h, e0]
  try rfl
noncomputable def spec_partAt.sm (N : Nat) : Sm D := (⟨spec_partAt.sg, fun (x : ImplTree × (List (Int)) × Unit) => spec_partAt N x.1 x.2.1⟩ : Sm D)
theorem spec_partAt.sound (N : Nat) : Sound cx Tryd.prog gam 16 (spec_partAt.sm N) := fn_sound (A := spec_partAt.A) (Φ := (look (spec_partAt.phis N))) pok (G := gam) (ΦOk.cons (spec_inRange.sound N) (fnOk_of (f := 29) (by kernel_rfl)) ΦOk.nil) mixed N Tryd.func16 (c := (bodyOf Tryd.f16)) (by kernel_rfl) spec_partAt.sg (by kernel_rfl) (by kernel_rfl) (by kernel_rfl) (spec_partAt.run N)

@[reducible] def spec_partners.sg : Sg := { ms := [{ k := (.sl (.st 25)), fl := [none] }, { k := (.sl (.st 25)), fl := [none] }], keep := [false, false], rs := [{ k := (.sl (.int .i64)), fl := [none] }], hold := true }
@[reducible] def spec_partners.lvL2 : Lv := { id := 2, slots := [0, 1, 5, 6, 7, 8, 9], ms := [{ k := (.sl (.st 25)), fl := [none] }, { k := (.sl (.st 25)), fl := [none] }, { k := (.sl (.int .i64)), fl := [some (false, 640)] }, { k := (.sl .bool), fl := [some (false, 660)] }, { k := (.int .i64) }, { k := (.int .i64) }, { k := (.int .i64) }] }
@[reducible] def spec_partners.lvL0 : Lv := { id := 0, slots := [0, 1, 5, 6, 7], ms := [{ k := (.sl (.st 25)), fl := [none] }, { k := (.sl (.st 25)), fl := [none] }, { k := (.sl (.int .i64)), fl := [some (false, 640)] }, { k := (.sl .bool), fl := [some (false, 660)] }, { k := (.int .i64) }] }
@[reducible] def spec_partners.lvJ14 : Lv := { id := 14, slots := [0, 1, 5, 6, 7, 8], ms := [{ k := (.sl (.st 25)), fl := [none] }, { k := (.sl (.st 25)), fl := [none] }, { k := (.sl (.int .i64)), fl := [some (false, 640)] }, { k := (.sl .bool), fl := [some (false, 660)] }, { k := (.int .i64) }, { k := (.int .i64) }] }
noncomputable def spec_partners.A : Ann := { dp := fun d => isIn [] d, lp := look [(2, spec_partners.lvL2), (0, spec_partners.lvL0)], jn := look [(14, spec_partners.lvJ14)], pins := [], nt := 72 }
noncomputable def spec_partners.phis (N : Nat) : List (Nat × Sm D) := []
noncomputable def spec_partners.a2 (N : Nat) (m0 : Nat) (n : Nat) (y : (List (ImplTree)) × (List (ImplTree)) × (List (Int)) × (List (Bool)) × Int × Int × Int × Unit) : Option ((List (Int)) × Unit) := loopAt cx (look (spec_partners.phis N)) spec_partners.A N n (encL cx spec_partners.lvL2.ms y).1 (encL cx spec_partners.lvL2.ms y).2 (bodyOf Tryd.f31) 0 (Kfin cx spec_partners.A spec_partners.sg Tryd.f31.results.toList) [1, 1, 1, 0, 1, 1, 1, 1, 0, 1, 1, 0, 1, 1] [m0]
noncomputable def spec_partners.a0 (N : Nat) (n : Nat) (y : (List (ImplTree)) × (List (ImplTree)) × (List (Int)) × (List (Bool)) × Int × Unit) : Option ((List (Int)) × Unit) := loopAt cx (look (spec_partners.phis N)) spec_partners.A N n (encL cx spec_partners.lvL0.ms y).1 (encL cx spec_partners.lvL0.ms y).2 (bodyOf Tryd.f31) 0 (Kfin cx spec_partners.A spec_partners.sg Tryd.f31.results.toList) [1, 1, 1, 0, 1, 1] []
theorem spec_partners.r2 (N : Nat) (m0 : Nat) : ∀ (n : Nat) (y : (List (ImplTree)) × (List (ImplTree)) × (List (Int)) × (List (Bool)) × Int × Int × Int × Unit), spec_partners.a2 N m0 n y = spec_partners.L2 N (fun z => spec_partners.a0 N m0 z) n y
  | 0, y => by kernel_rfl
  | n + 1, y => by
    have h : spec_partners.a2 N m0 (n + 1) y = spec_partners.B2 N (fun z => spec_partners.a0 N m0 z) (fun z => spec_partners.a2 N m0 n z) y := by kernel_rfl
    have e : (fun z => spec_partners.a2 N m0 n z) = spec_partners.L2 N (fun z => spec_partners.a0 N m0 z) n := funext fun z => spec_partners.r2 N m0 n z
    rw [h]
    try rw [e]
    first | done | rfl
theorem spec_partners.r0 (N : Nat) : ∀ (n : Nat) (y : (List (ImplTree)) × (List (ImplTree)) × (List (Int)) × (List (Bool)) × Int × Unit), spec_partners.a0 N n y = spec_partners.L0 N n y
  | 0, y => by kernel_rfl
  | n + 1, y => by
    have h : spec_partners.a0 N (n + 1) y = spec_partners.B0 N (fun z => spec_partners.a2 N n N z) y := by kernel_rfl
    have e : (fun z => spec_partners.a0 N n z) = spec_partners.L0 N n := funext fun z => spec_partners.r0 N n z
    have e2 : (fun z => spec_partners.a2 N n N z) = spec_partners.L2 N (fun z => spec_partners.a0 N n z) N := funext fun z => spec_partners.r2 N n N z
    rw [h, e2]
    try rw [e]
    first | done | rfl
theorem spec_partners.run (N : Nat) (x : (List (ImplTree)) × (List (ImplTree)) × Unit) : runF cx (look (spec_partners.phis N)) spec_partners.A N (bodyOf Tryd.f31) Tryd.f31.results.toList spec_partners.sg x = spec_partners N x.1 x.2.1 := by
  have h : runF cx (look (spec_partners.phis N)) spec_partners.A N (bodyOf Tryd.f31) Tryd.f31.results.toList spec_partners.sg x = spec_partners.B N (fun z => spec_partners.a0 N N z) x.1 x.2.1 := by kernel_rfl
  have e0 : (fun z => spec_partners.a0 N N z) = spec_partners.L0 N N := funext fun z => spec_partners.r0 N N z
  rw [h, e0]
  try rfl
noncomputable def spec_partners.sm (N : Nat) : Sm D := (⟨spec_partners.sg, fun (x : (List (ImplTree)) × (List (ImplTree)) × Unit) => spec_partners N x.1 x.2.1⟩ : Sm D)
theorem spec_partners.sound (N : Nat) : Sound cx Tryd.prog gam 31 (spec_partners.sm N) := fn_sound (A := spec_partners.A) (Φ := (look (spec_partners.phis N))) pok (G := gam) ΦOk.nil mixed N Tryd.func31 (c := (bodyOf Tryd.f31)) (by kernel_rfl) spec_partners.sg (by kernel_rfl) (by kernel_rfl) (by kernel_rfl) (spec_partners.run N)

@[reducible] def spec_indexOf.sg : Sg := { ms := [{ k := (.sl (.int .i64)), fl := [none] }, { k := (.int .i64) }], keep := [false, false], rs := [{ k := (.int .i64) }] }
@[reducible] def spec_indexOf.lvL0 : Lv := { id := 0, slots := [0, 1, 5], ms := [{ k := (.sl (.int .i64)), fl := [none] }, { k := (.int .i64) }, { k := (.int .i64) }] }
noncomputable def spec_indexOf.A : Ann := { dp := fun d => isIn [] d, lp := look [(0, spec_indexOf.lvL0)], jn := look [], pins := [], nt := 19 }
noncomputable def spec_indexOf.phis (N : Nat) : List (Nat × Sm D) := []
noncomputable def spec_indexOf.a0 (N : Nat) (n : Nat) (y : (List (Int)) × Int × Int × Unit) : Option (Int × Unit) := loopAt cx (look (spec_indexOf.phis N)) spec_indexOf.A N n (encL cx spec_indexOf.lvL0.ms y).1 (encL cx spec_indexOf.lvL0.ms y).2 (bodyOf Tryd.f30) 0 (Kfin cx spec_indexOf.A spec_indexOf.sg Tryd.f30.results.toList) [1, 0, 1, 1] []
theorem spec_indexOf.r0 (N : Nat) : ∀ (n : Nat) (y : (List (Int)) × Int × Int × Unit), spec_indexOf.a0 N n y = spec_indexOf.L0 N n y
  | 0, y => by kernel_rfl
  | n + 1, y => by
    have h : spec_indexOf.a0 N (n + 1) y = spec_indexOf.B0 N (fun z => spec_indexOf.a0 N n z) y := by kernel_rfl
    have e : (fun z => spec_indexOf.a0 N n z) = spec_indexOf.L0 N n := funext fun z => spec_indexOf.r0 N n z
    rw [h]
    try rw [e]
    first | done | rfl
theorem spec_indexOf.run (N : Nat) (x : (List (Int)) × Int × Unit) : runF cx (look (spec_indexOf.phis N)) spec_indexOf.A N (bodyOf Tryd.f30) Tryd.f30.results.toList spec_indexOf.sg x = spec_indexOf N x.1 x.2.1 := by
  have h : runF cx (look (spec_indexOf.phis N)) spec_indexOf.A N (bodyOf Tryd.f30) Tryd.f30.results.toList spec_indexOf.sg x = spec_indexOf.B N (fun z => spec_indexOf.a0 N N z) x.1 x.2.1 := by kernel_rfl
  have e0 : (fun z => spec_indexOf.a0 N N z) = spec_indexOf.L0 N N := funext fun z => spec_indexOf.r0 N N z
  rw [h, e0]
  try rfl
noncomputable def spec_indexOf.sm (N : Nat) : Sm D := (⟨spec_indexOf.sg, fun (x : (List (Int)) × Int × Unit) => spec_indexOf N x.1 x.2.1⟩ : Sm D)
theorem spec_indexOf.sound (N : Nat) : Sound cx Tryd.prog gam 30 (spec_indexOf.sm N) := fn_sound (A := spec_indexOf.A) (Φ := (look (spec_indexOf.phis N))) pok (G := gam) ΦOk.nil mixed N Tryd.func30 (c := (bodyOf Tryd.f30)) (by kernel_rfl) spec_indexOf.sg (by kernel_rfl) (by kernel_rfl) (by kernel_rfl) (spec_indexOf.run N)

@[reducible] def spec_wayAfter.sg : Sg := { ms := [{ k := (.st 25) }, { k := (.st 25) }, { k := (.sl (.int .i64)), fl := [none] }], keep := [false, false, false], rs := [{ k := (.sl (.int .i64)), fl := [none] }, { k := .bool }], hold := true }
@[reducible] def spec_wayAfter.lvL0 : Lv := { id := 0, slots := [2, 3, 4, 8, 9], ms := [{ k := (.sl (.int .i64)), fl := [none] }, { ptr := true, id := 620, t := 26, k := (.st 25), fl := [none, none, none, none, none] }, { ptr := true, id := 640, t := 26, k := (.st 25), fl := [none, none, none, none, none] }, { k := (.sl (.int .i64)), fl := [some (false, 660)] }, { k := (.int .i64) }] }
noncomputable def spec_wayAfter.A : Ann := { dp := fun d => isIn [] d, lp := look [(0, spec_wayAfter.lvL0)], jn := look [], pins := [], nt := 60 }
noncomputable def spec_wayAfter.phis (N : Nat) : List (Nat × Sm D) := [(31, spec_partners.sm N), (30, spec_indexOf.sm N)]
noncomputable def spec_wayAfter.a0 (N : Nat) (n : Nat) (y : (List (Int)) × ImplTree × ImplTree × (List (Int)) × Int × Unit) : Option ((List (Int)) × Bool × Unit) := loopAt cx (look (spec_wayAfter.phis N)) spec_wayAfter.A N n (encL cx spec_wayAfter.lvL0.ms y).1 (encL cx spec_wayAfter.lvL0.ms y).2 (bodyOf Tryd.f17) 0 (Kfin cx spec_wayAfter.A spec_wayAfter.sg Tryd.f17.results.toList) [1, 1, 1, 0, 1, 1] []
theorem spec_wayAfter.r0 (N : Nat) : ∀ (n : Nat) (y : (List (Int)) × ImplTree × ImplTree × (List (Int)) × Int × Unit), spec_wayAfter.a0 N n y = spec_wayAfter.L0 N n y
  | 0, y => by kernel_rfl
  | n + 1, y => by
    have h : spec_wayAfter.a0 N (n + 1) y = spec_wayAfter.B0 N (fun z => spec_wayAfter.a0 N n z) y := by kernel_rfl
    have e : (fun z => spec_wayAfter.a0 N n z) = spec_wayAfter.L0 N n := funext fun z => spec_wayAfter.r0 N n z
    rw [h]
    try rw [e]
    first | done | rfl
theorem spec_wayAfter.run (N : Nat) (x : ImplTree × ImplTree × (List (Int)) × Unit) : runF cx (look (spec_wayAfter.phis N)) spec_wayAfter.A N (bodyOf Tryd.f17) Tryd.f17.results.toList spec_wayAfter.sg x = spec_wayAfter N x.1 x.2.1 x.2.2.1 := by
  have h : runF cx (look (spec_wayAfter.phis N)) spec_wayAfter.A N (bodyOf Tryd.f17) Tryd.f17.results.toList spec_wayAfter.sg x = spec_wayAfter.B N (fun z => spec_wayAfter.a0 N N z) x.1 x.2.1 x.2.2.1 := by kernel_rfl
  have e0 : (fun z => spec_wayAfter.a0 N N z) = spec_wayAfter.L0 N N := funext fun z => spec_wayAfter.r0 N N z
  rw [h, e0]
  try rfl
noncomputable def spec_wayAfter.sm (N : Nat) : Sm D := (⟨spec_wayAfter.sg, fun (x : ImplTree × ImplTree × (List (Int)) × Unit) => spec_wayAfter N x.1 x.2.1 x.2.2.1⟩ : Sm D)
theorem spec_wayAfter.sound (N : Nat) : Sound cx Tryd.prog gam 17 (spec_wayAfter.sm N) := fn_sound (A := spec_wayAfter.A) (Φ := (look (spec_wayAfter.phis N))) pok (G := gam) (ΦOk.cons (spec_partners.sound N) (fnOk_of (f := 31) (by kernel_rfl)) (ΦOk.cons (spec_indexOf.sound N) (fnOk_of (f := 30) (by kernel_rfl)) ΦOk.nil)) mixed N Tryd.func17 (c := (bodyOf Tryd.f17)) (by kernel_rfl) spec_wayAfter.sg (by kernel_rfl) (by kernel_rfl) (by kernel_rfl) (spec_wayAfter.run N)

@[reducible] def spec_WayAfter.sg : Sg := { ms := [{ k := (.st 25) }, { k := (.st 25) }, { k := (.sl (.int .i64)), fl := [none] }], keep := [false, false, false], rs := [{ k := (.sl (.int .i64)), fl := [none] }, { k := .bool }], hold := true }
noncomputable def spec_WayAfter.A : Ann := { dp := fun d => isIn [] d, lp := look [], jn := look [], pins := [], nt := 32 }
noncomputable def spec_WayAfter.phis (N : Nat) : List (Nat × Sm D) := [(15, spec_validTree.sm N), (16, spec_partAt.sm N), (17, spec_wayAfter.sm N)]
theorem spec_WayAfter.run (N : Nat) (x : ImplTree × ImplTree × (List (Int)) × Unit) : runF cx (look (spec_WayAfter.phis N)) spec_WayAfter.A N (bodyOf Tryd.f6) Tryd.f6.results.toList spec_WayAfter.sg x = spec_WayAfter N x.1 x.2.1 x.2.2.1 := by
  have h : runF cx (look (spec_WayAfter.phis N)) spec_WayAfter.A N (bodyOf Tryd.f6) Tryd.f6.results.toList spec_WayAfter.sg x = spec_WayAfter.B N x.1 x.2.1 x.2.2.1 := by kernel_rfl
  rw [h]
  try rfl
noncomputable def spec_WayAfter.sm (N : Nat) : Sm D := (⟨spec_WayAfter.sg, fun (x : ImplTree × ImplTree × (List (Int)) × Unit) => spec_WayAfter N x.1 x.2.1 x.2.2.1⟩ : Sm D)
theorem spec_WayAfter.sound (N : Nat) : Sound cx Tryd.prog gam 6 (spec_WayAfter.sm N) := fn_sound (A := spec_WayAfter.A) (Φ := (look (spec_WayAfter.phis N))) pok (G := gam) (ΦOk.cons (spec_validTree.sound N) (fnOk_of (f := 15) (by kernel_rfl)) (ΦOk.cons (spec_partAt.sound N) (fnOk_of (f := 16) (by kernel_rfl)) (ΦOk.cons (spec_wayAfter.sound N) (fnOk_of (f := 17) (by kernel_rfl)) ΦOk.nil))) mixed N Tryd.func6 (c := (bodyOf Tryd.f6)) (by kernel_rfl) spec_WayAfter.sg (by kernel_rfl) (by kernel_rfl) (by kernel_rfl) (spec_WayAfter.run N)

@[reducible] def spec_SameInts.sg : Sg := { ms := [{ k := (.sl (.int .i64)), fl := [none] }, { k := (.sl (.int .i64)), fl := [none] }], keep := [false, false], rs := [{ k := .bool }] }
@[reducible] def spec_SameInts.lvL0 : Lv := { id := 0, slots := [0, 1, 5], ms := [{ k := (.sl (.int .i64)), fl := [none] }, { k := (.sl (.int .i64)), fl := [none] }, { k := (.int .i64) }] }
noncomputable def spec_SameInts.A : Ann := { dp := fun d => isIn [] d, lp := look [(0, spec_SameInts.lvL0)], jn := look [], pins := [], nt := 26 }
noncomputable def spec_SameInts.phis (N : Nat) : List (Nat × Sm D) := []
noncomputable def spec_SameInts.a0 (N : Nat) (n : Nat) (y : (List (Int)) × (List (Int)) × Int × Unit) : Option (Bool × Unit) := loopAt cx (look (spec_SameInts.phis N)) spec_SameInts.A N n (encL cx spec_SameInts.lvL0.ms y).1 (encL cx spec_SameInts.lvL0.ms y).2 (bodyOf Tryd.f7) 0 (Kfin cx spec_SameInts.A spec_SameInts.sg Tryd.f7.results.toList) [1, 1, 0, 1, 1] []
theorem spec_SameInts.r0 (N : Nat) : ∀ (n : Nat) (y : (List (Int)) × (List (Int)) × Int × Unit), spec_SameInts.a0 N n y = spec_SameInts.L0 N n y
  | 0, y => by kernel_rfl
  | n + 1, y => by
    have h : spec_SameInts.a0 N (n + 1) y = spec_SameInts.B0 N (fun z => spec_SameInts.a0 N n z) y := by kernel_rfl
    have e : (fun z => spec_SameInts.a0 N n z) = spec_SameInts.L0 N n := funext fun z => spec_SameInts.r0 N n z
    rw [h]
    try rw [e]
    first | done | rfl
theorem spec_SameInts.run (N : Nat) (x : (List (Int)) × (List (Int)) × Unit) : runF cx (look (spec_SameInts.phis N)) spec_SameInts.A N (bodyOf Tryd.f7) Tryd.f7.results.toList spec_SameInts.sg x = spec_SameInts N x.1 x.2.1 := by
  have h : runF cx (look (spec_SameInts.phis N)) spec_SameInts.A N (bodyOf Tryd.f7) Tryd.f7.results.toList spec_SameInts.sg x = spec_SameInts.B N (fun z => spec_SameInts.a0 N N z) x.1 x.2.1 := by kernel_rfl
  have e0 : (fun z => spec_SameInts.a0 N N z) = spec_SameInts.L0 N N := funext fun z => spec_SameInts.r0 N N z
  rw [h, e0]
  try rfl
noncomputable def spec_SameInts.sm (N : Nat) : Sm D := (⟨spec_SameInts.sg, fun (x : (List (Int)) × (List (Int)) × Unit) => spec_SameInts N x.1 x.2.1⟩ : Sm D)
theorem spec_SameInts.sound (N : Nat) : Sound cx Tryd.prog gam 7 (spec_SameInts.sm N) := fn_sound (A := spec_SameInts.A) (Φ := (look (spec_SameInts.phis N))) pok (G := gam) ΦOk.nil mixed N Tryd.func7 (c := (bodyOf Tryd.f7)) (by kernel_rfl) spec_SameInts.sg (by kernel_rfl) (by kernel_rfl) (by kernel_rfl) (spec_SameInts.run N)

@[reducible] def impl_treesCopy.sg : Sg := { ms := [{ k := (.sl (.st 25)), fl := [none] }], keep := [false], rs := [{ k := (.sl (.st 25)), fl := [some (true, 411)] }] }
@[reducible] def impl_treeCopy.sg : Sg := { ms := [{ k := (.st 25) }], keep := [false], rs := [{ k := (.st 25), fl := [none, none, none, some (true, 414), some (true, 415)] }] }
@[reducible] def impl_treesCopy.lvL0 : Lv := { id := 0, slots := [3, 6, 7, 8], ms := [{ k := (.sl (.st 25)), fl := [some (true, 600)] }, { k := (.sl (.st 25)), fl := [none] }, { k := (.int .i64) }, { k := (.int .i64) }] }
noncomputable def impl_treesCopy.A : Ann := { dp := fun _ => true, lp := look [(0, impl_treesCopy.lvL0)], jn := look [], pins := [], nt := 19 }
noncomputable def impl_treesCopy.phis (N : Nat) (d : Nat) : List (Nat × Sm D) := [(19, (⟨impl_treeCopy.sg, fun (x : ImplTree × Unit) => impl_treeCopy.R N d x.1⟩ : Sm D))]
noncomputable def impl_treesCopy.a0 (N : Nat) (d : Nat) (n : Nat) (y : (List (ImplTree)) × (List (ImplTree)) × Int × Int × Unit) : Option ((List (ImplTree)) × Unit) := loopAt cx (look (impl_treesCopy.phis N d)) impl_treesCopy.A N n (encL cx impl_treesCopy.lvL0.ms y).1 (encL cx impl_treesCopy.lvL0.ms y).2 (bodyOf Tryd.f32) 0 (Kfin cx impl_treesCopy.A impl_treesCopy.sg Tryd.f32.results.toList) [1, 1, 0, 1, 1] []
theorem impl_treesCopy.r0 (N : Nat) (d : Nat) : ∀ (n : Nat) (y : (List (ImplTree)) × (List (ImplTree)) × Int × Int × Unit), impl_treesCopy.a0 N d n y = impl_treesCopy.L0 N (impl_treesCopy.R N d) (impl_treeCopy.R N d) n y
  | 0, y => by kernel_rfl
  | n + 1, y => by
    have h : impl_treesCopy.a0 N d (n + 1) y = impl_treesCopy.B0 N (impl_treesCopy.R N d) (impl_treeCopy.R N d) (fun z => impl_treesCopy.a0 N d n z) y := by kernel_rfl
    have e : (fun z => impl_treesCopy.a0 N d n z) = impl_treesCopy.L0 N (impl_treesCopy.R N d) (impl_treeCopy.R N d) n := funext fun z => impl_treesCopy.r0 N d n z
    rw [h]
    try rw [e]
    first | done | rfl
theorem impl_treesCopy.run (N : Nat) (d : Nat) (x : (List (ImplTree)) × Unit) : runF cx (look (impl_treesCopy.phis N d)) impl_treesCopy.A N (bodyOf Tryd.f32) Tryd.f32.results.toList impl_treesCopy.sg x = impl_treesCopy.R N (d + 1) x.1 := by
  have h : runF cx (look (impl_treesCopy.phis N d)) impl_treesCopy.A N (bodyOf Tryd.f32) Tryd.f32.results.toList impl_treesCopy.sg x = impl_treesCopy.B N (impl_treesCopy.R N d) (impl_treeCopy.R N d) (fun z => impl_treesCopy.a0 N d N z) x.1 := by kernel_rfl
  have e0 : (fun z => impl_treesCopy.a0 N d N z) = impl_treesCopy.L0 N (impl_treesCopy.R N d) (impl_treeCopy.R N d) N := funext fun z => impl_treesCopy.r0 N d N z
  rw [h, e0]
  try rfl
theorem impl_treesCopy.step (N : Nat) (d : Nat) (h_impl_treeCopy : Sound cx Tryd.prog gam 19 (⟨impl_treeCopy.sg, fun (x : ImplTree × Unit) => impl_treeCopy.R N d x.1⟩ : Sm D)) : Sound cx Tryd.prog gam 32 (⟨impl_treesCopy.sg, fun (x : (List (ImplTree)) × Unit) => impl_treesCopy.R N (d + 1) x.1⟩ : Sm D) := fn_sound (A := impl_treesCopy.A) (Φ := (look (impl_treesCopy.phis N d))) pok (G := gam) (ΦOk.cons h_impl_treeCopy (fnOk_of (f := 19) (by kernel_rfl)) ΦOk.nil) mixed N Tryd.func32 (c := (bodyOf Tryd.f32)) (by kernel_rfl) impl_treesCopy.sg (by kernel_rfl) (by kernel_rfl) (by kernel_rfl) (impl_treesCopy.run N d)

noncomputable def impl_treeCopy.A : Ann := { dp := fun _ => true, lp := look [], jn := look [], pins := [], nt := 14 }
noncomputable def impl_treeCopy.phis (N : Nat) (d : Nat) : List (Nat × Sm D) := [(32, (⟨impl_treesCopy.sg, fun (x : (List (ImplTree)) × Unit) => impl_treesCopy.R N d x.1⟩ : Sm D))]
theorem impl_treeCopy.run (N : Nat) (d : Nat) (x : ImplTree × Unit) : runF cx (look (impl_treeCopy.phis N d)) impl_treeCopy.A N (bodyOf Tryd.f19) Tryd.f19.results.toList impl_treeCopy.sg x = impl_treeCopy.R N (d + 1) x.1 := by
  have h : runF cx (look (impl_treeCopy.phis N d)) impl_treeCopy.A N (bodyOf Tryd.f19) Tryd.f19.results.toList impl_treeCopy.sg x = impl_treeCopy.B N (impl_treesCopy.R N d) (impl_treeCopy.R N d) x.1 := by kernel_rfl
  rw [h]
  try rfl
theorem impl_treeCopy.step (N : Nat) (d : Nat) (h_impl_treesCopy : Sound cx Tryd.prog gam 32 (⟨impl_treesCopy.sg, fun (x : (List (ImplTree)) × Unit) => impl_treesCopy.R N d x.1⟩ : Sm D)) : Sound cx Tryd.prog gam 19 (⟨impl_treeCopy.sg, fun (x : ImplTree × Unit) => impl_treeCopy.R N (d + 1) x.1⟩ : Sm D) := fn_sound (A := impl_treeCopy.A) (Φ := (look (impl_treeCopy.phis N d))) pok (G := gam) (ΦOk.cons h_impl_treesCopy (fnOk_of (f := 32) (by kernel_rfl)) ΦOk.nil) mixed N Tryd.func19 (c := (bodyOf Tryd.f19)) (by kernel_rfl) impl_treeCopy.sg (by kernel_rfl) (by kernel_rfl) (by kernel_rfl) (impl_treeCopy.run N d)

theorem impl_treesCopy.scc (N : Nat) : ∀ d, Sound cx Tryd.prog gam 32 (⟨impl_treesCopy.sg, fun (x : (List (ImplTree)) × Unit) => impl_treesCopy.R N d x.1⟩ : Sm D) ∧ Sound cx Tryd.prog gam 19 (⟨impl_treeCopy.sg, fun (x : ImplTree × Unit) => impl_treeCopy.R N d x.1⟩ : Sm D)
  | 0 => ⟨none_sound 32 impl_treesCopy.sg, none_sound 19 impl_treeCopy.sg⟩
  | d + 1 => by
    have ih := impl_treesCopy.scc N d
    obtain ⟨ih0, ih1⟩ := ih
    exact ⟨impl_treesCopy.step N d ih1, impl_treeCopy.step N d ih0⟩
noncomputable def impl_treesCopy.sm (N : Nat) : Sm D := (⟨impl_treesCopy.sg, fun (x : (List (ImplTree)) × Unit) => impl_treesCopy.R N N x.1⟩ : Sm D)
theorem impl_treesCopy.sound (N : Nat) : Sound cx Tryd.prog gam 32 (impl_treesCopy.sm N) := (impl_treesCopy.scc N N).1
noncomputable def impl_treeCopy.sm (N : Nat) : Sm D := (⟨impl_treeCopy.sg, fun (x : ImplTree × Unit) => impl_treeCopy.R N N x.1⟩ : Sm D)
theorem impl_treeCopy.sound (N : Nat) : Sound cx Tryd.prog gam 19 (impl_treeCopy.sm N) := (impl_treesCopy.scc N N).2
@[reducible] def impl_TreeAt.sg : Sg := { ms := [{ k := (.st 25) }, { k := (.sl (.int .i64)), fl := [none] }], keep := [false, false], rs := [{ k := (.st 25), fl := [none, none, none, some (true, 414), some (true, 415)] }, { k := .bool }] }
@[reducible] def impl_TreeAt.lvL0 : Lv := { id := 0, slots := [2, 4, 12, 13, 14], ms := [{ ptr := true, id := 600, t := 26, k := (.st 25), fl := [none, none, none, none, none] }, { ptr := true, id := 620, t := 26, k := (.st 25), fl := [none, none, none, some (true, 624), some (true, 625)] }, { k := (.sl (.int .i64)), fl := [none] }, { k := (.int .i64) }, { k := (.int .i64) }] }
noncomputable def impl_TreeAt.A : Ann := { dp := fun _ => true, lp := look [(0, impl_TreeAt.lvL0)], jn := look [], pins := [], nt := 34 }
noncomputable def impl_TreeAt.phis (N : Nat) : List (Nat × Sm D) := [(13, impl_TreeOk.sm N), (18, impl_within.sm N), (19, impl_treeCopy.sm N)]
noncomputable def impl_TreeAt.a0 (N : Nat) (n : Nat) (y : ImplTree × ImplTree × (List (Int)) × Int × Int × Unit) : Option (ImplTree × Bool × Unit) := loopAt cx (look (impl_TreeAt.phis N)) impl_TreeAt.A N n (encL cx impl_TreeAt.lvL0.ms y).1 (encL cx impl_TreeAt.lvL0.ms y).2 (bodyOf Tryd.f8) 0 (Kfin cx impl_TreeAt.A impl_TreeAt.sg Tryd.f8.results.toList) [1, 1, 0, 1, 1] []
theorem impl_TreeAt.r0 (N : Nat) : ∀ (n : Nat) (y : ImplTree × ImplTree × (List (Int)) × Int × Int × Unit), impl_TreeAt.a0 N n y = impl_TreeAt.L0 N n y
  | 0, y => by kernel_rfl
  | n + 1, y => by
    have h : impl_TreeAt.a0 N (n + 1) y = impl_TreeAt.B0 N (fun z => impl_TreeAt.a0 N n z) y := by kernel_rfl
    have e : (fun z => impl_TreeAt.a0 N n z) = impl_TreeAt.L0 N n := funext fun z => impl_TreeAt.r0 N n z
    rw [h]
    try rw [e]
    first | done | rfl
theorem impl_TreeAt.run (N : Nat) (x : ImplTree × (List (Int)) × Unit) : runF cx (look (impl_TreeAt.phis N)) impl_TreeAt.A N (bodyOf Tryd.f8) Tryd.f8.results.toList impl_TreeAt.sg x = impl_TreeAt N x.1 x.2.1 := by
  have h : runF cx (look (impl_TreeAt.phis N)) impl_TreeAt.A N (bodyOf Tryd.f8) Tryd.f8.results.toList impl_TreeAt.sg x = impl_TreeAt.B N (fun z => impl_TreeAt.a0 N N z) x.1 x.2.1 := by kernel_rfl
  have e0 : (fun z => impl_TreeAt.a0 N N z) = impl_TreeAt.L0 N N := funext fun z => impl_TreeAt.r0 N N z
  rw [h, e0]
  try rfl
noncomputable def impl_TreeAt.sm (N : Nat) : Sm D := (⟨impl_TreeAt.sg, fun (x : ImplTree × (List (Int)) × Unit) => impl_TreeAt N x.1 x.2.1⟩ : Sm D)
theorem impl_TreeAt.sound (N : Nat) : Sound cx Tryd.prog gam 8 (impl_TreeAt.sm N) := fn_sound (A := impl_TreeAt.A) (Φ := (look (impl_TreeAt.phis N))) pok (G := gam) (ΦOk.cons (impl_TreeOk.sound N) (fnOk_of (f := 13) (by kernel_rfl)) (ΦOk.cons (impl_within.sound N) (fnOk_of (f := 18) (by kernel_rfl)) (ΦOk.cons (impl_treeCopy.sound N) (fnOk_of (f := 19) (by kernel_rfl)) ΦOk.nil))) mixed N Tryd.func8 (c := (bodyOf Tryd.f8)) (by kernel_rfl) impl_TreeAt.sg (by kernel_rfl) (by kernel_rfl) (by kernel_rfl) (impl_TreeAt.run N)

@[reducible] def laws_FnWayAfter.sg : Sg := { ms := [{ k := (.sl (.int .u8)), fl := [none] }], keep := [false], rs := [{ k := .bool }] }
noncomputable def laws_FnWayAfter.A : Ann := { dp := fun d => isIn [] d, lp := look [], jn := look [], pins := [], nt := 100 }
noncomputable def laws_FnWayAfter.phis (N : Nat) : List (Nat × Sm D) := [(4, spec_DrawWayAfter.sm N), (5, impl_WayAfter.sm N), (6, spec_WayAfter.sm N), (7, spec_SameInts.sm N), (8, impl_TreeAt.sm N)]
theorem laws_FnWayAfter.run (N : Nat) (x : (List (Int)) × Unit) : runF cx (look (laws_FnWayAfter.phis N)) laws_FnWayAfter.A N (bodyOf Tryd.f3) Tryd.f3.results.toList laws_FnWayAfter.sg x = laws_FnWayAfter N x.1 := by
  have h : runF cx (look (laws_FnWayAfter.phis N)) laws_FnWayAfter.A N (bodyOf Tryd.f3) Tryd.f3.results.toList laws_FnWayAfter.sg x = laws_FnWayAfter.B N x.1 := by kernel_rfl
  rw [h]
  try rfl
noncomputable def laws_FnWayAfter.sm (N : Nat) : Sm D := (⟨laws_FnWayAfter.sg, fun (x : (List (Int)) × Unit) => laws_FnWayAfter N x.1⟩ : Sm D)
theorem laws_FnWayAfter.sound (N : Nat) : Sound cx Tryd.prog gam 3 (laws_FnWayAfter.sm N) := fn_sound (A := laws_FnWayAfter.A) (Φ := (look (laws_FnWayAfter.phis N))) pok (G := gam) (ΦOk.cons (spec_DrawWayAfter.sound N) (fnOk_of (f := 4) (by kernel_rfl)) (ΦOk.cons (impl_WayAfter.sound N) (fnOk_of (f := 5) (by kernel_rfl)) (ΦOk.cons (spec_WayAfter.sound N) (fnOk_of (f := 6) (by kernel_rfl)) (ΦOk.cons (spec_SameInts.sound N) (fnOk_of (f := 7) (by kernel_rfl)) (ΦOk.cons (impl_TreeAt.sound N) (fnOk_of (f := 8) (by kernel_rfl)) ΦOk.nil))))) mixed N Tryd.func3 (c := (bodyOf Tryd.f3)) (by kernel_rfl) laws_FnWayAfter.sg (by kernel_rfl) (by kernel_rfl) (by kernel_rfl) (laws_FnWayAfter.run N)

end
end Go.Ev
