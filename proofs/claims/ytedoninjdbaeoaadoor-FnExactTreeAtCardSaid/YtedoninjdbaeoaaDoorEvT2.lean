/- Each function that the law reaches does what its plain form says; no condition beyond the table of the library. -/
import Derived.Test.YtedoninjdbaeoaaDoorEvT1
set_option linter.all false
set_option linter.unusedVariables false
set_option linter.unusedSimpArgs false
set_option maxRecDepth 100000
set_option maxHeartbeats 0
namespace Go.Ev
noncomputable section
open Go.Proofs
@[reducible] def laws_toIntS.sg : Sg := { ms := [{ k := (.sl (.int .i64)), fl := [none] }], keep := [false], rs := [{ k := (.sl (.int .i64)), fl := [some (false, 411)] }] }
@[reducible] def laws_toIntS.lvL0 : Lv := { id := 0, slots := [0, 3, 4], ms := [{ k := (.sl (.int .i64)), fl := [none] }, { k := (.sl (.int .i64)), fl := [some (false, 620)] }, { k := (.int .i64) }] }
noncomputable def laws_toIntS.A : Ann := { dp := fun d => isIn [] d, lp := look [(0, laws_toIntS.lvL0)], jn := look [], pins := [], nt := 22 }
noncomputable def laws_toIntS.phis (N : Nat) : List (Nat × Sm D) := []
noncomputable def laws_toIntS.a0 (N : Nat) (n : Nat) (y : (List (Int)) × (List (Int)) × Int × Unit) : Option ((List (Int)) × Unit) := loopAt cx (look (laws_toIntS.phis N)) laws_toIntS.A N n (encL cx laws_toIntS.lvL0.ms y).1 (encL cx laws_toIntS.lvL0.ms y).2 (bodyOf Tryd.f16) 0 (Kfin cx laws_toIntS.A laws_toIntS.sg Tryd.f16.results.toList) [1, 1, 0, 1, 1] []
theorem laws_toIntS.r0 (N : Nat) : ∀ (n : Nat) (y : (List (Int)) × (List (Int)) × Int × Unit), laws_toIntS.a0 N n y = laws_toIntS.L0 N n y
  | 0, y => by kernel_rfl
  | n + 1, y => by
    have h : laws_toIntS.a0 N (n + 1) y = laws_toIntS.B0 N (fun z => laws_toIntS.a0 N n z) y := by kernel_rfl
    have e : (fun z => laws_toIntS.a0 N n z) = laws_toIntS.L0 N n := funext fun z => laws_toIntS.r0 N n z
    rw [h]
    try rw [e]
    first | done | rfl
theorem laws_toIntS.run (N : Nat) (x : (List (Int)) × Unit) : runF cx (look (laws_toIntS.phis N)) laws_toIntS.A N (bodyOf Tryd.f16) Tryd.f16.results.toList laws_toIntS.sg x = laws_toIntS N x.1 := by
  have h : runF cx (look (laws_toIntS.phis N)) laws_toIntS.A N (bodyOf Tryd.f16) Tryd.f16.results.toList laws_toIntS.sg x = laws_toIntS.B N (fun z => laws_toIntS.a0 N N z) x.1 := by kernel_rfl
  have e0 : (fun z => laws_toIntS.a0 N N z) = laws_toIntS.L0 N N := funext fun z => laws_toIntS.r0 N N z
  rw [h, e0]
  try rfl
noncomputable def laws_toIntS.sm (N : Nat) : Sm D := (⟨laws_toIntS.sg, fun (x : (List (Int)) × Unit) => laws_toIntS N x.1⟩ : Sm D)
theorem laws_toIntS.sound (N : Nat) : Sound cx Tryd.prog gam 16 (laws_toIntS.sm N) := fn_sound (A := laws_toIntS.A) (Φ := (look (laws_toIntS.phis N))) pok (G := gam) ΦOk.nil mixed N Tryd.func16 (c := (bodyOf Tryd.f16)) (by kernel_rfl) laws_toIntS.sg (by kernel_rfl) (by kernel_rfl) (by kernel_rfl) (laws_toIntS.run N)

@[reducible] def spec_partAt.sg : Sg := { ms := [{ k := (.st 32) }, { k := (.sl (.int .i64)), fl := [none] }], keep := [false, false], rs := [{ k := (.st 32) }, { k := .bool }], hold := true }
@[reducible] def spec_partAt.lvL0 : Lv := { id := 0, slots := [1, 2, 4, 6], ms := [{ k := (.sl (.int .i64)), fl := [none] }, { ptr := true, id := 620, t := 33, k := (.st 32), fl := [none, none, none, none, none] }, { ptr := true, id := 640, t := 33, k := (.st 32), fl := [none, none, none, some (false, 644), some (false, 645)] }, { k := (.int .i64) }] }
noncomputable def spec_partAt.A : Ann := { dp := fun d => isIn [] d, lp := look [(0, spec_partAt.lvL0)], jn := look [], pins := [], nt := 33 }
noncomputable def spec_partAt.phis (N : Nat) : List (Nat × Sm D) := [(24, spec_inRange.sm N)]
noncomputable def spec_partAt.a0 (N : Nat) (n : Nat) (y : (List (Int)) × ImplTree × ImplTree × Int × Unit) : Option (ImplTree × Bool × Unit) := loopAt cx (look (spec_partAt.phis N)) spec_partAt.A N n (encL cx spec_partAt.lvL0.ms y).1 (encL cx spec_partAt.lvL0.ms y).2 (bodyOf Tryd.f35) 0 (Kfin cx spec_partAt.A spec_partAt.sg Tryd.f35.results.toList) [1, 0, 1, 1] []
theorem spec_partAt.r0 (N : Nat) : ∀ (n : Nat) (y : (List (Int)) × ImplTree × ImplTree × Int × Unit), spec_partAt.a0 N n y = spec_partAt.L0 N n y
  | 0, y => by kernel_rfl
  | n + 1, y => by
    have h : spec_partAt.a0 N (n + 1) y = spec_partAt.B0 N (fun z => spec_partAt.a0 N n z) y := by kernel_rfl
    have e : (fun z => spec_partAt.a0 N n z) = spec_partAt.L0 N n := funext fun z => spec_partAt.r0 N n z
    rw [h]
    try rw [e]
    first | done | rfl
theorem spec_partAt.run (N : Nat) (x : ImplTree × (List (Int)) × Unit) : runF cx (look (spec_partAt.phis N)) spec_partAt.A N (bodyOf Tryd.f35) Tryd.f35.results.toList spec_partAt.sg x = spec_partAt N x.1 x.2.1 := by
  have h : runF cx (look (spec_partAt.phis N)) spec_partAt.A N (bodyOf Tryd.f35) Tryd.f35.results.toList spec_partAt.sg x = spec_partAt.B N (fun z => spec_partAt.a0 N N z) x.1 x.2.1 := by kernel_rfl
  have e0 : (fun z => spec_partAt.a0 N N z) = spec_partAt.L0 N N := funext fun z => spec_partAt.r0 N N z
  rw [h, e0]
  try rfl
noncomputable def spec_partAt.sm (N : Nat) : Sm D := (⟨spec_partAt.sg, fun (x : ImplTree × (List (Int)) × Unit) => spec_partAt N x.1 x.2.1⟩ : Sm D)
theorem spec_partAt.sound (N : Nat) : Sound cx Tryd.prog gam 35 (spec_partAt.sm N) := fn_sound (A := spec_partAt.A) (Φ := (look (spec_partAt.phis N))) pok (G := gam) (ΦOk.cons (spec_inRange.sound N) (fnOk_of (f := 24) (by kernel_rfl)) ΦOk.nil) mixed N Tryd.func35 (c := (bodyOf Tryd.f35)) (by kernel_rfl) spec_partAt.sg (by kernel_rfl) (by kernel_rfl) (by kernel_rfl) (spec_partAt.run N)

@[reducible] def spec_copyTree.sg : Sg := { ms := [{ k := (.st 32) }], keep := [false], rs := [{ k := (.st 32) }], hold := true }
@[reducible] def spec_copyTree.lvL0 : Lv := { id := 0, slots := [1, 2, 3, 4], ms := [{ ptr := true, id := 600, t := 33, k := (.st 32), fl := [none, none, none, none, none] }, { ptr := true, id := 620, t := 33, k := (.st 32), fl := [none, none, none, some (false, 624), some (false, 625)] }, { ptr := true, id := 640, t := 33, k := (.st 32), fl := [none, none, none, some (false, 644), some (false, 645)] }, { k := (.int .i64) }] }
noncomputable def spec_copyTree.A : Ann := { dp := fun d => isIn [] d, lp := look [(0, spec_copyTree.lvL0)], jn := look [], pins := [], nt := 35 }
noncomputable def spec_copyTree.phis (N : Nat) (d : Nat) : List (Nat × Sm D) := [(36, (⟨spec_copyTree.sg, fun (x : ImplTree × Unit) => spec_copyTree.R N d x.1⟩ : Sm D))]
noncomputable def spec_copyTree.a0 (N : Nat) (d : Nat) (n : Nat) (y : ImplTree × ImplTree × ImplTree × Int × Unit) : Option (ImplTree × Unit) := loopAt cx (look (spec_copyTree.phis N d)) spec_copyTree.A N n (encL cx spec_copyTree.lvL0.ms y).1 (encL cx spec_copyTree.lvL0.ms y).2 (bodyOf Tryd.f36) 0 (Kfin cx spec_copyTree.A spec_copyTree.sg Tryd.f36.results.toList) [1, 1, 0, 1, 1] []
theorem spec_copyTree.r0 (N : Nat) (d : Nat) : ∀ (n : Nat) (y : ImplTree × ImplTree × ImplTree × Int × Unit), spec_copyTree.a0 N d n y = spec_copyTree.L0 N (spec_copyTree.R N d) n y
  | 0, y => by kernel_rfl
  | n + 1, y => by
    have h : spec_copyTree.a0 N d (n + 1) y = spec_copyTree.B0 N (spec_copyTree.R N d) (fun z => spec_copyTree.a0 N d n z) y := by kernel_rfl
    have e : (fun z => spec_copyTree.a0 N d n z) = spec_copyTree.L0 N (spec_copyTree.R N d) n := funext fun z => spec_copyTree.r0 N d n z
    rw [h]
    try rw [e]
    first | done | rfl
theorem spec_copyTree.run (N : Nat) (d : Nat) (x : ImplTree × Unit) : runF cx (look (spec_copyTree.phis N d)) spec_copyTree.A N (bodyOf Tryd.f36) Tryd.f36.results.toList spec_copyTree.sg x = spec_copyTree.R N (d + 1) x.1 := by
  have h : runF cx (look (spec_copyTree.phis N d)) spec_copyTree.A N (bodyOf Tryd.f36) Tryd.f36.results.toList spec_copyTree.sg x = spec_copyTree.B N (spec_copyTree.R N d) (fun z => spec_copyTree.a0 N d N z) x.1 := by kernel_rfl
  have e0 : (fun z => spec_copyTree.a0 N d N z) = spec_copyTree.L0 N (spec_copyTree.R N d) N := funext fun z => spec_copyTree.r0 N d N z
  rw [h, e0]
  try rfl
theorem spec_copyTree.step (N : Nat) (d : Nat) (h_spec_copyTree : Sound cx Tryd.prog gam 36 (⟨spec_copyTree.sg, fun (x : ImplTree × Unit) => spec_copyTree.R N d x.1⟩ : Sm D)) : Sound cx Tryd.prog gam 36 (⟨spec_copyTree.sg, fun (x : ImplTree × Unit) => spec_copyTree.R N (d + 1) x.1⟩ : Sm D) := fn_sound (A := spec_copyTree.A) (Φ := (look (spec_copyTree.phis N d))) pok (G := gam) (ΦOk.cons h_spec_copyTree (fnOk_of (f := 36) (by kernel_rfl)) ΦOk.nil) mixed N Tryd.func36 (c := (bodyOf Tryd.f36)) (by kernel_rfl) spec_copyTree.sg (by kernel_rfl) (by kernel_rfl) (by kernel_rfl) (spec_copyTree.run N d)

theorem spec_copyTree.scc (N : Nat) : ∀ d, Sound cx Tryd.prog gam 36 (⟨spec_copyTree.sg, fun (x : ImplTree × Unit) => spec_copyTree.R N d x.1⟩ : Sm D)
  | 0 => none_sound 36 spec_copyTree.sg
  | d + 1 => by
    have ih := spec_copyTree.scc N d
    exact spec_copyTree.step N d ih
noncomputable def spec_copyTree.sm (N : Nat) : Sm D := (⟨spec_copyTree.sg, fun (x : ImplTree × Unit) => spec_copyTree.R N N x.1⟩ : Sm D)
theorem spec_copyTree.sound (N : Nat) : Sound cx Tryd.prog gam 36 (spec_copyTree.sm N) := (spec_copyTree.scc N N)
@[reducible] def spec_TreeAt.sg : Sg := { ms := [{ k := (.st 32) }, { k := (.sl (.int .i64)), fl := [none] }], keep := [false, false], rs := [{ k := (.st 32) }, { k := .bool }], hold := true }
noncomputable def spec_TreeAt.A : Ann := { dp := fun d => isIn [] d, lp := look [], jn := look [], pins := [], nt := 23 }
noncomputable def spec_TreeAt.phis (N : Nat) : List (Nat × Sm D) := [(23, spec_validTree.sm N), (35, spec_partAt.sm N), (36, spec_copyTree.sm N)]
theorem spec_TreeAt.run (N : Nat) (x : ImplTree × (List (Int)) × Unit) : runF cx (look (spec_TreeAt.phis N)) spec_TreeAt.A N (bodyOf Tryd.f15) Tryd.f15.results.toList spec_TreeAt.sg x = spec_TreeAt N x.1 x.2.1 := by
  have h : runF cx (look (spec_TreeAt.phis N)) spec_TreeAt.A N (bodyOf Tryd.f15) Tryd.f15.results.toList spec_TreeAt.sg x = spec_TreeAt.B N x.1 x.2.1 := by kernel_rfl
  rw [h]
  try rfl
noncomputable def spec_TreeAt.sm (N : Nat) : Sm D := (⟨spec_TreeAt.sg, fun (x : ImplTree × (List (Int)) × Unit) => spec_TreeAt N x.1 x.2.1⟩ : Sm D)
theorem spec_TreeAt.sound (N : Nat) : Sound cx Tryd.prog gam 15 (spec_TreeAt.sm N) := fn_sound (A := spec_TreeAt.A) (Φ := (look (spec_TreeAt.phis N))) pok (G := gam) (ΦOk.cons (spec_validTree.sound N) (fnOk_of (f := 23) (by kernel_rfl)) (ΦOk.cons (spec_partAt.sound N) (fnOk_of (f := 35) (by kernel_rfl)) (ΦOk.cons (spec_copyTree.sound N) (fnOk_of (f := 36) (by kernel_rfl)) ΦOk.nil))) mixed N Tryd.func15 (c := (bodyOf Tryd.f15)) (by kernel_rfl) spec_TreeAt.sg (by kernel_rfl) (by kernel_rfl) (by kernel_rfl) (spec_TreeAt.run N)

@[reducible] def impl_treesCopy.sg : Sg := { ms := [{ k := (.sl (.st 32)), fl := [none] }], keep := [false], rs := [{ k := (.sl (.st 32)), fl := [some (true, 411)] }] }
@[reducible] def impl_treeCopy.sg : Sg := { ms := [{ k := (.st 32) }], keep := [false], rs := [{ k := (.st 32), fl := [none, none, none, some (true, 414), some (true, 415)] }] }
@[reducible] def impl_treesCopy.lvL0 : Lv := { id := 0, slots := [3, 6, 7, 8], ms := [{ k := (.sl (.st 32)), fl := [some (true, 600)] }, { k := (.sl (.st 32)), fl := [none] }, { k := (.int .i64) }, { k := (.int .i64) }] }
noncomputable def impl_treesCopy.A : Ann := { dp := fun _ => true, lp := look [(0, impl_treesCopy.lvL0)], jn := look [], pins := [], nt := 19 }
noncomputable def impl_treesCopy.phis (N : Nat) (d : Nat) : List (Nat × Sm D) := [(38, (⟨impl_treeCopy.sg, fun (x : ImplTree × Unit) => impl_treeCopy.R N d x.1⟩ : Sm D))]
noncomputable def impl_treesCopy.a0 (N : Nat) (d : Nat) (n : Nat) (y : (List (ImplTree)) × (List (ImplTree)) × Int × Int × Unit) : Option ((List (ImplTree)) × Unit) := loopAt cx (look (impl_treesCopy.phis N d)) impl_treesCopy.A N n (encL cx impl_treesCopy.lvL0.ms y).1 (encL cx impl_treesCopy.lvL0.ms y).2 (bodyOf Tryd.f50) 0 (Kfin cx impl_treesCopy.A impl_treesCopy.sg Tryd.f50.results.toList) [1, 1, 0, 1, 1] []
theorem impl_treesCopy.r0 (N : Nat) (d : Nat) : ∀ (n : Nat) (y : (List (ImplTree)) × (List (ImplTree)) × Int × Int × Unit), impl_treesCopy.a0 N d n y = impl_treesCopy.L0 N (impl_treesCopy.R N d) (impl_treeCopy.R N d) n y
  | 0, y => by kernel_rfl
  | n + 1, y => by
    have h : impl_treesCopy.a0 N d (n + 1) y = impl_treesCopy.B0 N (impl_treesCopy.R N d) (impl_treeCopy.R N d) (fun z => impl_treesCopy.a0 N d n z) y := by kernel_rfl
    have e : (fun z => impl_treesCopy.a0 N d n z) = impl_treesCopy.L0 N (impl_treesCopy.R N d) (impl_treeCopy.R N d) n := funext fun z => impl_treesCopy.r0 N d n z
    rw [h]
    try rw [e]
    first | done | rfl
theorem impl_treesCopy.run (N : Nat) (d : Nat) (x : (List (ImplTree)) × Unit) : runF cx (look (impl_treesCopy.phis N d)) impl_treesCopy.A N (bodyOf Tryd.f50) Tryd.f50.results.toList impl_treesCopy.sg x = impl_treesCopy.R N (d + 1) x.1 := by
  have h : runF cx (look (impl_treesCopy.phis N d)) impl_treesCopy.A N (bodyOf Tryd.f50) Tryd.f50.results.toList impl_treesCopy.sg x = impl_treesCopy.B N (impl_treesCopy.R N d) (impl_treeCopy.R N d) (fun z => impl_treesCopy.a0 N d N z) x.1 := by kernel_rfl
  have e0 : (fun z => impl_treesCopy.a0 N d N z) = impl_treesCopy.L0 N (impl_treesCopy.R N d) (impl_treeCopy.R N d) N := funext fun z => impl_treesCopy.r0 N d N z
  rw [h, e0]
  try rfl
theorem impl_treesCopy.step (N : Nat) (d : Nat) (h_impl_treeCopy : Sound cx Tryd.prog gam 38 (⟨impl_treeCopy.sg, fun (x : ImplTree × Unit) => impl_treeCopy.R N d x.1⟩ : Sm D)) : Sound cx Tryd.prog gam 50 (⟨impl_treesCopy.sg, fun (x : (List (ImplTree)) × Unit) => impl_treesCopy.R N (d + 1) x.1⟩ : Sm D) := fn_sound (A := impl_treesCopy.A) (Φ := (look (impl_treesCopy.phis N d))) pok (G := gam) (ΦOk.cons h_impl_treeCopy (fnOk_of (f := 38) (by kernel_rfl)) ΦOk.nil) mixed N Tryd.func50 (c := (bodyOf Tryd.f50)) (by kernel_rfl) impl_treesCopy.sg (by kernel_rfl) (by kernel_rfl) (by kernel_rfl) (impl_treesCopy.run N d)

noncomputable def impl_treeCopy.A : Ann := { dp := fun _ => true, lp := look [], jn := look [], pins := [], nt := 14 }
noncomputable def impl_treeCopy.phis (N : Nat) (d : Nat) : List (Nat × Sm D) := [(50, (⟨impl_treesCopy.sg, fun (x : (List (ImplTree)) × Unit) => impl_treesCopy.R N d x.1⟩ : Sm D))]
theorem impl_treeCopy.run (N : Nat) (d : Nat) (x : ImplTree × Unit) : runF cx (look (impl_treeCopy.phis N d)) impl_treeCopy.A N (bodyOf Tryd.f38) Tryd.f38.results.toList impl_treeCopy.sg x = impl_treeCopy.R N (d + 1) x.1 := by
  have h : runF cx (look (impl_treeCopy.phis N d)) impl_treeCopy.A N (bodyOf Tryd.f38) Tryd.f38.results.toList impl_treeCopy.sg x = impl_treeCopy.B N (impl_treesCopy.R N d) (impl_treeCopy.R N d) x.1 := by kernel_rfl
  rw [h]
  try rfl
theorem impl_treeCopy.step (N : Nat) (d : Nat) (h_impl_treesCopy : Sound cx Tryd.prog gam 50 (⟨impl_treesCopy.sg, fun (x : (List (ImplTree)) × Unit) => impl_treesCopy.R N d x.1⟩ : Sm D)) : Sound cx Tryd.prog gam 38 (⟨impl_treeCopy.sg, fun (x : ImplTree × Unit) => impl_treeCopy.R N (d + 1) x.1⟩ : Sm D) := fn_sound (A := impl_treeCopy.A) (Φ := (look (impl_treeCopy.phis N d))) pok (G := gam) (ΦOk.cons h_impl_treesCopy (fnOk_of (f := 50) (by kernel_rfl)) ΦOk.nil) mixed N Tryd.func38 (c := (bodyOf Tryd.f38)) (by kernel_rfl) impl_treeCopy.sg (by kernel_rfl) (by kernel_rfl) (by kernel_rfl) (impl_treeCopy.run N d)

theorem impl_treesCopy.scc (N : Nat) : ∀ d, Sound cx Tryd.prog gam 50 (⟨impl_treesCopy.sg, fun (x : (List (ImplTree)) × Unit) => impl_treesCopy.R N d x.1⟩ : Sm D) ∧ Sound cx Tryd.prog gam 38 (⟨impl_treeCopy.sg, fun (x : ImplTree × Unit) => impl_treeCopy.R N d x.1⟩ : Sm D)
  | 0 => ⟨none_sound 50 impl_treesCopy.sg, none_sound 38 impl_treeCopy.sg⟩
  | d + 1 => by
    have ih := impl_treesCopy.scc N d
    obtain ⟨ih0, ih1⟩ := ih
    exact ⟨impl_treesCopy.step N d ih1, impl_treeCopy.step N d ih0⟩
noncomputable def impl_treesCopy.sm (N : Nat) : Sm D := (⟨impl_treesCopy.sg, fun (x : (List (ImplTree)) × Unit) => impl_treesCopy.R N N x.1⟩ : Sm D)
theorem impl_treesCopy.sound (N : Nat) : Sound cx Tryd.prog gam 50 (impl_treesCopy.sm N) := (impl_treesCopy.scc N N).1
noncomputable def impl_treeCopy.sm (N : Nat) : Sm D := (⟨impl_treeCopy.sg, fun (x : ImplTree × Unit) => impl_treeCopy.R N N x.1⟩ : Sm D)
theorem impl_treeCopy.sound (N : Nat) : Sound cx Tryd.prog gam 38 (impl_treeCopy.sm N) := (impl_treesCopy.scc N N).2
@[reducible] def impl_TreeAt.sg : Sg := { ms := [{ k := (.st 32) }, { k := (.sl (.int .i64)), fl := [none] }], keep := [false, false], rs := [{ k := (.st 32), fl := [none, none, none, some (true, 414), some (true, 415)] }, { k := .bool }] }
@[reducible] def impl_TreeAt.lvL0 : Lv := { id := 0, slots := [2, 4, 12, 13, 14], ms := [{ ptr := true, id := 600, t := 33, k := (.st 32), fl := [none, none, none, none, none] }, { ptr := true, id := 620, t := 33, k := (.st 32), fl := [none, none, none, some (true, 624), some (true, 625)] }, { k := (.sl (.int .i64)), fl := [none] }, { k := (.int .i64) }, { k := (.int .i64) }] }
noncomputable def impl_TreeAt.A : Ann := { dp := fun _ => true, lp := look [(0, impl_TreeAt.lvL0)], jn := look [], pins := [], nt := 34 }
noncomputable def impl_TreeAt.phis (N : Nat) : List (Nat × Sm D) := [(29, impl_TreeOk.sm N), (37, impl_within.sm N), (38, impl_treeCopy.sm N)]
noncomputable def impl_TreeAt.a0 (N : Nat) (n : Nat) (y : ImplTree × ImplTree × (List (Int)) × Int × Int × Unit) : Option (ImplTree × Bool × Unit) := loopAt cx (look (impl_TreeAt.phis N)) impl_TreeAt.A N n (encL cx impl_TreeAt.lvL0.ms y).1 (encL cx impl_TreeAt.lvL0.ms y).2 (bodyOf Tryd.f17) 0 (Kfin cx impl_TreeAt.A impl_TreeAt.sg Tryd.f17.results.toList) [1, 1, 0, 1, 1] []
theorem impl_TreeAt.r0 (N : Nat) : ∀ (n : Nat) (y : ImplTree × ImplTree × (List (Int)) × Int × Int × Unit), impl_TreeAt.a0 N n y = impl_TreeAt.L0 N n y
  | 0, y => by kernel_rfl
  | n + 1, y => by
    have h : impl_TreeAt.a0 N (n + 1) y = impl_TreeAt.B0 N (fun z => impl_TreeAt.a0 N n z) y := by kernel_rfl
    have e : (fun z => impl_TreeAt.a0 N n z) = impl_TreeAt.L0 N n := funext fun z => impl_TreeAt.r0 N n z
    rw [h]
    try rw [e]
    first | done | rfl
theorem impl_TreeAt.run (N : Nat) (x : ImplTree × (List (Int)) × Unit) : runF cx (look (impl_TreeAt.phis N)) impl_TreeAt.A N (bodyOf Tryd.f17) Tryd.f17.results.toList impl_TreeAt.sg x = impl_TreeAt N x.1 x.2.1 := by
  have h : runF cx (look (impl_TreeAt.phis N)) impl_TreeAt.A N (bodyOf Tryd.f17) Tryd.f17.results.toList impl_TreeAt.sg x = impl_TreeAt.B N (fun z => impl_TreeAt.a0 N N z) x.1 x.2.1 := by kernel_rfl
  have e0 : (fun z => impl_TreeAt.a0 N N z) = impl_TreeAt.L0 N N := funext fun z => impl_TreeAt.r0 N N z
  rw [h, e0]
  try rfl
noncomputable def impl_TreeAt.sm (N : Nat) : Sm D := (⟨impl_TreeAt.sg, fun (x : ImplTree × (List (Int)) × Unit) => impl_TreeAt N x.1 x.2.1⟩ : Sm D)
theorem impl_TreeAt.sound (N : Nat) : Sound cx Tryd.prog gam 17 (impl_TreeAt.sm N) := fn_sound (A := impl_TreeAt.A) (Φ := (look (impl_TreeAt.phis N))) pok (G := gam) (ΦOk.cons (impl_TreeOk.sound N) (fnOk_of (f := 29) (by kernel_rfl)) (ΦOk.cons (impl_within.sound N) (fnOk_of (f := 37) (by kernel_rfl)) (ΦOk.cons (impl_treeCopy.sound N) (fnOk_of (f := 38) (by kernel_rfl)) ΦOk.nil))) mixed N Tryd.func17 (c := (bodyOf Tryd.f17)) (by kernel_rfl) impl_TreeAt.sg (by kernel_rfl) (by kernel_rfl) (by kernel_rfl) (impl_TreeAt.run N)

@[reducible] def laws_heldPropS.sg : Sg := { ms := [{ k := (.sl (.st 65)), fl := [none] }, { k := (.int .i64) }], keep := [false, false], rs := [{ k := (.int .i64) }] }
@[reducible] def laws_heldPropS.lvL0 : Lv := { id := 0, slots := [0, 1, 5], ms := [{ k := (.sl (.st 65)), fl := [none] }, { k := (.int .i64) }, { k := (.int .i64) }] }
noncomputable def laws_heldPropS.A : Ann := { dp := fun d => isIn [] d, lp := look [(0, laws_heldPropS.lvL0)], jn := look [], pins := [], nt := 53 }
noncomputable def laws_heldPropS.phis (N : Nat) : List (Nat × Sm D) := [(49, laws_markText.sm N)]
noncomputable def laws_heldPropS.a0 (N : Nat) (n : Nat) (y : (List (ImplProp)) × Int × Int × Unit) : Option (Int × Unit) := loopAt cx (look (laws_heldPropS.phis N)) laws_heldPropS.A N n (encL cx laws_heldPropS.lvL0.ms y).1 (encL cx laws_heldPropS.lvL0.ms y).2 (bodyOf Tryd.f39) 0 (Kfin cx laws_heldPropS.A laws_heldPropS.sg Tryd.f39.results.toList) [1, 0, 1, 1] []
theorem laws_heldPropS.r0 (N : Nat) : ∀ (n : Nat) (y : (List (ImplProp)) × Int × Int × Unit), laws_heldPropS.a0 N n y = laws_heldPropS.L0 N n y
  | 0, y => by kernel_rfl
  | n + 1, y => by
    have h : laws_heldPropS.a0 N (n + 1) y = laws_heldPropS.B0 N (fun z => laws_heldPropS.a0 N n z) y := by kernel_rfl
    have e : (fun z => laws_heldPropS.a0 N n z) = laws_heldPropS.L0 N n := funext fun z => laws_heldPropS.r0 N n z
    rw [h]
    try rw [e]
    first | done | rfl
theorem laws_heldPropS.run (N : Nat) (x : (List (ImplProp)) × Int × Unit) : runF cx (look (laws_heldPropS.phis N)) laws_heldPropS.A N (bodyOf Tryd.f39) Tryd.f39.results.toList laws_heldPropS.sg x = laws_heldPropS N x.1 x.2.1 := by
  have h : runF cx (look (laws_heldPropS.phis N)) laws_heldPropS.A N (bodyOf Tryd.f39) Tryd.f39.results.toList laws_heldPropS.sg x = laws_heldPropS.B N (fun z => laws_heldPropS.a0 N N z) x.1 x.2.1 := by kernel_rfl
  have e0 : (fun z => laws_heldPropS.a0 N N z) = laws_heldPropS.L0 N N := funext fun z => laws_heldPropS.r0 N N z
  rw [h, e0]
  try rfl
noncomputable def laws_heldPropS.sm (N : Nat) : Sm D := (⟨laws_heldPropS.sg, fun (x : (List (ImplProp)) × Int × Unit) => laws_heldPropS N x.1 x.2.1⟩ : Sm D)
theorem laws_heldPropS.sound (N : Nat) : Sound cx Tryd.prog gam 39 (laws_heldPropS.sm N) := fn_sound (A := laws_heldPropS.A) (Φ := (look (laws_heldPropS.phis N))) pok (G := gam) (ΦOk.cons (laws_markText.sound N) (fnOk_of (f := 49) (by kernel_rfl)) ΦOk.nil) mixed N Tryd.func39 (c := (bodyOf Tryd.f39)) (by kernel_rfl) laws_heldPropS.sg (by kernel_rfl) (by kernel_rfl) (by kernel_rfl) (laws_heldPropS.run N)

@[reducible] def laws_heldTreeS.sg : Sg := { ms := [{ k := (.sl (.st 32)), fl := [none] }, { k := (.int .i64) }], keep := [false, false], rs := [{ k := (.int .i64) }] }
@[reducible] def laws_heldTreeS.lvL0 : Lv := { id := 0, slots := [0, 1, 5], ms := [{ k := (.sl (.st 32)), fl := [none] }, { k := (.int .i64) }, { k := (.int .i64) }] }
noncomputable def laws_heldTreeS.A : Ann := { dp := fun d => isIn [] d, lp := look [(0, laws_heldTreeS.lvL0)], jn := look [], pins := [], nt := 59 }
noncomputable def laws_heldTreeS.phis (N : Nat) (d : Nat) : List (Nat × Sm D) := [(49, laws_markText.sm N), (39, laws_heldPropS.sm N), (40, (⟨laws_heldTreeS.sg, fun (x : (List (ImplTree)) × Int × Unit) => laws_heldTreeS.R N d x.1 x.2.1⟩ : Sm D))]
noncomputable def laws_heldTreeS.a0 (N : Nat) (d : Nat) (n : Nat) (y : (List (ImplTree)) × Int × Int × Unit) : Option (Int × Unit) := loopAt cx (look (laws_heldTreeS.phis N d)) laws_heldTreeS.A N n (encL cx laws_heldTreeS.lvL0.ms y).1 (encL cx laws_heldTreeS.lvL0.ms y).2 (bodyOf Tryd.f40) 0 (Kfin cx laws_heldTreeS.A laws_heldTreeS.sg Tryd.f40.results.toList) [1, 0, 1, 1] []
theorem laws_heldTreeS.r0 (N : Nat) (d : Nat) : ∀ (n : Nat) (y : (List (ImplTree)) × Int × Int × Unit), laws_heldTreeS.a0 N d n y = laws_heldTreeS.L0 N (laws_heldTreeS.R N d) n y
  | 0, y => by kernel_rfl
  | n + 1, y => by
    have h : laws_heldTreeS.a0 N d (n + 1) y = laws_heldTreeS.B0 N (laws_heldTreeS.R N d) (fun z => laws_heldTreeS.a0 N d n z) y := by kernel_rfl
    have e : (fun z => laws_heldTreeS.a0 N d n z) = laws_heldTreeS.L0 N (laws_heldTreeS.R N d) n := funext fun z => laws_heldTreeS.r0 N d n z
    rw [h]
    try rw [e]
    first | done | rfl
theorem laws_heldTreeS.run (N : Nat) (d : Nat) (x : (List (ImplTree)) × Int × Unit) : runF cx (look (laws_heldTreeS.phis N d)) laws_heldTreeS.A N (bodyOf Tryd.f40) Tryd.f40.results.toList laws_heldTreeS.sg x = laws_heldTreeS.R N (d + 1) x.1 x.2.1 := by
  have h : runF cx (look (laws_heldTreeS.phis N d)) laws_heldTreeS.A N (bodyOf Tryd.f40) Tryd.f40.results.toList laws_heldTreeS.sg x = laws_heldTreeS.B N (laws_heldTreeS.R N d) (fun z => laws_heldTreeS.a0 N d N z) x.1 x.2.1 := by kernel_rfl
  have e0 : (fun z => laws_heldTreeS.a0 N d N z) = laws_heldTreeS.L0 N (laws_heldTreeS.R N d) N := funext fun z => laws_heldTreeS.r0 N d N z
  rw [h, e0]
  try rfl
theorem laws_heldTreeS.step (N : Nat) (d : Nat) (h_laws_heldTreeS : Sound cx Tryd.prog gam 40 (⟨laws_heldTreeS.sg, fun (x : (List (ImplTree)) × Int × Unit) => laws_heldTreeS.R N d x.1 x.2.1⟩ : Sm D)) : Sound cx Tryd.prog gam 40 (⟨laws_heldTreeS.sg, fun (x : (List (ImplTree)) × Int × Unit) => laws_heldTreeS.R N (d + 1) x.1 x.2.1⟩ : Sm D) := fn_sound (A := laws_heldTreeS.A) (Φ := (look (laws_heldTreeS.phis N d))) pok (G := gam) (ΦOk.cons (laws_markText.sound N) (fnOk_of (f := 49) (by kernel_rfl)) (ΦOk.cons (laws_heldPropS.sound N) (fnOk_of (f := 39) (by kernel_rfl)) (ΦOk.cons h_laws_heldTreeS (fnOk_of (f := 40) (by kernel_rfl)) ΦOk.nil))) mixed N Tryd.func40 (c := (bodyOf Tryd.f40)) (by kernel_rfl) laws_heldTreeS.sg (by kernel_rfl) (by kernel_rfl) (by kernel_rfl) (laws_heldTreeS.run N d)

theorem laws_heldTreeS.scc (N : Nat) : ∀ d, Sound cx Tryd.prog gam 40 (⟨laws_heldTreeS.sg, fun (x : (List (ImplTree)) × Int × Unit) => laws_heldTreeS.R N d x.1 x.2.1⟩ : Sm D)
  | 0 => none_sound 40 laws_heldTreeS.sg
  | d + 1 => by
    have ih := laws_heldTreeS.scc N d
    exact laws_heldTreeS.step N d ih
noncomputable def laws_heldTreeS.sm (N : Nat) : Sm D := (⟨laws_heldTreeS.sg, fun (x : (List (ImplTree)) × Int × Unit) => laws_heldTreeS.R N N x.1 x.2.1⟩ : Sm D)
theorem laws_heldTreeS.sound (N : Nat) : Sound cx Tryd.prog gam 40 (laws_heldTreeS.sm N) := (laws_heldTreeS.scc N N)
@[reducible] def laws_heldTree.sg : Sg := { ms := [{ k := (.st 32) }, { k := (.int .i64) }], keep := [false, false], rs := [{ k := (.int .i64) }] }
noncomputable def laws_heldTree.A : Ann := { dp := fun d => isIn [] d, lp := look [], jn := look [], pins := [], nt := 18 }
noncomputable def laws_heldTree.phis (N : Nat) : List (Nat × Sm D) := [(39, laws_heldPropS.sm N), (40, laws_heldTreeS.sm N)]
theorem laws_heldTree.run (N : Nat) (x : ImplTree × Int × Unit) : runF cx (look (laws_heldTree.phis N)) laws_heldTree.A N (bodyOf Tryd.f18) Tryd.f18.results.toList laws_heldTree.sg x = laws_heldTree N x.1 x.2.1 := by
  have h : runF cx (look (laws_heldTree.phis N)) laws_heldTree.A N (bodyOf Tryd.f18) Tryd.f18.results.toList laws_heldTree.sg x = laws_heldTree.B N x.1 x.2.1 := by kernel_rfl
  rw [h]
  try rfl
noncomputable def laws_heldTree.sm (N : Nat) : Sm D := (⟨laws_heldTree.sg, fun (x : ImplTree × Int × Unit) => laws_heldTree N x.1 x.2.1⟩ : Sm D)
theorem laws_heldTree.sound (N : Nat) : Sound cx Tryd.prog gam 18 (laws_heldTree.sm N) := fn_sound (A := laws_heldTree.A) (Φ := (look (laws_heldTree.phis N))) pok (G := gam) (ΦOk.cons (laws_heldPropS.sound N) (fnOk_of (f := 39) (by kernel_rfl)) (ΦOk.cons (laws_heldTreeS.sound N) (fnOk_of (f := 40) (by kernel_rfl)) ΦOk.nil)) mixed N Tryd.func18 (c := (bodyOf Tryd.f18)) (by kernel_rfl) laws_heldTree.sg (by kernel_rfl) (by kernel_rfl) (by kernel_rfl) (laws_heldTree.run N)

@[reducible] def laws_FnExactTreeAt.sg : Sg := { ms := [{ k := (.st 24) }, { k := (.sl (.int .i64)), fl := [none] }], keep := [false, false], rs := [{ k := .bool }] }
noncomputable def laws_FnExactTreeAt.A : Ann := { dp := fun d => isIn [] d, lp := look [], jn := look [], pins := [], nt := 117 }
noncomputable def laws_FnExactTreeAt.phis (N : Nat) : List (Nat × Sm D) := [(6, laws_szTree.sm N), (8, laws_toTree.sm N), (16, laws_toIntS.sm N), (15, spec_TreeAt.sm N), (17, impl_TreeAt.sm N), (11, laws_eqTree.sm N), (10, laws_eqIntS.sm N), (12, laws_markTree.sm N), (13, laws_markIntS.sm N), (18, laws_heldTree.sm N)]
theorem laws_FnExactTreeAt.run (N : Nat) (x : LawsTree × (List (Int)) × Unit) : runF cx (look (laws_FnExactTreeAt.phis N)) laws_FnExactTreeAt.A N (bodyOf Tryd.f4) Tryd.f4.results.toList laws_FnExactTreeAt.sg x = laws_FnExactTreeAt N x.1 x.2.1 := by
  have h : runF cx (look (laws_FnExactTreeAt.phis N)) laws_FnExactTreeAt.A N (bodyOf Tryd.f4) Tryd.f4.results.toList laws_FnExactTreeAt.sg x = laws_FnExactTreeAt.B N x.1 x.2.1 := by kernel_rfl
  rw [h]
  try rfl
noncomputable def laws_FnExactTreeAt.sm (N : Nat) : Sm D := (⟨laws_FnExactTreeAt.sg, fun (x : LawsTree × (List (Int)) × Unit) => laws_FnExactTreeAt N x.1 x.2.1⟩ : Sm D)
theorem laws_FnExactTreeAt.sound (N : Nat) : Sound cx Tryd.prog gam 4 (laws_FnExactTreeAt.sm N) := fn_sound (A := laws_FnExactTreeAt.A) (Φ := (look (laws_FnExactTreeAt.phis N))) pok (G := gam) (ΦOk.cons (laws_szTree.sound N) (fnOk_of (f := 6) (by kernel_rfl)) (ΦOk.cons (laws_toTree.sound N) (fnOk_of (f := 8) (by kernel_rfl)) (ΦOk.cons (laws_toIntS.sound N) (fnOk_of (f := 16) (by kernel_rfl)) (ΦOk.cons (spec_TreeAt.sound N) (fnOk_of (f := 15) (by kernel_rfl)) (ΦOk.cons (impl_TreeAt.sound N) (fnOk_of (f := 17) (by kernel_rfl)) (ΦOk.cons (laws_eqTree.sound N) (fnOk_of (f := 11) (by kernel_rfl)) (ΦOk.cons (laws_eqIntS.sound N) (fnOk_of (f := 10) (by kernel_rfl)) (ΦOk.cons (laws_markTree.sound N) (fnOk_of (f := 12) (by kernel_rfl)) (ΦOk.cons (laws_markIntS.sound N) (fnOk_of (f := 13) (by kernel_rfl)) (ΦOk.cons (laws_heldTree.sound N) (fnOk_of (f := 18) (by kernel_rfl)) ΦOk.nil)))))))))) mixed N Tryd.func4 (c := (bodyOf Tryd.f4)) (by kernel_rfl) laws_FnExactTreeAt.sg (by kernel_rfl) (by kernel_rfl) (by kernel_rfl) (laws_FnExactTreeAt.run N)

end
end Go.Ev
