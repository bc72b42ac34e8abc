/- Each function that the law reaches does what its plain form says; no condition beyond the table of the library. -/
import Derived.Test.YtmaghpkolkkncaaDoorEvT1
set_option linter.all false
set_option linter.unusedVariables false
set_option linter.unusedSimpArgs false
set_option maxRecDepth 100000
set_option maxHeartbeats 0
namespace Go.Ev
noncomputable section
open Go.Proofs
@[reducible] def impl_treeReader_num.sg : Sg := { ms := [{ ptr := true, id := 10, t := 75, k := (.st 74) }], keep := [true], rs := [{ k := (.int .i64) }] }
@[reducible] def impl_treeReader_num.lvL0 : Lv := { id := 0, slots := [0, 3], ms := [{ ptr := true, id := 10, t := 75, k := (.st 74), fl := [none, none, none] }, { k := (.int .i64) }] }
noncomputable def impl_treeReader_num.A : Ann := { dp := fun d => isIn [] d, lp := look [(0, impl_treeReader_num.lvL0)], jn := look [], pins := [10], nt := 84 }
noncomputable def impl_treeReader_num.phis (N : Nat) : List (Nat × Sm D) := [(85, impl_treeReader_peek.sm N), (99, LibAtoi.sm N)]
noncomputable def impl_treeReader_num.a0 (N : Nat) (n : Nat) (y : ImplTreeReader × Int × Unit) : Option (ImplTreeReader × Int × Unit) := loopAt cx (look (impl_treeReader_num.phis N)) impl_treeReader_num.A N n (encL cx impl_treeReader_num.lvL0.ms y).1 (encL cx impl_treeReader_num.lvL0.ms y).2 (bodyOf Tryd.f88) 0 (Kfin cx impl_treeReader_num.A impl_treeReader_num.sg Tryd.f88.results.toList) [1, 1, 1, 0, 1] []
theorem impl_treeReader_num.r0 (N : Nat) : ∀ (n : Nat) (y : ImplTreeReader × Int × Unit), impl_treeReader_num.a0 N n y = impl_treeReader_num.L0 N n y
  | 0, y => by kernel_rfl
  | n + 1, y => by
    have h : impl_treeReader_num.a0 N (n + 1) y = impl_treeReader_num.B0 N (fun z => impl_treeReader_num.a0 N n z) y := by kernel_rfl
    have e : (fun z => impl_treeReader_num.a0 N n z) = impl_treeReader_num.L0 N n := funext fun z => impl_treeReader_num.r0 N n z
    rw [h]
    try rw [e]
    first | done | rfl
theorem impl_treeReader_num.run (N : Nat) (x : ImplTreeReader × Unit) : runF cx (look (impl_treeReader_num.phis N)) impl_treeReader_num.A N (bodyOf Tryd.f88) Tryd.f88.results.toList impl_treeReader_num.sg x = impl_treeReader_num N x.1 := by
  have h : runF cx (look (impl_treeReader_num.phis N)) impl_treeReader_num.A N (bodyOf Tryd.f88) Tryd.f88.results.toList impl_treeReader_num.sg x = impl_treeReader_num.B N (fun z => impl_treeReader_num.a0 N N z) x.1 := by kernel_rfl
  have e0 : (fun z => impl_treeReader_num.a0 N N z) = impl_treeReader_num.L0 N N := funext fun z => impl_treeReader_num.r0 N N z
  rw [h, e0]
  try rfl
noncomputable def impl_treeReader_num.sm (N : Nat) : Sm D := (⟨impl_treeReader_num.sg, fun (x : ImplTreeReader × Unit) => impl_treeReader_num N x.1⟩ : Sm D)
theorem impl_treeReader_num.sound (N : Nat) : Sound cx Tryd.prog gam 88 (impl_treeReader_num.sm N) := fn_sound (A := impl_treeReader_num.A) (Φ := (look (impl_treeReader_num.phis N))) pok (G := gam) (ΦOk.cons (impl_treeReader_peek.sound N) (fnOk_of (f := 85) (by kernel_rfl)) (ΦOk.cons (LibAtoi.sound N) (fnOk_of (f := 99) (by kernel_rfl)) ΦOk.nil)) mixed N Tryd.func88 (c := (bodyOf Tryd.f88)) (by kernel_rfl) impl_treeReader_num.sg (by kernel_rfl) (by kernel_rfl) (by kernel_rfl) (impl_treeReader_num.run N)

@[reducible] def impl_number.sg : Sg := { ms := [{ k := (.int .i64) }], keep := [false], rs := [{ k := (.st 81) }] }
noncomputable def impl_number.A : Ann := { dp := fun d => isIn [] d, lp := look [], jn := look [], pins := [], nt := 5 }
noncomputable def impl_number.phis (N : Nat) : List (Nat × Sm D) := []
theorem impl_number.run (N : Nat) (x : Int × Unit) : runF cx (look (impl_number.phis N)) impl_number.A N (bodyOf Tryd.f101) Tryd.f101.results.toList impl_number.sg x = impl_number N x.1 := by
  have h : runF cx (look (impl_number.phis N)) impl_number.A N (bodyOf Tryd.f101) Tryd.f101.results.toList impl_number.sg x = impl_number.B N x.1 := by kernel_rfl
  rw [h]
  try rfl
noncomputable def impl_number.sm (N : Nat) : Sm D := (⟨impl_number.sg, fun (x : Int × Unit) => impl_number N x.1⟩ : Sm D)
theorem impl_number.sound (N : Nat) : Sound cx Tryd.prog gam 101 (impl_number.sm N) := fn_sound (A := impl_number.A) (Φ := (look (impl_number.phis N))) pok (G := gam) ΦOk.nil mixed N Tryd.func101 (c := (bodyOf Tryd.f101)) (by kernel_rfl) impl_number.sg (by kernel_rfl) (by kernel_rfl) (by kernel_rfl) (impl_number.run N)

@[reducible] def impl_treeReader_value.sg : Sg := { ms := [{ ptr := true, id := 10, t := 75, k := (.st 74) }], keep := [true], rs := [{ k := (.st 81) }] }
noncomputable def impl_treeReader_value.A : Ann := { dp := fun d => isIn [] d, lp := look [], jn := look [], pins := [10], nt := 65 }
noncomputable def impl_treeReader_value.phis (N : Nat) : List (Nat × Sm D) := [(85, impl_treeReader_peek.sm N), (86, impl_treeReader_quoted.sm N), (88, impl_treeReader_num.sm N), (101, impl_number.sm N)]
theorem impl_treeReader_value.run (N : Nat) (x : ImplTreeReader × Unit) : runF cx (look (impl_treeReader_value.phis N)) impl_treeReader_value.A N (bodyOf Tryd.f89) Tryd.f89.results.toList impl_treeReader_value.sg x = impl_treeReader_value N x.1 := by
  have h : runF cx (look (impl_treeReader_value.phis N)) impl_treeReader_value.A N (bodyOf Tryd.f89) Tryd.f89.results.toList impl_treeReader_value.sg x = impl_treeReader_value.B N x.1 := by kernel_rfl
  rw [h]
  try rfl
noncomputable def impl_treeReader_value.sm (N : Nat) : Sm D := (⟨impl_treeReader_value.sg, fun (x : ImplTreeReader × Unit) => impl_treeReader_value N x.1⟩ : Sm D)
theorem impl_treeReader_value.sound (N : Nat) : Sound cx Tryd.prog gam 89 (impl_treeReader_value.sm N) := fn_sound (A := impl_treeReader_value.A) (Φ := (look (impl_treeReader_value.phis N))) pok (G := gam) (ΦOk.cons (impl_treeReader_peek.sound N) (fnOk_of (f := 85) (by kernel_rfl)) (ΦOk.cons (impl_treeReader_quoted.sound N) (fnOk_of (f := 86) (by kernel_rfl)) (ΦOk.cons (impl_treeReader_num.sound N) (fnOk_of (f := 88) (by kernel_rfl)) (ΦOk.cons (impl_number.sound N) (fnOk_of (f := 101) (by kernel_rfl)) ΦOk.nil)))) mixed N Tryd.func89 (c := (bodyOf Tryd.f89)) (by kernel_rfl) impl_treeReader_value.sg (by kernel_rfl) (by kernel_rfl) (by kernel_rfl) (impl_treeReader_value.run N)

@[reducible] def impl_treeReader_tree.sg : Sg := { ms := [{ ptr := true, id := 10, t := 75, k := (.st 74) }, { k := (.int .i64) }], keep := [true, false], rs := [{ k := (.st 25) }], hold := true }
@[reducible] def impl_treeReader_tree.lvL0 : Lv := { id := 0, slots := [0, 1, 4, 5], ms := [{ ptr := true, id := 10, t := 75, k := (.st 74), fl := [none, none, none] }, { k := (.int .i64) }, { ptr := true, id := 640, t := 26, k := (.st 25), fl := [none, none, none, some (false, 644), some (false, 645)] }, { ptr := true, id := 660, t := 26, k := (.st 25), fl := [none, none, none, some (false, 664), some (false, 665)] }] }
noncomputable def impl_treeReader_tree.A : Ann := { dp := fun d => isIn [] d, lp := look [(0, impl_treeReader_tree.lvL0)], jn := look [], pins := [10], nt := 92 }
noncomputable def impl_treeReader_tree.phis (N : Nat) (d : Nat) : List (Nat × Sm D) := [(85, impl_treeReader_peek.sm N), (86, impl_treeReader_quoted.sm N), (87, impl_treeReader_take.sm N), (88, impl_treeReader_num.sm N), (89, impl_treeReader_value.sm N), (69, (⟨impl_treeReader_tree.sg, fun (x : ImplTreeReader × Int × Unit) => impl_treeReader_tree.R N d x.1 x.2.1⟩ : Sm D))]
noncomputable def impl_treeReader_tree.a0 (N : Nat) (d : Nat) (n : Nat) (y : ImplTreeReader × Int × ImplTree × ImplTree × Unit) : Option (ImplTreeReader × ImplTree × Unit) := loopAt cx (look (impl_treeReader_tree.phis N d)) impl_treeReader_tree.A N n (encL cx impl_treeReader_tree.lvL0.ms y).1 (encL cx impl_treeReader_tree.lvL0.ms y).2 (bodyOf Tryd.f69) 0 (Kfin cx impl_treeReader_tree.A impl_treeReader_tree.sg Tryd.f69.results.toList) [1, 1, 1, 1, 1, 1, 1, 0, 1] []
theorem impl_treeReader_tree.r0 (N : Nat) (d : Nat) : ∀ (n : Nat) (y : ImplTreeReader × Int × ImplTree × ImplTree × Unit), impl_treeReader_tree.a0 N d n y = impl_treeReader_tree.L0 N (impl_treeReader_tree.R N d) n y
  | 0, y => by kernel_rfl
  | n + 1, y => by
    have h : impl_treeReader_tree.a0 N d (n + 1) y = impl_treeReader_tree.B0 N (impl_treeReader_tree.R N d) (fun z => impl_treeReader_tree.a0 N d n z) y := by kernel_rfl
    have e : (fun z => impl_treeReader_tree.a0 N d n z) = impl_treeReader_tree.L0 N (impl_treeReader_tree.R N d) n := funext fun z => impl_treeReader_tree.r0 N d n z
    rw [h]
    try rw [e]
    first | done | rfl
theorem impl_treeReader_tree.run (N : Nat) (d : Nat) (x : ImplTreeReader × Int × Unit) : runF cx (look (impl_treeReader_tree.phis N d)) impl_treeReader_tree.A N (bodyOf Tryd.f69) Tryd.f69.results.toList impl_treeReader_tree.sg x = impl_treeReader_tree.R N (d + 1) x.1 x.2.1 := by
  have h : runF cx (look (impl_treeReader_tree.phis N d)) impl_treeReader_tree.A N (bodyOf Tryd.f69) Tryd.f69.results.toList impl_treeReader_tree.sg x = impl_treeReader_tree.B N (impl_treeReader_tree.R N d) (fun z => impl_treeReader_tree.a0 N d N z) x.1 x.2.1 := by kernel_rfl
  have e0 : (fun z => impl_treeReader_tree.a0 N d N z) = impl_treeReader_tree.L0 N (impl_treeReader_tree.R N d) N := funext fun z => impl_treeReader_tree.r0 N d N z
  rw [h, e0]
  try rfl
theorem impl_treeReader_tree.step (N : Nat) (d : Nat) (h_impl_treeReader_tree : Sound cx Tryd.prog gam 69 (⟨impl_treeReader_tree.sg, fun (x : ImplTreeReader × Int × Unit) => impl_treeReader_tree.R N d x.1 x.2.1⟩ : Sm D)) : Sound cx Tryd.prog gam 69 (⟨impl_treeReader_tree.sg, fun (x : ImplTreeReader × Int × Unit) => impl_treeReader_tree.R N (d + 1) x.1 x.2.1⟩ : Sm D) := fn_sound (A := impl_treeReader_tree.A) (Φ := (look (impl_treeReader_tree.phis N d))) pok (G := gam) (ΦOk.cons (impl_treeReader_peek.sound N) (fnOk_of (f := 85) (by kernel_rfl)) (ΦOk.cons (impl_treeReader_quoted.sound N) (fnOk_of (f := 86) (by kernel_rfl)) (ΦOk.cons (impl_treeReader_take.sound N) (fnOk_of (f := 87) (by kernel_rfl)) (ΦOk.cons (impl_treeReader_num.sound N) (fnOk_of (f := 88) (by kernel_rfl)) (ΦOk.cons (impl_treeReader_value.sound N) (fnOk_of (f := 89) (by kernel_rfl)) (ΦOk.cons h_impl_treeReader_tree (fnOk_of (f := 69) (by kernel_rfl)) ΦOk.nil)))))) mixed N Tryd.func69 (c := (bodyOf Tryd.f69)) (by kernel_rfl) impl_treeReader_tree.sg (by kernel_rfl) (by kernel_rfl) (by kernel_rfl) (impl_treeReader_tree.run N d)

theorem impl_treeReader_tree.scc (N : Nat) : ∀ d, Sound cx Tryd.prog gam 69 (⟨impl_treeReader_tree.sg, fun (x : ImplTreeReader × Int × Unit) => impl_treeReader_tree.R N d x.1 x.2.1⟩ : Sm D)
  | 0 => none_sound 69 impl_treeReader_tree.sg
  | d + 1 => by
    have ih := impl_treeReader_tree.scc N d
    exact impl_treeReader_tree.step N d ih
noncomputable def impl_treeReader_tree.sm (N : Nat) : Sm D := (⟨impl_treeReader_tree.sg, fun (x : ImplTreeReader × Int × Unit) => impl_treeReader_tree.R N N x.1 x.2.1⟩ : Sm D)
theorem impl_treeReader_tree.sound (N : Nat) : Sound cx Tryd.prog gam 69 (impl_treeReader_tree.sm N) := (impl_treeReader_tree.scc N N)
@[reducible] def impl_TreeRead.sg : Sg := { ms := [{ k := .str }], keep := [false], rs := [{ k := (.st 25) }, { k := .bool }], hold := true }
noncomputable def impl_TreeRead.A : Ann := { dp := fun d => isIn [] d, lp := look [], jn := look [], pins := [], nt := 42 }
noncomputable def impl_TreeRead.phis (N : Nat) : List (Nat × Sm D) := [(69, impl_treeReader_tree.sm N), (19, impl_TreeOk.sm N), (42, impl_treeWrite.sm N)]
theorem impl_TreeRead.run (N : Nat) (x : (List UInt8) × Unit) : runF cx (look (impl_TreeRead.phis N)) impl_TreeRead.A N (bodyOf Tryd.f39) Tryd.f39.results.toList impl_TreeRead.sg x = impl_TreeRead N x.1 := by
  have h : runF cx (look (impl_TreeRead.phis N)) impl_TreeRead.A N (bodyOf Tryd.f39) Tryd.f39.results.toList impl_TreeRead.sg x = impl_TreeRead.B N x.1 := by kernel_rfl
  rw [h]
  try rfl
noncomputable def impl_TreeRead.sm (N : Nat) : Sm D := (⟨impl_TreeRead.sg, fun (x : (List UInt8) × Unit) => impl_TreeRead N x.1⟩ : Sm D)
theorem impl_TreeRead.sound (N : Nat) : Sound cx Tryd.prog gam 39 (impl_TreeRead.sm N) := fn_sound (A := impl_TreeRead.A) (Φ := (look (impl_TreeRead.phis N))) pok (G := gam) (ΦOk.cons (impl_treeReader_tree.sound N) (fnOk_of (f := 69) (by kernel_rfl)) (ΦOk.cons (impl_TreeOk.sound N) (fnOk_of (f := 19) (by kernel_rfl)) (ΦOk.cons (impl_treeWrite.sound N) (fnOk_of (f := 42) (by kernel_rfl)) ΦOk.nil))) mixed N Tryd.func39 (c := (bodyOf Tryd.f39)) (by kernel_rfl) impl_TreeRead.sg (by kernel_rfl) (by kernel_rfl) (by kernel_rfl) (impl_TreeRead.run N)

@[reducible] def laws_FnTreeOk.sg : Sg := { ms := [{ k := (.sl (.int .u8)), fl := [none] }], keep := [false], rs := [{ k := .bool }] }
noncomputable def laws_FnTreeOk.A : Ann := { dp := fun d => isIn [] d, lp := look [], jn := look [], pins := [], nt := 46 }
noncomputable def laws_FnTreeOk.phis (N : Nat) : List (Nat × Sm D) := [(38, spec_DrawTreeOk.sm N), (19, impl_TreeOk.sm N), (17, spec_TreeOk.sm N), (14, impl_TreeText.sm N), (39, impl_TreeRead.sm N), (26, spec_SameTree.sm N)]
theorem laws_FnTreeOk.run (N : Nat) (x : (List (Int)) × Unit) : runF cx (look (laws_FnTreeOk.phis N)) laws_FnTreeOk.A N (bodyOf Tryd.f12) Tryd.f12.results.toList laws_FnTreeOk.sg x = laws_FnTreeOk N x.1 := by
  have h : runF cx (look (laws_FnTreeOk.phis N)) laws_FnTreeOk.A N (bodyOf Tryd.f12) Tryd.f12.results.toList laws_FnTreeOk.sg x = laws_FnTreeOk.B N x.1 := by kernel_rfl
  rw [h]
  try rfl
noncomputable def laws_FnTreeOk.sm (N : Nat) : Sm D := (⟨laws_FnTreeOk.sg, fun (x : (List (Int)) × Unit) => laws_FnTreeOk N x.1⟩ : Sm D)
theorem laws_FnTreeOk.sound (N : Nat) : Sound cx Tryd.prog gam 12 (laws_FnTreeOk.sm N) := fn_sound (A := laws_FnTreeOk.A) (Φ := (look (laws_FnTreeOk.phis N))) pok (G := gam) (ΦOk.cons (spec_DrawTreeOk.sound N) (fnOk_of (f := 38) (by kernel_rfl)) (ΦOk.cons (impl_TreeOk.sound N) (fnOk_of (f := 19) (by kernel_rfl)) (ΦOk.cons (spec_TreeOk.sound N) (fnOk_of (f := 17) (by kernel_rfl)) (ΦOk.cons (impl_TreeText.sound N) (fnOk_of (f := 14) (by kernel_rfl)) (ΦOk.cons (impl_TreeRead.sound N) (fnOk_of (f := 39) (by kernel_rfl)) (ΦOk.cons (spec_SameTree.sound N) (fnOk_of (f := 26) (by kernel_rfl)) ΦOk.nil)))))) mixed N Tryd.func12 (c := (bodyOf Tryd.f12)) (by kernel_rfl) laws_FnTreeOk.sg (by kernel_rfl) (by kernel_rfl) (by kernel_rfl) (laws_FnTreeOk.run N)

end
end Go.Ev
