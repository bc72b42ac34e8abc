/- Each function that the law reaches does what its plain form says; no condition beyond the table of the library. -/
import Derived.Test.YtilggcjneaecmaaDoorEvT1
set_option linter.all false
set_option linter.unusedVariables false
set_option linter.unusedSimpArgs false
set_option maxRecDepth 100000
set_option maxHeartbeats 0
namespace Go.Ev
noncomputable section
open Go.Proofs
@[reducible] def spec_placer_across.lvL0 : Lv := { id := 0, slots := [0, 1, 2, 3, 4, 5, 15, 16, 17], ms := [{ ptr := true, id := 10, t := 71, k := (.st 70), fl := [none, some (false, 602)] }, { k := (.sl (.st 32)), fl := [none] }, { k := (.sl (.int .i64)), fl := [none] }, { k := (.sl (.int .i64)), fl := [none] }, { k := (.int .i64) }, { k := (.int .i64) }, { k := (.sl (.int .i64)), fl := [none] }, { k := (.int .i64) }, { k := (.int .i64) }] }
noncomputable def spec_placer_across.A : Ann := { dp := fun d => isIn [] d, lp := look [(0, spec_placer_across.lvL0)], jn := look [], pins := [10], nt := 56 }
noncomputable def spec_placer_across.phis (N : Nat) (d : Nat) : List (Nat × Sm D) := [(56, spec_placer_wishes.sm N), (31, (⟨spec_placer_part.sg, fun (x : SpecPlacer × ImplTree × (List (Int)) × (List (Int)) × Int × Int × Int × Unit) => spec_placer_part.R N d x.1 x.2.1 x.2.2.1 x.2.2.2.1 x.2.2.2.2.1 x.2.2.2.2.2.1 x.2.2.2.2.2.2.1⟩ : Sm D))]
noncomputable def spec_placer_across.a0 (N : Nat) (d : Nat) (n : Nat) (y : SpecPlacer × (List (ImplTree)) × (List (Int)) × (List (Int)) × Int × Int × (List (Int)) × Int × Int × Unit) : Option (SpecPlacer × Int × Unit) := loopAt cx (look (spec_placer_across.phis N d)) spec_placer_across.A N n (encL cx spec_placer_across.lvL0.ms y).1 (encL cx spec_placer_across.lvL0.ms y).2 (bodyOf Tryd.f46) 0 (Kfin cx spec_placer_across.A spec_placer_across.sg Tryd.f46.results.toList) [1, 1, 1, 0, 1, 1] []
theorem spec_placer_across.r0 (N : Nat) (d : Nat) : ∀ (n : Nat) (y : SpecPlacer × (List (ImplTree)) × (List (Int)) × (List (Int)) × Int × Int × (List (Int)) × Int × Int × Unit), spec_placer_across.a0 N d n y = spec_placer_across.L0 N (spec_placer_down.R N d) (spec_placer_across.R N d) (spec_placer_part.R N d) n y
  | 0, y => by kernel_rfl
  | n + 1, y => by
    have h : spec_placer_across.a0 N d (n + 1) y = spec_placer_across.B0 N (spec_placer_down.R N d) (spec_placer_across.R N d) (spec_placer_part.R N d) (fun z => spec_placer_across.a0 N d n z) y := by kernel_rfl
    have e : (fun z => spec_placer_across.a0 N d n z) = spec_placer_across.L0 N (spec_placer_down.R N d) (spec_placer_across.R N d) (spec_placer_part.R N d) n := funext fun z => spec_placer_across.r0 N d n z
    rw [h]
    try rw [e]
    first | done | rfl
theorem spec_placer_across.run (N : Nat) (d : Nat) (x : SpecPlacer × (List (ImplTree)) × (List (Int)) × (List (Int)) × Int × Int × Int × Unit) : runF cx (look (spec_placer_across.phis N d)) spec_placer_across.A N (bodyOf Tryd.f46) Tryd.f46.results.toList spec_placer_across.sg x = spec_placer_across.R N (d + 1) x.1 x.2.1 x.2.2.1 x.2.2.2.1 x.2.2.2.2.1 x.2.2.2.2.2.1 x.2.2.2.2.2.2.1 := by
  have h : runF cx (look (spec_placer_across.phis N d)) spec_placer_across.A N (bodyOf Tryd.f46) Tryd.f46.results.toList spec_placer_across.sg x = spec_placer_across.B N (spec_placer_down.R N d) (spec_placer_across.R N d) (spec_placer_part.R N d) (fun z => spec_placer_across.a0 N d N z) x.1 x.2.1 x.2.2.1 x.2.2.2.1 x.2.2.2.2.1 x.2.2.2.2.2.1 x.2.2.2.2.2.2.1 := by kernel_rfl
  have e0 : (fun z => spec_placer_across.a0 N d N z) = spec_placer_across.L0 N (spec_placer_down.R N d) (spec_placer_across.R N d) (spec_placer_part.R N d) N := funext fun z => spec_placer_across.r0 N d N z
  rw [h, e0]
  try rfl
theorem spec_placer_across.step (N : Nat) (d : Nat) (h_spec_placer_part : Sound cx Tryd.prog gam 31 (⟨spec_placer_part.sg, fun (x : SpecPlacer × ImplTree × (List (Int)) × (List (Int)) × Int × Int × Int × Unit) => spec_placer_part.R N d x.1 x.2.1 x.2.2.1 x.2.2.2.1 x.2.2.2.2.1 x.2.2.2.2.2.1 x.2.2.2.2.2.2.1⟩ : Sm D)) : Sound cx Tryd.prog gam 46 (⟨spec_placer_across.sg, fun (x : SpecPlacer × (List (ImplTree)) × (List (Int)) × (List (Int)) × Int × Int × Int × Unit) => spec_placer_across.R N (d + 1) x.1 x.2.1 x.2.2.1 x.2.2.2.1 x.2.2.2.2.1 x.2.2.2.2.2.1 x.2.2.2.2.2.2.1⟩ : Sm D) := fn_sound (A := spec_placer_across.A) (Φ := (look (spec_placer_across.phis N d))) pok (G := gam) (ΦOk.cons (spec_placer_wishes.sound N) (fnOk_of (f := 56) (by kernel_rfl)) (ΦOk.cons h_spec_placer_part (fnOk_of (f := 31) (by kernel_rfl)) ΦOk.nil)) mixed N Tryd.func46 (c := (bodyOf Tryd.f46)) (by kernel_rfl) spec_placer_across.sg (by kernel_rfl) (by kernel_rfl) (by kernel_rfl) (spec_placer_across.run N d)

@[reducible] def spec_placer_part.lvJ12 : Lv := { id := 12, slots := [0, 2, 4, 5, 8, 14, 15, 16, 17], ms := [{ ptr := true, id := 10, t := 71, k := (.st 70), fl := [none, some (false, 602)] }, { k := (.sl (.int .i64)), fl := [none] }, { k := (.int .i64) }, { k := (.int .i64) }, { ptr := true, id := 680, t := 33, k := (.st 32), fl := [none, none, none, none, none] }, { ptr := true, id := 700, t := 51, k := (.st 50), fl := [none, none, none, none] }, { k := (.sl (.int .i64)), fl := [none] }, { k := (.int .i64) }, { ptr := true, id := 760, t := 51, k := (.st 50), fl := [none, none, none, none] }] }
@[reducible] def spec_placer_part.lvJ22 : Lv := { id := 22, slots := [0, 14, 16, 17], ms := [{ ptr := true, id := 10, t := 71, k := (.st 70), fl := [none, some (false, 602)] }, { ptr := true, id := 620, t := 51, k := (.st 50), fl := [none, none, none, none] }, { k := (.int .i64) }, { ptr := true, id := 660, t := 51, k := (.st 50), fl := [none, none, none, none] }] }
@[reducible] def spec_placer_part.lvJ19 : Lv := { id := 19, slots := [0, 14, 15, 16, 17, 18, 21], ms := [{ ptr := true, id := 10, t := 71, k := (.st 70), fl := [none, some (false, 602)] }, { ptr := true, id := 620, t := 51, k := (.st 50), fl := [none, none, none, none] }, { k := (.sl (.int .i64)), fl := [none] }, { k := (.int .i64) }, { ptr := true, id := 680, t := 51, k := (.st 50), fl := [none, none, none, none] }, { k := (.int .i64) }, { k := (.int .i64) }] }
noncomputable def spec_placer_part.A : Ann := { dp := fun d => isIn [] d, lp := look [], jn := look [(12, spec_placer_part.lvJ12), (22, spec_placer_part.lvJ22), (19, spec_placer_part.lvJ19)], pins := [10], nt := 148 }
noncomputable def spec_placer_part.phis (N : Nat) (d : Nat) : List (Nat × Sm D) := [(44, spec_looksOf.sm N), (45, spec_textBox.sm N), (46, (⟨spec_placer_across.sg, fun (x : SpecPlacer × (List (ImplTree)) × (List (Int)) × (List (Int)) × Int × Int × Int × Unit) => spec_placer_across.R N d x.1 x.2.1 x.2.2.1 x.2.2.2.1 x.2.2.2.2.1 x.2.2.2.2.2.1 x.2.2.2.2.2.2.1⟩ : Sm D)), (47, (⟨spec_placer_down.sg, fun (x : SpecPlacer × (List (ImplTree)) × (List (Int)) × (List (Int)) × Int × Int × Int × Unit) => spec_placer_down.R N d x.1 x.2.1 x.2.2.1 x.2.2.2.1 x.2.2.2.2.1 x.2.2.2.2.2.1 x.2.2.2.2.2.2.1⟩ : Sm D))]
theorem spec_placer_part.run (N : Nat) (d : Nat) (x : SpecPlacer × ImplTree × (List (Int)) × (List (Int)) × Int × Int × Int × Unit) : runF cx (look (spec_placer_part.phis N d)) spec_placer_part.A N (bodyOf Tryd.f31) Tryd.f31.results.toList spec_placer_part.sg x = spec_placer_part.R N (d + 1) x.1 x.2.1 x.2.2.1 x.2.2.2.1 x.2.2.2.2.1 x.2.2.2.2.2.1 x.2.2.2.2.2.2.1 := by
  have h : runF cx (look (spec_placer_part.phis N d)) spec_placer_part.A N (bodyOf Tryd.f31) Tryd.f31.results.toList spec_placer_part.sg x = spec_placer_part.B N (spec_placer_down.R N d) (spec_placer_across.R N d) (spec_placer_part.R N d) x.1 x.2.1 x.2.2.1 x.2.2.2.1 x.2.2.2.2.1 x.2.2.2.2.2.1 x.2.2.2.2.2.2.1 := by kernel_rfl
  rw [h]
  try rfl
theorem spec_placer_part.step (N : Nat) (d : Nat) (h_spec_placer_across : Sound cx Tryd.prog gam 46 (⟨spec_placer_across.sg, fun (x : SpecPlacer × (List (ImplTree)) × (List (Int)) × (List (Int)) × Int × Int × Int × Unit) => spec_placer_across.R N d x.1 x.2.1 x.2.2.1 x.2.2.2.1 x.2.2.2.2.1 x.2.2.2.2.2.1 x.2.2.2.2.2.2.1⟩ : Sm D)) (h_spec_placer_down : Sound cx Tryd.prog gam 47 (⟨spec_placer_down.sg, fun (x : SpecPlacer × (List (ImplTree)) × (List (Int)) × (List (Int)) × Int × Int × Int × Unit) => spec_placer_down.R N d x.1 x.2.1 x.2.2.1 x.2.2.2.1 x.2.2.2.2.1 x.2.2.2.2.2.1 x.2.2.2.2.2.2.1⟩ : Sm D)) : Sound cx Tryd.prog gam 31 (⟨spec_placer_part.sg, fun (x : SpecPlacer × ImplTree × (List (Int)) × (List (Int)) × Int × Int × Int × Unit) => spec_placer_part.R N (d + 1) x.1 x.2.1 x.2.2.1 x.2.2.2.1 x.2.2.2.2.1 x.2.2.2.2.2.1 x.2.2.2.2.2.2.1⟩ : Sm D) := fn_sound (A := spec_placer_part.A) (Φ := (look (spec_placer_part.phis N d))) pok (G := gam) (ΦOk.cons (spec_looksOf.sound N) (fnOk_of (f := 44) (by kernel_rfl)) (ΦOk.cons (spec_textBox.sound N) (fnOk_of (f := 45) (by kernel_rfl)) (ΦOk.cons h_spec_placer_across (fnOk_of (f := 46) (by kernel_rfl)) (ΦOk.cons h_spec_placer_down (fnOk_of (f := 47) (by kernel_rfl)) ΦOk.nil)))) mixed N Tryd.func31 (c := (bodyOf Tryd.f31)) (by kernel_rfl) spec_placer_part.sg (by kernel_rfl) (by kernel_rfl) (by kernel_rfl) (spec_placer_part.run N d)

theorem spec_placer_down.scc (N : Nat) : ∀ d, Sound cx Tryd.prog gam 47 (⟨spec_placer_down.sg, fun (x : SpecPlacer × (List (ImplTree)) × (List (Int)) × (List (Int)) × Int × Int × Int × Unit) => spec_placer_down.R N d x.1 x.2.1 x.2.2.1 x.2.2.2.1 x.2.2.2.2.1 x.2.2.2.2.2.1 x.2.2.2.2.2.2.1⟩ : Sm D) ∧ Sound cx Tryd.prog gam 46 (⟨spec_placer_across.sg, fun (x : SpecPlacer × (List (ImplTree)) × (List (Int)) × (List (Int)) × Int × Int × Int × Unit) => spec_placer_across.R N d x.1 x.2.1 x.2.2.1 x.2.2.2.1 x.2.2.2.2.1 x.2.2.2.2.2.1 x.2.2.2.2.2.2.1⟩ : Sm D) ∧ Sound cx Tryd.prog gam 31 (⟨spec_placer_part.sg, fun (x : SpecPlacer × ImplTree × (List (Int)) × (List (Int)) × Int × Int × Int × Unit) => spec_placer_part.R N d x.1 x.2.1 x.2.2.1 x.2.2.2.1 x.2.2.2.2.1 x.2.2.2.2.2.1 x.2.2.2.2.2.2.1⟩ : Sm D)
  | 0 => ⟨none_sound 47 spec_placer_down.sg, none_sound 46 spec_placer_across.sg, none_sound 31 spec_placer_part.sg⟩
  | d + 1 => by
    have ih := spec_placer_down.scc N d
    obtain ⟨ih0, ih1, ih2⟩ := ih
    exact ⟨spec_placer_down.step N d ih2, spec_placer_across.step N d ih2, spec_placer_part.step N d ih1 ih0⟩
noncomputable def spec_placer_down.sm (N : Nat) : Sm D := (⟨spec_placer_down.sg, fun (x : SpecPlacer × (List (ImplTree)) × (List (Int)) × (List (Int)) × Int × Int × Int × Unit) => spec_placer_down.R N N x.1 x.2.1 x.2.2.1 x.2.2.2.1 x.2.2.2.2.1 x.2.2.2.2.2.1 x.2.2.2.2.2.2.1⟩ : Sm D)
theorem spec_placer_down.sound (N : Nat) : Sound cx Tryd.prog gam 47 (spec_placer_down.sm N) := (spec_placer_down.scc N N).1
noncomputable def spec_placer_across.sm (N : Nat) : Sm D := (⟨spec_placer_across.sg, fun (x : SpecPlacer × (List (ImplTree)) × (List (Int)) × (List (Int)) × Int × Int × Int × Unit) => spec_placer_across.R N N x.1 x.2.1 x.2.2.1 x.2.2.2.1 x.2.2.2.2.1 x.2.2.2.2.2.1 x.2.2.2.2.2.2.1⟩ : Sm D)
theorem spec_placer_across.sound (N : Nat) : Sound cx Tryd.prog gam 46 (spec_placer_across.sm N) := (spec_placer_down.scc N N).2.1
noncomputable def spec_placer_part.sm (N : Nat) : Sm D := (⟨spec_placer_part.sg, fun (x : SpecPlacer × ImplTree × (List (Int)) × (List (Int)) × Int × Int × Int × Unit) => spec_placer_part.R N N x.1 x.2.1 x.2.2.1 x.2.2.2.1 x.2.2.2.2.1 x.2.2.2.2.2.1 x.2.2.2.2.2.2.1⟩ : Sm D)
theorem spec_placer_part.sound (N : Nat) : Sound cx Tryd.prog gam 31 (spec_placer_part.sm N) := (spec_placer_down.scc N N).2.2
@[reducible] def spec_boxes.sg : Sg := { ms := [{ k := (.st 32) }, { k := (.sl (.st 57)), fl := [none] }, { k := (.int .i64) }], keep := [false, false, false], rs := [{ k := (.sl (.st 50)), fl := [none] }], hold := true }
noncomputable def spec_boxes.A : Ann := { dp := fun d => isIn [] d, lp := look [], jn := look [], pins := [], nt := 21 }
noncomputable def spec_boxes.phis (N : Nat) : List (Nat × Sm D) := [(31, spec_placer_part.sm N)]
theorem spec_boxes.run (N : Nat) (x : ImplTree × (List (ImplRule)) × Int × Unit) : runF cx (look (spec_boxes.phis N)) spec_boxes.A N (bodyOf Tryd.f18) Tryd.f18.results.toList spec_boxes.sg x = spec_boxes N x.1 x.2.1 x.2.2.1 := by
  have h : runF cx (look (spec_boxes.phis N)) spec_boxes.A N (bodyOf Tryd.f18) Tryd.f18.results.toList spec_boxes.sg x = spec_boxes.B N x.1 x.2.1 x.2.2.1 := by kernel_rfl
  rw [h]
  try rfl
noncomputable def spec_boxes.sm (N : Nat) : Sm D := (⟨spec_boxes.sg, fun (x : ImplTree × (List (ImplRule)) × Int × Unit) => spec_boxes N x.1 x.2.1 x.2.2.1⟩ : Sm D)
theorem spec_boxes.sound (N : Nat) : Sound cx Tryd.prog gam 18 (spec_boxes.sm N) := fn_sound (A := spec_boxes.A) (Φ := (look (spec_boxes.phis N))) pok (G := gam) (ΦOk.cons (spec_placer_part.sound N) (fnOk_of (f := 31) (by kernel_rfl)) ΦOk.nil) mixed N Tryd.func18 (c := (bodyOf Tryd.f18)) (by kernel_rfl) spec_boxes.sg (by kernel_rfl) (by kernel_rfl) (by kernel_rfl) (spec_boxes.run N)

@[reducible] def spec_BoxHigh.sg : Sg := { ms := [{ k := (.st 32) }, { k := (.sl (.st 57)), fl := [none] }, { k := (.int .i64) }], keep := [false, false, false], rs := [{ k := (.int .i64) }] }
noncomputable def spec_BoxHigh.A : Ann := { dp := fun d => isIn [] d, lp := look [], jn := look [], pins := [], nt := 27 }
noncomputable def spec_BoxHigh.phis (N : Nat) : List (Nat × Sm D) := [(15, spec_validTree.sm N), (16, spec_validRules.sm N), (17, spec_inRange.sm N), (18, spec_boxes.sm N)]
theorem spec_BoxHigh.run (N : Nat) (x : ImplTree × (List (ImplRule)) × Int × Unit) : runF cx (look (spec_BoxHigh.phis N)) spec_BoxHigh.A N (bodyOf Tryd.f6) Tryd.f6.results.toList spec_BoxHigh.sg x = spec_BoxHigh N x.1 x.2.1 x.2.2.1 := by
  have h : runF cx (look (spec_BoxHigh.phis N)) spec_BoxHigh.A N (bodyOf Tryd.f6) Tryd.f6.results.toList spec_BoxHigh.sg x = spec_BoxHigh.B N x.1 x.2.1 x.2.2.1 := by kernel_rfl
  rw [h]
  try rfl
noncomputable def spec_BoxHigh.sm (N : Nat) : Sm D := (⟨spec_BoxHigh.sg, fun (x : ImplTree × (List (ImplRule)) × Int × Unit) => spec_BoxHigh N x.1 x.2.1 x.2.2.1⟩ : Sm D)
theorem spec_BoxHigh.sound (N : Nat) : Sound cx Tryd.prog gam 6 (spec_BoxHigh.sm N) := fn_sound (A := spec_BoxHigh.A) (Φ := (look (spec_BoxHigh.phis N))) pok (G := gam) (ΦOk.cons (spec_validTree.sound N) (fnOk_of (f := 15) (by kernel_rfl)) (ΦOk.cons (spec_validRules.sound N) (fnOk_of (f := 16) (by kernel_rfl)) (ΦOk.cons (spec_inRange.sound N) (fnOk_of (f := 17) (by kernel_rfl)) (ΦOk.cons (spec_boxes.sound N) (fnOk_of (f := 18) (by kernel_rfl)) ΦOk.nil)))) mixed N Tryd.func6 (c := (bodyOf Tryd.f6)) (by kernel_rfl) spec_BoxHigh.sg (by kernel_rfl) (by kernel_rfl) (by kernel_rfl) (spec_BoxHigh.run N)

@[reducible] def impl_word.sg : Sg := { ms := [{ k := .str }], keep := [false], rs := [{ k := .bool }] }
@[reducible] def impl_word.lvL0 : Lv := { id := 0, slots := [0, 3], ms := [{ k := .str }, { k := (.int .i64) }] }
noncomputable def impl_word.A : Ann := { dp := fun d => isIn [] d, lp := look [(0, impl_word.lvL0)], jn := look [], pins := [], nt := 36 }
noncomputable def impl_word.phis (N : Nat) : List (Nat × Sm D) := []
noncomputable def impl_word.a0 (N : Nat) (n : Nat) (y : (List UInt8) × Int × Unit) : Option (Bool × Unit) := loopAt cx (look (impl_word.phis N)) impl_word.A N n (encL cx impl_word.lvL0.ms y).1 (encL cx impl_word.lvL0.ms y).2 (bodyOf Tryd.f58) 0 (Kfin cx impl_word.A impl_word.sg Tryd.f58.results.toList) [1, 0, 1, 1] []
theorem impl_word.r0 (N : Nat) : ∀ (n : Nat) (y : (List UInt8) × Int × Unit), impl_word.a0 N n y = impl_word.L0 N n y
  | 0, y => by kernel_rfl
  | n + 1, y => by
    have h : impl_word.a0 N (n + 1) y = impl_word.B0 N (fun z => impl_word.a0 N n z) y := by kernel_rfl
    have e : (fun z => impl_word.a0 N n z) = impl_word.L0 N n := funext fun z => impl_word.r0 N n z
    rw [h]
    try rw [e]
    first | done | rfl
theorem impl_word.run (N : Nat) (x : (List UInt8) × Unit) : runF cx (look (impl_word.phis N)) impl_word.A N (bodyOf Tryd.f58) Tryd.f58.results.toList impl_word.sg x = impl_word N x.1 := by
  have h : runF cx (look (impl_word.phis N)) impl_word.A N (bodyOf Tryd.f58) Tryd.f58.results.toList impl_word.sg x = impl_word.B N (fun z => impl_word.a0 N N z) x.1 := by kernel_rfl
  have e0 : (fun z => impl_word.a0 N N z) = impl_word.L0 N N := funext fun z => impl_word.r0 N N z
  rw [h, e0]
  try rfl
noncomputable def impl_word.sm (N : Nat) : Sm D := (⟨impl_word.sg, fun (x : (List UInt8) × Unit) => impl_word N x.1⟩ : Sm D)
theorem impl_word.sound (N : Nat) : Sound cx Tryd.prog gam 58 (impl_word.sm N) := fn_sound (A := impl_word.A) (Φ := (look (impl_word.phis N))) pok (G := gam) ΦOk.nil mixed N Tryd.func58 (c := (bodyOf Tryd.f58)) (by kernel_rfl) impl_word.sg (by kernel_rfl) (by kernel_rfl) (by kernel_rfl) (impl_word.run N)

@[reducible] def impl_within.sg : Sg := { ms := [{ k := (.int .i64) }, { k := (.int .i64) }, { k := (.int .i64) }], keep := [false, false, false], rs := [{ k := .bool }] }
noncomputable def impl_within.A : Ann := { dp := fun d => isIn [] d, lp := look [], jn := look [], pins := [], nt := 15 }
noncomputable def impl_within.phis (N : Nat) : List (Nat × Sm D) := []
theorem impl_within.run (N : Nat) (x : Int × Int × Int × Unit) : runF cx (look (impl_within.phis N)) impl_within.A N (bodyOf Tryd.f36) Tryd.f36.results.toList impl_within.sg x = impl_within N x.1 x.2.1 x.2.2.1 := by
  have h : runF cx (look (impl_within.phis N)) impl_within.A N (bodyOf Tryd.f36) Tryd.f36.results.toList impl_within.sg x = impl_within.B N x.1 x.2.1 x.2.2.1 := by kernel_rfl
  rw [h]
  try rfl
noncomputable def impl_within.sm (N : Nat) : Sm D := (⟨impl_within.sg, fun (x : Int × Int × Int × Unit) => impl_within N x.1 x.2.1 x.2.2.1⟩ : Sm D)
theorem impl_within.sound (N : Nat) : Sound cx Tryd.prog gam 36 (impl_within.sm N) := fn_sound (A := impl_within.A) (Φ := (look (impl_within.phis N))) pok (G := gam) ΦOk.nil mixed N Tryd.func36 (c := (bodyOf Tryd.f36)) (by kernel_rfl) impl_within.sg (by kernel_rfl) (by kernel_rfl) (by kernel_rfl) (impl_within.run N)

@[reducible] def impl_shown.sg : Sg := { ms := [{ k := .str }], keep := [false], rs := [{ k := .bool }] }
noncomputable def impl_shown.A : Ann := { dp := fun d => isIn [] d, lp := look [], jn := look [], pins := [], nt := 24 }
noncomputable def impl_shown.phis (N : Nat) : List (Nat × Sm D) := [(58, impl_word.sm N), (65, LibAtoi.sm N), (36, impl_within.sm N), (66, LibItoa.sm N)]
theorem impl_shown.run (N : Nat) (x : (List UInt8) × Unit) : runF cx (look (impl_shown.phis N)) impl_shown.A N (bodyOf Tryd.f57) Tryd.f57.results.toList impl_shown.sg x = impl_shown N x.1 := by
  have h : runF cx (look (impl_shown.phis N)) impl_shown.A N (bodyOf Tryd.f57) Tryd.f57.results.toList impl_shown.sg x = impl_shown.B N x.1 := by kernel_rfl
  rw [h]
  try rfl
noncomputable def impl_shown.sm (N : Nat) : Sm D := (⟨impl_shown.sg, fun (x : (List UInt8) × Unit) => impl_shown N x.1⟩ : Sm D)
theorem impl_shown.sound (N : Nat) : Sound cx Tryd.prog gam 57 (impl_shown.sm N) := fn_sound (A := impl_shown.A) (Φ := (look (impl_shown.phis N))) pok (G := gam) (ΦOk.cons (impl_word.sound N) (fnOk_of (f := 58) (by kernel_rfl)) (ΦOk.cons (LibAtoi.sound N) (fnOk_of (f := 65) (by kernel_rfl)) (ΦOk.cons (impl_within.sound N) (fnOk_of (f := 36) (by kernel_rfl)) (ΦOk.cons (LibItoa.sound N) (fnOk_of (f := 66) (by kernel_rfl)) ΦOk.nil)))) mixed N Tryd.func57 (c := (bodyOf Tryd.f57)) (by kernel_rfl) impl_shown.sg (by kernel_rfl) (by kernel_rfl) (by kernel_rfl) (impl_shown.run N)

@[reducible] def impl_ValOk.sg : Sg := { ms := [{ k := (.st 43) }], keep := [false], rs := [{ k := .bool }] }
noncomputable def impl_ValOk.A : Ann := { dp := fun d => isIn [] d, lp := look [], jn := look [], pins := [], nt := 35 }
noncomputable def impl_ValOk.phis (N : Nat) : List (Nat × Sm D) := [(36, impl_within.sm N), (58, impl_word.sm N)]
theorem impl_ValOk.run (N : Nat) (x : ImplValue × Unit) : runF cx (look (impl_ValOk.phis N)) impl_ValOk.A N (bodyOf Tryd.f49) Tryd.f49.results.toList impl_ValOk.sg x = impl_ValOk N x.1 := by
  have h : runF cx (look (impl_ValOk.phis N)) impl_ValOk.A N (bodyOf Tryd.f49) Tryd.f49.results.toList impl_ValOk.sg x = impl_ValOk.B N x.1 := by kernel_rfl
  rw [h]
  try rfl
noncomputable def impl_ValOk.sm (N : Nat) : Sm D := (⟨impl_ValOk.sg, fun (x : ImplValue × Unit) => impl_ValOk N x.1⟩ : Sm D)
theorem impl_ValOk.sound (N : Nat) : Sound cx Tryd.prog gam 49 (impl_ValOk.sm N) := fn_sound (A := impl_ValOk.A) (Φ := (look (impl_ValOk.phis N))) pok (G := gam) (ΦOk.cons (impl_within.sound N) (fnOk_of (f := 36) (by kernel_rfl)) (ΦOk.cons (impl_word.sound N) (fnOk_of (f := 58) (by kernel_rfl)) ΦOk.nil)) mixed N Tryd.func49 (c := (bodyOf Tryd.f49)) (by kernel_rfl) impl_ValOk.sg (by kernel_rfl) (by kernel_rfl) (by kernel_rfl) (impl_ValOk.run N)

@[reducible] def impl_treeFits.sg : Sg := { ms := [{ k := (.st 32) }, { k := (.int .i64) }, { ptr := true, id := 50, t := 3, k := (.int .i64) }], keep := [false, false, true], rs := [{ k := .bool }] }
@[reducible] def impl_treeFits.lvL2 : Lv := { id := 2, slots := [1, 2, 9, 100, 101, 102], ms := [{ k := (.int .i64) }, { ptr := true, id := 50, t := 3, k := (.int .i64), fl := [none] }, { ptr := true, id := 640, t := 777777, k := (.sl (.int .i64)), fl := [none] }, { k := (.sl (.st 32)), fl := [none] }, { k := (.int .i64) }, { k := (.int .i64) }] }
@[reducible] def impl_treeFits.lvL0 : Lv := { id := 0, slots := [1, 2, 3, 64, 65, 66], ms := [{ k := (.int .i64) }, { ptr := true, id := 50, t := 3, k := (.int .i64), fl := [none] }, { ptr := true, id := 640, t := 33, k := (.st 32), fl := [none, none, none, none, none] }, { k := (.sl (.st 74)), fl := [none] }, { k := (.int .i64) }, { k := (.int .i64) }] }
noncomputable def impl_treeFits.A : Ann := { dp := fun d => isIn [] d, lp := look [(2, impl_treeFits.lvL2), (0, impl_treeFits.lvL0)], jn := look [], pins := [50], nt := 125 }
noncomputable def impl_treeFits.phis (N : Nat) (d : Nat) : List (Nat × Sm D) := [(57, impl_shown.sm N), (36, impl_within.sm N), (49, impl_ValOk.sm N), (48, (⟨impl_treeFits.sg, fun (x : ImplTree × Int × Int × Unit) => impl_treeFits.R N d x.1 x.2.1 x.2.2.1⟩ : Sm D))]
noncomputable def impl_treeFits.a2 (N : Nat) (d : Nat) (n : Nat) (y : Int × Int × (List (Int)) × (List (ImplTree)) × Int × Int × Unit) : Option (Int × Bool × Unit) := loopAt cx (look (impl_treeFits.phis N d)) impl_treeFits.A N n (encL cx impl_treeFits.lvL2.ms y).1 (encL cx impl_treeFits.lvL2.ms y).2 (bodyOf Tryd.f48) 0 (Kfin cx impl_treeFits.A impl_treeFits.sg Tryd.f48.results.toList) [1, 1, 1, 1, 1, 1, 1, 0, 1, 1] []
noncomputable def impl_treeFits.a0 (N : Nat) (d : Nat) (n : Nat) (y : Int × Int × ImplTree × (List (ImplProp)) × Int × Int × Unit) : Option (Int × Bool × Unit) := loopAt cx (look (impl_treeFits.phis N d)) impl_treeFits.A N n (encL cx impl_treeFits.lvL0.ms y).1 (encL cx impl_treeFits.lvL0.ms y).2 (bodyOf Tryd.f48) 0 (Kfin cx impl_treeFits.A impl_treeFits.sg Tryd.f48.results.toList) [1, 1, 1, 1, 1, 0, 1, 1] []
theorem impl_treeFits.r2 (N : Nat) (d : Nat) : ∀ (n : Nat) (y : Int × Int × (List (Int)) × (List (ImplTree)) × Int × Int × Unit), impl_treeFits.a2 N d n y = impl_treeFits.L2 N (impl_treeFits.R N d) n y
  | 0, y => by kernel_rfl
  | n + 1, y => by
    have h : impl_treeFits.a2 N d (n + 1) y = impl_treeFits.B2 N (impl_treeFits.R N d) (fun z => impl_treeFits.a2 N d n z) y := by kernel_rfl
    have e : (fun z => impl_treeFits.a2 N d n z) = impl_treeFits.L2 N (impl_treeFits.R N d) n := funext fun z => impl_treeFits.r2 N d n z
    rw [h]
    try rw [e]
    first | done | rfl
theorem impl_treeFits.r0 (N : Nat) (d : Nat) : ∀ (n : Nat) (y : Int × Int × ImplTree × (List (ImplProp)) × Int × Int × Unit), impl_treeFits.a0 N d n y = impl_treeFits.L0 N (impl_treeFits.R N d) n y
  | 0, y => by kernel_rfl
  | n + 1, y => by
    have h : impl_treeFits.a0 N d (n + 1) y = impl_treeFits.B0 N (impl_treeFits.R N d) (fun z => impl_treeFits.a0 N d n z) (fun z => impl_treeFits.a2 N d N z) y := by kernel_rfl
    have e : (fun z => impl_treeFits.a0 N d n z) = impl_treeFits.L0 N (impl_treeFits.R N d) n := funext fun z => impl_treeFits.r0 N d n z
    have e2 : (fun z => impl_treeFits.a2 N d N z) = impl_treeFits.L2 N (impl_treeFits.R N d) N := funext fun z => impl_treeFits.r2 N d N z
    rw [h, e2]
    try rw [e]
    first | done | rfl
theorem impl_treeFits.run (N : Nat) (d : Nat) (x : ImplTree × Int × Int × Unit) : runF cx (look (impl_treeFits.phis N d)) impl_treeFits.A N (bodyOf Tryd.f48) Tryd.f48.results.toList impl_treeFits.sg x = impl_treeFits.R N (d + 1) x.1 x.2.1 x.2.2.1 := by
  have h : runF cx (look (impl_treeFits.phis N d)) impl_treeFits.A N (bodyOf Tryd.f48) Tryd.f48.results.toList impl_treeFits.sg x = impl_treeFits.B N (impl_treeFits.R N d) (fun z => impl_treeFits.a0 N d N z) x.1 x.2.1 x.2.2.1 := by kernel_rfl
  have e0 : (fun z => impl_treeFits.a0 N d N z) = impl_treeFits.L0 N (impl_treeFits.R N d) N := funext fun z => impl_treeFits.r0 N d N z
  rw [h, e0]
  try rfl
theorem impl_treeFits.step (N : Nat) (d : Nat) (h_impl_treeFits : Sound cx Tryd.prog gam 48 (⟨impl_treeFits.sg, fun (x : ImplTree × Int × Int × Unit) => impl_treeFits.R N d x.1 x.2.1 x.2.2.1⟩ : Sm D)) : Sound cx Tryd.prog gam 48 (⟨impl_treeFits.sg, fun (x : ImplTree × Int × Int × Unit) => impl_treeFits.R N (d + 1) x.1 x.2.1 x.2.2.1⟩ : Sm D) := fn_sound (A := impl_treeFits.A) (Φ := (look (impl_treeFits.phis N d))) pok (G := gam) (ΦOk.cons (impl_shown.sound N) (fnOk_of (f := 57) (by kernel_rfl)) (ΦOk.cons (impl_within.sound N) (fnOk_of (f := 36) (by kernel_rfl)) (ΦOk.cons (impl_ValOk.sound N) (fnOk_of (f := 49) (by kernel_rfl)) (ΦOk.cons h_impl_treeFits (fnOk_of (f := 48) (by kernel_rfl)) ΦOk.nil)))) mixed N Tryd.func48 (c := (bodyOf Tryd.f48)) (by kernel_rfl) impl_treeFits.sg (by kernel_rfl) (by kernel_rfl) (by kernel_rfl) (impl_treeFits.run N d)

theorem impl_treeFits.scc (N : Nat) : ∀ d, Sound cx Tryd.prog gam 48 (⟨impl_treeFits.sg, fun (x : ImplTree × Int × Int × Unit) => impl_treeFits.R N d x.1 x.2.1 x.2.2.1⟩ : Sm D)
  | 0 => none_sound 48 impl_treeFits.sg
  | d + 1 => by
    have ih := impl_treeFits.scc N d
    exact impl_treeFits.step N d ih
noncomputable def impl_treeFits.sm (N : Nat) : Sm D := (⟨impl_treeFits.sg, fun (x : ImplTree × Int × Int × Unit) => impl_treeFits.R N N x.1 x.2.1 x.2.2.1⟩ : Sm D)
theorem impl_treeFits.sound (N : Nat) : Sound cx Tryd.prog gam 48 (impl_treeFits.sm N) := (impl_treeFits.scc N N)
@[reducible] def impl_TreeOk.sg : Sg := { ms := [{ k := (.st 32) }], keep := [false], rs := [{ k := .bool }] }
noncomputable def impl_TreeOk.A : Ann := { dp := fun d => isIn [] d, lp := look [], jn := look [], pins := [], nt := 6 }
noncomputable def impl_TreeOk.phis (N : Nat) : List (Nat × Sm D) := [(48, impl_treeFits.sm N)]
theorem impl_TreeOk.run (N : Nat) (x : ImplTree × Unit) : runF cx (look (impl_TreeOk.phis N)) impl_TreeOk.A N (bodyOf Tryd.f34) Tryd.f34.results.toList impl_TreeOk.sg x = impl_TreeOk N x.1 := by
  have h : runF cx (look (impl_TreeOk.phis N)) impl_TreeOk.A N (bodyOf Tryd.f34) Tryd.f34.results.toList impl_TreeOk.sg x = impl_TreeOk.B N x.1 := by kernel_rfl
  rw [h]
  try rfl
noncomputable def impl_TreeOk.sm (N : Nat) : Sm D := (⟨impl_TreeOk.sg, fun (x : ImplTree × Unit) => impl_TreeOk N x.1⟩ : Sm D)
theorem impl_TreeOk.sound (N : Nat) : Sound cx Tryd.prog gam 34 (impl_TreeOk.sm N) := fn_sound (A := impl_TreeOk.A) (Φ := (look (impl_TreeOk.phis N))) pok (G := gam) (ΦOk.cons (impl_treeFits.sound N) (fnOk_of (f := 48) (by kernel_rfl)) ΦOk.nil) mixed N Tryd.func34 (c := (bodyOf Tryd.f34)) (by kernel_rfl) impl_TreeOk.sg (by kernel_rfl) (by kernel_rfl) (by kernel_rfl) (impl_TreeOk.run N)

@[reducible] def impl_RulesOk.sg : Sg := { ms := [{ k := (.sl (.st 57)), fl := [none] }], keep := [false], rs := [{ k := .bool }] }
@[reducible] def impl_RulesOk.lvL0 : Lv := { id := 0, slots := [0, 5, 6, 7], ms := [{ k := (.sl (.st 57)), fl := [none] }, { k := (.sl (.st 57)), fl := [none] }, { k := (.int .i64) }, { k := (.int .i64) }] }
noncomputable def impl_RulesOk.A : Ann := { dp := fun d => isIn [] d, lp := look [(0, impl_RulesOk.lvL0)], jn := look [], pins := [], nt := 58 }
noncomputable def impl_RulesOk.phis (N : Nat) : List (Nat × Sm D) := [(36, impl_within.sm N), (49, impl_ValOk.sm N)]
noncomputable def impl_RulesOk.a0 (N : Nat) (n : Nat) (y : (List (ImplRule)) × (List (ImplRule)) × Int × Int × Unit) : Option (Bool × Unit) := loopAt cx (look (impl_RulesOk.phis N)) impl_RulesOk.A N n (encL cx impl_RulesOk.lvL0.ms y).1 (encL cx impl_RulesOk.lvL0.ms y).2 (bodyOf Tryd.f35) 0 (Kfin cx impl_RulesOk.A impl_RulesOk.sg Tryd.f35.results.toList) [1, 0, 1, 1] []
theorem impl_RulesOk.r0 (N : Nat) : ∀ (n : Nat) (y : (List (ImplRule)) × (List (ImplRule)) × Int × Int × Unit), impl_RulesOk.a0 N n y = impl_RulesOk.L0 N n y
  | 0, y => by kernel_rfl
  | n + 1, y => by
    have h : impl_RulesOk.a0 N (n + 1) y = impl_RulesOk.B0 N (fun z => impl_RulesOk.a0 N n z) y := by kernel_rfl
    have e : (fun z => impl_RulesOk.a0 N n z) = impl_RulesOk.L0 N n := funext fun z => impl_RulesOk.r0 N n z
    rw [h]
    try rw [e]
    first | done | rfl
theorem impl_RulesOk.run (N : Nat) (x : (List (ImplRule)) × Unit) : runF cx (look (impl_RulesOk.phis N)) impl_RulesOk.A N (bodyOf Tryd.f35) Tryd.f35.results.toList impl_RulesOk.sg x = impl_RulesOk N x.1 := by
  have h : runF cx (look (impl_RulesOk.phis N)) impl_RulesOk.A N (bodyOf Tryd.f35) Tryd.f35.results.toList impl_RulesOk.sg x = impl_RulesOk.B N (fun z => impl_RulesOk.a0 N N z) x.1 := by kernel_rfl
  have e0 : (fun z => impl_RulesOk.a0 N N z) = impl_RulesOk.L0 N N := funext fun z => impl_RulesOk.r0 N N z
  rw [h, e0]
  try rfl
noncomputable def impl_RulesOk.sm (N : Nat) : Sm D := (⟨impl_RulesOk.sg, fun (x : (List (ImplRule)) × Unit) => impl_RulesOk N x.1⟩ : Sm D)
theorem impl_RulesOk.sound (N : Nat) : Sound cx Tryd.prog gam 35 (impl_RulesOk.sm N) := fn_sound (A := impl_RulesOk.A) (Φ := (look (impl_RulesOk.phis N))) pok (G := gam) (ΦOk.cons (impl_within.sound N) (fnOk_of (f := 36) (by kernel_rfl)) (ΦOk.cons (impl_ValOk.sound N) (fnOk_of (f := 49) (by kernel_rfl)) ΦOk.nil)) mixed N Tryd.func35 (c := (bodyOf Tryd.f35)) (by kernel_rfl) impl_RulesOk.sg (by kernel_rfl) (by kernel_rfl) (by kernel_rfl) (impl_RulesOk.run N)

@[reducible] def impl_weight.sg : Sg := { ms := [{ k := (.st 57) }], keep := [false], rs := [{ k := (.int .i64) }] }
@[reducible] def impl_weight.lvJ6 : Lv := { id := 6, slots := [1, 3], ms := [{ ptr := true, id := 600, t := 58, k := (.st 57), fl := [none, none, none, none, none, none, none, none] }, { k := (.int .i64) }] }
@[reducible] def impl_weight.lvJ4 : Lv := { id := 4, slots := [1, 3], ms := [{ ptr := true, id := 600, t := 58, k := (.st 57), fl := [none, none, none, none, none, none, none, none] }, { k := (.int .i64) }] }
noncomputable def impl_weight.A : Ann := { dp := fun d => isIn [] d, lp := look [], jn := look [(6, impl_weight.lvJ6), (4, impl_weight.lvJ4)], pins := [], nt := 20 }
noncomputable def impl_weight.phis (N : Nat) : List (Nat × Sm D) := []
theorem impl_weight.run (N : Nat) (x : ImplRule × Unit) : runF cx (look (impl_weight.phis N)) impl_weight.A N (bodyOf Tryd.f59) Tryd.f59.results.toList impl_weight.sg x = impl_weight N x.1 := by
  have h : runF cx (look (impl_weight.phis N)) impl_weight.A N (bodyOf Tryd.f59) Tryd.f59.results.toList impl_weight.sg x = impl_weight.B N x.1 := by kernel_rfl
  rw [h]
  try rfl
noncomputable def impl_weight.sm (N : Nat) : Sm D := (⟨impl_weight.sg, fun (x : ImplRule × Unit) => impl_weight N x.1⟩ : Sm D)
theorem impl_weight.sound (N : Nat) : Sound cx Tryd.prog gam 59 (impl_weight.sm N) := fn_sound (A := impl_weight.A) (Φ := (look (impl_weight.phis N))) pok (G := gam) ΦOk.nil mixed N Tryd.func59 (c := (bodyOf Tryd.f59)) (by kernel_rfl) impl_weight.sg (by kernel_rfl) (by kernel_rfl) (by kernel_rfl) (impl_weight.run N)

@[reducible] def impl_meets.sg : Sg := { ms := [{ k := (.st 57) }, { k := (.st 32) }, { k := (.sl (.int .i64)), fl := [none] }], keep := [false, false, false], rs := [{ k := .bool }] }
@[reducible] def impl_meets.lvL2 : Lv := { id := 2, slots := [3, 45, 46, 47], ms := [{ ptr := true, id := 600, t := 58, k := (.st 57), fl := [none, none, none, none, none, none, none, none] }, { k := (.sl (.st 74)), fl := [none] }, { k := (.int .i64) }, { k := (.int .i64) }] }
@[reducible] def impl_meets.lvJ12 : Lv := { id := 12, slots := [3, 4], ms := [{ ptr := true, id := 600, t := 58, k := (.st 57), fl := [none, none, none, none, none, none, none, none] }, { ptr := true, id := 620, t := 33, k := (.st 32), fl := [none, none, none, none, none] }] }
@[reducible] def impl_meets.lvL0 : Lv := { id := 0, slots := [3, 4, 7, 25, 26, 27], ms := [{ ptr := true, id := 600, t := 58, k := (.st 57), fl := [none, none, none, none, none, none, none, none] }, { ptr := true, id := 620, t := 33, k := (.st 32), fl := [none, none, none, none, none] }, { k := .bool }, { k := (.sl (.int .i64)), fl := [none] }, { k := (.int .i64) }, { k := (.int .i64) }] }
noncomputable def impl_meets.A : Ann := { dp := fun d => isIn [] d, lp := look [(2, impl_meets.lvL2), (0, impl_meets.lvL0)], jn := look [(12, impl_meets.lvJ12)], pins := [], nt := 64 }
noncomputable def impl_meets.phis (N : Nat) : List (Nat × Sm D) := []
noncomputable def impl_meets.a2 (N : Nat) (n : Nat) (y : ImplRule × (List (ImplProp)) × Int × Int × Unit) : Option (Bool × Unit) := loopAt cx (look (impl_meets.phis N)) impl_meets.A N n (encL cx impl_meets.lvL2.ms y).1 (encL cx impl_meets.lvL2.ms y).2 (bodyOf Tryd.f60) 0 (Kfin cx impl_meets.A impl_meets.sg Tryd.f60.results.toList) [1, 1, 1, 1, 0, 1, 1] []
noncomputable def impl_meets.a0 (N : Nat) (n : Nat) (y : ImplRule × ImplTree × Bool × (List (Int)) × Int × Int × Unit) : Option (Bool × Unit) := loopAt cx (look (impl_meets.phis N)) impl_meets.A N n (encL cx impl_meets.lvL0.ms y).1 (encL cx impl_meets.lvL0.ms y).2 (bodyOf Tryd.f60) 0 (Kfin cx impl_meets.A impl_meets.sg Tryd.f60.results.toList) [1, 1, 0, 1, 0, 1, 0, 1, 1] []
theorem impl_meets.r2 (N : Nat) : ∀ (n : Nat) (y : ImplRule × (List (ImplProp)) × Int × Int × Unit), impl_meets.a2 N n y = impl_meets.L2 N n y
  | 0, y => by kernel_rfl
  | n + 1, y => by
    have h : impl_meets.a2 N (n + 1) y = impl_meets.B2 N (fun z => impl_meets.a2 N n z) y := by kernel_rfl
    have e : (fun z => impl_meets.a2 N n z) = impl_meets.L2 N n := funext fun z => impl_meets.r2 N n z
    rw [h]
    try rw [e]
    first | done | rfl
theorem impl_meets.r0 (N : Nat) : ∀ (n : Nat) (y : ImplRule × ImplTree × Bool × (List (Int)) × Int × Int × Unit), impl_meets.a0 N n y = impl_meets.L0 N n y
  | 0, y => by kernel_rfl
  | n + 1, y => by
    have h : impl_meets.a0 N (n + 1) y = impl_meets.B0 N (fun z => impl_meets.a0 N n z) (fun z => impl_meets.a2 N N z) y := by kernel_rfl
    have e : (fun z => impl_meets.a0 N n z) = impl_meets.L0 N n := funext fun z => impl_meets.r0 N n z
    have e2 : (fun z => impl_meets.a2 N N z) = impl_meets.L2 N N := funext fun z => impl_meets.r2 N N z
    rw [h, e2]
    try rw [e]
    first | done | rfl
theorem impl_meets.run (N : Nat) (x : ImplRule × ImplTree × (List (Int)) × Unit) : runF cx (look (impl_meets.phis N)) impl_meets.A N (bodyOf Tryd.f60) Tryd.f60.results.toList impl_meets.sg x = impl_meets N x.1 x.2.1 x.2.2.1 := by
  have h : runF cx (look (impl_meets.phis N)) impl_meets.A N (bodyOf Tryd.f60) Tryd.f60.results.toList impl_meets.sg x = impl_meets.B N (fun z => impl_meets.a0 N N z) (fun z => impl_meets.a2 N N z) x.1 x.2.1 x.2.2.1 := by kernel_rfl
  have e0 : (fun z => impl_meets.a0 N N z) = impl_meets.L0 N N := funext fun z => impl_meets.r0 N N z
  have e2 : (fun z => impl_meets.a2 N N z) = impl_meets.L2 N N := funext fun z => impl_meets.r2 N N z
  rw [h, e0, e2]
  try rfl
noncomputable def impl_meets.sm (N : Nat) : Sm D := (⟨impl_meets.sg, fun (x : ImplRule × ImplTree × (List (Int)) × Unit) => impl_meets N x.1 x.2.1 x.2.2.1⟩ : Sm D)
theorem impl_meets.sound (N : Nat) : Sound cx Tryd.prog gam 60 (impl_meets.sm N) := fn_sound (A := impl_meets.A) (Φ := (look (impl_meets.phis N))) pok (G := gam) ΦOk.nil mixed N Tryd.func60 (c := (bodyOf Tryd.f60)) (by kernel_rfl) impl_meets.sg (by kernel_rfl) (by kernel_rfl) (by kernel_rfl) (impl_meets.run N)

@[reducible] def impl_looks.sg : Sg := { ms := [{ k := (.st 32) }, { k := (.sl (.st 57)), fl := [none] }, { k := (.sl (.int .i64)), fl := [none] }, { k := (.int .i64) }], keep := [false, false, false, false], rs := [{ k := (.sl (.sl (.int .i64))), fl := [some (false, 411)] }], hold := true }
@[reducible] def impl_looks.lvL4 : Lv := { id := 4, slots := [10, 1, 9, 15, 70, 71, 72], ms := [{ k := (.sl (.sl (.int .i64))), fl := [some (false, 600)] }, { k := (.sl (.st 57)), fl := [none] }, { k := (.sl (.int .i64)), fl := [none] }, { k := (.sl (.int .i64)), fl := [none] }, { k := (.sl (.st 32)), fl := [none] }, { k := (.int .i64) }, { k := (.int .i64) }] }
@[reducible] def impl_looks.lvL2 : Lv := { id := 2, slots := [10, 1, 2, 4, 11, 12, 28, 31, 32, 33], ms := [{ ptr := true, id := 600, t := 888888, k := (.sl (.int .i64)), fl := [some (false, 601)] }, { k := (.sl (.st 57)), fl := [none] }, { k := (.sl (.int .i64)), fl := [none] }, { ptr := true, id := 660, t := 33, k := (.st 32), fl := [none, none, none, none, none] }, { k := (.int .i64) }, { k := (.int .i64) }, { k := (.int .i64) }, { k := (.sl (.st 57)), fl := [none] }, { k := (.int .i64) }, { k := (.int .i64) }], al := [(9, 601, false)] }
@[reducible] def impl_looks.lvL0 : Lv := { id := 0, slots := [10, 1, 2, 4, 28], ms := [{ ptr := true, id := 600, t := 888888, k := (.sl (.int .i64)), fl := [some (false, 601)] }, { k := (.sl (.st 57)), fl := [none] }, { k := (.sl (.int .i64)), fl := [none] }, { ptr := true, id := 660, t := 33, k := (.st 32), fl := [none, none, none, none, none] }, { k := (.int .i64) }], al := [(9, 601, false)] }
noncomputable def impl_looks.A : Ann := { dp := fun d => isIn [1000023] d, lp := look [(4, impl_looks.lvL4), (2, impl_looks.lvL2), (0, impl_looks.lvL0)], jn := look [], pins := [], nt := 87 }
noncomputable def impl_looks.phis (N : Nat) (d : Nat) : List (Nat × Sm D) := [(59, impl_weight.sm N), (60, impl_meets.sm N), (50, (⟨impl_looks.sg, fun (x : ImplTree × (List (ImplRule)) × (List (Int)) × Int × Unit) => impl_looks.R N d x.1 x.2.1 x.2.2.1 x.2.2.2.1⟩ : Sm D))]
noncomputable def impl_looks.a2 (N : Nat) (d : Nat) (m0 : Nat) (n : Nat) (y : (List (Int)) × (List (ImplRule)) × (List (Int)) × ImplTree × Int × Int × Int × (List (ImplRule)) × Int × Int × Unit) : Option ((List (List (Int))) × Unit) := loopAt cx (look (impl_looks.phis N d)) impl_looks.A N n (encL cx impl_looks.lvL2.ms y).1 (encL cx impl_looks.lvL2.ms y).2 (bodyOf Tryd.f50) 0 (Kfin cx impl_looks.A impl_looks.sg Tryd.f50.results.toList) [1, 1, 1, 1, 1, 0, 1, 1, 1, 1, 1, 0, 1, 1, 1, 1, 1] [m0]
noncomputable def impl_looks.a4 (N : Nat) (d : Nat) (n : Nat) (y : (List (List (Int))) × (List (ImplRule)) × (List (Int)) × (List (Int)) × (List (ImplTree)) × Int × Int × Unit) : Option ((List (List (Int))) × Unit) := loopAt cx (look (impl_looks.phis N d)) impl_looks.A N n (encL cx impl_looks.lvL4.ms y).1 (encL cx impl_looks.lvL4.ms y).2 (bodyOf Tryd.f50) 0 (Kfin cx impl_looks.A impl_looks.sg Tryd.f50.results.toList) [1, 1, 1, 1, 1, 1, 1, 0, 1, 1] []
noncomputable def impl_looks.a0 (N : Nat) (d : Nat) (n : Nat) (y : (List (Int)) × (List (ImplRule)) × (List (Int)) × ImplTree × Int × Unit) : Option ((List (List (Int))) × Unit) := loopAt cx (look (impl_looks.phis N d)) impl_looks.A N n (encL cx impl_looks.lvL0.ms y).1 (encL cx impl_looks.lvL0.ms y).2 (bodyOf Tryd.f50) 0 (Kfin cx impl_looks.A impl_looks.sg Tryd.f50.results.toList) [1, 1, 1, 1, 1, 0, 1, 1] []
theorem impl_looks.r2 (N : Nat) (d : Nat) (m0 : Nat) : ∀ (n : Nat) (y : (List (Int)) × (List (ImplRule)) × (List (Int)) × ImplTree × Int × Int × Int × (List (ImplRule)) × Int × Int × Unit), impl_looks.a2 N d m0 n y = impl_looks.L2 N (impl_looks.R N d) (fun z => impl_looks.a0 N d m0 z) n y
  | 0, y => by kernel_rfl
  | n + 1, y => by
    have h : impl_looks.a2 N d m0 (n + 1) y = impl_looks.B2 N (impl_looks.R N d) (fun z => impl_looks.a0 N d m0 z) (fun z => impl_looks.a2 N d m0 n z) y := by kernel_rfl
    have e : (fun z => impl_looks.a2 N d m0 n z) = impl_looks.L2 N (impl_looks.R N d) (fun z => impl_looks.a0 N d m0 z) n := funext fun z => impl_looks.r2 N d m0 n z
    rw [h]
    try rw [e]
    first | done | rfl
theorem impl_looks.r4 (N : Nat) (d : Nat) : ∀ (n : Nat) (y : (List (List (Int))) × (List (ImplRule)) × (List (Int)) × (List (Int)) × (List (ImplTree)) × Int × Int × Unit), impl_looks.a4 N d n y = impl_looks.L4 N (impl_looks.R N d) n y
  | 0, y => by kernel_rfl
  | n + 1, y => by
    have h : impl_looks.a4 N d (n + 1) y = impl_looks.B4 N (impl_looks.R N d) (fun z => impl_looks.a4 N d n z) y := by kernel_rfl
    have e : (fun z => impl_looks.a4 N d n z) = impl_looks.L4 N (impl_looks.R N d) n := funext fun z => impl_looks.r4 N d n z
    rw [h]
    try rw [e]
    first | done | rfl
theorem impl_looks.r0 (N : Nat) (d : Nat) : ∀ (n : Nat) (y : (List (Int)) × (List (ImplRule)) × (List (Int)) × ImplTree × Int × Unit), impl_looks.a0 N d n y = impl_looks.L0 N (impl_looks.R N d) n y
  | 0, y => by kernel_rfl
  | n + 1, y => by
    have h : impl_looks.a0 N d (n + 1) y = impl_looks.B0 N (impl_looks.R N d) (fun z => impl_looks.a2 N d n N z) (fun z => impl_looks.a4 N d N z) y := by kernel_rfl
    have e : (fun z => impl_looks.a0 N d n z) = impl_looks.L0 N (impl_looks.R N d) n := funext fun z => impl_looks.r0 N d n z
    have e2 : (fun z => impl_looks.a2 N d n N z) = impl_looks.L2 N (impl_looks.R N d) (fun z => impl_looks.a0 N d n z) N := funext fun z => impl_looks.r2 N d n N z
    have e4 : (fun z => impl_looks.a4 N d N z) = impl_looks.L4 N (impl_looks.R N d) N := funext fun z => impl_looks.r4 N d N z
    rw [h, e2, e4]
    try rw [e]
    first | done | rfl
theorem impl_looks.run (N : Nat) (d : Nat) (x : ImplTree × (List (ImplRule)) × (List (Int)) × Int × Unit) : runF cx (look (impl_looks.phis N d)) impl_looks.A N (bodyOf Tryd.f50) Tryd.f50.results.toList impl_looks.sg x = impl_looks.R N (d + 1) x.1 x.2.1 x.2.2.1 x.2.2.2.1 := by
  have h : runF cx (look (impl_looks.phis N d)) impl_looks.A N (bodyOf Tryd.f50) Tryd.f50.results.toList impl_looks.sg x = impl_looks.B N (impl_looks.R N d) (fun z => impl_looks.a0 N d N z) x.1 x.2.1 x.2.2.1 x.2.2.2.1 := by kernel_rfl
  have e0 : (fun z => impl_looks.a0 N d N z) = impl_looks.L0 N (impl_looks.R N d) N := funext fun z => impl_looks.r0 N d N z
  rw [h, e0]
  try rfl
theorem impl_looks.step (N : Nat) (d : Nat) (h_impl_looks : Sound cx Tryd.prog gam 50 (⟨impl_looks.sg, fun (x : ImplTree × (List (ImplRule)) × (List (Int)) × Int × Unit) => impl_looks.R N d x.1 x.2.1 x.2.2.1 x.2.2.2.1⟩ : Sm D)) : Sound cx Tryd.prog gam 50 (⟨impl_looks.sg, fun (x : ImplTree × (List (ImplRule)) × (List (Int)) × Int × Unit) => impl_looks.R N (d + 1) x.1 x.2.1 x.2.2.1 x.2.2.2.1⟩ : Sm D) := fn_sound (A := impl_looks.A) (Φ := (look (impl_looks.phis N d))) pok (G := gam) (ΦOk.cons (impl_weight.sound N) (fnOk_of (f := 59) (by kernel_rfl)) (ΦOk.cons (impl_meets.sound N) (fnOk_of (f := 60) (by kernel_rfl)) (ΦOk.cons h_impl_looks (fnOk_of (f := 50) (by kernel_rfl)) ΦOk.nil))) mixed N Tryd.func50 (c := (bodyOf Tryd.f50)) (by kernel_rfl) impl_looks.sg (by kernel_rfl) (by kernel_rfl) (by kernel_rfl) (impl_looks.run N d)

theorem impl_looks.scc (N : Nat) : ∀ d, Sound cx Tryd.prog gam 50 (⟨impl_looks.sg, fun (x : ImplTree × (List (ImplRule)) × (List (Int)) × Int × Unit) => impl_looks.R N d x.1 x.2.1 x.2.2.1 x.2.2.2.1⟩ : Sm D)
  | 0 => none_sound 50 impl_looks.sg
  | d + 1 => by
    have ih := impl_looks.scc N d
    exact impl_looks.step N d ih
noncomputable def impl_looks.sm (N : Nat) : Sm D := (⟨impl_looks.sg, fun (x : ImplTree × (List (ImplRule)) × (List (Int)) × Int × Unit) => impl_looks.R N N x.1 x.2.1 x.2.2.1 x.2.2.2.1⟩ : Sm D)
theorem impl_looks.sound (N : Nat) : Sound cx Tryd.prog gam 50 (impl_looks.sm N) := (impl_looks.scc N N)
end
end Go.Ev
