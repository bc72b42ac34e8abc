/- Each function that the law reaches does what its plain form says; no condition beyond the table of the library. -/
import Derived.Test.YtcfpbchkldaaiaaDoorEvT2
set_option linter.all false
set_option linter.unusedVariables false
set_option linter.unusedSimpArgs false
set_option maxRecDepth 100000
set_option maxHeartbeats 0
namespace Go.Ev
noncomputable section
open Go.Proofs
@[reducible] def spec_placer_down.sg : Sg := { ms := [{ ptr := true, id := 10, t := 60, k := (.st 59), fl := [none, some (false, 12)] }, { k := (.sl (.st 25)), fl := [none] }, { k := (.sl (.int .i64)), fl := [none] }, { k := (.sl (.int .i64)), fl := [none] }, { k := (.int .i64) }, { k := (.int .i64) }, { k := (.int .i64) }], keep := [true, false, false, false, false, false, false], rs := [{ k := (.int .i64) }], hold := true }
@[reducible] def spec_placer_across.sg : Sg := { ms := [{ ptr := true, id := 10, t := 60, k := (.st 59), fl := [none, some (false, 12)] }, { k := (.sl (.st 25)), fl := [none] }, { k := (.sl (.int .i64)), fl := [none] }, { k := (.sl (.int .i64)), fl := [none] }, { k := (.int .i64) }, { k := (.int .i64) }, { k := (.int .i64) }], keep := [true, false, false, false, false, false, false], rs := [{ k := (.int .i64) }], hold := true }
@[reducible] def spec_placer_part.sg : Sg := { ms := [{ ptr := true, id := 10, t := 60, k := (.st 59), fl := [none, some (false, 12)] }, { k := (.st 25) }, { k := (.sl (.int .i64)), fl := [none] }, { k := (.sl (.int .i64)), fl := [none] }, { k := (.int .i64) }, { k := (.int .i64) }, { k := (.int .i64) }], keep := [true, false, false, false, false, false, false], rs := [{ k := (.st 41) }], hold := true }
@[reducible] def spec_placer_down.lvL0 : Lv := { id := 0, slots := [0, 1, 2, 3, 4, 5, 6, 15, 16], ms := [{ ptr := true, id := 10, t := 60, k := (.st 59), fl := [none, some (false, 602)] }, { k := (.sl (.st 25)), fl := [none] }, { k := (.sl (.int .i64)), fl := [none] }, { k := (.sl (.int .i64)), fl := [none] }, { k := (.int .i64) }, { k := (.int .i64) }, { k := (.int .i64) }, { k := (.int .i64) }, { k := (.int .i64) }] }
noncomputable def spec_placer_down.A : Ann := { dp := fun d => isIn [] d, lp := look [(0, spec_placer_down.lvL0)], jn := look [], pins := [10], nt := 42 }
noncomputable def spec_placer_down.phis (N : Nat) (d : Nat) : List (Nat × Sm D) := [(28, (⟨spec_placer_part.sg, fun (x : SpecPlacer × ImplTree × (List (Int)) × (List (Int)) × Int × Int × Int × Unit) => spec_placer_part.R N d x.1 x.2.1 x.2.2.1 x.2.2.2.1 x.2.2.2.2.1 x.2.2.2.2.2.1 x.2.2.2.2.2.2.1⟩ : Sm D))]
noncomputable def spec_placer_down.a0 (N : Nat) (d : Nat) (n : Nat) (y : SpecPlacer × (List (ImplTree)) × (List (Int)) × (List (Int)) × Int × Int × Int × Int × Int × Unit) : Option (SpecPlacer × Int × Unit) := loopAt cx (look (spec_placer_down.phis N d)) spec_placer_down.A N n (encL cx spec_placer_down.lvL0.ms y).1 (encL cx spec_placer_down.lvL0.ms y).2 (bodyOf Tryd.f42) 0 (Kfin cx spec_placer_down.A spec_placer_down.sg Tryd.f42.results.toList) [1, 1, 0, 1, 1] []
theorem spec_placer_down.r0 (N : Nat) (d : Nat) : ∀ (n : Nat) (y : SpecPlacer × (List (ImplTree)) × (List (Int)) × (List (Int)) × Int × Int × Int × Int × Int × Unit), spec_placer_down.a0 N d n y = spec_placer_down.L0 N (spec_placer_down.R N d) (spec_placer_across.R N d) (spec_placer_part.R N d) n y
  | 0, y => by kernel_rfl
  | n + 1, y => by
    have h : spec_placer_down.a0 N d (n + 1) y = spec_placer_down.B0 N (spec_placer_down.R N d) (spec_placer_across.R N d) (spec_placer_part.R N d) (fun z => spec_placer_down.a0 N d n z) y := by kernel_rfl
    have e : (fun z => spec_placer_down.a0 N d n z) = spec_placer_down.L0 N (spec_placer_down.R N d) (spec_placer_across.R N d) (spec_placer_part.R N d) n := funext fun z => spec_placer_down.r0 N d n z
    rw [h]
    try rw [e]
    first | done | rfl
theorem spec_placer_down.run (N : Nat) (d : Nat) (x : SpecPlacer × (List (ImplTree)) × (List (Int)) × (List (Int)) × Int × Int × Int × Unit) : runF cx (look (spec_placer_down.phis N d)) spec_placer_down.A N (bodyOf Tryd.f42) Tryd.f42.results.toList spec_placer_down.sg x = spec_placer_down.R N (d + 1) x.1 x.2.1 x.2.2.1 x.2.2.2.1 x.2.2.2.2.1 x.2.2.2.2.2.1 x.2.2.2.2.2.2.1 := by
  have h : runF cx (look (spec_placer_down.phis N d)) spec_placer_down.A N (bodyOf Tryd.f42) Tryd.f42.results.toList spec_placer_down.sg x = spec_placer_down.B N (spec_placer_down.R N d) (spec_placer_across.R N d) (spec_placer_part.R N d) (fun z => spec_placer_down.a0 N d N z) x.1 x.2.1 x.2.2.1 x.2.2.2.1 x.2.2.2.2.1 x.2.2.2.2.2.1 x.2.2.2.2.2.2.1 := by kernel_rfl
  have e0 : (fun z => spec_placer_down.a0 N d N z) = spec_placer_down.L0 N (spec_placer_down.R N d) (spec_placer_across.R N d) (spec_placer_part.R N d) N := funext fun z => spec_placer_down.r0 N d N z
  rw [h, e0]
  try rfl
theorem spec_placer_down.step (N : Nat) (d : Nat) (h_spec_placer_part : Sound cx Tryd.prog gam 28 (⟨spec_placer_part.sg, fun (x : SpecPlacer × ImplTree × (List (Int)) × (List (Int)) × Int × Int × Int × Unit) => spec_placer_part.R N d x.1 x.2.1 x.2.2.1 x.2.2.2.1 x.2.2.2.2.1 x.2.2.2.2.2.1 x.2.2.2.2.2.2.1⟩ : Sm D)) : Sound cx Tryd.prog gam 42 (⟨spec_placer_down.sg, fun (x : SpecPlacer × (List (ImplTree)) × (List (Int)) × (List (Int)) × Int × Int × Int × Unit) => spec_placer_down.R N (d + 1) x.1 x.2.1 x.2.2.1 x.2.2.2.1 x.2.2.2.2.1 x.2.2.2.2.2.1 x.2.2.2.2.2.2.1⟩ : Sm D) := fn_sound (A := spec_placer_down.A) (Φ := (look (spec_placer_down.phis N d))) pok (G := gam) (ΦOk.cons h_spec_placer_part (fnOk_of (f := 28) (by kernel_rfl)) ΦOk.nil) mixed N Tryd.func42 (c := (bodyOf Tryd.f42)) (by kernel_rfl) spec_placer_down.sg (by kernel_rfl) (by kernel_rfl) (by kernel_rfl) (spec_placer_down.run N d)

@[reducible] def spec_placer_across.lvL0 : Lv := { id := 0, slots := [0, 1, 2, 3, 4, 5, 15, 16, 17], ms := [{ ptr := true, id := 10, t := 60, k := (.st 59), fl := [none, some (false, 602)] }, { k := (.sl (.st 25)), fl := [none] }, { k := (.sl (.int .i64)), fl := [none] }, { k := (.sl (.int .i64)), fl := [none] }, { k := (.int .i64) }, { k := (.int .i64) }, { k := (.sl (.int .i64)), fl := [none] }, { k := (.int .i64) }, { k := (.int .i64) }] }
noncomputable def spec_placer_across.A : Ann := { dp := fun d => isIn [] d, lp := look [(0, spec_placer_across.lvL0)], jn := look [], pins := [10], nt := 56 }
noncomputable def spec_placer_across.phis (N : Nat) (d : Nat) : List (Nat × Sm D) := [(53, spec_placer_wishes.sm N), (28, (⟨spec_placer_part.sg, fun (x : SpecPlacer × ImplTree × (List (Int)) × (List (Int)) × Int × Int × Int × Unit) => spec_placer_part.R N d x.1 x.2.1 x.2.2.1 x.2.2.2.1 x.2.2.2.2.1 x.2.2.2.2.2.1 x.2.2.2.2.2.2.1⟩ : Sm D))]
noncomputable def spec_placer_across.a0 (N : Nat) (d : Nat) (n : Nat) (y : SpecPlacer × (List (ImplTree)) × (List (Int)) × (List (Int)) × Int × Int × (List (Int)) × Int × Int × Unit) : Option (SpecPlacer × Int × Unit) := loopAt cx (look (spec_placer_across.phis N d)) spec_placer_across.A N n (encL cx spec_placer_across.lvL0.ms y).1 (encL cx spec_placer_across.lvL0.ms y).2 (bodyOf Tryd.f41) 0 (Kfin cx spec_placer_across.A spec_placer_across.sg Tryd.f41.results.toList) [1, 1, 1, 0, 1, 1] []
theorem spec_placer_across.r0 (N : Nat) (d : Nat) : ∀ (n : Nat) (y : SpecPlacer × (List (ImplTree)) × (List (Int)) × (List (Int)) × Int × Int × (List (Int)) × Int × Int × Unit), spec_placer_across.a0 N d n y = spec_placer_across.L0 N (spec_placer_down.R N d) (spec_placer_across.R N d) (spec_placer_part.R N d) n y
  | 0, y => by kernel_rfl
  | n + 1, y => by
    have h : spec_placer_across.a0 N d (n + 1) y = spec_placer_across.B0 N (spec_placer_down.R N d) (spec_placer_across.R N d) (spec_placer_part.R N d) (fun z => spec_placer_across.a0 N d n z) y := by kernel_rfl
    have e : (fun z => spec_placer_across.a0 N d n z) = spec_placer_across.L0 N (spec_placer_down.R N d) (spec_placer_across.R N d) (spec_placer_part.R N d) n := funext fun z => spec_placer_across.r0 N d n z
    rw [h]
    try rw [e]
    first | done | rfl
theorem spec_placer_across.run (N : Nat) (d : Nat) (x : SpecPlacer × (List (ImplTree)) × (List (Int)) × (List (Int)) × Int × Int × Int × Unit) : runF cx (look (spec_placer_across.phis N d)) spec_placer_across.A N (bodyOf Tryd.f41) Tryd.f41.results.toList spec_placer_across.sg x = spec_placer_across.R N (d + 1) x.1 x.2.1 x.2.2.1 x.2.2.2.1 x.2.2.2.2.1 x.2.2.2.2.2.1 x.2.2.2.2.2.2.1 := by
  have h : runF cx (look (spec_placer_across.phis N d)) spec_placer_across.A N (bodyOf Tryd.f41) Tryd.f41.results.toList spec_placer_across.sg x = spec_placer_across.B N (spec_placer_down.R N d) (spec_placer_across.R N d) (spec_placer_part.R N d) (fun z => spec_placer_across.a0 N d N z) x.1 x.2.1 x.2.2.1 x.2.2.2.1 x.2.2.2.2.1 x.2.2.2.2.2.1 x.2.2.2.2.2.2.1 := by kernel_rfl
  have e0 : (fun z => spec_placer_across.a0 N d N z) = spec_placer_across.L0 N (spec_placer_down.R N d) (spec_placer_across.R N d) (spec_placer_part.R N d) N := funext fun z => spec_placer_across.r0 N d N z
  rw [h, e0]
  try rfl
theorem spec_placer_across.step (N : Nat) (d : Nat) (h_spec_placer_part : Sound cx Tryd.prog gam 28 (⟨spec_placer_part.sg, fun (x : SpecPlacer × ImplTree × (List (Int)) × (List (Int)) × Int × Int × Int × Unit) => spec_placer_part.R N d x.1 x.2.1 x.2.2.1 x.2.2.2.1 x.2.2.2.2.1 x.2.2.2.2.2.1 x.2.2.2.2.2.2.1⟩ : Sm D)) : Sound cx Tryd.prog gam 41 (⟨spec_placer_across.sg, fun (x : SpecPlacer × (List (ImplTree)) × (List (Int)) × (List (Int)) × Int × Int × Int × Unit) => spec_placer_across.R N (d + 1) x.1 x.2.1 x.2.2.1 x.2.2.2.1 x.2.2.2.2.1 x.2.2.2.2.2.1 x.2.2.2.2.2.2.1⟩ : Sm D) := fn_sound (A := spec_placer_across.A) (Φ := (look (spec_placer_across.phis N d))) pok (G := gam) (ΦOk.cons (spec_placer_wishes.sound N) (fnOk_of (f := 53) (by kernel_rfl)) (ΦOk.cons h_spec_placer_part (fnOk_of (f := 28) (by kernel_rfl)) ΦOk.nil)) mixed N Tryd.func41 (c := (bodyOf Tryd.f41)) (by kernel_rfl) spec_placer_across.sg (by kernel_rfl) (by kernel_rfl) (by kernel_rfl) (spec_placer_across.run N d)

@[reducible] def spec_placer_part.lvJ12 : Lv := { id := 12, slots := [0, 2, 4, 5, 8, 14, 15, 16, 17], ms := [{ ptr := true, id := 10, t := 60, k := (.st 59), fl := [none, some (false, 602)] }, { k := (.sl (.int .i64)), fl := [none] }, { k := (.int .i64) }, { k := (.int .i64) }, { ptr := true, id := 680, t := 26, k := (.st 25), fl := [none, none, none, none, none] }, { ptr := true, id := 700, t := 42, k := (.st 41), fl := [none, none, none, none] }, { k := (.sl (.int .i64)), fl := [none] }, { k := (.int .i64) }, { ptr := true, id := 760, t := 42, k := (.st 41), fl := [none, none, none, none] }] }
@[reducible] def spec_placer_part.lvJ22 : Lv := { id := 22, slots := [0, 14, 16, 17], ms := [{ ptr := true, id := 10, t := 60, k := (.st 59), fl := [none, some (false, 602)] }, { ptr := true, id := 620, t := 42, k := (.st 41), fl := [none, none, none, none] }, { k := (.int .i64) }, { ptr := true, id := 660, t := 42, k := (.st 41), fl := [none, none, none, none] }] }
@[reducible] def spec_placer_part.lvJ19 : Lv := { id := 19, slots := [0, 14, 15, 16, 17, 18, 21], ms := [{ ptr := true, id := 10, t := 60, k := (.st 59), fl := [none, some (false, 602)] }, { ptr := true, id := 620, t := 42, k := (.st 41), fl := [none, none, none, none] }, { k := (.sl (.int .i64)), fl := [none] }, { k := (.int .i64) }, { ptr := true, id := 680, t := 42, k := (.st 41), fl := [none, none, none, none] }, { k := (.int .i64) }, { k := (.int .i64) }] }
noncomputable def spec_placer_part.A : Ann := { dp := fun d => isIn [] d, lp := look [], jn := look [(12, spec_placer_part.lvJ12), (22, spec_placer_part.lvJ22), (19, spec_placer_part.lvJ19)], pins := [10], nt := 148 }
noncomputable def spec_placer_part.phis (N : Nat) (d : Nat) : List (Nat × Sm D) := [(39, spec_looksOf.sm N), (40, spec_textBox.sm N), (41, (⟨spec_placer_across.sg, fun (x : SpecPlacer × (List (ImplTree)) × (List (Int)) × (List (Int)) × Int × Int × Int × Unit) => spec_placer_across.R N d x.1 x.2.1 x.2.2.1 x.2.2.2.1 x.2.2.2.2.1 x.2.2.2.2.2.1 x.2.2.2.2.2.2.1⟩ : Sm D)), (42, (⟨spec_placer_down.sg, fun (x : SpecPlacer × (List (ImplTree)) × (List (Int)) × (List (Int)) × Int × Int × Int × Unit) => spec_placer_down.R N d x.1 x.2.1 x.2.2.1 x.2.2.2.1 x.2.2.2.2.1 x.2.2.2.2.2.1 x.2.2.2.2.2.2.1⟩ : Sm D))]
theorem spec_placer_part.run (N : Nat) (d : Nat) (x : SpecPlacer × ImplTree × (List (Int)) × (List (Int)) × Int × Int × Int × Unit) : runF cx (look (spec_placer_part.phis N d)) spec_placer_part.A N (bodyOf Tryd.f28) Tryd.f28.results.toList spec_placer_part.sg x = spec_placer_part.R N (d + 1) x.1 x.2.1 x.2.2.1 x.2.2.2.1 x.2.2.2.2.1 x.2.2.2.2.2.1 x.2.2.2.2.2.2.1 := by
  have h : runF cx (look (spec_placer_part.phis N d)) spec_placer_part.A N (bodyOf Tryd.f28) Tryd.f28.results.toList spec_placer_part.sg x = spec_placer_part.B N (spec_placer_down.R N d) (spec_placer_across.R N d) (spec_placer_part.R N d) x.1 x.2.1 x.2.2.1 x.2.2.2.1 x.2.2.2.2.1 x.2.2.2.2.2.1 x.2.2.2.2.2.2.1 := by kernel_rfl
  rw [h]
  try rfl
theorem spec_placer_part.step (N : Nat) (d : Nat) (h_spec_placer_across : Sound cx Tryd.prog gam 41 (⟨spec_placer_across.sg, fun (x : SpecPlacer × (List (ImplTree)) × (List (Int)) × (List (Int)) × Int × Int × Int × Unit) => spec_placer_across.R N d x.1 x.2.1 x.2.2.1 x.2.2.2.1 x.2.2.2.2.1 x.2.2.2.2.2.1 x.2.2.2.2.2.2.1⟩ : Sm D)) (h_spec_placer_down : Sound cx Tryd.prog gam 42 (⟨spec_placer_down.sg, fun (x : SpecPlacer × (List (ImplTree)) × (List (Int)) × (List (Int)) × Int × Int × Int × Unit) => spec_placer_down.R N d x.1 x.2.1 x.2.2.1 x.2.2.2.1 x.2.2.2.2.1 x.2.2.2.2.2.1 x.2.2.2.2.2.2.1⟩ : Sm D)) : Sound cx Tryd.prog gam 28 (⟨spec_placer_part.sg, fun (x : SpecPlacer × ImplTree × (List (Int)) × (List (Int)) × Int × Int × Int × Unit) => spec_placer_part.R N (d + 1) x.1 x.2.1 x.2.2.1 x.2.2.2.1 x.2.2.2.2.1 x.2.2.2.2.2.1 x.2.2.2.2.2.2.1⟩ : Sm D) := fn_sound (A := spec_placer_part.A) (Φ := (look (spec_placer_part.phis N d))) pok (G := gam) (ΦOk.cons (spec_looksOf.sound N) (fnOk_of (f := 39) (by kernel_rfl)) (ΦOk.cons (spec_textBox.sound N) (fnOk_of (f := 40) (by kernel_rfl)) (ΦOk.cons h_spec_placer_across (fnOk_of (f := 41) (by kernel_rfl)) (ΦOk.cons h_spec_placer_down (fnOk_of (f := 42) (by kernel_rfl)) ΦOk.nil)))) mixed N Tryd.func28 (c := (bodyOf Tryd.f28)) (by kernel_rfl) spec_placer_part.sg (by kernel_rfl) (by kernel_rfl) (by kernel_rfl) (spec_placer_part.run N d)

theorem spec_placer_down.scc (N : Nat) : ∀ d, Sound cx Tryd.prog gam 42 (⟨spec_placer_down.sg, fun (x : SpecPlacer × (List (ImplTree)) × (List (Int)) × (List (Int)) × Int × Int × Int × Unit) => spec_placer_down.R N d x.1 x.2.1 x.2.2.1 x.2.2.2.1 x.2.2.2.2.1 x.2.2.2.2.2.1 x.2.2.2.2.2.2.1⟩ : Sm D) ∧ Sound cx Tryd.prog gam 41 (⟨spec_placer_across.sg, fun (x : SpecPlacer × (List (ImplTree)) × (List (Int)) × (List (Int)) × Int × Int × Int × Unit) => spec_placer_across.R N d x.1 x.2.1 x.2.2.1 x.2.2.2.1 x.2.2.2.2.1 x.2.2.2.2.2.1 x.2.2.2.2.2.2.1⟩ : Sm D) ∧ Sound cx Tryd.prog gam 28 (⟨spec_placer_part.sg, fun (x : SpecPlacer × ImplTree × (List (Int)) × (List (Int)) × Int × Int × Int × Unit) => spec_placer_part.R N d x.1 x.2.1 x.2.2.1 x.2.2.2.1 x.2.2.2.2.1 x.2.2.2.2.2.1 x.2.2.2.2.2.2.1⟩ : Sm D)
  | 0 => ⟨none_sound 42 spec_placer_down.sg, none_sound 41 spec_placer_across.sg, none_sound 28 spec_placer_part.sg⟩
  | d + 1 => by
    have ih := spec_placer_down.scc N d
    obtain ⟨ih0, ih1, ih2⟩ := ih
    exact ⟨spec_placer_down.step N d ih2, spec_placer_across.step N d ih2, spec_placer_part.step N d ih1 ih0⟩
noncomputable def spec_placer_down.sm (N : Nat) : Sm D := (⟨spec_placer_down.sg, fun (x : SpecPlacer × (List (ImplTree)) × (List (Int)) × (List (Int)) × Int × Int × Int × Unit) => spec_placer_down.R N N x.1 x.2.1 x.2.2.1 x.2.2.2.1 x.2.2.2.2.1 x.2.2.2.2.2.1 x.2.2.2.2.2.2.1⟩ : Sm D)
theorem spec_placer_down.sound (N : Nat) : Sound cx Tryd.prog gam 42 (spec_placer_down.sm N) := (spec_placer_down.scc N N).1
noncomputable def spec_placer_across.sm (N : Nat) : Sm D := (⟨spec_placer_across.sg, fun (x : SpecPlacer × (List (ImplTree)) × (List (Int)) × (List (Int)) × Int × Int × Int × Unit) => spec_placer_across.R N N x.1 x.2.1 x.2.2.1 x.2.2.2.1 x.2.2.2.2.1 x.2.2.2.2.2.1 x.2.2.2.2.2.2.1⟩ : Sm D)
theorem spec_placer_across.sound (N : Nat) : Sound cx Tryd.prog gam 41 (spec_placer_across.sm N) := (spec_placer_down.scc N N).2.1
noncomputable def spec_placer_part.sm (N : Nat) : Sm D := (⟨spec_placer_part.sg, fun (x : SpecPlacer × ImplTree × (List (Int)) × (List (Int)) × Int × Int × Int × Unit) => spec_placer_part.R N N x.1 x.2.1 x.2.2.1 x.2.2.2.1 x.2.2.2.2.1 x.2.2.2.2.2.1 x.2.2.2.2.2.2.1⟩ : Sm D)
theorem spec_placer_part.sound (N : Nat) : Sound cx Tryd.prog gam 28 (spec_placer_part.sm N) := (spec_placer_down.scc N N).2.2
@[reducible] def spec_boxes.sg : Sg := { ms := [{ k := (.st 25) }, { k := (.sl (.st 51)), fl := [none] }, { k := (.int .i64) }], keep := [false, false, false], rs := [{ k := (.sl (.st 41)), fl := [none] }], hold := true }
noncomputable def spec_boxes.A : Ann := { dp := fun d => isIn [] d, lp := look [], jn := look [], pins := [], nt := 21 }
noncomputable def spec_boxes.phis (N : Nat) : List (Nat × Sm D) := [(28, spec_placer_part.sm N)]
theorem spec_boxes.run (N : Nat) (x : ImplTree × (List (ImplRule)) × Int × Unit) : runF cx (look (spec_boxes.phis N)) spec_boxes.A N (bodyOf Tryd.f17) Tryd.f17.results.toList spec_boxes.sg x = spec_boxes N x.1 x.2.1 x.2.2.1 := by
  have h : runF cx (look (spec_boxes.phis N)) spec_boxes.A N (bodyOf Tryd.f17) Tryd.f17.results.toList spec_boxes.sg x = spec_boxes.B N x.1 x.2.1 x.2.2.1 := by kernel_rfl
  rw [h]
  try rfl
noncomputable def spec_boxes.sm (N : Nat) : Sm D := (⟨spec_boxes.sg, fun (x : ImplTree × (List (ImplRule)) × Int × Unit) => spec_boxes N x.1 x.2.1 x.2.2.1⟩ : Sm D)
theorem spec_boxes.sound (N : Nat) : Sound cx Tryd.prog gam 17 (spec_boxes.sm N) := fn_sound (A := spec_boxes.A) (Φ := (look (spec_boxes.phis N))) pok (G := gam) (ΦOk.cons (spec_placer_part.sound N) (fnOk_of (f := 28) (by kernel_rfl)) ΦOk.nil) mixed N Tryd.func17 (c := (bodyOf Tryd.f17)) (by kernel_rfl) spec_boxes.sg (by kernel_rfl) (by kernel_rfl) (by kernel_rfl) (spec_boxes.run N)

@[reducible] def spec_BoxHigh.sg : Sg := { ms := [{ k := (.st 25) }, { k := (.sl (.st 51)), fl := [none] }, { k := (.int .i64) }], keep := [false, false, false], rs := [{ k := (.int .i64) }] }
noncomputable def spec_BoxHigh.A : Ann := { dp := fun d => isIn [] d, lp := look [], jn := look [], pins := [], nt := 27 }
noncomputable def spec_BoxHigh.phis (N : Nat) : List (Nat × Sm D) := [(14, spec_validTree.sm N), (15, spec_validRules.sm N), (16, spec_inRange.sm N), (17, spec_boxes.sm N)]
theorem spec_BoxHigh.run (N : Nat) (x : ImplTree × (List (ImplRule)) × Int × Unit) : runF cx (look (spec_BoxHigh.phis N)) spec_BoxHigh.A N (bodyOf Tryd.f6) Tryd.f6.results.toList spec_BoxHigh.sg x = spec_BoxHigh N x.1 x.2.1 x.2.2.1 := by
  have h : runF cx (look (spec_BoxHigh.phis N)) spec_BoxHigh.A N (bodyOf Tryd.f6) Tryd.f6.results.toList spec_BoxHigh.sg x = spec_BoxHigh.B N x.1 x.2.1 x.2.2.1 := by kernel_rfl
  rw [h]
  try rfl
noncomputable def spec_BoxHigh.sm (N : Nat) : Sm D := (⟨spec_BoxHigh.sg, fun (x : ImplTree × (List (ImplRule)) × Int × Unit) => spec_BoxHigh N x.1 x.2.1 x.2.2.1⟩ : Sm D)
theorem spec_BoxHigh.sound (N : Nat) : Sound cx Tryd.prog gam 6 (spec_BoxHigh.sm N) := fn_sound (A := spec_BoxHigh.A) (Φ := (look (spec_BoxHigh.phis N))) pok (G := gam) (ΦOk.cons (spec_validTree.sound N) (fnOk_of (f := 14) (by kernel_rfl)) (ΦOk.cons (spec_validRules.sound N) (fnOk_of (f := 15) (by kernel_rfl)) (ΦOk.cons (spec_inRange.sound N) (fnOk_of (f := 16) (by kernel_rfl)) (ΦOk.cons (spec_boxes.sound N) (fnOk_of (f := 17) (by kernel_rfl)) ΦOk.nil)))) mixed N Tryd.func6 (c := (bodyOf Tryd.f6)) (by kernel_rfl) spec_BoxHigh.sg (by kernel_rfl) (by kernel_rfl) (by kernel_rfl) (spec_BoxHigh.run N)

@[reducible] def spec_Lines.sg : Sg := { ms := [{ k := (.st 25) }], keep := [false], rs := [{ k := (.int .i64) }] }
@[reducible] def spec_Lines.lvL0 : Lv := { id := 0, slots := [1, 3, 4], ms := [{ ptr := true, id := 600, t := 26, k := (.st 25), fl := [none, none, none, none, none] }, { k := (.int .i64) }, { k := (.int .i64) }] }
@[reducible] def spec_Lines.lvJ4 : Lv := { id := 4, slots := [1, 3], ms := [{ ptr := true, id := 600, t := 26, k := (.st 25), fl := [none, none, none, none, none] }, { k := (.int .i64) }] }
noncomputable def spec_Lines.A : Ann := { dp := fun d => isIn [] d, lp := look [(0, spec_Lines.lvL0)], jn := look [(4, spec_Lines.lvJ4)], pins := [], nt := 29 }
noncomputable def spec_Lines.phis (N : Nat) (d : Nat) : List (Nat × Sm D) := [(7, (⟨spec_Lines.sg, fun (x : ImplTree × Unit) => spec_Lines.R N d x.1⟩ : Sm D))]
noncomputable def spec_Lines.a0 (N : Nat) (d : Nat) (n : Nat) (y : ImplTree × Int × Int × Unit) : Option (Int × Unit) := loopAt cx (look (spec_Lines.phis N d)) spec_Lines.A N n (encL cx spec_Lines.lvL0.ms y).1 (encL cx spec_Lines.lvL0.ms y).2 (bodyOf Tryd.f7) 0 (Kfin cx spec_Lines.A spec_Lines.sg Tryd.f7.results.toList) [1, 1, 1, 0, 1, 1] []
theorem spec_Lines.r0 (N : Nat) (d : Nat) : ∀ (n : Nat) (y : ImplTree × Int × Int × Unit), spec_Lines.a0 N d n y = spec_Lines.L0 N (spec_Lines.R N d) n y
  | 0, y => by kernel_rfl
  | n + 1, y => by
    have h : spec_Lines.a0 N d (n + 1) y = spec_Lines.B0 N (spec_Lines.R N d) (fun z => spec_Lines.a0 N d n z) y := by kernel_rfl
    have e : (fun z => spec_Lines.a0 N d n z) = spec_Lines.L0 N (spec_Lines.R N d) n := funext fun z => spec_Lines.r0 N d n z
    rw [h]
    try rw [e]
    first | done | rfl
theorem spec_Lines.run (N : Nat) (d : Nat) (x : ImplTree × Unit) : runF cx (look (spec_Lines.phis N d)) spec_Lines.A N (bodyOf Tryd.f7) Tryd.f7.results.toList spec_Lines.sg x = spec_Lines.R N (d + 1) x.1 := by
  have h : runF cx (look (spec_Lines.phis N d)) spec_Lines.A N (bodyOf Tryd.f7) Tryd.f7.results.toList spec_Lines.sg x = spec_Lines.B N (spec_Lines.R N d) (fun z => spec_Lines.a0 N d N z) x.1 := by kernel_rfl
  have e0 : (fun z => spec_Lines.a0 N d N z) = spec_Lines.L0 N (spec_Lines.R N d) N := funext fun z => spec_Lines.r0 N d N z
  rw [h, e0]
  try rfl
theorem spec_Lines.step (N : Nat) (d : Nat) (h_spec_Lines : Sound cx Tryd.prog gam 7 (⟨spec_Lines.sg, fun (x : ImplTree × Unit) => spec_Lines.R N d x.1⟩ : Sm D)) : Sound cx Tryd.prog gam 7 (⟨spec_Lines.sg, fun (x : ImplTree × Unit) => spec_Lines.R N (d + 1) x.1⟩ : Sm D) := fn_sound (A := spec_Lines.A) (Φ := (look (spec_Lines.phis N d))) pok (G := gam) (ΦOk.cons h_spec_Lines (fnOk_of (f := 7) (by kernel_rfl)) ΦOk.nil) mixed N Tryd.func7 (c := (bodyOf Tryd.f7)) (by kernel_rfl) spec_Lines.sg (by kernel_rfl) (by kernel_rfl) (by kernel_rfl) (spec_Lines.run N d)

theorem spec_Lines.scc (N : Nat) : ∀ d, Sound cx Tryd.prog gam 7 (⟨spec_Lines.sg, fun (x : ImplTree × Unit) => spec_Lines.R N d x.1⟩ : Sm D)
  | 0 => none_sound 7 spec_Lines.sg
  | d + 1 => by
    have ih := spec_Lines.scc N d
    exact spec_Lines.step N d ih
noncomputable def spec_Lines.sm (N : Nat) : Sm D := (⟨spec_Lines.sg, fun (x : ImplTree × Unit) => spec_Lines.R N N x.1⟩ : Sm D)
theorem spec_Lines.sound (N : Nat) : Sound cx Tryd.prog gam 7 (spec_Lines.sm N) := (spec_Lines.scc N N)
@[reducible] def laws_FnBoxHigh.sg : Sg := { ms := [{ k := (.sl (.int .u8)), fl := [none] }], keep := [false], rs := [{ k := .bool }] }
noncomputable def laws_FnBoxHigh.A : Ann := { dp := fun d => isIn [] d, lp := look [], jn := look [], pins := [], nt := 46 }
noncomputable def laws_FnBoxHigh.phis (N : Nat) : List (Nat × Sm D) := [(4, spec_DrawBoxHigh.sm N), (5, impl_BoxHigh.sm N), (6, spec_BoxHigh.sm N), (7, spec_Lines.sm N)]
theorem laws_FnBoxHigh.run (N : Nat) (x : (List (Int)) × Unit) : runF cx (look (laws_FnBoxHigh.phis N)) laws_FnBoxHigh.A N (bodyOf Tryd.f3) Tryd.f3.results.toList laws_FnBoxHigh.sg x = laws_FnBoxHigh N x.1 := by
  have h : runF cx (look (laws_FnBoxHigh.phis N)) laws_FnBoxHigh.A N (bodyOf Tryd.f3) Tryd.f3.results.toList laws_FnBoxHigh.sg x = laws_FnBoxHigh.B N x.1 := by kernel_rfl
  rw [h]
  try rfl
noncomputable def laws_FnBoxHigh.sm (N : Nat) : Sm D := (⟨laws_FnBoxHigh.sg, fun (x : (List (Int)) × Unit) => laws_FnBoxHigh N x.1⟩ : Sm D)
theorem laws_FnBoxHigh.sound (N : Nat) : Sound cx Tryd.prog gam 3 (laws_FnBoxHigh.sm N) := fn_sound (A := laws_FnBoxHigh.A) (Φ := (look (laws_FnBoxHigh.phis N))) pok (G := gam) (ΦOk.cons (spec_DrawBoxHigh.sound N) (fnOk_of (f := 4) (by kernel_rfl)) (ΦOk.cons (impl_BoxHigh.sound N) (fnOk_of (f := 5) (by kernel_rfl)) (ΦOk.cons (spec_BoxHigh.sound N) (fnOk_of (f := 6) (by kernel_rfl)) (ΦOk.cons (spec_Lines.sound N) (fnOk_of (f := 7) (by kernel_rfl)) ΦOk.nil)))) mixed N Tryd.func3 (c := (bodyOf Tryd.f3)) (by kernel_rfl) laws_FnBoxHigh.sg (by kernel_rfl) (by kernel_rfl) (by kernel_rfl) (laws_FnBoxHigh.run N)

end
end Go.Ev
