/- Each function that the law reaches does what its plain form says; no condition beyond the table of the library. -/
import Derived.Test.YtndpmjhfflpbpaaDoorEvT2
set_option linter.all false
set_option linter.unusedVariables false
set_option linter.unusedSimpArgs false
set_option maxRecDepth 100000
set_option maxHeartbeats 0
namespace Go.Ev
noncomputable section
open Go.Proofs
@[reducible] def spec_placer_down.sg : Sg := { ms := [{ ptr := true, id := 10, t := 69, k := (.st 68), fl := [none, some (false, 12)] }, { k := (.sl (.st 25)), fl := [none] }, { k := (.sl (.int .i64)), fl := [none] }, { k := (.sl (.int .i64)), fl := [none] }, { k := (.int .i64) }, { k := (.int .i64) }, { k := (.int .i64) }], keep := [true, false, false, false, false, false, false], rs := [{ k := (.int .i64) }], hold := true }
@[reducible] def spec_placer_across.sg : Sg := { ms := [{ ptr := true, id := 10, t := 69, k := (.st 68), fl := [none, some (false, 12)] }, { k := (.sl (.st 25)), fl := [none] }, { k := (.sl (.int .i64)), fl := [none] }, { k := (.sl (.int .i64)), fl := [none] }, { k := (.int .i64) }, { k := (.int .i64) }, { k := (.int .i64) }], keep := [true, false, false, false, false, false, false], rs := [{ k := (.int .i64) }], hold := true }
@[reducible] def spec_placer_part.sg : Sg := { ms := [{ ptr := true, id := 10, t := 69, k := (.st 68), fl := [none, some (false, 12)] }, { k := (.st 25) }, { k := (.sl (.int .i64)), fl := [none] }, { k := (.sl (.int .i64)), fl := [none] }, { k := (.int .i64) }, { k := (.int .i64) }, { k := (.int .i64) }], keep := [true, false, false, false, false, false, false], rs := [{ k := (.st 36) }], hold := true }
@[reducible] def spec_placer_down.lvL0 : Lv := { id := 0, slots := [0, 1, 2, 3, 4, 5, 6, 15, 16], ms := [{ ptr := true, id := 10, t := 69, k := (.st 68), fl := [none, some (false, 602)] }, { k := (.sl (.st 25)), fl := [none] }, { k := (.sl (.int .i64)), fl := [none] }, { k := (.sl (.int .i64)), fl := [none] }, { k := (.int .i64) }, { k := (.int .i64) }, { k := (.int .i64) }, { k := (.int .i64) }, { k := (.int .i64) }] }
noncomputable def spec_placer_down.A : Ann := { dp := fun d => isIn [] d, lp := look [(0, spec_placer_down.lvL0)], jn := look [], pins := [10], nt := 42 }
noncomputable def spec_placer_down.phis (N : Nat) (d : Nat) : List (Nat × Sm D) := [(33, (⟨spec_placer_part.sg, fun (x : SpecPlacer × ImplTree × (List (Int)) × (List (Int)) × Int × Int × Int × Unit) => spec_placer_part.R N d x.1 x.2.1 x.2.2.1 x.2.2.2.1 x.2.2.2.2.1 x.2.2.2.2.2.1 x.2.2.2.2.2.2.1⟩ : Sm D))]
noncomputable def spec_placer_down.a0 (N : Nat) (d : Nat) (n : Nat) (y : SpecPlacer × (List (ImplTree)) × (List (Int)) × (List (Int)) × Int × Int × Int × Int × Int × Unit) : Option (SpecPlacer × Int × Unit) := loopAt cx (look (spec_placer_down.phis N d)) spec_placer_down.A N n (encL cx spec_placer_down.lvL0.ms y).1 (encL cx spec_placer_down.lvL0.ms y).2 (bodyOf Tryd.f47) 0 (Kfin cx spec_placer_down.A spec_placer_down.sg Tryd.f47.results.toList) [1, 1, 0, 1, 1] []
theorem spec_placer_down.r0 (N : Nat) (d : Nat) : ∀ (n : Nat) (y : SpecPlacer × (List (ImplTree)) × (List (Int)) × (List (Int)) × Int × Int × Int × Int × Int × Unit), spec_placer_down.a0 N d n y = spec_placer_down.L0 N (spec_placer_down.R N d) (spec_placer_across.R N d) (spec_placer_part.R N d) n y
  | 0, y => by kernel_rfl
  | n + 1, y => by
    have h : spec_placer_down.a0 N d (n + 1) y = spec_placer_down.B0 N (spec_placer_down.R N d) (spec_placer_across.R N d) (spec_placer_part.R N d) (fun z => spec_placer_down.a0 N d n z) y := by kernel_rfl
    have e : (fun z => spec_placer_down.a0 N d n z) = spec_placer_down.L0 N (spec_placer_down.R N d) (spec_placer_across.R N d) (spec_placer_part.R N d) n := funext fun z => spec_placer_down.r0 N d n z
    rw [h]
    try rw [e]
    first | done | rfl
theorem spec_placer_down.run (N : Nat) (d : Nat) (x : SpecPlacer × (List (ImplTree)) × (List (Int)) × (List (Int)) × Int × Int × Int × Unit) : runF cx (look (spec_placer_down.phis N d)) spec_placer_down.A N (bodyOf Tryd.f47) Tryd.f47.results.toList spec_placer_down.sg x = spec_placer_down.R N (d + 1) x.1 x.2.1 x.2.2.1 x.2.2.2.1 x.2.2.2.2.1 x.2.2.2.2.2.1 x.2.2.2.2.2.2.1 := by
  have h : runF cx (look (spec_placer_down.phis N d)) spec_placer_down.A N (bodyOf Tryd.f47) Tryd.f47.results.toList spec_placer_down.sg x = spec_placer_down.B N (spec_placer_down.R N d) (spec_placer_across.R N d) (spec_placer_part.R N d) (fun z => spec_placer_down.a0 N d N z) x.1 x.2.1 x.2.2.1 x.2.2.2.1 x.2.2.2.2.1 x.2.2.2.2.2.1 x.2.2.2.2.2.2.1 := by kernel_rfl
  have e0 : (fun z => spec_placer_down.a0 N d N z) = spec_placer_down.L0 N (spec_placer_down.R N d) (spec_placer_across.R N d) (spec_placer_part.R N d) N := funext fun z => spec_placer_down.r0 N d N z
  rw [h, e0]
  try rfl
theorem spec_placer_down.step (N : Nat) (d : Nat) (h_spec_placer_part : Sound cx Tryd.prog gam 33 (⟨spec_placer_part.sg, fun (x : SpecPlacer × ImplTree × (List (Int)) × (List (Int)) × Int × Int × Int × Unit) => spec_placer_part.R N d x.1 x.2.1 x.2.2.1 x.2.2.2.1 x.2.2.2.2.1 x.2.2.2.2.2.1 x.2.2.2.2.2.2.1⟩ : Sm D)) : Sound cx Tryd.prog gam 47 (⟨spec_placer_down.sg, fun (x : SpecPlacer × (List (ImplTree)) × (List (Int)) × (List (Int)) × Int × Int × Int × Unit) => spec_placer_down.R N (d + 1) x.1 x.2.1 x.2.2.1 x.2.2.2.1 x.2.2.2.2.1 x.2.2.2.2.2.1 x.2.2.2.2.2.2.1⟩ : Sm D) := fn_sound (A := spec_placer_down.A) (Φ := (look (spec_placer_down.phis N d))) pok (G := gam) (ΦOk.cons h_spec_placer_part (fnOk_of (f := 33) (by kernel_rfl)) ΦOk.nil) mixed N Tryd.func47 (c := (bodyOf Tryd.f47)) (by kernel_rfl) spec_placer_down.sg (by kernel_rfl) (by kernel_rfl) (by kernel_rfl) (spec_placer_down.run N d)

@[reducible] def spec_placer_across.lvL0 : Lv := { id := 0, slots := [0, 1, 2, 3, 4, 5, 15, 16, 17], ms := [{ ptr := true, id := 10, t := 69, k := (.st 68), fl := [none, some (false, 602)] }, { k := (.sl (.st 25)), fl := [none] }, { k := (.sl (.int .i64)), fl := [none] }, { k := (.sl (.int .i64)), fl := [none] }, { k := (.int .i64) }, { k := (.int .i64) }, { k := (.sl (.int .i64)), fl := [none] }, { k := (.int .i64) }, { k := (.int .i64) }] }
noncomputable def spec_placer_across.A : Ann := { dp := fun d => isIn [] d, lp := look [(0, spec_placer_across.lvL0)], jn := look [], pins := [10], nt := 56 }
noncomputable def spec_placer_across.phis (N : Nat) (d : Nat) : List (Nat × Sm D) := [(55, spec_placer_wishes.sm N), (33, (⟨spec_placer_part.sg, fun (x : SpecPlacer × ImplTree × (List (Int)) × (List (Int)) × Int × Int × Int × Unit) => spec_placer_part.R N d x.1 x.2.1 x.2.2.1 x.2.2.2.1 x.2.2.2.2.1 x.2.2.2.2.2.1 x.2.2.2.2.2.2.1⟩ : Sm D))]
noncomputable def spec_placer_across.a0 (N : Nat) (d : Nat) (n : Nat) (y : SpecPlacer × (List (ImplTree)) × (List (Int)) × (List (Int)) × Int × Int × (List (Int)) × Int × Int × Unit) : Option (SpecPlacer × Int × Unit) := loopAt cx (look (spec_placer_across.phis N d)) spec_placer_across.A N n (encL cx spec_placer_across.lvL0.ms y).1 (encL cx spec_placer_across.lvL0.ms y).2 (bodyOf Tryd.f46) 0 (Kfin cx spec_placer_across.A spec_placer_across.sg Tryd.f46.results.toList) [1, 1, 1, 0, 1, 1] []
theorem spec_placer_across.r0 (N : Nat) (d : Nat) : ∀ (n : Nat) (y : SpecPlacer × (List (ImplTree)) × (List (Int)) × (List (Int)) × Int × Int × (List (Int)) × Int × Int × Unit), spec_placer_across.a0 N d n y = spec_placer_across.L0 N (spec_placer_down.R N d) (spec_placer_across.R N d) (spec_placer_part.R N d) n y
  | 0, y => by kernel_rfl
  | n + 1, y => by
    have h : spec_placer_across.a0 N d (n + 1) y = spec_placer_across.B0 N (spec_placer_down.R N d) (spec_placer_across.R N d) (spec_placer_part.R N d) (fun z => spec_placer_across.a0 N d n z) y := by kernel_rfl
    have e : (fun z => spec_placer_across.a0 N d n z) = spec_placer_across.L0 N (spec_placer_down.R N d) (spec_placer_across.R N d) (spec_placer_part.R N d) n := funext fun z => spec_placer_across.r0 N d n z
    rw [h]
    try rw [e]
    first | done | rfl
theorem spec_placer_across.run (N : Nat) (d : Nat) (x : SpecPlacer × (List (ImplTree)) × (List (Int)) × (List (Int)) × Int × Int × Int × Unit) : runF cx (look (spec_placer_across.phis N d)) spec_placer_across.A N (bodyOf Tryd.f46) Tryd.f46.results.toList spec_placer_across.sg x = spec_placer_across.R N (d + 1) x.1 x.2.1 x.2.2.1 x.2.2.2.1 x.2.2.2.2.1 x.2.2.2.2.2.1 x.2.2.2.2.2.2.1 := by
  have h : runF cx (look (spec_placer_across.phis N d)) spec_placer_across.A N (bodyOf Tryd.f46) Tryd.f46.results.toList spec_placer_across.sg x = spec_placer_across.B N (spec_placer_down.R N d) (spec_placer_across.R N d) (spec_placer_part.R N d) (fun z => spec_placer_across.a0 N d N z) x.1 x.2.1 x.2.2.1 x.2.2.2.1 x.2.2.2.2.1 x.2.2.2.2.2.1 x.2.2.2.2.2.2.1 := by kernel_rfl
  have e0 : (fun z => spec_placer_across.a0 N d N z) = spec_placer_across.L0 N (spec_placer_down.R N d) (spec_placer_across.R N d) (spec_placer_part.R N d) N := funext fun z => spec_placer_across.r0 N d N z
  rw [h, e0]
  try rfl
theorem spec_placer_across.step (N : Nat) (d : Nat) (h_spec_placer_part : Sound cx Tryd.prog gam 33 (⟨spec_placer_part.sg, fun (x : SpecPlacer × ImplTree × (List (Int)) × (List (Int)) × Int × Int × Int × Unit) => spec_placer_part.R N d x.1 x.2.1 x.2.2.1 x.2.2.2.1 x.2.2.2.2.1 x.2.2.2.2.2.1 x.2.2.2.2.2.2.1⟩ : Sm D)) : Sound cx Tryd.prog gam 46 (⟨spec_placer_across.sg, fun (x : SpecPlacer × (List (ImplTree)) × (List (Int)) × (List (Int)) × Int × Int × Int × Unit) => spec_placer_across.R N (d + 1) x.1 x.2.1 x.2.2.1 x.2.2.2.1 x.2.2.2.2.1 x.2.2.2.2.2.1 x.2.2.2.2.2.2.1⟩ : Sm D) := fn_sound (A := spec_placer_across.A) (Φ := (look (spec_placer_across.phis N d))) pok (G := gam) (ΦOk.cons (spec_placer_wishes.sound N) (fnOk_of (f := 55) (by kernel_rfl)) (ΦOk.cons h_spec_placer_part (fnOk_of (f := 33) (by kernel_rfl)) ΦOk.nil)) mixed N Tryd.func46 (c := (bodyOf Tryd.f46)) (by kernel_rfl) spec_placer_across.sg (by kernel_rfl) (by kernel_rfl) (by kernel_rfl) (spec_placer_across.run N d)

@[reducible] def spec_placer_part.lvJ12 : Lv := { id := 12, slots := [0, 2, 4, 5, 8, 14, 15, 16, 17], ms := [{ ptr := true, id := 10, t := 69, k := (.st 68), fl := [none, some (false, 602)] }, { k := (.sl (.int .i64)), fl := [none] }, { k := (.int .i64) }, { k := (.int .i64) }, { ptr := true, id := 680, t := 26, k := (.st 25), fl := [none, none, none, none, none] }, { ptr := true, id := 700, t := 37, k := (.st 36), fl := [none, none, none, none] }, { k := (.sl (.int .i64)), fl := [none] }, { k := (.int .i64) }, { ptr := true, id := 760, t := 37, k := (.st 36), fl := [none, none, none, none] }] }
@[reducible] def spec_placer_part.lvJ22 : Lv := { id := 22, slots := [0, 14, 16, 17], ms := [{ ptr := true, id := 10, t := 69, k := (.st 68), fl := [none, some (false, 602)] }, { ptr := true, id := 620, t := 37, k := (.st 36), fl := [none, none, none, none] }, { k := (.int .i64) }, { ptr := true, id := 660, t := 37, k := (.st 36), fl := [none, none, none, none] }] }
@[reducible] def spec_placer_part.lvJ19 : Lv := { id := 19, slots := [0, 14, 15, 16, 17, 18, 21], ms := [{ ptr := true, id := 10, t := 69, k := (.st 68), fl := [none, some (false, 602)] }, { ptr := true, id := 620, t := 37, k := (.st 36), fl := [none, none, none, none] }, { k := (.sl (.int .i64)), fl := [none] }, { k := (.int .i64) }, { ptr := true, id := 680, t := 37, k := (.st 36), fl := [none, none, none, none] }, { k := (.int .i64) }, { k := (.int .i64) }] }
noncomputable def spec_placer_part.A : Ann := { dp := fun d => isIn [] d, lp := look [], jn := look [(12, spec_placer_part.lvJ12), (22, spec_placer_part.lvJ22), (19, spec_placer_part.lvJ19)], pins := [10], nt := 148 }
noncomputable def spec_placer_part.phis (N : Nat) (d : Nat) : List (Nat × Sm D) := [(44, spec_looksOf.sm N), (45, spec_textBox.sm N), (46, (⟨spec_placer_across.sg, fun (x : SpecPlacer × (List (ImplTree)) × (List (Int)) × (List (Int)) × Int × Int × Int × Unit) => spec_placer_across.R N d x.1 x.2.1 x.2.2.1 x.2.2.2.1 x.2.2.2.2.1 x.2.2.2.2.2.1 x.2.2.2.2.2.2.1⟩ : Sm D)), (47, (⟨spec_placer_down.sg, fun (x : SpecPlacer × (List (ImplTree)) × (List (Int)) × (List (Int)) × Int × Int × Int × Unit) => spec_placer_down.R N d x.1 x.2.1 x.2.2.1 x.2.2.2.1 x.2.2.2.2.1 x.2.2.2.2.2.1 x.2.2.2.2.2.2.1⟩ : Sm D))]
theorem spec_placer_part.run (N : Nat) (d : Nat) (x : SpecPlacer × ImplTree × (List (Int)) × (List (Int)) × Int × Int × Int × Unit) : runF cx (look (spec_placer_part.phis N d)) spec_placer_part.A N (bodyOf Tryd.f33) Tryd.f33.results.toList spec_placer_part.sg x = spec_placer_part.R N (d + 1) x.1 x.2.1 x.2.2.1 x.2.2.2.1 x.2.2.2.2.1 x.2.2.2.2.2.1 x.2.2.2.2.2.2.1 := by
  have h : runF cx (look (spec_placer_part.phis N d)) spec_placer_part.A N (bodyOf Tryd.f33) Tryd.f33.results.toList spec_placer_part.sg x = spec_placer_part.B N (spec_placer_down.R N d) (spec_placer_across.R N d) (spec_placer_part.R N d) x.1 x.2.1 x.2.2.1 x.2.2.2.1 x.2.2.2.2.1 x.2.2.2.2.2.1 x.2.2.2.2.2.2.1 := by kernel_rfl
  rw [h]
  try rfl
theorem spec_placer_part.step (N : Nat) (d : Nat) (h_spec_placer_across : Sound cx Tryd.prog gam 46 (⟨spec_placer_across.sg, fun (x : SpecPlacer × (List (ImplTree)) × (List (Int)) × (List (Int)) × Int × Int × Int × Unit) => spec_placer_across.R N d x.1 x.2.1 x.2.2.1 x.2.2.2.1 x.2.2.2.2.1 x.2.2.2.2.2.1 x.2.2.2.2.2.2.1⟩ : Sm D)) (h_spec_placer_down : Sound cx Tryd.prog gam 47 (⟨spec_placer_down.sg, fun (x : SpecPlacer × (List (ImplTree)) × (List (Int)) × (List (Int)) × Int × Int × Int × Unit) => spec_placer_down.R N d x.1 x.2.1 x.2.2.1 x.2.2.2.1 x.2.2.2.2.1 x.2.2.2.2.2.1 x.2.2.2.2.2.2.1⟩ : Sm D)) : Sound cx Tryd.prog gam 33 (⟨spec_placer_part.sg, fun (x : SpecPlacer × ImplTree × (List (Int)) × (List (Int)) × Int × Int × Int × Unit) => spec_placer_part.R N (d + 1) x.1 x.2.1 x.2.2.1 x.2.2.2.1 x.2.2.2.2.1 x.2.2.2.2.2.1 x.2.2.2.2.2.2.1⟩ : Sm D) := fn_sound (A := spec_placer_part.A) (Φ := (look (spec_placer_part.phis N d))) pok (G := gam) (ΦOk.cons (spec_looksOf.sound N) (fnOk_of (f := 44) (by kernel_rfl)) (ΦOk.cons (spec_textBox.sound N) (fnOk_of (f := 45) (by kernel_rfl)) (ΦOk.cons h_spec_placer_across (fnOk_of (f := 46) (by kernel_rfl)) (ΦOk.cons h_spec_placer_down (fnOk_of (f := 47) (by kernel_rfl)) ΦOk.nil)))) mixed N Tryd.func33 (c := (bodyOf Tryd.f33)) (by kernel_rfl) spec_placer_part.sg (by kernel_rfl) (by kernel_rfl) (by kernel_rfl) (spec_placer_part.run N d)

theorem spec_placer_down.scc (N : Nat) : ∀ d, Sound cx Tryd.prog gam 47 (⟨spec_placer_down.sg, fun (x : SpecPlacer × (List (ImplTree)) × (List (Int)) × (List (Int)) × Int × Int × Int × Unit) => spec_placer_down.R N d x.1 x.2.1 x.2.2.1 x.2.2.2.1 x.2.2.2.2.1 x.2.2.2.2.2.1 x.2.2.2.2.2.2.1⟩ : Sm D) ∧ Sound cx Tryd.prog gam 46 (⟨spec_placer_across.sg, fun (x : SpecPlacer × (List (ImplTree)) × (List (Int)) × (List (Int)) × Int × Int × Int × Unit) => spec_placer_across.R N d x.1 x.2.1 x.2.2.1 x.2.2.2.1 x.2.2.2.2.1 x.2.2.2.2.2.1 x.2.2.2.2.2.2.1⟩ : Sm D) ∧ Sound cx Tryd.prog gam 33 (⟨spec_placer_part.sg, fun (x : SpecPlacer × ImplTree × (List (Int)) × (List (Int)) × Int × Int × Int × Unit) => spec_placer_part.R N d x.1 x.2.1 x.2.2.1 x.2.2.2.1 x.2.2.2.2.1 x.2.2.2.2.2.1 x.2.2.2.2.2.2.1⟩ : Sm D)
  | 0 => ⟨none_sound 47 spec_placer_down.sg, none_sound 46 spec_placer_across.sg, none_sound 33 spec_placer_part.sg⟩
  | d + 1 => by
    have ih := spec_placer_down.scc N d
    obtain ⟨ih0, ih1, ih2⟩ := ih
    exact ⟨spec_placer_down.step N d ih2, spec_placer_across.step N d ih2, spec_placer_part.step N d ih1 ih0⟩
noncomputable def spec_placer_down.sm (N : Nat) : Sm D := (⟨spec_placer_down.sg, fun (x : SpecPlacer × (List (ImplTree)) × (List (Int)) × (List (Int)) × Int × Int × Int × Unit) => spec_placer_down.R N N x.1 x.2.1 x.2.2.1 x.2.2.2.1 x.2.2.2.2.1 x.2.2.2.2.2.1 x.2.2.2.2.2.2.1⟩ : Sm D)
theorem spec_placer_down.sound (N : Nat) : Sound cx Tryd.prog gam 47 (spec_placer_down.sm N) := (spec_placer_down.scc N N).1
noncomputable def spec_placer_across.sm (N : Nat) : Sm D := (⟨spec_placer_across.sg, fun (x : SpecPlacer × (List (ImplTree)) × (List (Int)) × (List (Int)) × Int × Int × Int × Unit) => spec_placer_across.R N N x.1 x.2.1 x.2.2.1 x.2.2.2.1 x.2.2.2.2.1 x.2.2.2.2.2.1 x.2.2.2.2.2.2.1⟩ : Sm D)
theorem spec_placer_across.sound (N : Nat) : Sound cx Tryd.prog gam 46 (spec_placer_across.sm N) := (spec_placer_down.scc N N).2.1
noncomputable def spec_placer_part.sm (N : Nat) : Sm D := (⟨spec_placer_part.sg, fun (x : SpecPlacer × ImplTree × (List (Int)) × (List (Int)) × Int × Int × Int × Unit) => spec_placer_part.R N N x.1 x.2.1 x.2.2.1 x.2.2.2.1 x.2.2.2.2.1 x.2.2.2.2.2.1 x.2.2.2.2.2.2.1⟩ : Sm D)
theorem spec_placer_part.sound (N : Nat) : Sound cx Tryd.prog gam 33 (spec_placer_part.sm N) := (spec_placer_down.scc N N).2.2
@[reducible] def spec_boxes.sg : Sg := { ms := [{ k := (.st 25) }, { k := (.sl (.st 50)), fl := [none] }, { k := (.int .i64) }], keep := [false, false, false], rs := [{ k := (.sl (.st 36)), fl := [none] }], hold := true }
noncomputable def spec_boxes.A : Ann := { dp := fun d => isIn [] d, lp := look [], jn := look [], pins := [], nt := 21 }
noncomputable def spec_boxes.phis (N : Nat) : List (Nat × Sm D) := [(33, spec_placer_part.sm N)]
theorem spec_boxes.run (N : Nat) (x : ImplTree × (List (ImplRule)) × Int × Unit) : runF cx (look (spec_boxes.phis N)) spec_boxes.A N (bodyOf Tryd.f21) Tryd.f21.results.toList spec_boxes.sg x = spec_boxes N x.1 x.2.1 x.2.2.1 := by
  have h : runF cx (look (spec_boxes.phis N)) spec_boxes.A N (bodyOf Tryd.f21) Tryd.f21.results.toList spec_boxes.sg x = spec_boxes.B N x.1 x.2.1 x.2.2.1 := by kernel_rfl
  rw [h]
  try rfl
noncomputable def spec_boxes.sm (N : Nat) : Sm D := (⟨spec_boxes.sg, fun (x : ImplTree × (List (ImplRule)) × Int × Unit) => spec_boxes N x.1 x.2.1 x.2.2.1⟩ : Sm D)
theorem spec_boxes.sound (N : Nat) : Sound cx Tryd.prog gam 21 (spec_boxes.sm N) := fn_sound (A := spec_boxes.A) (Φ := (look (spec_boxes.phis N))) pok (G := gam) (ΦOk.cons (spec_placer_part.sound N) (fnOk_of (f := 33) (by kernel_rfl)) ΦOk.nil) mixed N Tryd.func21 (c := (bodyOf Tryd.f21)) (by kernel_rfl) spec_boxes.sg (by kernel_rfl) (by kernel_rfl) (by kernel_rfl) (spec_boxes.run N)

@[reducible] def spec_BoxesOf.sg : Sg := { ms := [{ k := (.st 25) }, { k := (.sl (.st 50)), fl := [none] }, { k := (.int .i64) }], keep := [false, false, false], rs := [{ k := (.sl (.st 36)), fl := [none] }], hold := true }
noncomputable def spec_BoxesOf.A : Ann := { dp := fun d => isIn [] d, lp := look [], jn := look [], pins := [], nt := 24 }
noncomputable def spec_BoxesOf.phis (N : Nat) : List (Nat × Sm D) := [(18, spec_validTree.sm N), (19, spec_validRules.sm N), (20, spec_inRange.sm N), (21, spec_boxes.sm N)]
theorem spec_BoxesOf.run (N : Nat) (x : ImplTree × (List (ImplRule)) × Int × Unit) : runF cx (look (spec_BoxesOf.phis N)) spec_BoxesOf.A N (bodyOf Tryd.f6) Tryd.f6.results.toList spec_BoxesOf.sg x = spec_BoxesOf N x.1 x.2.1 x.2.2.1 := by
  have h : runF cx (look (spec_BoxesOf.phis N)) spec_BoxesOf.A N (bodyOf Tryd.f6) Tryd.f6.results.toList spec_BoxesOf.sg x = spec_BoxesOf.B N x.1 x.2.1 x.2.2.1 := by kernel_rfl
  rw [h]
  try rfl
noncomputable def spec_BoxesOf.sm (N : Nat) : Sm D := (⟨spec_BoxesOf.sg, fun (x : ImplTree × (List (ImplRule)) × Int × Unit) => spec_BoxesOf N x.1 x.2.1 x.2.2.1⟩ : Sm D)
theorem spec_BoxesOf.sound (N : Nat) : Sound cx Tryd.prog gam 6 (spec_BoxesOf.sm N) := fn_sound (A := spec_BoxesOf.A) (Φ := (look (spec_BoxesOf.phis N))) pok (G := gam) (ΦOk.cons (spec_validTree.sound N) (fnOk_of (f := 18) (by kernel_rfl)) (ΦOk.cons (spec_validRules.sound N) (fnOk_of (f := 19) (by kernel_rfl)) (ΦOk.cons (spec_inRange.sound N) (fnOk_of (f := 20) (by kernel_rfl)) (ΦOk.cons (spec_boxes.sound N) (fnOk_of (f := 21) (by kernel_rfl)) ΦOk.nil)))) mixed N Tryd.func6 (c := (bodyOf Tryd.f6)) (by kernel_rfl) spec_BoxesOf.sg (by kernel_rfl) (by kernel_rfl) (by kernel_rfl) (spec_BoxesOf.run N)

@[reducible] def spec_SameBoxes.sg : Sg := { ms := [{ k := (.sl (.st 36)), fl := [none] }, { k := (.sl (.st 36)), fl := [none] }], keep := [false, false], rs := [{ k := .bool }] }
@[reducible] def spec_SameBoxes.lvL0 : Lv := { id := 0, slots := [0, 1, 5], ms := [{ k := (.sl (.st 36)), fl := [none] }, { k := (.sl (.st 36)), fl := [none] }, { k := (.int .i64) }] }
noncomputable def spec_SameBoxes.A : Ann := { dp := fun d => isIn [] d, lp := look [(0, spec_SameBoxes.lvL0)], jn := look [], pins := [], nt := 26 }
noncomputable def spec_SameBoxes.phis (N : Nat) : List (Nat × Sm D) := []
noncomputable def spec_SameBoxes.a0 (N : Nat) (n : Nat) (y : (List (ImplBox)) × (List (ImplBox)) × Int × Unit) : Option (Bool × Unit) := loopAt cx (look (spec_SameBoxes.phis N)) spec_SameBoxes.A N n (encL cx spec_SameBoxes.lvL0.ms y).1 (encL cx spec_SameBoxes.lvL0.ms y).2 (bodyOf Tryd.f7) 0 (Kfin cx spec_SameBoxes.A spec_SameBoxes.sg Tryd.f7.results.toList) [1, 1, 0, 1, 1] []
theorem spec_SameBoxes.r0 (N : Nat) : ∀ (n : Nat) (y : (List (ImplBox)) × (List (ImplBox)) × Int × Unit), spec_SameBoxes.a0 N n y = spec_SameBoxes.L0 N n y
  | 0, y => by kernel_rfl
  | n + 1, y => by
    have h : spec_SameBoxes.a0 N (n + 1) y = spec_SameBoxes.B0 N (fun z => spec_SameBoxes.a0 N n z) y := by kernel_rfl
    have e : (fun z => spec_SameBoxes.a0 N n z) = spec_SameBoxes.L0 N n := funext fun z => spec_SameBoxes.r0 N n z
    rw [h]
    try rw [e]
    first | done | rfl
theorem spec_SameBoxes.run (N : Nat) (x : (List (ImplBox)) × (List (ImplBox)) × Unit) : runF cx (look (spec_SameBoxes.phis N)) spec_SameBoxes.A N (bodyOf Tryd.f7) Tryd.f7.results.toList spec_SameBoxes.sg x = spec_SameBoxes N x.1 x.2.1 := by
  have h : runF cx (look (spec_SameBoxes.phis N)) spec_SameBoxes.A N (bodyOf Tryd.f7) Tryd.f7.results.toList spec_SameBoxes.sg x = spec_SameBoxes.B N (fun z => spec_SameBoxes.a0 N N z) x.1 x.2.1 := by kernel_rfl
  have e0 : (fun z => spec_SameBoxes.a0 N N z) = spec_SameBoxes.L0 N N := funext fun z => spec_SameBoxes.r0 N N z
  rw [h, e0]
  try rfl
noncomputable def spec_SameBoxes.sm (N : Nat) : Sm D := (⟨spec_SameBoxes.sg, fun (x : (List (ImplBox)) × (List (ImplBox)) × Unit) => spec_SameBoxes N x.1 x.2.1⟩ : Sm D)
theorem spec_SameBoxes.sound (N : Nat) : Sound cx Tryd.prog gam 7 (spec_SameBoxes.sm N) := fn_sound (A := spec_SameBoxes.A) (Φ := (look (spec_SameBoxes.phis N))) pok (G := gam) ΦOk.nil mixed N Tryd.func7 (c := (bodyOf Tryd.f7)) (by kernel_rfl) spec_SameBoxes.sg (by kernel_rfl) (by kernel_rfl) (by kernel_rfl) (spec_SameBoxes.run N)

@[reducible] def impl_TreeSize.sg : Sg := { ms := [{ k := (.st 25) }], keep := [false], rs := [{ k := (.int .i64) }] }
noncomputable def impl_TreeSize.A : Ann := { dp := fun d => isIn [] d, lp := look [], jn := look [], pins := [], nt := 8 }
noncomputable def impl_TreeSize.phis (N : Nat) : List (Nat × Sm D) := [(8, impl_TreeOk.sm N), (24, impl_treeCount.sm N)]
theorem impl_TreeSize.run (N : Nat) (x : ImplTree × Unit) : runF cx (look (impl_TreeSize.phis N)) impl_TreeSize.A N (bodyOf Tryd.f10) Tryd.f10.results.toList impl_TreeSize.sg x = impl_TreeSize N x.1 := by
  have h : runF cx (look (impl_TreeSize.phis N)) impl_TreeSize.A N (bodyOf Tryd.f10) Tryd.f10.results.toList impl_TreeSize.sg x = impl_TreeSize.B N x.1 := by kernel_rfl
  rw [h]
  try rfl
noncomputable def impl_TreeSize.sm (N : Nat) : Sm D := (⟨impl_TreeSize.sg, fun (x : ImplTree × Unit) => impl_TreeSize N x.1⟩ : Sm D)
theorem impl_TreeSize.sound (N : Nat) : Sound cx Tryd.prog gam 10 (impl_TreeSize.sm N) := fn_sound (A := impl_TreeSize.A) (Φ := (look (impl_TreeSize.phis N))) pok (G := gam) (ΦOk.cons (impl_TreeOk.sound N) (fnOk_of (f := 8) (by kernel_rfl)) (ΦOk.cons (impl_treeCount.sound N) (fnOk_of (f := 24) (by kernel_rfl)) ΦOk.nil)) mixed N Tryd.func10 (c := (bodyOf Tryd.f10)) (by kernel_rfl) impl_TreeSize.sg (by kernel_rfl) (by kernel_rfl) (by kernel_rfl) (impl_TreeSize.run N)

@[reducible] def laws_FnBoxesOf.sg : Sg := { ms := [{ k := (.sl (.int .u8)), fl := [none] }], keep := [false], rs := [{ k := .bool }] }
@[reducible] def laws_FnBoxesOf.lvL0 : Lv := { id := 0, slots := [5, 6, 9], ms := [{ k := (.int .i64) }, { k := (.sl (.st 36)), fl := [none] }, { k := (.int .i64) }] }
noncomputable def laws_FnBoxesOf.A : Ann := { dp := fun d => isIn [] d, lp := look [(0, laws_FnBoxesOf.lvL0)], jn := look [], pins := [], nt := 91 }
noncomputable def laws_FnBoxesOf.phis (N : Nat) : List (Nat × Sm D) := [(4, spec_DrawBoxesOf.sm N), (5, impl_BoxesOf.sm N), (6, spec_BoxesOf.sm N), (7, spec_SameBoxes.sm N), (8, impl_TreeOk.sm N), (9, impl_RulesOk.sm N), (10, impl_TreeSize.sm N)]
noncomputable def laws_FnBoxesOf.a0 (N : Nat) (n : Nat) (y : Int × (List (ImplBox)) × Int × Unit) : Option (Bool × Unit) := loopAt cx (look (laws_FnBoxesOf.phis N)) laws_FnBoxesOf.A N n (encL cx laws_FnBoxesOf.lvL0.ms y).1 (encL cx laws_FnBoxesOf.lvL0.ms y).2 (bodyOf Tryd.f3) 0 (Kfin cx laws_FnBoxesOf.A laws_FnBoxesOf.sg Tryd.f3.results.toList) [1, 1, 1, 1, 1, 1, 1, 1, 0, 1, 1] []
theorem laws_FnBoxesOf.r0 (N : Nat) : ∀ (n : Nat) (y : Int × (List (ImplBox)) × Int × Unit), laws_FnBoxesOf.a0 N n y = laws_FnBoxesOf.L0 N n y
  | 0, y => by kernel_rfl
  | n + 1, y => by
    have h : laws_FnBoxesOf.a0 N (n + 1) y = laws_FnBoxesOf.B0 N (fun z => laws_FnBoxesOf.a0 N n z) y := by kernel_rfl
    have e : (fun z => laws_FnBoxesOf.a0 N n z) = laws_FnBoxesOf.L0 N n := funext fun z => laws_FnBoxesOf.r0 N n z
    rw [h]
    try rw [e]
    first | done | rfl
theorem laws_FnBoxesOf.run (N : Nat) (x : (List (Int)) × Unit) : runF cx (look (laws_FnBoxesOf.phis N)) laws_FnBoxesOf.A N (bodyOf Tryd.f3) Tryd.f3.results.toList laws_FnBoxesOf.sg x = laws_FnBoxesOf N x.1 := by
  have h : runF cx (look (laws_FnBoxesOf.phis N)) laws_FnBoxesOf.A N (bodyOf Tryd.f3) Tryd.f3.results.toList laws_FnBoxesOf.sg x = laws_FnBoxesOf.B N (fun z => laws_FnBoxesOf.a0 N N z) x.1 := by kernel_rfl
  have e0 : (fun z => laws_FnBoxesOf.a0 N N z) = laws_FnBoxesOf.L0 N N := funext fun z => laws_FnBoxesOf.r0 N N z
  rw [h, e0]
  try rfl
noncomputable def laws_FnBoxesOf.sm (N : Nat) : Sm D := (⟨laws_FnBoxesOf.sg, fun (x : (List (Int)) × Unit) => laws_FnBoxesOf N x.1⟩ : Sm D)
theorem laws_FnBoxesOf.sound (N : Nat) : Sound cx Tryd.prog gam 3 (laws_FnBoxesOf.sm N) := fn_sound (A := laws_FnBoxesOf.A) (Φ := (look (laws_FnBoxesOf.phis N))) pok (G := gam) (ΦOk.cons (spec_DrawBoxesOf.sound N) (fnOk_of (f := 4) (by kernel_rfl)) (ΦOk.cons (impl_BoxesOf.sound N) (fnOk_of (f := 5) (by kernel_rfl)) (ΦOk.cons (spec_BoxesOf.sound N) (fnOk_of (f := 6) (by kernel_rfl)) (ΦOk.cons (spec_SameBoxes.sound N) (fnOk_of (f := 7) (by kernel_rfl)) (ΦOk.cons (impl_TreeOk.sound N) (fnOk_of (f := 8) (by kernel_rfl)) (ΦOk.cons (impl_RulesOk.sound N) (fnOk_of (f := 9) (by kernel_rfl)) (ΦOk.cons (impl_TreeSize.sound N) (fnOk_of (f := 10) (by kernel_rfl)) ΦOk.nil))))))) mixed N Tryd.func3 (c := (bodyOf Tryd.f3)) (by kernel_rfl) laws_FnBoxesOf.sg (by kernel_rfl) (by kernel_rfl) (by kernel_rfl) (laws_FnBoxesOf.run N)

end
end Go.Ev
