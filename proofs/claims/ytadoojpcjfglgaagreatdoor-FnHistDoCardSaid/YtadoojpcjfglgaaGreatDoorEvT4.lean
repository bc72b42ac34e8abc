/- Each function that the law reaches does what its plain form says; no condition beyond the table of the library. -/
import Derived.Test.YtadoojpcjfglgaaGreatDoorEvT3
set_option linter.all false
set_option linter.unusedVariables false
set_option linter.unusedSimpArgs false
set_option maxRecDepth 100000
set_option maxHeartbeats 0
namespace Go.Ev
noncomputable section
open Go.Proofs
@[reducible] def spec_SameHist.sg : Sg := { ms := [{ k := (.st 54) }, { k := (.st 54) }], keep := [false, false], rs := [{ k := .bool }] }
noncomputable def spec_SameHist.A : Ann := { dp := fun d => isIn [] d, lp := look [], jn := look [], pins := [], nt := 24 }
noncomputable def spec_SameHist.phis (N : Nat) : List (Nat × Sm D) := [(53, spec_sameStore.sm N), (82, spec_SameStores.sm N)]
theorem spec_SameHist.run (N : Nat) (x : ImplHist × ImplHist × Unit) : runF cx (look (spec_SameHist.phis N)) spec_SameHist.A N (bodyOf Tryz.f37) Tryz.f37.results.toList spec_SameHist.sg x = spec_SameHist N x.1 x.2.1 := by
  have h : runF cx (look (spec_SameHist.phis N)) spec_SameHist.A N (bodyOf Tryz.f37) Tryz.f37.results.toList spec_SameHist.sg x = spec_SameHist.B N x.1 x.2.1 := by kernel_rfl
  rw [h]
  try rfl
noncomputable def spec_SameHist.sm (N : Nat) : Sm D := (⟨spec_SameHist.sg, fun (x : ImplHist × ImplHist × Unit) => spec_SameHist N x.1 x.2.1⟩ : Sm D)
theorem spec_SameHist.sound (N : Nat) : Sound cx Tryz.prog gam 37 (spec_SameHist.sm N) := fn_sound (A := spec_SameHist.A) (Φ := (look (spec_SameHist.phis N))) pok (G := gam) (ΦOk.cons (spec_sameStore.sound N) (fnOk_of (f := 53) (by kernel_rfl)) (ΦOk.cons (spec_SameStores.sound N) (fnOk_of (f := 82) (by kernel_rfl)) ΦOk.nil)) mixed N Tryz.func37 (c := (bodyOf Tryz.f37)) (by kernel_rfl) spec_SameHist.sg (by kernel_rfl) (by kernel_rfl) (by kernel_rfl) (spec_SameHist.run N)

@[reducible] def spec_DrawHistDo.sg : Sg := { ms := [{ k := (.sl (.int .u8)), fl := [none] }], keep := [false], rs := [{ k := (.st 54) }, { k := (.sl (.st 100)), fl := [none] }], hold := true }
@[reducible] def spec_DrawHistDo.lvJ15 : Lv := { id := 15, slots := [2, 4, 5], ms := [{ ptr := true, id := 600, t := 55, k := (.st 54), fl := [some (false, 601), some (false, 602), some (false, 603)] }, { ptr := true, id := 620, t := 114, k := (.st 113), fl := [none, none, none] }, { ptr := true, id := 640, t := 55, k := (.st 54), fl := [none, some (false, 642), some (false, 643)] }] }
@[reducible] def spec_DrawHistDo.lvJ9 : Lv := { id := 9, slots := [2, 4, 5, 6], ms := [{ ptr := true, id := 600, t := 55, k := (.st 54), fl := [some (false, 601), some (false, 602), some (false, 603)] }, { ptr := true, id := 620, t := 114, k := (.st 113), fl := [none, none, none] }, { ptr := true, id := 640, t := 55, k := (.st 54), fl := [none, some (false, 642), some (false, 643)] }, { k := (.int .i64) }] }
@[reducible] def spec_DrawHistDo.lvL0 : Lv := { id := 0, slots := [2, 4, 5, 6], ms := [{ ptr := true, id := 600, t := 55, k := (.st 54), fl := [some (false, 601), some (false, 602), some (false, 603)] }, { ptr := true, id := 620, t := 114, k := (.st 113), fl := [none, none, none] }, { ptr := true, id := 640, t := 55, k := (.st 54), fl := [none, some (false, 642), some (false, 643)] }, { k := (.int .i64) }] }
@[reducible] def spec_DrawHistDo.lvJ11 : Lv := { id := 11, slots := [2, 4, 5, 6], ms := [{ ptr := true, id := 600, t := 55, k := (.st 54), fl := [some (false, 601), some (false, 602), some (false, 603)] }, { ptr := true, id := 620, t := 114, k := (.st 113), fl := [none, none, none] }, { ptr := true, id := 640, t := 55, k := (.st 54), fl := [none, some (false, 642), some (false, 643)] }, { k := (.int .i64) }] }
noncomputable def spec_DrawHistDo.A : Ann := { dp := fun d => isIn [] d, lp := look [(0, spec_DrawHistDo.lvL0)], jn := look [(15, spec_DrawHistDo.lvJ15), (9, spec_DrawHistDo.lvJ9), (11, spec_DrawHistDo.lvJ11)], pins := [], nt := 86 }
noncomputable def spec_DrawHistDo.phis (N : Nat) : List (Nat × Sm D) := [(42, spec_newSource.sm N), (44, spec_source_cells.sm N), (46, spec_source_pick.sm N), (76, spec_source_updates.sm N), (77, spec_validHist.sm N), (69, spec_validUpdates.sm N), (40, spec_HistDo.sm N), (78, spec_HistUndo.sm N), (79, spec_HistRedo.sm N), (80, spec_source_rarely.sm N)]
noncomputable def spec_DrawHistDo.a0 (N : Nat) (n : Nat) (y : ImplHist × SpecSource × ImplHist × Int × Unit) : Option (ImplHist × (List (ImplUpdate)) × Unit) := loopAt cx (look (spec_DrawHistDo.phis N)) spec_DrawHistDo.A N n (encL cx spec_DrawHistDo.lvL0.ms y).1 (encL cx spec_DrawHistDo.lvL0.ms y).2 (bodyOf Tryz.f39) 0 (Kfin cx spec_DrawHistDo.A spec_DrawHistDo.sg Tryz.f39.results.toList) [1, 1, 1, 0, 1, 1] []
theorem spec_DrawHistDo.r0 (N : Nat) : ∀ (n : Nat) (y : ImplHist × SpecSource × ImplHist × Int × Unit), spec_DrawHistDo.a0 N n y = spec_DrawHistDo.L0 N n y
  | 0, y => by kernel_rfl
  | n + 1, y => by
    have h : spec_DrawHistDo.a0 N (n + 1) y = spec_DrawHistDo.B0 N (fun z => spec_DrawHistDo.a0 N n z) y := by kernel_rfl
    have e : (fun z => spec_DrawHistDo.a0 N n z) = spec_DrawHistDo.L0 N n := funext fun z => spec_DrawHistDo.r0 N n z
    rw [h]
    try rw [e]
    first | done | rfl
theorem spec_DrawHistDo.run (N : Nat) (x : (List (Int)) × Unit) : runF cx (look (spec_DrawHistDo.phis N)) spec_DrawHistDo.A N (bodyOf Tryz.f39) Tryz.f39.results.toList spec_DrawHistDo.sg x = spec_DrawHistDo N x.1 := by
  have h : runF cx (look (spec_DrawHistDo.phis N)) spec_DrawHistDo.A N (bodyOf Tryz.f39) Tryz.f39.results.toList spec_DrawHistDo.sg x = spec_DrawHistDo.B N (fun z => spec_DrawHistDo.a0 N N z) x.1 := by kernel_rfl
  have e0 : (fun z => spec_DrawHistDo.a0 N N z) = spec_DrawHistDo.L0 N N := funext fun z => spec_DrawHistDo.r0 N N z
  rw [h, e0]
  try rfl
noncomputable def spec_DrawHistDo.sm (N : Nat) : Sm D := (⟨spec_DrawHistDo.sg, fun (x : (List (Int)) × Unit) => spec_DrawHistDo N x.1⟩ : Sm D)
theorem spec_DrawHistDo.sound (N : Nat) : Sound cx Tryz.prog gam 39 (spec_DrawHistDo.sm N) := fn_sound (A := spec_DrawHistDo.A) (Φ := (look (spec_DrawHistDo.phis N))) pok (G := gam) (ΦOk.cons (spec_newSource.sound N) (fnOk_of (f := 42) (by kernel_rfl)) (ΦOk.cons (spec_source_cells.sound N) (fnOk_of (f := 44) (by kernel_rfl)) (ΦOk.cons (spec_source_pick.sound N) (fnOk_of (f := 46) (by kernel_rfl)) (ΦOk.cons (spec_source_updates.sound N) (fnOk_of (f := 76) (by kernel_rfl)) (ΦOk.cons (spec_validHist.sound N) (fnOk_of (f := 77) (by kernel_rfl)) (ΦOk.cons (spec_validUpdates.sound N) (fnOk_of (f := 69) (by kernel_rfl)) (ΦOk.cons (spec_HistDo.sound N) (fnOk_of (f := 40) (by kernel_rfl)) (ΦOk.cons (spec_HistUndo.sound N) (fnOk_of (f := 78) (by kernel_rfl)) (ΦOk.cons (spec_HistRedo.sound N) (fnOk_of (f := 79) (by kernel_rfl)) (ΦOk.cons (spec_source_rarely.sound N) (fnOk_of (f := 80) (by kernel_rfl)) ΦOk.nil)))))))))) mixed N Tryz.func39 (c := (bodyOf Tryz.f39)) (by kernel_rfl) spec_DrawHistDo.sg (by kernel_rfl) (by kernel_rfl) (by kernel_rfl) (spec_DrawHistDo.run N)

@[reducible] def impl_histStep.sg : Sg := { ms := [{ k := (.sl (.st 80)), fl := [none] }, { k := (.sl (.sl (.st 80))), fl := [none] }, { k := (.sl (.sl (.st 80))), fl := [some (false, 51)] }], keep := [false, false, false], rs := [{ k := (.sl (.st 80)), fl := [none] }, { k := (.sl (.sl (.st 80))), fl := [none] }, { k := (.sl (.sl (.st 80))), fl := [none] }], hold := true }
noncomputable def impl_histStep.A : Ann := { dp := fun d => isIn [] d, lp := look [], jn := look [], pins := [], nt := 25 }
noncomputable def impl_histStep.phis (N : Nat) : List (Nat × Sm D) := []
theorem impl_histStep.run (N : Nat) (x : (List (ImplCell)) × (List (List (ImplCell))) × (List (List (ImplCell))) × Unit) : runF cx (look (impl_histStep.phis N)) impl_histStep.A N (bodyOf Tryz.f88) Tryz.f88.results.toList impl_histStep.sg x = impl_histStep N x.1 x.2.1 x.2.2.1 := by
  have h : runF cx (look (impl_histStep.phis N)) impl_histStep.A N (bodyOf Tryz.f88) Tryz.f88.results.toList impl_histStep.sg x = impl_histStep.B N x.1 x.2.1 x.2.2.1 := by kernel_rfl
  rw [h]
  try rfl
noncomputable def impl_histStep.sm (N : Nat) : Sm D := (⟨impl_histStep.sg, fun (x : (List (ImplCell)) × (List (List (ImplCell))) × (List (List (ImplCell))) × Unit) => impl_histStep N x.1 x.2.1 x.2.2.1⟩ : Sm D)
theorem impl_histStep.sound (N : Nat) : Sound cx Tryz.prog gam 88 (impl_histStep.sm N) := fn_sound (A := impl_histStep.A) (Φ := (look (impl_histStep.phis N))) pok (G := gam) ΦOk.nil mixed N Tryz.func88 (c := (bodyOf Tryz.f88)) (by kernel_rfl) impl_histStep.sg (by kernel_rfl) (by kernel_rfl) (by kernel_rfl) (impl_histStep.run N)

@[reducible] def impl_HistUndo.sg : Sg := { ms := [{ k := (.st 54) }], keep := [false], rs := [{ k := (.st 54) }, { k := .bool }], hold := true }
noncomputable def impl_HistUndo.A : Ann := { dp := fun d => isIn [] d, lp := look [], jn := look [], pins := [], nt := 32 }
noncomputable def impl_HistUndo.phis (N : Nat) : List (Nat × Sm D) := [(35, impl_HistOk.sm N), (83, impl_histCopy.sm N), (88, impl_histStep.sm N)]
theorem impl_HistUndo.run (N : Nat) (x : ImplHist × Unit) : runF cx (look (impl_HistUndo.phis N)) impl_HistUndo.A N (bodyOf Tryz.f41) Tryz.f41.results.toList impl_HistUndo.sg x = impl_HistUndo N x.1 := by
  have h : runF cx (look (impl_HistUndo.phis N)) impl_HistUndo.A N (bodyOf Tryz.f41) Tryz.f41.results.toList impl_HistUndo.sg x = impl_HistUndo.B N x.1 := by kernel_rfl
  rw [h]
  try rfl
noncomputable def impl_HistUndo.sm (N : Nat) : Sm D := (⟨impl_HistUndo.sg, fun (x : ImplHist × Unit) => impl_HistUndo N x.1⟩ : Sm D)
theorem impl_HistUndo.sound (N : Nat) : Sound cx Tryz.prog gam 41 (impl_HistUndo.sm N) := fn_sound (A := impl_HistUndo.A) (Φ := (look (impl_HistUndo.phis N))) pok (G := gam) (ΦOk.cons (impl_HistOk.sound N) (fnOk_of (f := 35) (by kernel_rfl)) (ΦOk.cons (impl_histCopy.sound N) (fnOk_of (f := 83) (by kernel_rfl)) (ΦOk.cons (impl_histStep.sound N) (fnOk_of (f := 88) (by kernel_rfl)) ΦOk.nil))) mixed N Tryz.func41 (c := (bodyOf Tryz.f41)) (by kernel_rfl) impl_HistUndo.sg (by kernel_rfl) (by kernel_rfl) (by kernel_rfl) (impl_HistUndo.run N)

@[reducible] def laws_FnHistDo.sg : Sg := { ms := [{ k := (.sl (.int .u8)), fl := [none] }], keep := [false], rs := [{ k := .bool }] }
noncomputable def laws_FnHistDo.A : Ann := { dp := fun d => isIn [] d, lp := look [], jn := look [], pins := [], nt := 71 }
noncomputable def laws_FnHistDo.phis (N : Nat) : List (Nat × Sm D) := [(39, spec_DrawHistDo.sm N), (38, impl_HistDo.sm N), (40, spec_HistDo.sm N), (37, spec_SameHist.sm N), (35, impl_HistOk.sm N), (13, impl_LineOk.sm N), (12, spec_SameStore.sm N), (41, impl_HistUndo.sm N)]
theorem laws_FnHistDo.run (N : Nat) (x : (List (Int)) × Unit) : runF cx (look (laws_FnHistDo.phis N)) laws_FnHistDo.A N (bodyOf Tryz.f8) Tryz.f8.results.toList laws_FnHistDo.sg x = laws_FnHistDo N x.1 := by
  have h : runF cx (look (laws_FnHistDo.phis N)) laws_FnHistDo.A N (bodyOf Tryz.f8) Tryz.f8.results.toList laws_FnHistDo.sg x = laws_FnHistDo.B N x.1 := by kernel_rfl
  rw [h]
  try rfl
noncomputable def laws_FnHistDo.sm (N : Nat) : Sm D := (⟨laws_FnHistDo.sg, fun (x : (List (Int)) × Unit) => laws_FnHistDo N x.1⟩ : Sm D)
theorem laws_FnHistDo.sound (N : Nat) : Sound cx Tryz.prog gam 8 (laws_FnHistDo.sm N) := fn_sound (A := laws_FnHistDo.A) (Φ := (look (laws_FnHistDo.phis N))) pok (G := gam) (ΦOk.cons (spec_DrawHistDo.sound N) (fnOk_of (f := 39) (by kernel_rfl)) (ΦOk.cons (impl_HistDo.sound N) (fnOk_of (f := 38) (by kernel_rfl)) (ΦOk.cons (spec_HistDo.sound N) (fnOk_of (f := 40) (by kernel_rfl)) (ΦOk.cons (spec_SameHist.sound N) (fnOk_of (f := 37) (by kernel_rfl)) (ΦOk.cons (impl_HistOk.sound N) (fnOk_of (f := 35) (by kernel_rfl)) (ΦOk.cons (impl_LineOk.sound N) (fnOk_of (f := 13) (by kernel_rfl)) (ΦOk.cons (spec_SameStore.sound N) (fnOk_of (f := 12) (by kernel_rfl)) (ΦOk.cons (impl_HistUndo.sound N) (fnOk_of (f := 41) (by kernel_rfl)) ΦOk.nil)))))))) mixed N Tryz.func8 (c := (bodyOf Tryz.f8)) (by kernel_rfl) laws_FnHistDo.sg (by kernel_rfl) (by kernel_rfl) (by kernel_rfl) (laws_FnHistDo.run N)

end
end Go.Ev
