/- Each function that the law reaches does what its plain form says; no condition beyond the table of the library. -/
import Derived.Test.YtadoojpcjfglgaaGreatDoorEvT3
set_option linter.all false
set_option linter.unusedVariables false
set_option linter.unusedSimpArgs false
set_option maxRecDepth 100000
set_option maxHeartbeats 0
namespace Go.Ev
noncomputable section
open Go.Proofs
@[reducible] def impl_HistDo.sg : Sg := { ms := [{ k := (.st 54) }, { k := (.sl (.st 100)), fl := [none] }], keep := [false, false], rs := [{ k := (.st 54) }], hold := true }
noncomputable def impl_HistDo.A : Ann := { dp := fun d => isIn [] d, lp := look [], jn := look [], pins := [], nt := 48 }
noncomputable def impl_HistDo.phis (N : Nat) : List (Nat × Sm D) := [(35, impl_HistOk.sm N), (54, impl_updatesOk.sm N), (83, impl_histCopy.sm N), (73, impl_storeRun.sm N), (84, impl_storeSame.sm N), (85, impl_storesCopy.sm N)]
theorem impl_HistDo.run (N : Nat) (x : ImplHist × (List (ImplUpdate)) × Unit) : runF cx (look (impl_HistDo.phis N)) impl_HistDo.A N (bodyOf Tryz.f38) Tryz.f38.results.toList impl_HistDo.sg x = impl_HistDo N x.1 x.2.1 := by
  have h : runF cx (look (impl_HistDo.phis N)) impl_HistDo.A N (bodyOf Tryz.f38) Tryz.f38.results.toList impl_HistDo.sg x = impl_HistDo.B N x.1 x.2.1 := by kernel_rfl
  rw [h]
  try rfl
noncomputable def impl_HistDo.sm (N : Nat) : Sm D := (⟨impl_HistDo.sg, fun (x : ImplHist × (List (ImplUpdate)) × Unit) => impl_HistDo N x.1 x.2.1⟩ : Sm D)
theorem impl_HistDo.sound (N : Nat) : Sound cx Tryz.prog gam 38 (impl_HistDo.sm N) := fn_sound (A := impl_HistDo.A) (Φ := (look (impl_HistDo.phis N))) pok (G := gam) (ΦOk.cons (impl_HistOk.sound N) (fnOk_of (f := 35) (by kernel_rfl)) (ΦOk.cons (impl_updatesOk.sound N) (fnOk_of (f := 54) (by kernel_rfl)) (ΦOk.cons (impl_histCopy.sound N) (fnOk_of (f := 83) (by kernel_rfl)) (ΦOk.cons (impl_storeRun.sound N) (fnOk_of (f := 73) (by kernel_rfl)) (ΦOk.cons (impl_storeSame.sound N) (fnOk_of (f := 84) (by kernel_rfl)) (ΦOk.cons (impl_storesCopy.sound N) (fnOk_of (f := 85) (by kernel_rfl)) ΦOk.nil)))))) mixed N Tryz.func38 (c := (bodyOf Tryz.f38)) (by kernel_rfl) impl_HistDo.sg (by kernel_rfl) (by kernel_rfl) (by kernel_rfl) (impl_HistDo.run N)

@[reducible] def spec_SameStores.sg : Sg := { ms := [{ k := (.sl (.sl (.st 80))), fl := [none] }, { k := (.sl (.sl (.st 80))), fl := [none] }], keep := [false, false], rs := [{ k := .bool }] }
@[reducible] def spec_SameStores.lvL0 : Lv := { id := 0, slots := [0, 1, 5], ms := [{ k := (.sl (.sl (.st 80))), fl := [none] }, { k := (.sl (.sl (.st 80))), fl := [none] }, { k := (.int .i64) }] }
noncomputable def spec_SameStores.A : Ann := { dp := fun d => isIn [] d, lp := look [(0, spec_SameStores.lvL0)], jn := look [], pins := [], nt := 27 }
noncomputable def spec_SameStores.phis (N : Nat) : List (Nat × Sm D) := [(53, spec_sameStore.sm N)]
noncomputable def spec_SameStores.a0 (N : Nat) (n : Nat) (y : (List (List (ImplCell))) × (List (List (ImplCell))) × Int × Unit) : Option (Bool × Unit) := loopAt cx (look (spec_SameStores.phis N)) spec_SameStores.A N n (encL cx spec_SameStores.lvL0.ms y).1 (encL cx spec_SameStores.lvL0.ms y).2 (bodyOf Tryz.f82) 0 (Kfin cx spec_SameStores.A spec_SameStores.sg Tryz.f82.results.toList) [1, 1, 0, 1, 1] []
theorem spec_SameStores.r0 (N : Nat) : ∀ (n : Nat) (y : (List (List (ImplCell))) × (List (List (ImplCell))) × Int × Unit), spec_SameStores.a0 N n y = spec_SameStores.L0 N n y
  | 0, y => by kernel_rfl
  | n + 1, y => by
    have h : spec_SameStores.a0 N (n + 1) y = spec_SameStores.B0 N (fun z => spec_SameStores.a0 N n z) y := by kernel_rfl
    have e : (fun z => spec_SameStores.a0 N n z) = spec_SameStores.L0 N n := funext fun z => spec_SameStores.r0 N n z
    rw [h]
    try rw [e]
    first | done | rfl
theorem spec_SameStores.run (N : Nat) (x : (List (List (ImplCell))) × (List (List (ImplCell))) × Unit) : runF cx (look (spec_SameStores.phis N)) spec_SameStores.A N (bodyOf Tryz.f82) Tryz.f82.results.toList spec_SameStores.sg x = spec_SameStores N x.1 x.2.1 := by
  have h : runF cx (look (spec_SameStores.phis N)) spec_SameStores.A N (bodyOf Tryz.f82) Tryz.f82.results.toList spec_SameStores.sg x = spec_SameStores.B N (fun z => spec_SameStores.a0 N N z) x.1 x.2.1 := by kernel_rfl
  have e0 : (fun z => spec_SameStores.a0 N N z) = spec_SameStores.L0 N N := funext fun z => spec_SameStores.r0 N N z
  rw [h, e0]
  try rfl
noncomputable def spec_SameStores.sm (N : Nat) : Sm D := (⟨spec_SameStores.sg, fun (x : (List (List (ImplCell))) × (List (List (ImplCell))) × Unit) => spec_SameStores N x.1 x.2.1⟩ : Sm D)
theorem spec_SameStores.sound (N : Nat) : Sound cx Tryz.prog gam 82 (spec_SameStores.sm N) := fn_sound (A := spec_SameStores.A) (Φ := (look (spec_SameStores.phis N))) pok (G := gam) (ΦOk.cons (spec_sameStore.sound N) (fnOk_of (f := 53) (by kernel_rfl)) ΦOk.nil) mixed N Tryz.func82 (c := (bodyOf Tryz.f82)) (by kernel_rfl) spec_SameStores.sg (by kernel_rfl) (by kernel_rfl) (by kernel_rfl) (spec_SameStores.run N)

@[reducible] def spec_SameHist.sg : Sg := { ms := [{ k := (.st 54) }, { k := (.st 54) }], keep := [false, false], rs := [{ k := .bool }] }
noncomputable def spec_SameHist.A : Ann := { dp := fun d => isIn [] d, lp := look [], jn := look [], pins := [], nt := 24 }
noncomputable def spec_SameHist.phis (N : Nat) : List (Nat × Sm D) := [(53, spec_sameStore.sm N), (82, spec_SameStores.sm N)]
theorem spec_SameHist.run (N : Nat) (x : ImplHist × ImplHist × Unit) : runF cx (look (spec_SameHist.phis N)) spec_SameHist.A N (bodyOf Tryz.f37) Tryz.f37.results.toList spec_SameHist.sg x = spec_SameHist N x.1 x.2.1 := by
  have h : runF cx (look (spec_SameHist.phis N)) spec_SameHist.A N (bodyOf Tryz.f37) Tryz.f37.results.toList spec_SameHist.sg x = spec_SameHist.B N x.1 x.2.1 := by kernel_rfl
  rw [h]
  try rfl
noncomputable def spec_SameHist.sm (N : Nat) : Sm D := (⟨spec_SameHist.sg, fun (x : ImplHist × ImplHist × Unit) => spec_SameHist N x.1 x.2.1⟩ : Sm D)
theorem spec_SameHist.sound (N : Nat) : Sound cx Tryz.prog gam 37 (spec_SameHist.sm N) := fn_sound (A := spec_SameHist.A) (Φ := (look (spec_SameHist.phis N))) pok (G := gam) (ΦOk.cons (spec_sameStore.sound N) (fnOk_of (f := 53) (by kernel_rfl)) (ΦOk.cons (spec_SameStores.sound N) (fnOk_of (f := 82) (by kernel_rfl)) ΦOk.nil)) mixed N Tryz.func37 (c := (bodyOf Tryz.f37)) (by kernel_rfl) spec_SameHist.sg (by kernel_rfl) (by kernel_rfl) (by kernel_rfl) (spec_SameHist.run N)

@[reducible] def laws_FnHistOk.sg : Sg := { ms := [{ k := (.sl (.int .u8)), fl := [none] }], keep := [false], rs := [{ k := .bool }] }
noncomputable def laws_FnHistOk.A : Ann := { dp := fun d => isIn [] d, lp := look [], jn := look [], pins := [], nt := 30 }
noncomputable def laws_FnHistOk.phis (N : Nat) : List (Nat × Sm D) := [(34, spec_DrawHistOk.sm N), (35, impl_HistOk.sm N), (36, spec_HistOk.sm N), (38, impl_HistDo.sm N), (37, spec_SameHist.sm N)]
theorem laws_FnHistOk.run (N : Nat) (x : (List (Int)) × Unit) : runF cx (look (laws_FnHistOk.phis N)) laws_FnHistOk.A N (bodyOf Tryz.f7) Tryz.f7.results.toList laws_FnHistOk.sg x = laws_FnHistOk N x.1 := by
  have h : runF cx (look (laws_FnHistOk.phis N)) laws_FnHistOk.A N (bodyOf Tryz.f7) Tryz.f7.results.toList laws_FnHistOk.sg x = laws_FnHistOk.B N x.1 := by kernel_rfl
  rw [h]
  try rfl
noncomputable def laws_FnHistOk.sm (N : Nat) : Sm D := (⟨laws_FnHistOk.sg, fun (x : (List (Int)) × Unit) => laws_FnHistOk N x.1⟩ : Sm D)
theorem laws_FnHistOk.sound (N : Nat) : Sound cx Tryz.prog gam 7 (laws_FnHistOk.sm N) := fn_sound (A := laws_FnHistOk.A) (Φ := (look (laws_FnHistOk.phis N))) pok (G := gam) (ΦOk.cons (spec_DrawHistOk.sound N) (fnOk_of (f := 34) (by kernel_rfl)) (ΦOk.cons (impl_HistOk.sound N) (fnOk_of (f := 35) (by kernel_rfl)) (ΦOk.cons (spec_HistOk.sound N) (fnOk_of (f := 36) (by kernel_rfl)) (ΦOk.cons (impl_HistDo.sound N) (fnOk_of (f := 38) (by kernel_rfl)) (ΦOk.cons (spec_SameHist.sound N) (fnOk_of (f := 37) (by kernel_rfl)) ΦOk.nil))))) mixed N Tryz.func7 (c := (bodyOf Tryz.f7)) (by kernel_rfl) laws_FnHistOk.sg (by kernel_rfl) (by kernel_rfl) (by kernel_rfl) (laws_FnHistOk.run N)

end
end Go.Ev
