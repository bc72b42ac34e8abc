/- Each function that the law reaches does what its plain form says; no condition beyond the table of the library. -/
import Derived.Test.YtmaghpkolkkncaaDoorEvT1
set_option linter.all false
set_option linter.unusedVariables false
set_option linter.unusedSimpArgs false
set_option maxRecDepth 100000
set_option maxHeartbeats 0
namespace Go.Ev
noncomputable section
open Go.Proofs
@[reducible] def spec_sameTree.sg : Sg := { ms := [{ k := (.st 25) }, { k := (.st 25) }], keep := [false, false], rs := [{ k := .bool }] }
@[reducible] def spec_sameTree.lvL0 : Lv := { id := 0, slots := [2, 3, 5], ms := [{ ptr := true, id := 600, t := 26, k := (.st 25), fl := [none, none, none, none, none] }, { ptr := true, id := 620, t := 26, k := (.st 25), fl := [none, none, none, none, none] }, { k := (.int .i64) }] }
noncomputable def spec_sameTree.A : Ann := { dp := fun d => isIn [] d, lp := look [(0, spec_sameTree.lvL0)], jn := look [], pins := [], nt := 61 }
noncomputable def spec_sameTree.phis (N : Nat) (d : Nat) : List (Nat × Sm D) := [(84, spec_sameProps.sm N), (59, (⟨spec_sameTree.sg, fun (x : ImplTree × ImplTree × Unit) => spec_sameTree.R N d x.1 x.2.1⟩ : Sm D))]
noncomputable def spec_sameTree.a0 (N : Nat) (d : Nat) (n : Nat) (y : ImplTree × ImplTree × Int × Unit) : Option (Bool × Unit) := loopAt cx (look (spec_sameTree.phis N d)) spec_sameTree.A N n (encL cx spec_sameTree.lvL0.ms y).1 (encL cx spec_sameTree.lvL0.ms y).2 (bodyOf Tryd.f59) 0 (Kfin cx spec_sameTree.A spec_sameTree.sg Tryd.f59.results.toList) [1, 1, 0, 1, 1] []
theorem spec_sameTree.r0 (N : Nat) (d : Nat) : ∀ (n : Nat) (y : ImplTree × ImplTree × Int × Unit), spec_sameTree.a0 N d n y = spec_sameTree.L0 N (spec_sameTree.R N d) n y
  | 0, y => by kernel_rfl
  | n + 1, y => by
    have h : spec_sameTree.a0 N d (n + 1) y = spec_sameTree.B0 N (spec_sameTree.R N d) (fun z => spec_sameTree.a0 N d n z) y := by kernel_rfl
    have e : (fun z => spec_sameTree.a0 N d n z) = spec_sameTree.L0 N (spec_sameTree.R N d) n := funext fun z => spec_sameTree.r0 N d n z
    rw [h]
    try rw [e]
    first | done | rfl
theorem spec_sameTree.run (N : Nat) (d : Nat) (x : ImplTree × ImplTree × Unit) : runF cx (look (spec_sameTree.phis N d)) spec_sameTree.A N (bodyOf Tryd.f59) Tryd.f59.results.toList spec_sameTree.sg x = spec_sameTree.R N (d + 1) x.1 x.2.1 := by
  have h : runF cx (look (spec_sameTree.phis N d)) spec_sameTree.A N (bodyOf Tryd.f59) Tryd.f59.results.toList spec_sameTree.sg x = spec_sameTree.B N (spec_sameTree.R N d) (fun z => spec_sameTree.a0 N d N z) x.1 x.2.1 := by kernel_rfl
  have e0 : (fun z => spec_sameTree.a0 N d N z) = spec_sameTree.L0 N (spec_sameTree.R N d) N := funext fun z => spec_sameTree.r0 N d N z
  rw [h, e0]
  try rfl
theorem spec_sameTree.step (N : Nat) (d : Nat) (h_spec_sameTree : Sound cx Tryd.prog gam 59 (⟨spec_sameTree.sg, fun (x : ImplTree × ImplTree × Unit) => spec_sameTree.R N d x.1 x.2.1⟩ : Sm D)) : Sound cx Tryd.prog gam 59 (⟨spec_sameTree.sg, fun (x : ImplTree × ImplTree × Unit) => spec_sameTree.R N (d + 1) x.1 x.2.1⟩ : Sm D) := fn_sound (A := spec_sameTree.A) (Φ := (look (spec_sameTree.phis N d))) pok (G := gam) (ΦOk.cons (spec_sameProps.sound N) (fnOk_of (f := 84) (by kernel_rfl)) (ΦOk.cons h_spec_sameTree (fnOk_of (f := 59) (by kernel_rfl)) ΦOk.nil)) mixed N Tryd.func59 (c := (bodyOf Tryd.f59)) (by kernel_rfl) spec_sameTree.sg (by kernel_rfl) (by kernel_rfl) (by kernel_rfl) (spec_sameTree.run N d)

theorem spec_sameTree.scc (N : Nat) : ∀ d, Sound cx Tryd.prog gam 59 (⟨spec_sameTree.sg, fun (x : ImplTree × ImplTree × Unit) => spec_sameTree.R N d x.1 x.2.1⟩ : Sm D)
  | 0 => none_sound 59 spec_sameTree.sg
  | d + 1 => by
    have ih := spec_sameTree.scc N d
    exact spec_sameTree.step N d ih
noncomputable def spec_sameTree.sm (N : Nat) : Sm D := (⟨spec_sameTree.sg, fun (x : ImplTree × ImplTree × Unit) => spec_sameTree.R N N x.1 x.2.1⟩ : Sm D)
theorem spec_sameTree.sound (N : Nat) : Sound cx Tryd.prog gam 59 (spec_sameTree.sm N) := (spec_sameTree.scc N N)
@[reducible] def spec_SameTree.sg : Sg := { ms := [{ k := (.st 25) }, { k := (.st 25) }], keep := [false, false], rs := [{ k := .bool }] }
noncomputable def spec_SameTree.A : Ann := { dp := fun d => isIn [] d, lp := look [], jn := look [], pins := [], nt := 8 }
noncomputable def spec_SameTree.phis (N : Nat) : List (Nat × Sm D) := [(59, spec_sameTree.sm N)]
theorem spec_SameTree.run (N : Nat) (x : ImplTree × ImplTree × Unit) : runF cx (look (spec_SameTree.phis N)) spec_SameTree.A N (bodyOf Tryd.f26) Tryd.f26.results.toList spec_SameTree.sg x = spec_SameTree N x.1 x.2.1 := by
  have h : runF cx (look (spec_SameTree.phis N)) spec_SameTree.A N (bodyOf Tryd.f26) Tryd.f26.results.toList spec_SameTree.sg x = spec_SameTree.B N x.1 x.2.1 := by kernel_rfl
  rw [h]
  try rfl
noncomputable def spec_SameTree.sm (N : Nat) : Sm D := (⟨spec_SameTree.sg, fun (x : ImplTree × ImplTree × Unit) => spec_SameTree N x.1 x.2.1⟩ : Sm D)
theorem spec_SameTree.sound (N : Nat) : Sound cx Tryd.prog gam 26 (spec_SameTree.sm N) := fn_sound (A := spec_SameTree.A) (Φ := (look (spec_SameTree.phis N))) pok (G := gam) (ΦOk.cons (spec_sameTree.sound N) (fnOk_of (f := 59) (by kernel_rfl)) ΦOk.nil) mixed N Tryd.func26 (c := (bodyOf Tryd.f26)) (by kernel_rfl) spec_SameTree.sg (by kernel_rfl) (by kernel_rfl) (by kernel_rfl) (spec_SameTree.run N)

@[reducible] def laws_FnTreeAt.sg : Sg := { ms := [{ k := (.sl (.int .u8)), fl := [none] }], keep := [false], rs := [{ k := .bool }] }
noncomputable def laws_FnTreeAt.A : Ann := { dp := fun d => isIn [] d, lp := look [], jn := look [], pins := [], nt := 77 }
noncomputable def laws_FnTreeAt.phis (N : Nat) : List (Nat × Sm D) := [(23, spec_DrawTreeAt.sm N), (24, impl_TreeAt.sm N), (25, spec_TreeAt.sm N), (26, spec_SameTree.sm N)]
theorem laws_FnTreeAt.run (N : Nat) (x : (List (Int)) × Unit) : runF cx (look (laws_FnTreeAt.phis N)) laws_FnTreeAt.A N (bodyOf Tryd.f6) Tryd.f6.results.toList laws_FnTreeAt.sg x = laws_FnTreeAt N x.1 := by
  have h : runF cx (look (laws_FnTreeAt.phis N)) laws_FnTreeAt.A N (bodyOf Tryd.f6) Tryd.f6.results.toList laws_FnTreeAt.sg x = laws_FnTreeAt.B N x.1 := by kernel_rfl
  rw [h]
  try rfl
noncomputable def laws_FnTreeAt.sm (N : Nat) : Sm D := (⟨laws_FnTreeAt.sg, fun (x : (List (Int)) × Unit) => laws_FnTreeAt N x.1⟩ : Sm D)
theorem laws_FnTreeAt.sound (N : Nat) : Sound cx Tryd.prog gam 6 (laws_FnTreeAt.sm N) := fn_sound (A := laws_FnTreeAt.A) (Φ := (look (laws_FnTreeAt.phis N))) pok (G := gam) (ΦOk.cons (spec_DrawTreeAt.sound N) (fnOk_of (f := 23) (by kernel_rfl)) (ΦOk.cons (impl_TreeAt.sound N) (fnOk_of (f := 24) (by kernel_rfl)) (ΦOk.cons (spec_TreeAt.sound N) (fnOk_of (f := 25) (by kernel_rfl)) (ΦOk.cons (spec_SameTree.sound N) (fnOk_of (f := 26) (by kernel_rfl)) ΦOk.nil)))) mixed N Tryd.func6 (c := (bodyOf Tryd.f6)) (by kernel_rfl) laws_FnTreeAt.sg (by kernel_rfl) (by kernel_rfl) (by kernel_rfl) (laws_FnTreeAt.run N)

end
end Go.Ev
