/- Each function that the law reaches does what its plain form says; no condition beyond the table of the library. -/
import Derived.Test.YtmaghpkolkkncaaDoorEvT1
set_option linter.all false
set_option linter.unusedVariables false
set_option linter.unusedSimpArgs false
set_option maxRecDepth 100000
set_option maxHeartbeats 0
namespace Go.Ev
noncomputable section
open Go.Proofs
@[reducible] def spec_numberOf.sg : Sg := { ms := [{ k := (.st 25) }, { k := (.sl (.int .i64)), fl := [none] }], keep := [false, false], rs := [{ k := (.int .i64) }] }
@[reducible] def spec_numberOf.lvL2 : Lv := { id := 2, slots := [1, 2, 5, 6, 7], ms := [{ k := (.sl (.int .i64)), fl := [none] }, { ptr := true, id := 620, t := 26, k := (.st 25), fl := [none, none, none, none, none] }, { k := (.int .i64) }, { k := (.int .i64) }, { k := (.int .i64) }] }
@[reducible] def spec_numberOf.lvL0 : Lv := { id := 0, slots := [1, 2, 5, 6], ms := [{ k := (.sl (.int .i64)), fl := [none] }, { ptr := true, id := 620, t := 26, k := (.st 25), fl := [none, none, none, none, none] }, { k := (.int .i64) }, { k := (.int .i64) }] }
noncomputable def spec_numberOf.A : Ann := { dp := fun d => isIn [] d, lp := look [(2, spec_numberOf.lvL2), (0, spec_numberOf.lvL0)], jn := look [], pins := [], nt := 41 }
noncomputable def spec_numberOf.phis (N : Nat) : List (Nat × Sm D) := [(52, spec_treeSize.sm N)]
noncomputable def spec_numberOf.a2 (N : Nat) (m0 : Nat) (n : Nat) (y : (List (Int)) × ImplTree × Int × Int × Int × Unit) : Option (Int × Unit) := loopAt cx (look (spec_numberOf.phis N)) spec_numberOf.A N n (encL cx spec_numberOf.lvL2.ms y).1 (encL cx spec_numberOf.lvL2.ms y).2 (bodyOf Tryd.f68) 0 (Kfin cx spec_numberOf.A spec_numberOf.sg Tryd.f68.results.toList) [1, 1, 0, 1, 1, 1, 1, 0, 1, 1, 0, 1, 1] [m0]
noncomputable def spec_numberOf.a0 (N : Nat) (n : Nat) (y : (List (Int)) × ImplTree × Int × Int × Unit) : Option (Int × Unit) := loopAt cx (look (spec_numberOf.phis N)) spec_numberOf.A N n (encL cx spec_numberOf.lvL0.ms y).1 (encL cx spec_numberOf.lvL0.ms y).2 (bodyOf Tryd.f68) 0 (Kfin cx spec_numberOf.A spec_numberOf.sg Tryd.f68.results.toList) [1, 1, 0, 1, 1] []
theorem spec_numberOf.r2 (N : Nat) (m0 : Nat) : ∀ (n : Nat) (y : (List (Int)) × ImplTree × Int × Int × Int × Unit), spec_numberOf.a2 N m0 n y = spec_numberOf.L2 N (fun z => spec_numberOf.a0 N m0 z) n y
  | 0, y => by kernel_rfl
  | n + 1, y => by
    have h : spec_numberOf.a2 N m0 (n + 1) y = spec_numberOf.B2 N (fun z => spec_numberOf.a0 N m0 z) (fun z => spec_numberOf.a2 N m0 n z) y := by kernel_rfl
    have e : (fun z => spec_numberOf.a2 N m0 n z) = spec_numberOf.L2 N (fun z => spec_numberOf.a0 N m0 z) n := funext fun z => spec_numberOf.r2 N m0 n z
    rw [h]
    try rw [e]
    first | done | rfl
theorem spec_numberOf.r0 (N : Nat) : ∀ (n : Nat) (y : (List (Int)) × ImplTree × Int × Int × Unit), spec_numberOf.a0 N n y = spec_numberOf.L0 N n y
  | 0, y => by kernel_rfl
  | n + 1, y => by
    have h : spec_numberOf.a0 N (n + 1) y = spec_numberOf.B0 N (fun z => spec_numberOf.a2 N n N z) y := by kernel_rfl
    have e : (fun z => spec_numberOf.a0 N n z) = spec_numberOf.L0 N n := funext fun z => spec_numberOf.r0 N n z
    have e2 : (fun z => spec_numberOf.a2 N n N z) = spec_numberOf.L2 N (fun z => spec_numberOf.a0 N n z) N := funext fun z => spec_numberOf.r2 N n N z
    rw [h, e2]
    try rw [e]
    first | done | rfl
theorem spec_numberOf.run (N : Nat) (x : ImplTree × (List (Int)) × Unit) : runF cx (look (spec_numberOf.phis N)) spec_numberOf.A N (bodyOf Tryd.f68) Tryd.f68.results.toList spec_numberOf.sg x = spec_numberOf N x.1 x.2.1 := by
  have h : runF cx (look (spec_numberOf.phis N)) spec_numberOf.A N (bodyOf Tryd.f68) Tryd.f68.results.toList spec_numberOf.sg x = spec_numberOf.B N (fun z => spec_numberOf.a0 N N z) x.1 x.2.1 := by kernel_rfl
  have e0 : (fun z => spec_numberOf.a0 N N z) = spec_numberOf.L0 N N := funext fun z => spec_numberOf.r0 N N z
  rw [h, e0]
  try rfl
noncomputable def spec_numberOf.sm (N : Nat) : Sm D := (⟨spec_numberOf.sg, fun (x : ImplTree × (List (Int)) × Unit) => spec_numberOf N x.1 x.2.1⟩ : Sm D)
theorem spec_numberOf.sound (N : Nat) : Sound cx Tryd.prog gam 68 (spec_numberOf.sm N) := fn_sound (A := spec_numberOf.A) (Φ := (look (spec_numberOf.phis N))) pok (G := gam) (ΦOk.cons (spec_treeSize.sound N) (fnOk_of (f := 52) (by kernel_rfl)) ΦOk.nil) mixed N Tryd.func68 (c := (bodyOf Tryd.f68)) (by kernel_rfl) spec_numberOf.sg (by kernel_rfl) (by kernel_rfl) (by kernel_rfl) (spec_numberOf.run N)

@[reducible] def spec_PartNumber.sg : Sg := { ms := [{ k := (.st 25) }, { k := (.sl (.int .i64)), fl := [none] }], keep := [false, false], rs := [{ k := (.int .i64) }] }
noncomputable def spec_PartNumber.A : Ann := { dp := fun d => isIn [] d, lp := look [], jn := look [], pins := [], nt := 21 }
noncomputable def spec_PartNumber.phis (N : Nat) : List (Nat × Sm D) := [(43, spec_validTree.sm N), (57, spec_partAt.sm N), (68, spec_numberOf.sm N)]
theorem spec_PartNumber.run (N : Nat) (x : ImplTree × (List (Int)) × Unit) : runF cx (look (spec_PartNumber.phis N)) spec_PartNumber.A N (bodyOf Tryd.f35) Tryd.f35.results.toList spec_PartNumber.sg x = spec_PartNumber N x.1 x.2.1 := by
  have h : runF cx (look (spec_PartNumber.phis N)) spec_PartNumber.A N (bodyOf Tryd.f35) Tryd.f35.results.toList spec_PartNumber.sg x = spec_PartNumber.B N x.1 x.2.1 := by kernel_rfl
  rw [h]
  try rfl
noncomputable def spec_PartNumber.sm (N : Nat) : Sm D := (⟨spec_PartNumber.sg, fun (x : ImplTree × (List (Int)) × Unit) => spec_PartNumber N x.1 x.2.1⟩ : Sm D)
theorem spec_PartNumber.sound (N : Nat) : Sound cx Tryd.prog gam 35 (spec_PartNumber.sm N) := fn_sound (A := spec_PartNumber.A) (Φ := (look (spec_PartNumber.phis N))) pok (G := gam) (ΦOk.cons (spec_validTree.sound N) (fnOk_of (f := 43) (by kernel_rfl)) (ΦOk.cons (spec_partAt.sound N) (fnOk_of (f := 57) (by kernel_rfl)) (ΦOk.cons (spec_numberOf.sound N) (fnOk_of (f := 68) (by kernel_rfl)) ΦOk.nil))) mixed N Tryd.func35 (c := (bodyOf Tryd.f35)) (by kernel_rfl) spec_PartNumber.sg (by kernel_rfl) (by kernel_rfl) (by kernel_rfl) (spec_PartNumber.run N)

@[reducible] def laws_FnPartNumber.sg : Sg := { ms := [{ k := (.sl (.int .u8)), fl := [none] }], keep := [false], rs := [{ k := .bool }] }
noncomputable def laws_FnPartNumber.A : Ann := { dp := fun d => isIn [] d, lp := look [], jn := look [], pins := [], nt := 46 }
noncomputable def laws_FnPartNumber.phis (N : Nat) : List (Nat × Sm D) := [(33, spec_DrawPartNumber.sm N), (34, impl_PartNumber.sm N), (35, spec_PartNumber.sm N), (28, impl_PartWay.sm N), (30, spec_SameInts.sm N)]
theorem laws_FnPartNumber.run (N : Nat) (x : (List (Int)) × Unit) : runF cx (look (laws_FnPartNumber.phis N)) laws_FnPartNumber.A N (bodyOf Tryd.f9) Tryd.f9.results.toList laws_FnPartNumber.sg x = laws_FnPartNumber N x.1 := by
  have h : runF cx (look (laws_FnPartNumber.phis N)) laws_FnPartNumber.A N (bodyOf Tryd.f9) Tryd.f9.results.toList laws_FnPartNumber.sg x = laws_FnPartNumber.B N x.1 := by kernel_rfl
  rw [h]
  try rfl
noncomputable def laws_FnPartNumber.sm (N : Nat) : Sm D := (⟨laws_FnPartNumber.sg, fun (x : (List (Int)) × Unit) => laws_FnPartNumber N x.1⟩ : Sm D)
theorem laws_FnPartNumber.sound (N : Nat) : Sound cx Tryd.prog gam 9 (laws_FnPartNumber.sm N) := fn_sound (A := laws_FnPartNumber.A) (Φ := (look (laws_FnPartNumber.phis N))) pok (G := gam) (ΦOk.cons (spec_DrawPartNumber.sound N) (fnOk_of (f := 33) (by kernel_rfl)) (ΦOk.cons (impl_PartNumber.sound N) (fnOk_of (f := 34) (by kernel_rfl)) (ΦOk.cons (spec_PartNumber.sound N) (fnOk_of (f := 35) (by kernel_rfl)) (ΦOk.cons (impl_PartWay.sound N) (fnOk_of (f := 28) (by kernel_rfl)) (ΦOk.cons (spec_SameInts.sound N) (fnOk_of (f := 30) (by kernel_rfl)) ΦOk.nil))))) mixed N Tryd.func9 (c := (bodyOf Tryd.f9)) (by kernel_rfl) laws_FnPartNumber.sg (by kernel_rfl) (by kernel_rfl) (by kernel_rfl) (laws_FnPartNumber.run N)

end
end Go.Ev
