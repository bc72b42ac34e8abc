/- Each function that the law reaches does what its plain form says; no condition beyond the table of the library. -/
import Derived.Test.YtmaghpkolkkncaaDoorEvT1
set_option linter.all false
set_option linter.unusedVariables false
set_option linter.unusedSimpArgs false
set_option maxRecDepth 100000
set_option maxHeartbeats 0
namespace Go.Ev
noncomputable section
open Go.Proofs
@[reducible] def laws_toIntS.sg : Sg := { ms := [{ k := (.sl (.int .i64)), fl := [none] }], keep := [false], rs := [{ k := (.sl (.int .i64)), fl := [none] }], hold := true }
@[reducible] def laws_toIntS.lvL0 : Lv := { id := 0, slots := [0, 3, 4], ms := [{ k := (.sl (.int .i64)), fl := [none] }, { k := (.sl (.int .i64)), fl := [some (false, 620)] }, { k := (.int .i64) }] }
noncomputable def laws_toIntS.A : Ann := { dp := fun d => isIn [] d, lp := look [(0, laws_toIntS.lvL0)], jn := look [], pins := [], nt := 22 }
noncomputable def laws_toIntS.phis (N : Nat) : List (Nat × Sm D) := []
noncomputable def laws_toIntS.a0 (N : Nat) (n : Nat) (y : (List (Int)) × (List (Int)) × Int × Unit) : Option ((List (Int)) × Unit) := loopAt cx (look (laws_toIntS.phis N)) laws_toIntS.A N n (encL cx laws_toIntS.lvL0.ms y).1 (encL cx laws_toIntS.lvL0.ms y).2 (bodyOf Tryd.f36) 0 (Kfin cx laws_toIntS.A laws_toIntS.sg Tryd.f36.results.toList) [1, 1, 0, 1, 1] []
theorem laws_toIntS.r0 (N : Nat) : ∀ (n : Nat) (y : (List (Int)) × (List (Int)) × Int × Unit), laws_toIntS.a0 N n y = laws_toIntS.L0 N n y
  | 0, y => by kernel_rfl
  | n + 1, y => by
    have h : laws_toIntS.a0 N (n + 1) y = laws_toIntS.B0 N (fun z => laws_toIntS.a0 N n z) y := by kernel_rfl
    have e : (fun z => laws_toIntS.a0 N n z) = laws_toIntS.L0 N n := funext fun z => laws_toIntS.r0 N n z
    rw [h]
    try rw [e]
    first | done | rfl
theorem laws_toIntS.run (N : Nat) (x : (List (Int)) × Unit) : runF cx (look (laws_toIntS.phis N)) laws_toIntS.A N (bodyOf Tryd.f36) Tryd.f36.results.toList laws_toIntS.sg x = laws_toIntS N x.1 := by
  have h : runF cx (look (laws_toIntS.phis N)) laws_toIntS.A N (bodyOf Tryd.f36) Tryd.f36.results.toList laws_toIntS.sg x = laws_toIntS.B N (fun z => laws_toIntS.a0 N N z) x.1 := by kernel_rfl
  have e0 : (fun z => laws_toIntS.a0 N N z) = laws_toIntS.L0 N N := funext fun z => laws_toIntS.r0 N N z
  rw [h, e0]
  try rfl
noncomputable def laws_toIntS.sm (N : Nat) : Sm D := (⟨laws_toIntS.sg, fun (x : (List (Int)) × Unit) => laws_toIntS N x.1⟩ : Sm D)
theorem laws_toIntS.sound (N : Nat) : Sound cx Tryd.prog gam 36 (laws_toIntS.sm N) := fn_sound (A := laws_toIntS.A) (Φ := (look (laws_toIntS.phis N))) pok (G := gam) ΦOk.nil mixed N Tryd.func36 (c := (bodyOf Tryd.f36)) (by kernel_rfl) laws_toIntS.sg (by kernel_rfl) (by kernel_rfl) (by kernel_rfl) (laws_toIntS.run N)

@[reducible] def laws_eqIntS.sg : Sg := { ms := [{ k := (.sl (.int .i64)), fl := [none] }, { k := (.sl (.int .i64)), fl := [none] }], keep := [false, false], rs := [{ k := .bool }] }
@[reducible] def laws_eqIntS.lvL0 : Lv := { id := 0, slots := [0, 1, 5], ms := [{ k := (.sl (.int .i64)), fl := [none] }, { k := (.sl (.int .i64)), fl := [none] }, { k := (.int .i64) }] }
noncomputable def laws_eqIntS.A : Ann := { dp := fun d => isIn [] d, lp := look [(0, laws_eqIntS.lvL0)], jn := look [], pins := [], nt := 26 }
noncomputable def laws_eqIntS.phis (N : Nat) : List (Nat × Sm D) := []
noncomputable def laws_eqIntS.a0 (N : Nat) (n : Nat) (y : (List (Int)) × (List (Int)) × Int × Unit) : Option (Bool × Unit) := loopAt cx (look (laws_eqIntS.phis N)) laws_eqIntS.A N n (encL cx laws_eqIntS.lvL0.ms y).1 (encL cx laws_eqIntS.lvL0.ms y).2 (bodyOf Tryd.f37) 0 (Kfin cx laws_eqIntS.A laws_eqIntS.sg Tryd.f37.results.toList) [1, 1, 0, 1, 1] []
theorem laws_eqIntS.r0 (N : Nat) : ∀ (n : Nat) (y : (List (Int)) × (List (Int)) × Int × Unit), laws_eqIntS.a0 N n y = laws_eqIntS.L0 N n y
  | 0, y => by kernel_rfl
  | n + 1, y => by
    have h : laws_eqIntS.a0 N (n + 1) y = laws_eqIntS.B0 N (fun z => laws_eqIntS.a0 N n z) y := by kernel_rfl
    have e : (fun z => laws_eqIntS.a0 N n z) = laws_eqIntS.L0 N n := funext fun z => laws_eqIntS.r0 N n z
    rw [h]
    try rw [e]
    first | done | rfl
theorem laws_eqIntS.run (N : Nat) (x : (List (Int)) × (List (Int)) × Unit) : runF cx (look (laws_eqIntS.phis N)) laws_eqIntS.A N (bodyOf Tryd.f37) Tryd.f37.results.toList laws_eqIntS.sg x = laws_eqIntS N x.1 x.2.1 := by
  have h : runF cx (look (laws_eqIntS.phis N)) laws_eqIntS.A N (bodyOf Tryd.f37) Tryd.f37.results.toList laws_eqIntS.sg x = laws_eqIntS.B N (fun z => laws_eqIntS.a0 N N z) x.1 x.2.1 := by kernel_rfl
  have e0 : (fun z => laws_eqIntS.a0 N N z) = laws_eqIntS.L0 N N := funext fun z => laws_eqIntS.r0 N N z
  rw [h, e0]
  try rfl
noncomputable def laws_eqIntS.sm (N : Nat) : Sm D := (⟨laws_eqIntS.sg, fun (x : (List (Int)) × (List (Int)) × Unit) => laws_eqIntS N x.1 x.2.1⟩ : Sm D)
theorem laws_eqIntS.sound (N : Nat) : Sound cx Tryd.prog gam 37 (laws_eqIntS.sm N) := fn_sound (A := laws_eqIntS.A) (Φ := (look (laws_eqIntS.phis N))) pok (G := gam) ΦOk.nil mixed N Tryd.func37 (c := (bodyOf Tryd.f37)) (by kernel_rfl) laws_eqIntS.sg (by kernel_rfl) (by kernel_rfl) (by kernel_rfl) (laws_eqIntS.run N)

@[reducible] def laws_FnExactPartNumber.sg : Sg := { ms := [{ k := (.st 32) }, { k := (.sl (.int .i64)), fl := [none] }], keep := [false, false], rs := [{ k := .bool }] }
noncomputable def laws_FnExactPartNumber.A : Ann := { dp := fun d => isIn [] d, lp := look [], jn := look [], pins := [], nt := 43 }
noncomputable def laws_FnExactPartNumber.phis (N : Nat) : List (Nat × Sm D) := [(16, laws_szTree.sm N), (18, laws_toTree.sm N), (36, laws_toIntS.sm N), (35, spec_PartNumber.sm N), (34, impl_PartNumber.sm N), (20, laws_eqTree.sm N), (37, laws_eqIntS.sm N)]
theorem laws_FnExactPartNumber.run (N : Nat) (x : LawsTree × (List (Int)) × Unit) : runF cx (look (laws_FnExactPartNumber.phis N)) laws_FnExactPartNumber.A N (bodyOf Tryd.f11) Tryd.f11.results.toList laws_FnExactPartNumber.sg x = laws_FnExactPartNumber N x.1 x.2.1 := by
  have h : runF cx (look (laws_FnExactPartNumber.phis N)) laws_FnExactPartNumber.A N (bodyOf Tryd.f11) Tryd.f11.results.toList laws_FnExactPartNumber.sg x = laws_FnExactPartNumber.B N x.1 x.2.1 := by kernel_rfl
  rw [h]
  try rfl
noncomputable def laws_FnExactPartNumber.sm (N : Nat) : Sm D := (⟨laws_FnExactPartNumber.sg, fun (x : LawsTree × (List (Int)) × Unit) => laws_FnExactPartNumber N x.1 x.2.1⟩ : Sm D)
theorem laws_FnExactPartNumber.sound (N : Nat) : Sound cx Tryd.prog gam 11 (laws_FnExactPartNumber.sm N) := fn_sound (A := laws_FnExactPartNumber.A) (Φ := (look (laws_FnExactPartNumber.phis N))) pok (G := gam) (ΦOk.cons (laws_szTree.sound N) (fnOk_of (f := 16) (by kernel_rfl)) (ΦOk.cons (laws_toTree.sound N) (fnOk_of (f := 18) (by kernel_rfl)) (ΦOk.cons (laws_toIntS.sound N) (fnOk_of (f := 36) (by kernel_rfl)) (ΦOk.cons (spec_PartNumber.sound N) (fnOk_of (f := 35) (by kernel_rfl)) (ΦOk.cons (impl_PartNumber.sound N) (fnOk_of (f := 34) (by kernel_rfl)) (ΦOk.cons (laws_eqTree.sound N) (fnOk_of (f := 20) (by kernel_rfl)) (ΦOk.cons (laws_eqIntS.sound N) (fnOk_of (f := 37) (by kernel_rfl)) ΦOk.nil))))))) mixed N Tryd.func11 (c := (bodyOf Tryd.f11)) (by kernel_rfl) laws_FnExactPartNumber.sg (by kernel_rfl) (by kernel_rfl) (by kernel_rfl) (laws_FnExactPartNumber.run N)

end
end Go.Ev
