/- Each function that the law reaches does what its plain form says; no condition beyond the table of the library. -/
import Derived.Test.YtmaghpkolkkncaaEvF
set_option linter.all false
set_option linter.unusedVariables false
set_option linter.unusedSimpArgs false
set_option maxRecDepth 100000
set_option maxHeartbeats 0
namespace Go.Ev
noncomputable section
open Go.Proofs
@[reducible] def laws_szValue.sg : Sg := { ms := [{ k := (.st 79) }, { k := (.int .i64) }], keep := [false, false], rs := [{ k := (.int .i64) }] }
noncomputable def laws_szValue.A : Ann := { dp := fun d => isIn [] d, lp := look [], jn := look [], pins := [], nt := 13 }
noncomputable def laws_szValue.phis (N : Nat) : List (Nat × Sm D) := []
theorem laws_szValue.run (N : Nat) (x : ImplValue × Int × Unit) : runF cx (look (laws_szValue.phis N)) laws_szValue.A N (bodyOf Try.f38) Try.f38.results.toList laws_szValue.sg x = laws_szValue N x.1 x.2.1 := by
  have h : runF cx (look (laws_szValue.phis N)) laws_szValue.A N (bodyOf Try.f38) Try.f38.results.toList laws_szValue.sg x = laws_szValue.B N x.1 x.2.1 := by kernel_rfl
  rw [h]
  try rfl
noncomputable def laws_szValue.sm (N : Nat) : Sm D := (⟨laws_szValue.sg, fun (x : ImplValue × Int × Unit) => laws_szValue N x.1 x.2.1⟩ : Sm D)
theorem laws_szValue.sound (N : Nat) : Sound cx Try.prog gam 38 (laws_szValue.sm N) := fn_sound (A := laws_szValue.A) (Φ := (look (laws_szValue.phis N))) pok (G := gam) ΦOk.nil mixed N Try.func38 (c := (bodyOf Try.f38)) (by kernel_rfl) laws_szValue.sg (by kernel_rfl) (by kernel_rfl) (by kernel_rfl) (laws_szValue.run N)

@[reducible] def laws_szValueS.sg : Sg := { ms := [{ k := (.sl (.st 79)), fl := [none] }, { k := (.int .i64) }], keep := [false, false], rs := [{ k := (.int .i64) }] }
@[reducible] def laws_szValueS.lvL0 : Lv := { id := 0, slots := [0, 1, 5], ms := [{ k := (.sl (.st 79)), fl := [none] }, { k := (.int .i64) }, { k := (.int .i64) }] }
noncomputable def laws_szValueS.A : Ann := { dp := fun d => isIn [] d, lp := look [(0, laws_szValueS.lvL0)], jn := look [], pins := [], nt := 27 }
noncomputable def laws_szValueS.phis (N : Nat) : List (Nat × Sm D) := [(38, laws_szValue.sm N)]
noncomputable def laws_szValueS.a0 (N : Nat) (n : Nat) (y : (List (ImplValue)) × Int × Int × Unit) : Option (Int × Unit) := loopAt cx (look (laws_szValueS.phis N)) laws_szValueS.A N n (encL cx laws_szValueS.lvL0.ms y).1 (encL cx laws_szValueS.lvL0.ms y).2 (bodyOf Try.f21) 0 (Kfin cx laws_szValueS.A laws_szValueS.sg Try.f21.results.toList) [1, 1, 1, 0, 1, 1] []
theorem laws_szValueS.r0 (N : Nat) : ∀ (n : Nat) (y : (List (ImplValue)) × Int × Int × Unit), laws_szValueS.a0 N n y = laws_szValueS.L0 N n y
  | 0, y => by kernel_rfl
  | n + 1, y => by
    have h : laws_szValueS.a0 N (n + 1) y = laws_szValueS.B0 N (fun z => laws_szValueS.a0 N n z) y := by kernel_rfl
    have e : (fun z => laws_szValueS.a0 N n z) = laws_szValueS.L0 N n := funext fun z => laws_szValueS.r0 N n z
    rw [h]
    try rw [e]
    first | done | rfl
theorem laws_szValueS.run (N : Nat) (x : (List (ImplValue)) × Int × Unit) : runF cx (look (laws_szValueS.phis N)) laws_szValueS.A N (bodyOf Try.f21) Try.f21.results.toList laws_szValueS.sg x = laws_szValueS N x.1 x.2.1 := by
  have h : runF cx (look (laws_szValueS.phis N)) laws_szValueS.A N (bodyOf Try.f21) Try.f21.results.toList laws_szValueS.sg x = laws_szValueS.B N (fun z => laws_szValueS.a0 N N z) x.1 x.2.1 := by kernel_rfl
  have e0 : (fun z => laws_szValueS.a0 N N z) = laws_szValueS.L0 N N := funext fun z => laws_szValueS.r0 N N z
  rw [h, e0]
  try rfl
noncomputable def laws_szValueS.sm (N : Nat) : Sm D := (⟨laws_szValueS.sg, fun (x : (List (ImplValue)) × Int × Unit) => laws_szValueS N x.1 x.2.1⟩ : Sm D)
theorem laws_szValueS.sound (N : Nat) : Sound cx Try.prog gam 21 (laws_szValueS.sm N) := fn_sound (A := laws_szValueS.A) (Φ := (look (laws_szValueS.phis N))) pok (G := gam) (ΦOk.cons (laws_szValue.sound N) (fnOk_of (f := 38) (by kernel_rfl)) ΦOk.nil) mixed N Try.func21 (c := (bodyOf Try.f21)) (by kernel_rfl) laws_szValueS.sg (by kernel_rfl) (by kernel_rfl) (by kernel_rfl) (laws_szValueS.run N)

@[reducible] def laws_szStep.sg : Sg := { ms := [{ k := (.st 112) }, { k := (.int .i64) }], keep := [false, false], rs := [{ k := (.int .i64) }] }
noncomputable def laws_szStep.A : Ann := { dp := fun d => isIn [] d, lp := look [], jn := look [], pins := [], nt := 12 }
noncomputable def laws_szStep.phis (N : Nat) : List (Nat × Sm D) := [(38, laws_szValue.sm N)]
theorem laws_szStep.run (N : Nat) (x : LawsStep × Int × Unit) : runF cx (look (laws_szStep.phis N)) laws_szStep.A N (bodyOf Try.f67) Try.f67.results.toList laws_szStep.sg x = laws_szStep N x.1 x.2.1 := by
  have h : runF cx (look (laws_szStep.phis N)) laws_szStep.A N (bodyOf Try.f67) Try.f67.results.toList laws_szStep.sg x = laws_szStep.B N x.1 x.2.1 := by kernel_rfl
  rw [h]
  try rfl
noncomputable def laws_szStep.sm (N : Nat) : Sm D := (⟨laws_szStep.sg, fun (x : LawsStep × Int × Unit) => laws_szStep N x.1 x.2.1⟩ : Sm D)
theorem laws_szStep.sound (N : Nat) : Sound cx Try.prog gam 67 (laws_szStep.sm N) := fn_sound (A := laws_szStep.A) (Φ := (look (laws_szStep.phis N))) pok (G := gam) (ΦOk.cons (laws_szValue.sound N) (fnOk_of (f := 38) (by kernel_rfl)) ΦOk.nil) mixed N Try.func67 (c := (bodyOf Try.f67)) (by kernel_rfl) laws_szStep.sg (by kernel_rfl) (by kernel_rfl) (by kernel_rfl) (laws_szStep.run N)

@[reducible] def laws_szStepS.sg : Sg := { ms := [{ k := (.sl (.st 112)), fl := [none] }, { k := (.int .i64) }], keep := [false, false], rs := [{ k := (.int .i64) }] }
@[reducible] def laws_szStepS.lvL0 : Lv := { id := 0, slots := [0, 1, 5], ms := [{ k := (.sl (.st 112)), fl := [none] }, { k := (.int .i64) }, { k := (.int .i64) }] }
noncomputable def laws_szStepS.A : Ann := { dp := fun d => isIn [] d, lp := look [(0, laws_szStepS.lvL0)], jn := look [], pins := [], nt := 27 }
noncomputable def laws_szStepS.phis (N : Nat) : List (Nat × Sm D) := [(67, laws_szStep.sm N)]
noncomputable def laws_szStepS.a0 (N : Nat) (n : Nat) (y : (List (LawsStep)) × Int × Int × Unit) : Option (Int × Unit) := loopAt cx (look (laws_szStepS.phis N)) laws_szStepS.A N n (encL cx laws_szStepS.lvL0.ms y).1 (encL cx laws_szStepS.lvL0.ms y).2 (bodyOf Try.f42) 0 (Kfin cx laws_szStepS.A laws_szStepS.sg Try.f42.results.toList) [1, 1, 1, 0, 1, 1] []
theorem laws_szStepS.r0 (N : Nat) : ∀ (n : Nat) (y : (List (LawsStep)) × Int × Int × Unit), laws_szStepS.a0 N n y = laws_szStepS.L0 N n y
  | 0, y => by kernel_rfl
  | n + 1, y => by
    have h : laws_szStepS.a0 N (n + 1) y = laws_szStepS.B0 N (fun z => laws_szStepS.a0 N n z) y := by kernel_rfl
    have e : (fun z => laws_szStepS.a0 N n z) = laws_szStepS.L0 N n := funext fun z => laws_szStepS.r0 N n z
    rw [h]
    try rw [e]
    first | done | rfl
theorem laws_szStepS.run (N : Nat) (x : (List (LawsStep)) × Int × Unit) : runF cx (look (laws_szStepS.phis N)) laws_szStepS.A N (bodyOf Try.f42) Try.f42.results.toList laws_szStepS.sg x = laws_szStepS N x.1 x.2.1 := by
  have h : runF cx (look (laws_szStepS.phis N)) laws_szStepS.A N (bodyOf Try.f42) Try.f42.results.toList laws_szStepS.sg x = laws_szStepS.B N (fun z => laws_szStepS.a0 N N z) x.1 x.2.1 := by kernel_rfl
  have e0 : (fun z => laws_szStepS.a0 N N z) = laws_szStepS.L0 N N := funext fun z => laws_szStepS.r0 N N z
  rw [h, e0]
  try rfl
noncomputable def laws_szStepS.sm (N : Nat) : Sm D := (⟨laws_szStepS.sg, fun (x : (List (LawsStep)) × Int × Unit) => laws_szStepS N x.1 x.2.1⟩ : Sm D)
theorem laws_szStepS.sound (N : Nat) : Sound cx Try.prog gam 42 (laws_szStepS.sm N) := fn_sound (A := laws_szStepS.A) (Φ := (look (laws_szStepS.phis N))) pok (G := gam) (ΦOk.cons (laws_szStep.sound N) (fnOk_of (f := 67) (by kernel_rfl)) ΦOk.nil) mixed N Try.func42 (c := (bodyOf Try.f42)) (by kernel_rfl) laws_szStepS.sg (by kernel_rfl) (by kernel_rfl) (by kernel_rfl) (laws_szStepS.run N)

@[reducible] def laws_szSet.sg : Sg := { ms := [{ k := (.st 109) }, { k := (.int .i64) }], keep := [false, false], rs := [{ k := (.int .i64) }] }
noncomputable def laws_szSet.A : Ann := { dp := fun d => isIn [] d, lp := look [], jn := look [], pins := [], nt := 12 }
noncomputable def laws_szSet.phis (N : Nat) : List (Nat × Sm D) := [(42, laws_szStepS.sm N)]
theorem laws_szSet.run (N : Nat) (x : LawsSet × Int × Unit) : runF cx (look (laws_szSet.phis N)) laws_szSet.A N (bodyOf Try.f66) Try.f66.results.toList laws_szSet.sg x = laws_szSet N x.1 x.2.1 := by
  have h : runF cx (look (laws_szSet.phis N)) laws_szSet.A N (bodyOf Try.f66) Try.f66.results.toList laws_szSet.sg x = laws_szSet.B N x.1 x.2.1 := by kernel_rfl
  rw [h]
  try rfl
noncomputable def laws_szSet.sm (N : Nat) : Sm D := (⟨laws_szSet.sg, fun (x : LawsSet × Int × Unit) => laws_szSet N x.1 x.2.1⟩ : Sm D)
theorem laws_szSet.sound (N : Nat) : Sound cx Try.prog gam 66 (laws_szSet.sm N) := fn_sound (A := laws_szSet.A) (Φ := (look (laws_szSet.phis N))) pok (G := gam) (ΦOk.cons (laws_szStepS.sound N) (fnOk_of (f := 42) (by kernel_rfl)) ΦOk.nil) mixed N Try.func66 (c := (bodyOf Try.f66)) (by kernel_rfl) laws_szSet.sg (by kernel_rfl) (by kernel_rfl) (by kernel_rfl) (laws_szSet.run N)

@[reducible] def laws_szSetS.sg : Sg := { ms := [{ k := (.sl (.st 109)), fl := [none] }, { k := (.int .i64) }], keep := [false, false], rs := [{ k := (.int .i64) }] }
@[reducible] def laws_szSetS.lvL0 : Lv := { id := 0, slots := [0, 1, 5], ms := [{ k := (.sl (.st 109)), fl := [none] }, { k := (.int .i64) }, { k := (.int .i64) }] }
noncomputable def laws_szSetS.A : Ann := { dp := fun d => isIn [] d, lp := look [(0, laws_szSetS.lvL0)], jn := look [], pins := [], nt := 27 }
noncomputable def laws_szSetS.phis (N : Nat) : List (Nat × Sm D) := [(66, laws_szSet.sm N)]
noncomputable def laws_szSetS.a0 (N : Nat) (n : Nat) (y : (List (LawsSet)) × Int × Int × Unit) : Option (Int × Unit) := loopAt cx (look (laws_szSetS.phis N)) laws_szSetS.A N n (encL cx laws_szSetS.lvL0.ms y).1 (encL cx laws_szSetS.lvL0.ms y).2 (bodyOf Try.f39) 0 (Kfin cx laws_szSetS.A laws_szSetS.sg Try.f39.results.toList) [1, 1, 1, 0, 1, 1] []
theorem laws_szSetS.r0 (N : Nat) : ∀ (n : Nat) (y : (List (LawsSet)) × Int × Int × Unit), laws_szSetS.a0 N n y = laws_szSetS.L0 N n y
  | 0, y => by kernel_rfl
  | n + 1, y => by
    have h : laws_szSetS.a0 N (n + 1) y = laws_szSetS.B0 N (fun z => laws_szSetS.a0 N n z) y := by kernel_rfl
    have e : (fun z => laws_szSetS.a0 N n z) = laws_szSetS.L0 N n := funext fun z => laws_szSetS.r0 N n z
    rw [h]
    try rw [e]
    first | done | rfl
theorem laws_szSetS.run (N : Nat) (x : (List (LawsSet)) × Int × Unit) : runF cx (look (laws_szSetS.phis N)) laws_szSetS.A N (bodyOf Try.f39) Try.f39.results.toList laws_szSetS.sg x = laws_szSetS N x.1 x.2.1 := by
  have h : runF cx (look (laws_szSetS.phis N)) laws_szSetS.A N (bodyOf Try.f39) Try.f39.results.toList laws_szSetS.sg x = laws_szSetS.B N (fun z => laws_szSetS.a0 N N z) x.1 x.2.1 := by kernel_rfl
  have e0 : (fun z => laws_szSetS.a0 N N z) = laws_szSetS.L0 N N := funext fun z => laws_szSetS.r0 N N z
  rw [h, e0]
  try rfl
noncomputable def laws_szSetS.sm (N : Nat) : Sm D := (⟨laws_szSetS.sg, fun (x : (List (LawsSet)) × Int × Unit) => laws_szSetS N x.1 x.2.1⟩ : Sm D)
theorem laws_szSetS.sound (N : Nat) : Sound cx Try.prog gam 39 (laws_szSetS.sm N) := fn_sound (A := laws_szSetS.A) (Φ := (look (laws_szSetS.phis N))) pok (G := gam) (ΦOk.cons (laws_szSet.sound N) (fnOk_of (f := 66) (by kernel_rfl)) ΦOk.nil) mixed N Try.func39 (c := (bodyOf Try.f39)) (by kernel_rfl) laws_szSetS.sg (by kernel_rfl) (by kernel_rfl) (by kernel_rfl) (laws_szSetS.run N)

@[reducible] def laws_szSetSS.sg : Sg := { ms := [{ k := (.sl (.sl (.st 109))), fl := [none] }, { k := (.int .i64) }], keep := [false, false], rs := [{ k := (.int .i64) }] }
@[reducible] def laws_szSetSS.lvL0 : Lv := { id := 0, slots := [0, 1, 5], ms := [{ k := (.sl (.sl (.st 109))), fl := [none] }, { k := (.int .i64) }, { k := (.int .i64) }] }
noncomputable def laws_szSetSS.A : Ann := { dp := fun d => isIn [] d, lp := look [(0, laws_szSetSS.lvL0)], jn := look [], pins := [], nt := 27 }
noncomputable def laws_szSetSS.phis (N : Nat) : List (Nat × Sm D) := [(39, laws_szSetS.sm N)]
noncomputable def laws_szSetSS.a0 (N : Nat) (n : Nat) (y : (List (List (LawsSet))) × Int × Int × Unit) : Option (Int × Unit) := loopAt cx (look (laws_szSetSS.phis N)) laws_szSetSS.A N n (encL cx laws_szSetSS.lvL0.ms y).1 (encL cx laws_szSetSS.lvL0.ms y).2 (bodyOf Try.f22) 0 (Kfin cx laws_szSetSS.A laws_szSetSS.sg Try.f22.results.toList) [1, 1, 1, 0, 1, 1] []
theorem laws_szSetSS.r0 (N : Nat) : ∀ (n : Nat) (y : (List (List (LawsSet))) × Int × Int × Unit), laws_szSetSS.a0 N n y = laws_szSetSS.L0 N n y
  | 0, y => by kernel_rfl
  | n + 1, y => by
    have h : laws_szSetSS.a0 N (n + 1) y = laws_szSetSS.B0 N (fun z => laws_szSetSS.a0 N n z) y := by kernel_rfl
    have e : (fun z => laws_szSetSS.a0 N n z) = laws_szSetSS.L0 N n := funext fun z => laws_szSetSS.r0 N n z
    rw [h]
    try rw [e]
    first | done | rfl
theorem laws_szSetSS.run (N : Nat) (x : (List (List (LawsSet))) × Int × Unit) : runF cx (look (laws_szSetSS.phis N)) laws_szSetSS.A N (bodyOf Try.f22) Try.f22.results.toList laws_szSetSS.sg x = laws_szSetSS N x.1 x.2.1 := by
  have h : runF cx (look (laws_szSetSS.phis N)) laws_szSetSS.A N (bodyOf Try.f22) Try.f22.results.toList laws_szSetSS.sg x = laws_szSetSS.B N (fun z => laws_szSetSS.a0 N N z) x.1 x.2.1 := by kernel_rfl
  have e0 : (fun z => laws_szSetSS.a0 N N z) = laws_szSetSS.L0 N N := funext fun z => laws_szSetSS.r0 N N z
  rw [h, e0]
  try rfl
noncomputable def laws_szSetSS.sm (N : Nat) : Sm D := (⟨laws_szSetSS.sg, fun (x : (List (List (LawsSet))) × Int × Unit) => laws_szSetSS N x.1 x.2.1⟩ : Sm D)
theorem laws_szSetSS.sound (N : Nat) : Sound cx Try.prog gam 22 (laws_szSetSS.sm N) := fn_sound (A := laws_szSetSS.A) (Φ := (look (laws_szSetSS.phis N))) pok (G := gam) (ΦOk.cons (laws_szSetS.sound N) (fnOk_of (f := 39) (by kernel_rfl)) ΦOk.nil) mixed N Try.func22 (c := (bodyOf Try.f22)) (by kernel_rfl) laws_szSetSS.sg (by kernel_rfl) (by kernel_rfl) (by kernel_rfl) (laws_szSetSS.run N)

@[reducible] def laws_szIntS.sg : Sg := { ms := [{ k := (.sl (.int .i64)), fl := [none] }, { k := (.int .i64) }], keep := [false, false], rs := [{ k := (.int .i64) }] }
noncomputable def laws_szIntS.A : Ann := { dp := fun d => isIn [] d, lp := look [], jn := look [], pins := [], nt := 12 }
noncomputable def laws_szIntS.phis (N : Nat) : List (Nat × Sm D) := []
theorem laws_szIntS.run (N : Nat) (x : (List (Int)) × Int × Unit) : runF cx (look (laws_szIntS.phis N)) laws_szIntS.A N (bodyOf Try.f40) Try.f40.results.toList laws_szIntS.sg x = laws_szIntS N x.1 x.2.1 := by
  have h : runF cx (look (laws_szIntS.phis N)) laws_szIntS.A N (bodyOf Try.f40) Try.f40.results.toList laws_szIntS.sg x = laws_szIntS.B N x.1 x.2.1 := by kernel_rfl
  rw [h]
  try rfl
noncomputable def laws_szIntS.sm (N : Nat) : Sm D := (⟨laws_szIntS.sg, fun (x : (List (Int)) × Int × Unit) => laws_szIntS N x.1 x.2.1⟩ : Sm D)
theorem laws_szIntS.sound (N : Nat) : Sound cx Try.prog gam 40 (laws_szIntS.sm N) := fn_sound (A := laws_szIntS.A) (Φ := (look (laws_szIntS.phis N))) pok (G := gam) ΦOk.nil mixed N Try.func40 (c := (bodyOf Try.f40)) (by kernel_rfl) laws_szIntS.sg (by kernel_rfl) (by kernel_rfl) (by kernel_rfl) (laws_szIntS.run N)

@[reducible] def laws_szStepSS.sg : Sg := { ms := [{ k := (.sl (.sl (.st 112))), fl := [none] }, { k := (.int .i64) }], keep := [false, false], rs := [{ k := (.int .i64) }] }
@[reducible] def laws_szStepSS.lvL0 : Lv := { id := 0, slots := [0, 1, 5], ms := [{ k := (.sl (.sl (.st 112))), fl := [none] }, { k := (.int .i64) }, { k := (.int .i64) }] }
noncomputable def laws_szStepSS.A : Ann := { dp := fun d => isIn [] d, lp := look [(0, laws_szStepSS.lvL0)], jn := look [], pins := [], nt := 27 }
noncomputable def laws_szStepSS.phis (N : Nat) : List (Nat × Sm D) := [(42, laws_szStepS.sm N)]
noncomputable def laws_szStepSS.a0 (N : Nat) (n : Nat) (y : (List (List (LawsStep))) × Int × Int × Unit) : Option (Int × Unit) := loopAt cx (look (laws_szStepSS.phis N)) laws_szStepSS.A N n (encL cx laws_szStepSS.lvL0.ms y).1 (encL cx laws_szStepSS.lvL0.ms y).2 (bodyOf Try.f41) 0 (Kfin cx laws_szStepSS.A laws_szStepSS.sg Try.f41.results.toList) [1, 1, 1, 0, 1, 1] []
theorem laws_szStepSS.r0 (N : Nat) : ∀ (n : Nat) (y : (List (List (LawsStep))) × Int × Int × Unit), laws_szStepSS.a0 N n y = laws_szStepSS.L0 N n y
  | 0, y => by kernel_rfl
  | n + 1, y => by
    have h : laws_szStepSS.a0 N (n + 1) y = laws_szStepSS.B0 N (fun z => laws_szStepSS.a0 N n z) y := by kernel_rfl
    have e : (fun z => laws_szStepSS.a0 N n z) = laws_szStepSS.L0 N n := funext fun z => laws_szStepSS.r0 N n z
    rw [h]
    try rw [e]
    first | done | rfl
theorem laws_szStepSS.run (N : Nat) (x : (List (List (LawsStep))) × Int × Unit) : runF cx (look (laws_szStepSS.phis N)) laws_szStepSS.A N (bodyOf Try.f41) Try.f41.results.toList laws_szStepSS.sg x = laws_szStepSS N x.1 x.2.1 := by
  have h : runF cx (look (laws_szStepSS.phis N)) laws_szStepSS.A N (bodyOf Try.f41) Try.f41.results.toList laws_szStepSS.sg x = laws_szStepSS.B N (fun z => laws_szStepSS.a0 N N z) x.1 x.2.1 := by kernel_rfl
  have e0 : (fun z => laws_szStepSS.a0 N N z) = laws_szStepSS.L0 N N := funext fun z => laws_szStepSS.r0 N N z
  rw [h, e0]
  try rfl
noncomputable def laws_szStepSS.sm (N : Nat) : Sm D := (⟨laws_szStepSS.sg, fun (x : (List (List (LawsStep))) × Int × Unit) => laws_szStepSS N x.1 x.2.1⟩ : Sm D)
theorem laws_szStepSS.sound (N : Nat) : Sound cx Try.prog gam 41 (laws_szStepSS.sm N) := fn_sound (A := laws_szStepSS.A) (Φ := (look (laws_szStepSS.phis N))) pok (G := gam) (ΦOk.cons (laws_szStepS.sound N) (fnOk_of (f := 42) (by kernel_rfl)) ΦOk.nil) mixed N Try.func41 (c := (bodyOf Try.f41)) (by kernel_rfl) laws_szStepSS.sg (by kernel_rfl) (by kernel_rfl) (by kernel_rfl) (laws_szStepSS.run N)

@[reducible] def laws_szOnS.sg : Sg := { ms := [{ k := (.sl (.st 71)), fl := [none] }, { k := (.int .i64) }], keep := [false, false], rs := [{ k := (.int .i64) }] }
noncomputable def laws_szOnS.A : Ann := { dp := fun d => isIn [] d, lp := look [], jn := look [], pins := [], nt := 12 }
noncomputable def laws_szOnS.phis (N : Nat) : List (Nat × Sm D) := []
theorem laws_szOnS.run (N : Nat) (x : (List (ImplOn)) × Int × Unit) : runF cx (look (laws_szOnS.phis N)) laws_szOnS.A N (bodyOf Try.f43) Try.f43.results.toList laws_szOnS.sg x = laws_szOnS N x.1 x.2.1 := by
  have h : runF cx (look (laws_szOnS.phis N)) laws_szOnS.A N (bodyOf Try.f43) Try.f43.results.toList laws_szOnS.sg x = laws_szOnS.B N x.1 x.2.1 := by kernel_rfl
  rw [h]
  try rfl
noncomputable def laws_szOnS.sm (N : Nat) : Sm D := (⟨laws_szOnS.sg, fun (x : (List (ImplOn)) × Int × Unit) => laws_szOnS N x.1 x.2.1⟩ : Sm D)
theorem laws_szOnS.sound (N : Nat) : Sound cx Try.prog gam 43 (laws_szOnS.sm N) := fn_sound (A := laws_szOnS.A) (Φ := (look (laws_szOnS.phis N))) pok (G := gam) ΦOk.nil mixed N Try.func43 (c := (bodyOf Try.f43)) (by kernel_rfl) laws_szOnS.sg (by kernel_rfl) (by kernel_rfl) (by kernel_rfl) (laws_szOnS.run N)

@[reducible] def laws_szTmplS.sg : Sg := { ms := [{ k := (.sl (.st 38)), fl := [none] }, { k := (.int .i64) }], keep := [false, false], rs := [{ k := (.int .i64) }] }
@[reducible] def laws_szTmpl.sg : Sg := { ms := [{ k := (.st 38) }, { k := (.int .i64) }], keep := [false, false], rs := [{ k := (.int .i64) }] }
@[reducible] def laws_szTmplS.lvL0 : Lv := { id := 0, slots := [0, 1, 5], ms := [{ k := (.sl (.st 38)), fl := [none] }, { k := (.int .i64) }, { k := (.int .i64) }] }
noncomputable def laws_szTmplS.A : Ann := { dp := fun d => isIn [] d, lp := look [(0, laws_szTmplS.lvL0)], jn := look [], pins := [], nt := 27 }
noncomputable def laws_szTmplS.phis (N : Nat) (d : Nat) : List (Nat × Sm D) := [(23, (⟨laws_szTmpl.sg, fun (x : LawsTmpl × Int × Unit) => laws_szTmpl.R N d x.1 x.2.1⟩ : Sm D))]
noncomputable def laws_szTmplS.a0 (N : Nat) (d : Nat) (n : Nat) (y : (List (LawsTmpl)) × Int × Int × Unit) : Option (Int × Unit) := loopAt cx (look (laws_szTmplS.phis N d)) laws_szTmplS.A N n (encL cx laws_szTmplS.lvL0.ms y).1 (encL cx laws_szTmplS.lvL0.ms y).2 (bodyOf Try.f44) 0 (Kfin cx laws_szTmplS.A laws_szTmplS.sg Try.f44.results.toList) [1, 1, 1, 0, 1, 1] []
theorem laws_szTmplS.r0 (N : Nat) (d : Nat) : ∀ (n : Nat) (y : (List (LawsTmpl)) × Int × Int × Unit), laws_szTmplS.a0 N d n y = laws_szTmplS.L0 N (laws_szTmplS.R N d) (laws_szTmpl.R N d) n y
  | 0, y => by kernel_rfl
  | n + 1, y => by
    have h : laws_szTmplS.a0 N d (n + 1) y = laws_szTmplS.B0 N (laws_szTmplS.R N d) (laws_szTmpl.R N d) (fun z => laws_szTmplS.a0 N d n z) y := by kernel_rfl
    have e : (fun z => laws_szTmplS.a0 N d n z) = laws_szTmplS.L0 N (laws_szTmplS.R N d) (laws_szTmpl.R N d) n := funext fun z => laws_szTmplS.r0 N d n z
    rw [h]
    try rw [e]
    first | done | rfl
theorem laws_szTmplS.run (N : Nat) (d : Nat) (x : (List (LawsTmpl)) × Int × Unit) : runF cx (look (laws_szTmplS.phis N d)) laws_szTmplS.A N (bodyOf Try.f44) Try.f44.results.toList laws_szTmplS.sg x = laws_szTmplS.R N (d + 1) x.1 x.2.1 := by
  have h : runF cx (look (laws_szTmplS.phis N d)) laws_szTmplS.A N (bodyOf Try.f44) Try.f44.results.toList laws_szTmplS.sg x = laws_szTmplS.B N (laws_szTmplS.R N d) (laws_szTmpl.R N d) (fun z => laws_szTmplS.a0 N d N z) x.1 x.2.1 := by kernel_rfl
  have e0 : (fun z => laws_szTmplS.a0 N d N z) = laws_szTmplS.L0 N (laws_szTmplS.R N d) (laws_szTmpl.R N d) N := funext fun z => laws_szTmplS.r0 N d N z
  rw [h, e0]
  try rfl
theorem laws_szTmplS.step (N : Nat) (d : Nat) (h_laws_szTmpl : Sound cx Try.prog gam 23 (⟨laws_szTmpl.sg, fun (x : LawsTmpl × Int × Unit) => laws_szTmpl.R N d x.1 x.2.1⟩ : Sm D)) : Sound cx Try.prog gam 44 (⟨laws_szTmplS.sg, fun (x : (List (LawsTmpl)) × Int × Unit) => laws_szTmplS.R N (d + 1) x.1 x.2.1⟩ : Sm D) := fn_sound (A := laws_szTmplS.A) (Φ := (look (laws_szTmplS.phis N d))) pok (G := gam) (ΦOk.cons h_laws_szTmpl (fnOk_of (f := 23) (by kernel_rfl)) ΦOk.nil) mixed N Try.func44 (c := (bodyOf Try.f44)) (by kernel_rfl) laws_szTmplS.sg (by kernel_rfl) (by kernel_rfl) (by kernel_rfl) (laws_szTmplS.run N d)

noncomputable def laws_szTmpl.A : Ann := { dp := fun d => isIn [] d, lp := look [], jn := look [], pins := [], nt := 36 }
noncomputable def laws_szTmpl.phis (N : Nat) (d : Nat) : List (Nat × Sm D) := [(40, laws_szIntS.sm N), (41, laws_szStepSS.sm N), (42, laws_szStepS.sm N), (43, laws_szOnS.sm N), (44, (⟨laws_szTmplS.sg, fun (x : (List (LawsTmpl)) × Int × Unit) => laws_szTmplS.R N d x.1 x.2.1⟩ : Sm D))]
theorem laws_szTmpl.run (N : Nat) (d : Nat) (x : LawsTmpl × Int × Unit) : runF cx (look (laws_szTmpl.phis N d)) laws_szTmpl.A N (bodyOf Try.f23) Try.f23.results.toList laws_szTmpl.sg x = laws_szTmpl.R N (d + 1) x.1 x.2.1 := by
  have h : runF cx (look (laws_szTmpl.phis N d)) laws_szTmpl.A N (bodyOf Try.f23) Try.f23.results.toList laws_szTmpl.sg x = laws_szTmpl.B N (laws_szTmplS.R N d) (laws_szTmpl.R N d) x.1 x.2.1 := by kernel_rfl
  rw [h]
  try rfl
theorem laws_szTmpl.step (N : Nat) (d : Nat) (h_laws_szTmplS : Sound cx Try.prog gam 44 (⟨laws_szTmplS.sg, fun (x : (List (LawsTmpl)) × Int × Unit) => laws_szTmplS.R N d x.1 x.2.1⟩ : Sm D)) : Sound cx Try.prog gam 23 (⟨laws_szTmpl.sg, fun (x : LawsTmpl × Int × Unit) => laws_szTmpl.R N (d + 1) x.1 x.2.1⟩ : Sm D) := fn_sound (A := laws_szTmpl.A) (Φ := (look (laws_szTmpl.phis N d))) pok (G := gam) (ΦOk.cons (laws_szIntS.sound N) (fnOk_of (f := 40) (by kernel_rfl)) (ΦOk.cons (laws_szStepSS.sound N) (fnOk_of (f := 41) (by kernel_rfl)) (ΦOk.cons (laws_szStepS.sound N) (fnOk_of (f := 42) (by kernel_rfl)) (ΦOk.cons (laws_szOnS.sound N) (fnOk_of (f := 43) (by kernel_rfl)) (ΦOk.cons h_laws_szTmplS (fnOk_of (f := 44) (by kernel_rfl)) ΦOk.nil))))) mixed N Try.func23 (c := (bodyOf Try.f23)) (by kernel_rfl) laws_szTmpl.sg (by kernel_rfl) (by kernel_rfl) (by kernel_rfl) (laws_szTmpl.run N d)

theorem laws_szTmplS.scc (N : Nat) : ∀ d, Sound cx Try.prog gam 44 (⟨laws_szTmplS.sg, fun (x : (List (LawsTmpl)) × Int × Unit) => laws_szTmplS.R N d x.1 x.2.1⟩ : Sm D) ∧ Sound cx Try.prog gam 23 (⟨laws_szTmpl.sg, fun (x : LawsTmpl × Int × Unit) => laws_szTmpl.R N d x.1 x.2.1⟩ : Sm D)
  | 0 => ⟨none_sound 44 laws_szTmplS.sg, none_sound 23 laws_szTmpl.sg⟩
  | d + 1 => by
    have ih := laws_szTmplS.scc N d
    obtain ⟨ih0, ih1⟩ := ih
    exact ⟨laws_szTmplS.step N d ih1, laws_szTmpl.step N d ih0⟩
noncomputable def laws_szTmplS.sm (N : Nat) : Sm D := (⟨laws_szTmplS.sg, fun (x : (List (LawsTmpl)) × Int × Unit) => laws_szTmplS.R N N x.1 x.2.1⟩ : Sm D)
theorem laws_szTmplS.sound (N : Nat) : Sound cx Try.prog gam 44 (laws_szTmplS.sm N) := (laws_szTmplS.scc N N).1
noncomputable def laws_szTmpl.sm (N : Nat) : Sm D := (⟨laws_szTmpl.sg, fun (x : LawsTmpl × Int × Unit) => laws_szTmpl.R N N x.1 x.2.1⟩ : Sm D)
theorem laws_szTmpl.sound (N : Nat) : Sound cx Try.prog gam 23 (laws_szTmpl.sm N) := (laws_szTmplS.scc N N).2
@[reducible] def laws_szComp.sg : Sg := { ms := [{ k := (.st 40) }, { k := (.int .i64) }], keep := [false, false], rs := [{ k := (.int .i64) }] }
noncomputable def laws_szComp.A : Ann := { dp := fun d => isIn [] d, lp := look [], jn := look [], pins := [], nt := 24 }
noncomputable def laws_szComp.phis (N : Nat) : List (Nat × Sm D) := [(21, laws_szValueS.sm N), (22, laws_szSetSS.sm N), (23, laws_szTmpl.sm N)]
theorem laws_szComp.run (N : Nat) (x : LawsComp × Int × Unit) : runF cx (look (laws_szComp.phis N)) laws_szComp.A N (bodyOf Try.f12) Try.f12.results.toList laws_szComp.sg x = laws_szComp N x.1 x.2.1 := by
  have h : runF cx (look (laws_szComp.phis N)) laws_szComp.A N (bodyOf Try.f12) Try.f12.results.toList laws_szComp.sg x = laws_szComp.B N x.1 x.2.1 := by kernel_rfl
  rw [h]
  try rfl
noncomputable def laws_szComp.sm (N : Nat) : Sm D := (⟨laws_szComp.sg, fun (x : LawsComp × Int × Unit) => laws_szComp N x.1 x.2.1⟩ : Sm D)
theorem laws_szComp.sound (N : Nat) : Sound cx Try.prog gam 12 (laws_szComp.sm N) := fn_sound (A := laws_szComp.A) (Φ := (look (laws_szComp.phis N))) pok (G := gam) (ΦOk.cons (laws_szValueS.sound N) (fnOk_of (f := 21) (by kernel_rfl)) (ΦOk.cons (laws_szSetSS.sound N) (fnOk_of (f := 22) (by kernel_rfl)) (ΦOk.cons (laws_szTmpl.sound N) (fnOk_of (f := 23) (by kernel_rfl)) ΦOk.nil))) mixed N Try.func12 (c := (bodyOf Try.f12)) (by kernel_rfl) laws_szComp.sg (by kernel_rfl) (by kernel_rfl) (by kernel_rfl) (laws_szComp.run N)

@[reducible] def laws_szCompS.sg : Sg := { ms := [{ k := (.sl (.st 40)), fl := [none] }, { k := (.int .i64) }], keep := [false, false], rs := [{ k := (.int .i64) }] }
@[reducible] def laws_szCompS.lvL0 : Lv := { id := 0, slots := [0, 1, 5], ms := [{ k := (.sl (.st 40)), fl := [none] }, { k := (.int .i64) }, { k := (.int .i64) }] }
noncomputable def laws_szCompS.A : Ann := { dp := fun d => isIn [] d, lp := look [(0, laws_szCompS.lvL0)], jn := look [], pins := [], nt := 27 }
noncomputable def laws_szCompS.phis (N : Nat) : List (Nat × Sm D) := [(12, laws_szComp.sm N)]
noncomputable def laws_szCompS.a0 (N : Nat) (n : Nat) (y : (List (LawsComp)) × Int × Int × Unit) : Option (Int × Unit) := loopAt cx (look (laws_szCompS.phis N)) laws_szCompS.A N n (encL cx laws_szCompS.lvL0.ms y).1 (encL cx laws_szCompS.lvL0.ms y).2 (bodyOf Try.f5) 0 (Kfin cx laws_szCompS.A laws_szCompS.sg Try.f5.results.toList) [1, 1, 1, 0, 1, 1] []
theorem laws_szCompS.r0 (N : Nat) : ∀ (n : Nat) (y : (List (LawsComp)) × Int × Int × Unit), laws_szCompS.a0 N n y = laws_szCompS.L0 N n y
  | 0, y => by kernel_rfl
  | n + 1, y => by
    have h : laws_szCompS.a0 N (n + 1) y = laws_szCompS.B0 N (fun z => laws_szCompS.a0 N n z) y := by kernel_rfl
    have e : (fun z => laws_szCompS.a0 N n z) = laws_szCompS.L0 N n := funext fun z => laws_szCompS.r0 N n z
    rw [h]
    try rw [e]
    first | done | rfl
theorem laws_szCompS.run (N : Nat) (x : (List (LawsComp)) × Int × Unit) : runF cx (look (laws_szCompS.phis N)) laws_szCompS.A N (bodyOf Try.f5) Try.f5.results.toList laws_szCompS.sg x = laws_szCompS N x.1 x.2.1 := by
  have h : runF cx (look (laws_szCompS.phis N)) laws_szCompS.A N (bodyOf Try.f5) Try.f5.results.toList laws_szCompS.sg x = laws_szCompS.B N (fun z => laws_szCompS.a0 N N z) x.1 x.2.1 := by kernel_rfl
  have e0 : (fun z => laws_szCompS.a0 N N z) = laws_szCompS.L0 N N := funext fun z => laws_szCompS.r0 N N z
  rw [h, e0]
  try rfl
noncomputable def laws_szCompS.sm (N : Nat) : Sm D := (⟨laws_szCompS.sg, fun (x : (List (LawsComp)) × Int × Unit) => laws_szCompS N x.1 x.2.1⟩ : Sm D)
theorem laws_szCompS.sound (N : Nat) : Sound cx Try.prog gam 5 (laws_szCompS.sm N) := fn_sound (A := laws_szCompS.A) (Φ := (look (laws_szCompS.phis N))) pok (G := gam) (ΦOk.cons (laws_szComp.sound N) (fnOk_of (f := 12) (by kernel_rfl)) ΦOk.nil) mixed N Try.func5 (c := (bodyOf Try.f5)) (by kernel_rfl) laws_szCompS.sg (by kernel_rfl) (by kernel_rfl) (by kernel_rfl) (laws_szCompS.run N)

@[reducible] def laws_toValue.sg : Sg := { ms := [{ k := (.st 79) }], keep := [false], rs := [{ k := (.st 79) }] }
noncomputable def laws_toValue.A : Ann := { dp := fun d => isIn [] d, lp := look [], jn := look [], pins := [], nt := 14 }
noncomputable def laws_toValue.phis (N : Nat) : List (Nat × Sm D) := []
theorem laws_toValue.run (N : Nat) (x : ImplValue × Unit) : runF cx (look (laws_toValue.phis N)) laws_toValue.A N (bodyOf Try.f50) Try.f50.results.toList laws_toValue.sg x = laws_toValue N x.1 := by
  have h : runF cx (look (laws_toValue.phis N)) laws_toValue.A N (bodyOf Try.f50) Try.f50.results.toList laws_toValue.sg x = laws_toValue.B N x.1 := by kernel_rfl
  rw [h]
  try rfl
noncomputable def laws_toValue.sm (N : Nat) : Sm D := (⟨laws_toValue.sg, fun (x : ImplValue × Unit) => laws_toValue N x.1⟩ : Sm D)
theorem laws_toValue.sound (N : Nat) : Sound cx Try.prog gam 50 (laws_toValue.sm N) := fn_sound (A := laws_toValue.A) (Φ := (look (laws_toValue.phis N))) pok (G := gam) ΦOk.nil mixed N Try.func50 (c := (bodyOf Try.f50)) (by kernel_rfl) laws_toValue.sg (by kernel_rfl) (by kernel_rfl) (by kernel_rfl) (laws_toValue.run N)

@[reducible] def laws_toValueS.sg : Sg := { ms := [{ k := (.sl (.st 79)), fl := [none] }], keep := [false], rs := [{ k := (.sl (.st 79)), fl := [none] }], hold := true }
@[reducible] def laws_toValueS.lvL0 : Lv := { id := 0, slots := [0, 3, 4], ms := [{ k := (.sl (.st 79)), fl := [none] }, { k := (.sl (.st 79)), fl := [some (false, 620)] }, { k := (.int .i64) }] }
noncomputable def laws_toValueS.A : Ann := { dp := fun d => isIn [] d, lp := look [(0, laws_toValueS.lvL0)], jn := look [], pins := [], nt := 23 }
noncomputable def laws_toValueS.phis (N : Nat) : List (Nat × Sm D) := [(50, laws_toValue.sm N)]
noncomputable def laws_toValueS.a0 (N : Nat) (n : Nat) (y : (List (ImplValue)) × (List (ImplValue)) × Int × Unit) : Option ((List (ImplValue)) × Unit) := loopAt cx (look (laws_toValueS.phis N)) laws_toValueS.A N n (encL cx laws_toValueS.lvL0.ms y).1 (encL cx laws_toValueS.lvL0.ms y).2 (bodyOf Try.f28) 0 (Kfin cx laws_toValueS.A laws_toValueS.sg Try.f28.results.toList) [1, 1, 0, 1, 1] []
theorem laws_toValueS.r0 (N : Nat) : ∀ (n : Nat) (y : (List (ImplValue)) × (List (ImplValue)) × Int × Unit), laws_toValueS.a0 N n y = laws_toValueS.L0 N n y
  | 0, y => by kernel_rfl
  | n + 1, y => by
    have h : laws_toValueS.a0 N (n + 1) y = laws_toValueS.B0 N (fun z => laws_toValueS.a0 N n z) y := by kernel_rfl
    have e : (fun z => laws_toValueS.a0 N n z) = laws_toValueS.L0 N n := funext fun z => laws_toValueS.r0 N n z
    rw [h]
    try rw [e]
    first | done | rfl
theorem laws_toValueS.run (N : Nat) (x : (List (ImplValue)) × Unit) : runF cx (look (laws_toValueS.phis N)) laws_toValueS.A N (bodyOf Try.f28) Try.f28.results.toList laws_toValueS.sg x = laws_toValueS N x.1 := by
  have h : runF cx (look (laws_toValueS.phis N)) laws_toValueS.A N (bodyOf Try.f28) Try.f28.results.toList laws_toValueS.sg x = laws_toValueS.B N (fun z => laws_toValueS.a0 N N z) x.1 := by kernel_rfl
  have e0 : (fun z => laws_toValueS.a0 N N z) = laws_toValueS.L0 N N := funext fun z => laws_toValueS.r0 N N z
  rw [h, e0]
  try rfl
noncomputable def laws_toValueS.sm (N : Nat) : Sm D := (⟨laws_toValueS.sg, fun (x : (List (ImplValue)) × Unit) => laws_toValueS N x.1⟩ : Sm D)
theorem laws_toValueS.sound (N : Nat) : Sound cx Try.prog gam 28 (laws_toValueS.sm N) := fn_sound (A := laws_toValueS.A) (Φ := (look (laws_toValueS.phis N))) pok (G := gam) (ΦOk.cons (laws_toValue.sound N) (fnOk_of (f := 50) (by kernel_rfl)) ΦOk.nil) mixed N Try.func28 (c := (bodyOf Try.f28)) (by kernel_rfl) laws_toValueS.sg (by kernel_rfl) (by kernel_rfl) (by kernel_rfl) (laws_toValueS.run N)

@[reducible] def laws_toStep.sg : Sg := { ms := [{ k := (.st 112) }], keep := [false], rs := [{ k := (.st 116) }] }
noncomputable def laws_toStep.A : Ann := { dp := fun d => isIn [] d, lp := look [], jn := look [], pins := [], nt := 15 }
noncomputable def laws_toStep.phis (N : Nat) : List (Nat × Sm D) := [(50, laws_toValue.sm N)]
theorem laws_toStep.run (N : Nat) (x : LawsStep × Unit) : runF cx (look (laws_toStep.phis N)) laws_toStep.A N (bodyOf Try.f74) Try.f74.results.toList laws_toStep.sg x = laws_toStep N x.1 := by
  have h : runF cx (look (laws_toStep.phis N)) laws_toStep.A N (bodyOf Try.f74) Try.f74.results.toList laws_toStep.sg x = laws_toStep.B N x.1 := by kernel_rfl
  rw [h]
  try rfl
noncomputable def laws_toStep.sm (N : Nat) : Sm D := (⟨laws_toStep.sg, fun (x : LawsStep × Unit) => laws_toStep N x.1⟩ : Sm D)
theorem laws_toStep.sound (N : Nat) : Sound cx Try.prog gam 74 (laws_toStep.sm N) := fn_sound (A := laws_toStep.A) (Φ := (look (laws_toStep.phis N))) pok (G := gam) (ΦOk.cons (laws_toValue.sound N) (fnOk_of (f := 50) (by kernel_rfl)) ΦOk.nil) mixed N Try.func74 (c := (bodyOf Try.f74)) (by kernel_rfl) laws_toStep.sg (by kernel_rfl) (by kernel_rfl) (by kernel_rfl) (laws_toStep.run N)

@[reducible] def laws_toStepS.sg : Sg := { ms := [{ k := (.sl (.st 112)), fl := [none] }], keep := [false], rs := [{ k := (.sl (.st 116)), fl := [none] }], hold := true }
@[reducible] def laws_toStepS.lvL0 : Lv := { id := 0, slots := [0, 3, 4], ms := [{ k := (.sl (.st 112)), fl := [none] }, { k := (.sl (.st 116)), fl := [some (false, 620)] }, { k := (.int .i64) }] }
noncomputable def laws_toStepS.A : Ann := { dp := fun d => isIn [] d, lp := look [(0, laws_toStepS.lvL0)], jn := look [], pins := [], nt := 23 }
noncomputable def laws_toStepS.phis (N : Nat) : List (Nat × Sm D) := [(74, laws_toStep.sm N)]
noncomputable def laws_toStepS.a0 (N : Nat) (n : Nat) (y : (List (LawsStep)) × (List (ImplStep)) × Int × Unit) : Option ((List (ImplStep)) × Unit) := loopAt cx (look (laws_toStepS.phis N)) laws_toStepS.A N n (encL cx laws_toStepS.lvL0.ms y).1 (encL cx laws_toStepS.lvL0.ms y).2 (bodyOf Try.f54) 0 (Kfin cx laws_toStepS.A laws_toStepS.sg Try.f54.results.toList) [1, 1, 0, 1, 1] []
theorem laws_toStepS.r0 (N : Nat) : ∀ (n : Nat) (y : (List (LawsStep)) × (List (ImplStep)) × Int × Unit), laws_toStepS.a0 N n y = laws_toStepS.L0 N n y
  | 0, y => by kernel_rfl
  | n + 1, y => by
    have h : laws_toStepS.a0 N (n + 1) y = laws_toStepS.B0 N (fun z => laws_toStepS.a0 N n z) y := by kernel_rfl
    have e : (fun z => laws_toStepS.a0 N n z) = laws_toStepS.L0 N n := funext fun z => laws_toStepS.r0 N n z
    rw [h]
    try rw [e]
    first | done | rfl
theorem laws_toStepS.run (N : Nat) (x : (List (LawsStep)) × Unit) : runF cx (look (laws_toStepS.phis N)) laws_toStepS.A N (bodyOf Try.f54) Try.f54.results.toList laws_toStepS.sg x = laws_toStepS N x.1 := by
  have h : runF cx (look (laws_toStepS.phis N)) laws_toStepS.A N (bodyOf Try.f54) Try.f54.results.toList laws_toStepS.sg x = laws_toStepS.B N (fun z => laws_toStepS.a0 N N z) x.1 := by kernel_rfl
  have e0 : (fun z => laws_toStepS.a0 N N z) = laws_toStepS.L0 N N := funext fun z => laws_toStepS.r0 N N z
  rw [h, e0]
  try rfl
noncomputable def laws_toStepS.sm (N : Nat) : Sm D := (⟨laws_toStepS.sg, fun (x : (List (LawsStep)) × Unit) => laws_toStepS N x.1⟩ : Sm D)
theorem laws_toStepS.sound (N : Nat) : Sound cx Try.prog gam 54 (laws_toStepS.sm N) := fn_sound (A := laws_toStepS.A) (Φ := (look (laws_toStepS.phis N))) pok (G := gam) (ΦOk.cons (laws_toStep.sound N) (fnOk_of (f := 74) (by kernel_rfl)) ΦOk.nil) mixed N Try.func54 (c := (bodyOf Try.f54)) (by kernel_rfl) laws_toStepS.sg (by kernel_rfl) (by kernel_rfl) (by kernel_rfl) (laws_toStepS.run N)

@[reducible] def laws_toSet.sg : Sg := { ms := [{ k := (.st 109) }], keep := [false], rs := [{ k := (.st 68) }], hold := true }
noncomputable def laws_toSet.A : Ann := { dp := fun d => isIn [] d, lp := look [], jn := look [], pins := [], nt := 12 }
noncomputable def laws_toSet.phis (N : Nat) : List (Nat × Sm D) := [(54, laws_toStepS.sm N)]
theorem laws_toSet.run (N : Nat) (x : LawsSet × Unit) : runF cx (look (laws_toSet.phis N)) laws_toSet.A N (bodyOf Try.f73) Try.f73.results.toList laws_toSet.sg x = laws_toSet N x.1 := by
  have h : runF cx (look (laws_toSet.phis N)) laws_toSet.A N (bodyOf Try.f73) Try.f73.results.toList laws_toSet.sg x = laws_toSet.B N x.1 := by kernel_rfl
  rw [h]
  try rfl
noncomputable def laws_toSet.sm (N : Nat) : Sm D := (⟨laws_toSet.sg, fun (x : LawsSet × Unit) => laws_toSet N x.1⟩ : Sm D)
theorem laws_toSet.sound (N : Nat) : Sound cx Try.prog gam 73 (laws_toSet.sm N) := fn_sound (A := laws_toSet.A) (Φ := (look (laws_toSet.phis N))) pok (G := gam) (ΦOk.cons (laws_toStepS.sound N) (fnOk_of (f := 54) (by kernel_rfl)) ΦOk.nil) mixed N Try.func73 (c := (bodyOf Try.f73)) (by kernel_rfl) laws_toSet.sg (by kernel_rfl) (by kernel_rfl) (by kernel_rfl) (laws_toSet.run N)

@[reducible] def laws_toSetS.sg : Sg := { ms := [{ k := (.sl (.st 109)), fl := [none] }], keep := [false], rs := [{ k := (.sl (.st 68)), fl := [none] }], hold := true }
@[reducible] def laws_toSetS.lvL0 : Lv := { id := 0, slots := [0, 3, 4], ms := [{ k := (.sl (.st 109)), fl := [none] }, { k := (.sl (.st 68)), fl := [some (false, 620)] }, { k := (.int .i64) }] }
noncomputable def laws_toSetS.A : Ann := { dp := fun d => isIn [] d, lp := look [(0, laws_toSetS.lvL0)], jn := look [], pins := [], nt := 23 }
noncomputable def laws_toSetS.phis (N : Nat) : List (Nat × Sm D) := [(73, laws_toSet.sm N)]
noncomputable def laws_toSetS.a0 (N : Nat) (n : Nat) (y : (List (LawsSet)) × (List (ImplSet)) × Int × Unit) : Option ((List (ImplSet)) × Unit) := loopAt cx (look (laws_toSetS.phis N)) laws_toSetS.A N n (encL cx laws_toSetS.lvL0.ms y).1 (encL cx laws_toSetS.lvL0.ms y).2 (bodyOf Try.f51) 0 (Kfin cx laws_toSetS.A laws_toSetS.sg Try.f51.results.toList) [1, 1, 0, 1, 1] []
theorem laws_toSetS.r0 (N : Nat) : ∀ (n : Nat) (y : (List (LawsSet)) × (List (ImplSet)) × Int × Unit), laws_toSetS.a0 N n y = laws_toSetS.L0 N n y
  | 0, y => by kernel_rfl
  | n + 1, y => by
    have h : laws_toSetS.a0 N (n + 1) y = laws_toSetS.B0 N (fun z => laws_toSetS.a0 N n z) y := by kernel_rfl
    have e : (fun z => laws_toSetS.a0 N n z) = laws_toSetS.L0 N n := funext fun z => laws_toSetS.r0 N n z
    rw [h]
    try rw [e]
    first | done | rfl
theorem laws_toSetS.run (N : Nat) (x : (List (LawsSet)) × Unit) : runF cx (look (laws_toSetS.phis N)) laws_toSetS.A N (bodyOf Try.f51) Try.f51.results.toList laws_toSetS.sg x = laws_toSetS N x.1 := by
  have h : runF cx (look (laws_toSetS.phis N)) laws_toSetS.A N (bodyOf Try.f51) Try.f51.results.toList laws_toSetS.sg x = laws_toSetS.B N (fun z => laws_toSetS.a0 N N z) x.1 := by kernel_rfl
  have e0 : (fun z => laws_toSetS.a0 N N z) = laws_toSetS.L0 N N := funext fun z => laws_toSetS.r0 N N z
  rw [h, e0]
  try rfl
noncomputable def laws_toSetS.sm (N : Nat) : Sm D := (⟨laws_toSetS.sg, fun (x : (List (LawsSet)) × Unit) => laws_toSetS N x.1⟩ : Sm D)
theorem laws_toSetS.sound (N : Nat) : Sound cx Try.prog gam 51 (laws_toSetS.sm N) := fn_sound (A := laws_toSetS.A) (Φ := (look (laws_toSetS.phis N))) pok (G := gam) (ΦOk.cons (laws_toSet.sound N) (fnOk_of (f := 73) (by kernel_rfl)) ΦOk.nil) mixed N Try.func51 (c := (bodyOf Try.f51)) (by kernel_rfl) laws_toSetS.sg (by kernel_rfl) (by kernel_rfl) (by kernel_rfl) (laws_toSetS.run N)

@[reducible] def laws_toSetSS.sg : Sg := { ms := [{ k := (.sl (.sl (.st 109))), fl := [none] }], keep := [false], rs := [{ k := (.sl (.sl (.st 68))), fl := [none] }], hold := true }
@[reducible] def laws_toSetSS.lvL0 : Lv := { id := 0, slots := [0, 3, 4], ms := [{ k := (.sl (.sl (.st 109))), fl := [none] }, { k := (.sl (.sl (.st 68))), fl := [some (false, 620)] }, { k := (.int .i64) }] }
noncomputable def laws_toSetSS.A : Ann := { dp := fun d => isIn [] d, lp := look [(0, laws_toSetSS.lvL0)], jn := look [], pins := [], nt := 23 }
noncomputable def laws_toSetSS.phis (N : Nat) : List (Nat × Sm D) := [(51, laws_toSetS.sm N)]
noncomputable def laws_toSetSS.a0 (N : Nat) (n : Nat) (y : (List (List (LawsSet))) × (List (List (ImplSet))) × Int × Unit) : Option ((List (List (ImplSet))) × Unit) := loopAt cx (look (laws_toSetSS.phis N)) laws_toSetSS.A N n (encL cx laws_toSetSS.lvL0.ms y).1 (encL cx laws_toSetSS.lvL0.ms y).2 (bodyOf Try.f29) 0 (Kfin cx laws_toSetSS.A laws_toSetSS.sg Try.f29.results.toList) [1, 1, 0, 1, 1] []
theorem laws_toSetSS.r0 (N : Nat) : ∀ (n : Nat) (y : (List (List (LawsSet))) × (List (List (ImplSet))) × Int × Unit), laws_toSetSS.a0 N n y = laws_toSetSS.L0 N n y
  | 0, y => by kernel_rfl
  | n + 1, y => by
    have h : laws_toSetSS.a0 N (n + 1) y = laws_toSetSS.B0 N (fun z => laws_toSetSS.a0 N n z) y := by kernel_rfl
    have e : (fun z => laws_toSetSS.a0 N n z) = laws_toSetSS.L0 N n := funext fun z => laws_toSetSS.r0 N n z
    rw [h]
    try rw [e]
    first | done | rfl
theorem laws_toSetSS.run (N : Nat) (x : (List (List (LawsSet))) × Unit) : runF cx (look (laws_toSetSS.phis N)) laws_toSetSS.A N (bodyOf Try.f29) Try.f29.results.toList laws_toSetSS.sg x = laws_toSetSS N x.1 := by
  have h : runF cx (look (laws_toSetSS.phis N)) laws_toSetSS.A N (bodyOf Try.f29) Try.f29.results.toList laws_toSetSS.sg x = laws_toSetSS.B N (fun z => laws_toSetSS.a0 N N z) x.1 := by kernel_rfl
  have e0 : (fun z => laws_toSetSS.a0 N N z) = laws_toSetSS.L0 N N := funext fun z => laws_toSetSS.r0 N N z
  rw [h, e0]
  try rfl
noncomputable def laws_toSetSS.sm (N : Nat) : Sm D := (⟨laws_toSetSS.sg, fun (x : (List (List (LawsSet))) × Unit) => laws_toSetSS N x.1⟩ : Sm D)
theorem laws_toSetSS.sound (N : Nat) : Sound cx Try.prog gam 29 (laws_toSetSS.sm N) := fn_sound (A := laws_toSetSS.A) (Φ := (look (laws_toSetSS.phis N))) pok (G := gam) (ΦOk.cons (laws_toSetS.sound N) (fnOk_of (f := 51) (by kernel_rfl)) ΦOk.nil) mixed N Try.func29 (c := (bodyOf Try.f29)) (by kernel_rfl) laws_toSetSS.sg (by kernel_rfl) (by kernel_rfl) (by kernel_rfl) (laws_toSetSS.run N)

@[reducible] def laws_toIntS.sg : Sg := { ms := [{ k := (.sl (.int .i64)), fl := [none] }], keep := [false], rs := [{ k := (.sl (.int .i64)), fl := [none] }], hold := true }
@[reducible] def laws_toIntS.lvL0 : Lv := { id := 0, slots := [0, 3, 4], ms := [{ k := (.sl (.int .i64)), fl := [none] }, { k := (.sl (.int .i64)), fl := [some (false, 620)] }, { k := (.int .i64) }] }
noncomputable def laws_toIntS.A : Ann := { dp := fun d => isIn [] d, lp := look [(0, laws_toIntS.lvL0)], jn := look [], pins := [], nt := 22 }
noncomputable def laws_toIntS.phis (N : Nat) : List (Nat × Sm D) := []
noncomputable def laws_toIntS.a0 (N : Nat) (n : Nat) (y : (List (Int)) × (List (Int)) × Int × Unit) : Option ((List (Int)) × Unit) := loopAt cx (look (laws_toIntS.phis N)) laws_toIntS.A N n (encL cx laws_toIntS.lvL0.ms y).1 (encL cx laws_toIntS.lvL0.ms y).2 (bodyOf Try.f52) 0 (Kfin cx laws_toIntS.A laws_toIntS.sg Try.f52.results.toList) [1, 1, 0, 1, 1] []
theorem laws_toIntS.r0 (N : Nat) : ∀ (n : Nat) (y : (List (Int)) × (List (Int)) × Int × Unit), laws_toIntS.a0 N n y = laws_toIntS.L0 N n y
  | 0, y => by kernel_rfl
  | n + 1, y => by
    have h : laws_toIntS.a0 N (n + 1) y = laws_toIntS.B0 N (fun z => laws_toIntS.a0 N n z) y := by kernel_rfl
    have e : (fun z => laws_toIntS.a0 N n z) = laws_toIntS.L0 N n := funext fun z => laws_toIntS.r0 N n z
    rw [h]
    try rw [e]
    first | done | rfl
theorem laws_toIntS.run (N : Nat) (x : (List (Int)) × Unit) : runF cx (look (laws_toIntS.phis N)) laws_toIntS.A N (bodyOf Try.f52) Try.f52.results.toList laws_toIntS.sg x = laws_toIntS N x.1 := by
  have h : runF cx (look (laws_toIntS.phis N)) laws_toIntS.A N (bodyOf Try.f52) Try.f52.results.toList laws_toIntS.sg x = laws_toIntS.B N (fun z => laws_toIntS.a0 N N z) x.1 := by kernel_rfl
  have e0 : (fun z => laws_toIntS.a0 N N z) = laws_toIntS.L0 N N := funext fun z => laws_toIntS.r0 N N z
  rw [h, e0]
  try rfl
noncomputable def laws_toIntS.sm (N : Nat) : Sm D := (⟨laws_toIntS.sg, fun (x : (List (Int)) × Unit) => laws_toIntS N x.1⟩ : Sm D)
theorem laws_toIntS.sound (N : Nat) : Sound cx Try.prog gam 52 (laws_toIntS.sm N) := fn_sound (A := laws_toIntS.A) (Φ := (look (laws_toIntS.phis N))) pok (G := gam) ΦOk.nil mixed N Try.func52 (c := (bodyOf Try.f52)) (by kernel_rfl) laws_toIntS.sg (by kernel_rfl) (by kernel_rfl) (by kernel_rfl) (laws_toIntS.run N)

end
end Go.Ev
