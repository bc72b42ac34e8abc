/- Each function that the law reaches does what its plain form says; no condition beyond the table of the library. -/
import Derived.Test.YtnfjcakkolmbbaaDoorEvT1
set_option linter.all false
set_option linter.unusedVariables false
set_option linter.unusedSimpArgs false
set_option maxRecDepth 100000
set_option maxHeartbeats 0
namespace Go.Ev
noncomputable section
open Go.Proofs
@[reducible] def spec_validRule.sg : Sg := { ms := [{ k := (.st 50) }], keep := [false], rs := [{ k := .bool }] }
noncomputable def spec_validRule.A : Ann := { dp := fun d => isIn [] d, lp := look [], jn := look [], pins := [], nt := 42 }
noncomputable def spec_validRule.phis (N : Nat) : List (Nat × Sm D) := [(24, spec_inRange.sm N), (40, spec_validValue.sm N)]
theorem spec_validRule.run (N : Nat) (x : ImplRule × Unit) : runF cx (look (spec_validRule.phis N)) spec_validRule.A N (bodyOf Tryd.f34) Tryd.f34.results.toList spec_validRule.sg x = spec_validRule N x.1 := by
  have h : runF cx (look (spec_validRule.phis N)) spec_validRule.A N (bodyOf Tryd.f34) Tryd.f34.results.toList spec_validRule.sg x = spec_validRule.B N x.1 := by kernel_rfl
  rw [h]
  try rfl
noncomputable def spec_validRule.sm (N : Nat) : Sm D := (⟨spec_validRule.sg, fun (x : ImplRule × Unit) => spec_validRule N x.1⟩ : Sm D)
theorem spec_validRule.sound (N : Nat) : Sound cx Tryd.prog gam 34 (spec_validRule.sm N) := fn_sound (A := spec_validRule.A) (Φ := (look (spec_validRule.phis N))) pok (G := gam) (ΦOk.cons (spec_inRange.sound N) (fnOk_of (f := 24) (by kernel_rfl)) (ΦOk.cons (spec_validValue.sound N) (fnOk_of (f := 40) (by kernel_rfl)) ΦOk.nil)) mixed N Tryd.func34 (c := (bodyOf Tryd.f34)) (by kernel_rfl) spec_validRule.sg (by kernel_rfl) (by kernel_rfl) (by kernel_rfl) (spec_validRule.run N)

@[reducible] def spec_validRules.sg : Sg := { ms := [{ k := (.sl (.st 50)), fl := [none] }], keep := [false], rs := [{ k := .bool }] }
@[reducible] def spec_validRules.lvL0 : Lv := { id := 0, slots := [0, 3], ms := [{ k := (.sl (.st 50)), fl := [none] }, { k := (.int .i64) }] }
noncomputable def spec_validRules.A : Ann := { dp := fun d => isIn [] d, lp := look [(0, spec_validRules.lvL0)], jn := look [], pins := [], nt := 19 }
noncomputable def spec_validRules.phis (N : Nat) : List (Nat × Sm D) := [(34, spec_validRule.sm N)]
noncomputable def spec_validRules.a0 (N : Nat) (n : Nat) (y : (List (ImplRule)) × Int × Unit) : Option (Bool × Unit) := loopAt cx (look (spec_validRules.phis N)) spec_validRules.A N n (encL cx spec_validRules.lvL0.ms y).1 (encL cx spec_validRules.lvL0.ms y).2 (bodyOf Tryd.f17) 0 (Kfin cx spec_validRules.A spec_validRules.sg Tryd.f17.results.toList) [1, 1, 0, 1, 1] []
theorem spec_validRules.r0 (N : Nat) : ∀ (n : Nat) (y : (List (ImplRule)) × Int × Unit), spec_validRules.a0 N n y = spec_validRules.L0 N n y
  | 0, y => by kernel_rfl
  | n + 1, y => by
    have h : spec_validRules.a0 N (n + 1) y = spec_validRules.B0 N (fun z => spec_validRules.a0 N n z) y := by kernel_rfl
    have e : (fun z => spec_validRules.a0 N n z) = spec_validRules.L0 N n := funext fun z => spec_validRules.r0 N n z
    rw [h]
    try rw [e]
    first | done | rfl
theorem spec_validRules.run (N : Nat) (x : (List (ImplRule)) × Unit) : runF cx (look (spec_validRules.phis N)) spec_validRules.A N (bodyOf Tryd.f17) Tryd.f17.results.toList spec_validRules.sg x = spec_validRules N x.1 := by
  have h : runF cx (look (spec_validRules.phis N)) spec_validRules.A N (bodyOf Tryd.f17) Tryd.f17.results.toList spec_validRules.sg x = spec_validRules.B N (fun z => spec_validRules.a0 N N z) x.1 := by kernel_rfl
  have e0 : (fun z => spec_validRules.a0 N N z) = spec_validRules.L0 N N := funext fun z => spec_validRules.r0 N N z
  rw [h, e0]
  try rfl
noncomputable def spec_validRules.sm (N : Nat) : Sm D := (⟨spec_validRules.sg, fun (x : (List (ImplRule)) × Unit) => spec_validRules N x.1⟩ : Sm D)
theorem spec_validRules.sound (N : Nat) : Sound cx Tryd.prog gam 17 (spec_validRules.sm N) := fn_sound (A := spec_validRules.A) (Φ := (look (spec_validRules.phis N))) pok (G := gam) (ΦOk.cons (spec_validRule.sound N) (fnOk_of (f := 34) (by kernel_rfl)) ΦOk.nil) mixed N Tryd.func17 (c := (bodyOf Tryd.f17)) (by kernel_rfl) spec_validRules.sg (by kernel_rfl) (by kernel_rfl) (by kernel_rfl) (spec_validRules.run N)

@[reducible] def spec_textLooks.sg : Sg := { ms := [{ k := (.sl (.int .i64)), fl := [none] }], keep := [false], rs := [{ k := (.sl (.int .i64)), fl := [none] }], hold := true }
noncomputable def spec_textLooks.A : Ann := { dp := fun d => isIn [] d, lp := look [], jn := look [], pins := [], nt := 11 }
noncomputable def spec_textLooks.phis (N : Nat) : List (Nat × Sm D) := []
theorem spec_textLooks.run (N : Nat) (x : (List (Int)) × Unit) : runF cx (look (spec_textLooks.phis N)) spec_textLooks.A N (bodyOf Tryd.f44) Tryd.f44.results.toList spec_textLooks.sg x = spec_textLooks N x.1 := by
  have h : runF cx (look (spec_textLooks.phis N)) spec_textLooks.A N (bodyOf Tryd.f44) Tryd.f44.results.toList spec_textLooks.sg x = spec_textLooks.B N x.1 := by kernel_rfl
  rw [h]
  try rfl
noncomputable def spec_textLooks.sm (N : Nat) : Sm D := (⟨spec_textLooks.sg, fun (x : (List (Int)) × Unit) => spec_textLooks N x.1⟩ : Sm D)
theorem spec_textLooks.sound (N : Nat) : Sound cx Tryd.prog gam 44 (spec_textLooks.sm N) := fn_sound (A := spec_textLooks.A) (Φ := (look (spec_textLooks.phis N))) pok (G := gam) ΦOk.nil mixed N Tryd.func44 (c := (bodyOf Tryd.f44)) (by kernel_rfl) spec_textLooks.sg (by kernel_rfl) (by kernel_rfl) (by kernel_rfl) (spec_textLooks.run N)

@[reducible] def spec_hasInt.sg : Sg := { ms := [{ k := (.sl (.int .i64)), fl := [none] }, { k := (.int .i64) }], keep := [false, false], rs := [{ k := .bool }] }
@[reducible] def spec_hasInt.lvL0 : Lv := { id := 0, slots := [0, 1, 5], ms := [{ k := (.sl (.int .i64)), fl := [none] }, { k := (.int .i64) }, { k := (.int .i64) }] }
noncomputable def spec_hasInt.A : Ann := { dp := fun d => isIn [] d, lp := look [(0, spec_hasInt.lvL0)], jn := look [], pins := [], nt := 18 }
noncomputable def spec_hasInt.phis (N : Nat) : List (Nat × Sm D) := []
noncomputable def spec_hasInt.a0 (N : Nat) (n : Nat) (y : (List (Int)) × Int × Int × Unit) : Option (Bool × Unit) := loopAt cx (look (spec_hasInt.phis N)) spec_hasInt.A N n (encL cx spec_hasInt.lvL0.ms y).1 (encL cx spec_hasInt.lvL0.ms y).2 (bodyOf Tryd.f57) 0 (Kfin cx spec_hasInt.A spec_hasInt.sg Tryd.f57.results.toList) [1, 0, 1, 1] []
theorem spec_hasInt.r0 (N : Nat) : ∀ (n : Nat) (y : (List (Int)) × Int × Int × Unit), spec_hasInt.a0 N n y = spec_hasInt.L0 N n y
  | 0, y => by kernel_rfl
  | n + 1, y => by
    have h : spec_hasInt.a0 N (n + 1) y = spec_hasInt.B0 N (fun z => spec_hasInt.a0 N n z) y := by kernel_rfl
    have e : (fun z => spec_hasInt.a0 N n z) = spec_hasInt.L0 N n := funext fun z => spec_hasInt.r0 N n z
    rw [h]
    try rw [e]
    first | done | rfl
theorem spec_hasInt.run (N : Nat) (x : (List (Int)) × Int × Unit) : runF cx (look (spec_hasInt.phis N)) spec_hasInt.A N (bodyOf Tryd.f57) Tryd.f57.results.toList spec_hasInt.sg x = spec_hasInt N x.1 x.2.1 := by
  have h : runF cx (look (spec_hasInt.phis N)) spec_hasInt.A N (bodyOf Tryd.f57) Tryd.f57.results.toList spec_hasInt.sg x = spec_hasInt.B N (fun z => spec_hasInt.a0 N N z) x.1 x.2.1 := by kernel_rfl
  have e0 : (fun z => spec_hasInt.a0 N N z) = spec_hasInt.L0 N N := funext fun z => spec_hasInt.r0 N N z
  rw [h, e0]
  try rfl
noncomputable def spec_hasInt.sm (N : Nat) : Sm D := (⟨spec_hasInt.sg, fun (x : (List (Int)) × Int × Unit) => spec_hasInt N x.1 x.2.1⟩ : Sm D)
theorem spec_hasInt.sound (N : Nat) : Sound cx Tryd.prog gam 57 (spec_hasInt.sm N) := fn_sound (A := spec_hasInt.A) (Φ := (look (spec_hasInt.phis N))) pok (G := gam) ΦOk.nil mixed N Tryd.func57 (c := (bodyOf Tryd.f57)) (by kernel_rfl) spec_hasInt.sg (by kernel_rfl) (by kernel_rfl) (by kernel_rfl) (spec_hasInt.run N)

@[reducible] def spec_propAt.sg : Sg := { ms := [{ k := (.sl (.st 67)), fl := [none] }, { k := (.int .i64) }], keep := [false, false], rs := [{ k := (.int .i64) }] }
@[reducible] def spec_propAt.lvL0 : Lv := { id := 0, slots := [0, 1, 5], ms := [{ k := (.sl (.st 67)), fl := [none] }, { k := (.int .i64) }, { k := (.int .i64) }] }
noncomputable def spec_propAt.A : Ann := { dp := fun d => isIn [] d, lp := look [(0, spec_propAt.lvL0)], jn := look [], pins := [], nt := 20 }
noncomputable def spec_propAt.phis (N : Nat) : List (Nat × Sm D) := []
noncomputable def spec_propAt.a0 (N : Nat) (n : Nat) (y : (List (ImplProp)) × Int × Int × Unit) : Option (Int × Unit) := loopAt cx (look (spec_propAt.phis N)) spec_propAt.A N n (encL cx spec_propAt.lvL0.ms y).1 (encL cx spec_propAt.lvL0.ms y).2 (bodyOf Tryd.f58) 0 (Kfin cx spec_propAt.A spec_propAt.sg Tryd.f58.results.toList) [1, 0, 1, 1] []
theorem spec_propAt.r0 (N : Nat) : ∀ (n : Nat) (y : (List (ImplProp)) × Int × Int × Unit), spec_propAt.a0 N n y = spec_propAt.L0 N n y
  | 0, y => by kernel_rfl
  | n + 1, y => by
    have h : spec_propAt.a0 N (n + 1) y = spec_propAt.B0 N (fun z => spec_propAt.a0 N n z) y := by kernel_rfl
    have e : (fun z => spec_propAt.a0 N n z) = spec_propAt.L0 N n := funext fun z => spec_propAt.r0 N n z
    rw [h]
    try rw [e]
    first | done | rfl
theorem spec_propAt.run (N : Nat) (x : (List (ImplProp)) × Int × Unit) : runF cx (look (spec_propAt.phis N)) spec_propAt.A N (bodyOf Tryd.f58) Tryd.f58.results.toList spec_propAt.sg x = spec_propAt N x.1 x.2.1 := by
  have h : runF cx (look (spec_propAt.phis N)) spec_propAt.A N (bodyOf Tryd.f58) Tryd.f58.results.toList spec_propAt.sg x = spec_propAt.B N (fun z => spec_propAt.a0 N N z) x.1 x.2.1 := by kernel_rfl
  have e0 : (fun z => spec_propAt.a0 N N z) = spec_propAt.L0 N N := funext fun z => spec_propAt.r0 N N z
  rw [h, e0]
  try rfl
noncomputable def spec_propAt.sm (N : Nat) : Sm D := (⟨spec_propAt.sg, fun (x : (List (ImplProp)) × Int × Unit) => spec_propAt N x.1 x.2.1⟩ : Sm D)
theorem spec_propAt.sound (N : Nat) : Sound cx Tryd.prog gam 58 (spec_propAt.sm N) := fn_sound (A := spec_propAt.A) (Φ := (look (spec_propAt.phis N))) pok (G := gam) ΦOk.nil mixed N Tryd.func58 (c := (bodyOf Tryd.f58)) (by kernel_rfl) spec_propAt.sg (by kernel_rfl) (by kernel_rfl) (by kernel_rfl) (spec_propAt.run N)

@[reducible] def spec_meets.sg : Sg := { ms := [{ k := (.st 50) }, { k := (.st 25) }, { k := (.sl (.int .i64)), fl := [none] }], keep := [false, false, false], rs := [{ k := .bool }] }
noncomputable def spec_meets.A : Ann := { dp := fun d => isIn [] d, lp := look [], jn := look [], pins := [], nt := 51 }
noncomputable def spec_meets.phis (N : Nat) : List (Nat × Sm D) := [(57, spec_hasInt.sm N), (58, spec_propAt.sm N)]
theorem spec_meets.run (N : Nat) (x : ImplRule × ImplTree × (List (Int)) × Unit) : runF cx (look (spec_meets.phis N)) spec_meets.A N (bodyOf Tryd.f51) Tryd.f51.results.toList spec_meets.sg x = spec_meets N x.1 x.2.1 x.2.2.1 := by
  have h : runF cx (look (spec_meets.phis N)) spec_meets.A N (bodyOf Tryd.f51) Tryd.f51.results.toList spec_meets.sg x = spec_meets.B N x.1 x.2.1 x.2.2.1 := by kernel_rfl
  rw [h]
  try rfl
noncomputable def spec_meets.sm (N : Nat) : Sm D := (⟨spec_meets.sg, fun (x : ImplRule × ImplTree × (List (Int)) × Unit) => spec_meets N x.1 x.2.1 x.2.2.1⟩ : Sm D)
theorem spec_meets.sound (N : Nat) : Sound cx Tryd.prog gam 51 (spec_meets.sm N) := fn_sound (A := spec_meets.A) (Φ := (look (spec_meets.phis N))) pok (G := gam) (ΦOk.cons (spec_hasInt.sound N) (fnOk_of (f := 57) (by kernel_rfl)) (ΦOk.cons (spec_propAt.sound N) (fnOk_of (f := 58) (by kernel_rfl)) ΦOk.nil)) mixed N Tryd.func51 (c := (bodyOf Tryd.f51)) (by kernel_rfl) spec_meets.sg (by kernel_rfl) (by kernel_rfl) (by kernel_rfl) (spec_meets.run N)

@[reducible] def spec_weight.sg : Sg := { ms := [{ k := (.st 50) }], keep := [false], rs := [{ k := (.int .i64) }] }
@[reducible] def spec_weight.lvJ6 : Lv := { id := 6, slots := [1, 3], ms := [{ ptr := true, id := 600, t := 51, k := (.st 50), fl := [none, none, none, none, none, none, none, none] }, { k := (.int .i64) }] }
@[reducible] def spec_weight.lvJ4 : Lv := { id := 4, slots := [1, 3], ms := [{ ptr := true, id := 600, t := 51, k := (.st 50), fl := [none, none, none, none, none, none, none, none] }, { k := (.int .i64) }] }
noncomputable def spec_weight.A : Ann := { dp := fun d => isIn [] d, lp := look [], jn := look [(6, spec_weight.lvJ6), (4, spec_weight.lvJ4)], pins := [], nt := 20 }
noncomputable def spec_weight.phis (N : Nat) : List (Nat × Sm D) := []
theorem spec_weight.run (N : Nat) (x : ImplRule × Unit) : runF cx (look (spec_weight.phis N)) spec_weight.A N (bodyOf Tryd.f52) Tryd.f52.results.toList spec_weight.sg x = spec_weight N x.1 := by
  have h : runF cx (look (spec_weight.phis N)) spec_weight.A N (bodyOf Tryd.f52) Tryd.f52.results.toList spec_weight.sg x = spec_weight.B N x.1 := by kernel_rfl
  rw [h]
  try rfl
noncomputable def spec_weight.sm (N : Nat) : Sm D := (⟨spec_weight.sg, fun (x : ImplRule × Unit) => spec_weight N x.1⟩ : Sm D)
theorem spec_weight.sound (N : Nat) : Sound cx Tryd.prog gam 52 (spec_weight.sm N) := fn_sound (A := spec_weight.A) (Φ := (look (spec_weight.phis N))) pok (G := gam) ΦOk.nil mixed N Tryd.func52 (c := (bodyOf Tryd.f52)) (by kernel_rfl) spec_weight.sg (by kernel_rfl) (by kernel_rfl) (by kernel_rfl) (spec_weight.run N)

@[reducible] def spec_looks.sg : Sg := { ms := [{ k := (.sl (.st 50)), fl := [none] }, { k := (.st 25) }, { k := (.sl (.int .i64)), fl := [none] }, { k := (.sl (.int .i64)), fl := [none] }], keep := [false, false, false, false], rs := [{ k := (.sl (.int .i64)), fl := [none] }], hold := true }
@[reducible] def spec_looks.lvL0 : Lv := { id := 0, slots := [0, 2, 5, 9, 10, 11], ms := [{ k := (.sl (.st 50)), fl := [none] }, { k := (.sl (.int .i64)), fl := [none] }, { ptr := true, id := 640, t := 26, k := (.st 25), fl := [none, none, none, none, none] }, { k := (.sl (.int .i64)), fl := [some (false, 660)] }, { k := (.sl (.int .i64)), fl := [some (false, 680)] }, { k := (.int .i64) }] }
noncomputable def spec_looks.A : Ann := { dp := fun d => isIn [] d, lp := look [(0, spec_looks.lvL0)], jn := look [], pins := [], nt := 59 }
noncomputable def spec_looks.phis (N : Nat) : List (Nat × Sm D) := [(51, spec_meets.sm N), (52, spec_weight.sm N)]
noncomputable def spec_looks.a0 (N : Nat) (n : Nat) (y : (List (ImplRule)) × (List (Int)) × ImplTree × (List (Int)) × (List (Int)) × Int × Unit) : Option ((List (Int)) × Unit) := loopAt cx (look (spec_looks.phis N)) spec_looks.A N n (encL cx spec_looks.lvL0.ms y).1 (encL cx spec_looks.lvL0.ms y).2 (bodyOf Tryd.f45) 0 (Kfin cx spec_looks.A spec_looks.sg Tryd.f45.results.toList) [1, 1, 1, 1, 0, 1, 1] []
theorem spec_looks.r0 (N : Nat) : ∀ (n : Nat) (y : (List (ImplRule)) × (List (Int)) × ImplTree × (List (Int)) × (List (Int)) × Int × Unit), spec_looks.a0 N n y = spec_looks.L0 N n y
  | 0, y => by kernel_rfl
  | n + 1, y => by
    have h : spec_looks.a0 N (n + 1) y = spec_looks.B0 N (fun z => spec_looks.a0 N n z) y := by kernel_rfl
    have e : (fun z => spec_looks.a0 N n z) = spec_looks.L0 N n := funext fun z => spec_looks.r0 N n z
    rw [h]
    try rw [e]
    first | done | rfl
theorem spec_looks.run (N : Nat) (x : (List (ImplRule)) × ImplTree × (List (Int)) × (List (Int)) × Unit) : runF cx (look (spec_looks.phis N)) spec_looks.A N (bodyOf Tryd.f45) Tryd.f45.results.toList spec_looks.sg x = spec_looks N x.1 x.2.1 x.2.2.1 x.2.2.2.1 := by
  have h : runF cx (look (spec_looks.phis N)) spec_looks.A N (bodyOf Tryd.f45) Tryd.f45.results.toList spec_looks.sg x = spec_looks.B N (fun z => spec_looks.a0 N N z) x.1 x.2.1 x.2.2.1 x.2.2.2.1 := by kernel_rfl
  have e0 : (fun z => spec_looks.a0 N N z) = spec_looks.L0 N N := funext fun z => spec_looks.r0 N N z
  rw [h, e0]
  try rfl
noncomputable def spec_looks.sm (N : Nat) : Sm D := (⟨spec_looks.sg, fun (x : (List (ImplRule)) × ImplTree × (List (Int)) × (List (Int)) × Unit) => spec_looks N x.1 x.2.1 x.2.2.1 x.2.2.2.1⟩ : Sm D)
theorem spec_looks.sound (N : Nat) : Sound cx Tryd.prog gam 45 (spec_looks.sm N) := fn_sound (A := spec_looks.A) (Φ := (look (spec_looks.phis N))) pok (G := gam) (ΦOk.cons (spec_meets.sound N) (fnOk_of (f := 51) (by kernel_rfl)) (ΦOk.cons (spec_weight.sound N) (fnOk_of (f := 52) (by kernel_rfl)) ΦOk.nil)) mixed N Tryd.func45 (c := (bodyOf Tryd.f45)) (by kernel_rfl) spec_looks.sg (by kernel_rfl) (by kernel_rfl) (by kernel_rfl) (spec_looks.run N)

@[reducible] def spec_looksOf.sg : Sg := { ms := [{ k := (.sl (.st 50)), fl := [none] }, { k := (.st 25) }, { k := (.sl (.int .i64)), fl := [none] }, { k := (.sl (.int .i64)), fl := [none] }], keep := [false, false, false, false], rs := [{ k := (.sl (.int .i64)), fl := [none] }], hold := true }
noncomputable def spec_looksOf.A : Ann := { dp := fun d => isIn [] d, lp := look [], jn := look [], pins := [], nt := 19 }
noncomputable def spec_looksOf.phis (N : Nat) : List (Nat × Sm D) := [(44, spec_textLooks.sm N), (45, spec_looks.sm N)]
theorem spec_looksOf.run (N : Nat) (x : (List (ImplRule)) × ImplTree × (List (Int)) × (List (Int)) × Unit) : runF cx (look (spec_looksOf.phis N)) spec_looksOf.A N (bodyOf Tryd.f35) Tryd.f35.results.toList spec_looksOf.sg x = spec_looksOf N x.1 x.2.1 x.2.2.1 x.2.2.2.1 := by
  have h : runF cx (look (spec_looksOf.phis N)) spec_looksOf.A N (bodyOf Tryd.f35) Tryd.f35.results.toList spec_looksOf.sg x = spec_looksOf.B N x.1 x.2.1 x.2.2.1 x.2.2.2.1 := by kernel_rfl
  rw [h]
  try rfl
noncomputable def spec_looksOf.sm (N : Nat) : Sm D := (⟨spec_looksOf.sg, fun (x : (List (ImplRule)) × ImplTree × (List (Int)) × (List (Int)) × Unit) => spec_looksOf N x.1 x.2.1 x.2.2.1 x.2.2.2.1⟩ : Sm D)
theorem spec_looksOf.sound (N : Nat) : Sound cx Tryd.prog gam 35 (spec_looksOf.sm N) := fn_sound (A := spec_looksOf.A) (Φ := (look (spec_looksOf.phis N))) pok (G := gam) (ΦOk.cons (spec_textLooks.sound N) (fnOk_of (f := 44) (by kernel_rfl)) (ΦOk.cons (spec_looks.sound N) (fnOk_of (f := 45) (by kernel_rfl)) ΦOk.nil)) mixed N Tryd.func35 (c := (bodyOf Tryd.f35)) (by kernel_rfl) spec_looksOf.sg (by kernel_rfl) (by kernel_rfl) (by kernel_rfl) (spec_looksOf.run N)

@[reducible] def spec_allLooks.sg : Sg := { ms := [{ k := (.sl (.st 50)), fl := [none] }, { k := (.st 25) }, { k := (.sl (.int .i64)), fl := [none] }, { k := (.sl (.int .i64)), fl := [none] }, { k := (.sl (.sl (.int .i64))), fl := [some (false, 91)] }], keep := [false, false, false, false, false], rs := [{ k := (.sl (.sl (.int .i64))), fl := [some (false, 411)] }], hold := true }
@[reducible] def spec_allLooks.lvL0 : Lv := { id := 0, slots := [0, 2, 4, 6, 11, 12], ms := [{ k := (.sl (.st 50)), fl := [none] }, { k := (.sl (.int .i64)), fl := [none] }, { k := (.sl (.sl (.int .i64))), fl := [some (false, 640)] }, { ptr := true, id := 660, t := 26, k := (.st 25), fl := [none, none, none, none, none] }, { k := (.sl (.int .i64)), fl := [none] }, { k := (.int .i64) }] }
noncomputable def spec_allLooks.A : Ann := { dp := fun d => isIn [] d, lp := look [(0, spec_allLooks.lvL0)], jn := look [], pins := [], nt := 46 }
noncomputable def spec_allLooks.phis (N : Nat) (d : Nat) : List (Nat × Sm D) := [(35, spec_looksOf.sm N), (18, (⟨spec_allLooks.sg, fun (x : (List (ImplRule)) × ImplTree × (List (Int)) × (List (Int)) × (List (List (Int))) × Unit) => spec_allLooks.R N d x.1 x.2.1 x.2.2.1 x.2.2.2.1 x.2.2.2.2.1⟩ : Sm D))]
noncomputable def spec_allLooks.a0 (N : Nat) (d : Nat) (n : Nat) (y : (List (ImplRule)) × (List (Int)) × (List (List (Int))) × ImplTree × (List (Int)) × Int × Unit) : Option ((List (List (Int))) × Unit) := loopAt cx (look (spec_allLooks.phis N d)) spec_allLooks.A N n (encL cx spec_allLooks.lvL0.ms y).1 (encL cx spec_allLooks.lvL0.ms y).2 (bodyOf Tryd.f18) 0 (Kfin cx spec_allLooks.A spec_allLooks.sg Tryd.f18.results.toList) [1, 1, 1, 0, 1, 1] []
theorem spec_allLooks.r0 (N : Nat) (d : Nat) : ∀ (n : Nat) (y : (List (ImplRule)) × (List (Int)) × (List (List (Int))) × ImplTree × (List (Int)) × Int × Unit), spec_allLooks.a0 N d n y = spec_allLooks.L0 N (spec_allLooks.R N d) n y
  | 0, y => by kernel_rfl
  | n + 1, y => by
    have h : spec_allLooks.a0 N d (n + 1) y = spec_allLooks.B0 N (spec_allLooks.R N d) (fun z => spec_allLooks.a0 N d n z) y := by kernel_rfl
    have e : (fun z => spec_allLooks.a0 N d n z) = spec_allLooks.L0 N (spec_allLooks.R N d) n := funext fun z => spec_allLooks.r0 N d n z
    rw [h]
    try rw [e]
    first | done | rfl
theorem spec_allLooks.run (N : Nat) (d : Nat) (x : (List (ImplRule)) × ImplTree × (List (Int)) × (List (Int)) × (List (List (Int))) × Unit) : runF cx (look (spec_allLooks.phis N d)) spec_allLooks.A N (bodyOf Tryd.f18) Tryd.f18.results.toList spec_allLooks.sg x = spec_allLooks.R N (d + 1) x.1 x.2.1 x.2.2.1 x.2.2.2.1 x.2.2.2.2.1 := by
  have h : runF cx (look (spec_allLooks.phis N d)) spec_allLooks.A N (bodyOf Tryd.f18) Tryd.f18.results.toList spec_allLooks.sg x = spec_allLooks.B N (spec_allLooks.R N d) (fun z => spec_allLooks.a0 N d N z) x.1 x.2.1 x.2.2.1 x.2.2.2.1 x.2.2.2.2.1 := by kernel_rfl
  have e0 : (fun z => spec_allLooks.a0 N d N z) = spec_allLooks.L0 N (spec_allLooks.R N d) N := funext fun z => spec_allLooks.r0 N d N z
  rw [h, e0]
  try rfl
theorem spec_allLooks.step (N : Nat) (d : Nat) (h_spec_allLooks : Sound cx Tryd.prog gam 18 (⟨spec_allLooks.sg, fun (x : (List (ImplRule)) × ImplTree × (List (Int)) × (List (Int)) × (List (List (Int))) × Unit) => spec_allLooks.R N d x.1 x.2.1 x.2.2.1 x.2.2.2.1 x.2.2.2.2.1⟩ : Sm D)) : Sound cx Tryd.prog gam 18 (⟨spec_allLooks.sg, fun (x : (List (ImplRule)) × ImplTree × (List (Int)) × (List (Int)) × (List (List (Int))) × Unit) => spec_allLooks.R N (d + 1) x.1 x.2.1 x.2.2.1 x.2.2.2.1 x.2.2.2.2.1⟩ : Sm D) := fn_sound (A := spec_allLooks.A) (Φ := (look (spec_allLooks.phis N d))) pok (G := gam) (ΦOk.cons (spec_looksOf.sound N) (fnOk_of (f := 35) (by kernel_rfl)) (ΦOk.cons h_spec_allLooks (fnOk_of (f := 18) (by kernel_rfl)) ΦOk.nil)) mixed N Tryd.func18 (c := (bodyOf Tryd.f18)) (by kernel_rfl) spec_allLooks.sg (by kernel_rfl) (by kernel_rfl) (by kernel_rfl) (spec_allLooks.run N d)

theorem spec_allLooks.scc (N : Nat) : ∀ d, Sound cx Tryd.prog gam 18 (⟨spec_allLooks.sg, fun (x : (List (ImplRule)) × ImplTree × (List (Int)) × (List (Int)) × (List (List (Int))) × Unit) => spec_allLooks.R N d x.1 x.2.1 x.2.2.1 x.2.2.2.1 x.2.2.2.2.1⟩ : Sm D)
  | 0 => none_sound 18 spec_allLooks.sg
  | d + 1 => by
    have ih := spec_allLooks.scc N d
    exact spec_allLooks.step N d ih
noncomputable def spec_allLooks.sm (N : Nat) : Sm D := (⟨spec_allLooks.sg, fun (x : (List (ImplRule)) × ImplTree × (List (Int)) × (List (Int)) × (List (List (Int))) × Unit) => spec_allLooks.R N N x.1 x.2.1 x.2.2.1 x.2.2.2.1 x.2.2.2.2.1⟩ : Sm D)
theorem spec_allLooks.sound (N : Nat) : Sound cx Tryd.prog gam 18 (spec_allLooks.sm N) := (spec_allLooks.scc N N)
@[reducible] def spec_LooksAll.sg : Sg := { ms := [{ k := (.st 25) }, { k := (.sl (.st 50)), fl := [none] }], keep := [false, false], rs := [{ k := (.sl (.sl (.int .i64))), fl := [none] }], hold := true }
noncomputable def spec_LooksAll.A : Ann := { dp := fun d => isIn [] d, lp := look [], jn := look [], pins := [], nt := 19 }
noncomputable def spec_LooksAll.phis (N : Nat) : List (Nat × Sm D) := [(16, spec_validTree.sm N), (17, spec_validRules.sm N), (18, spec_allLooks.sm N)]
theorem spec_LooksAll.run (N : Nat) (x : ImplTree × (List (ImplRule)) × Unit) : runF cx (look (spec_LooksAll.phis N)) spec_LooksAll.A N (bodyOf Tryd.f6) Tryd.f6.results.toList spec_LooksAll.sg x = spec_LooksAll N x.1 x.2.1 := by
  have h : runF cx (look (spec_LooksAll.phis N)) spec_LooksAll.A N (bodyOf Tryd.f6) Tryd.f6.results.toList spec_LooksAll.sg x = spec_LooksAll.B N x.1 x.2.1 := by kernel_rfl
  rw [h]
  try rfl
noncomputable def spec_LooksAll.sm (N : Nat) : Sm D := (⟨spec_LooksAll.sg, fun (x : ImplTree × (List (ImplRule)) × Unit) => spec_LooksAll N x.1 x.2.1⟩ : Sm D)
theorem spec_LooksAll.sound (N : Nat) : Sound cx Tryd.prog gam 6 (spec_LooksAll.sm N) := fn_sound (A := spec_LooksAll.A) (Φ := (look (spec_LooksAll.phis N))) pok (G := gam) (ΦOk.cons (spec_validTree.sound N) (fnOk_of (f := 16) (by kernel_rfl)) (ΦOk.cons (spec_validRules.sound N) (fnOk_of (f := 17) (by kernel_rfl)) (ΦOk.cons (spec_allLooks.sound N) (fnOk_of (f := 18) (by kernel_rfl)) ΦOk.nil))) mixed N Tryd.func6 (c := (bodyOf Tryd.f6)) (by kernel_rfl) spec_LooksAll.sg (by kernel_rfl) (by kernel_rfl) (by kernel_rfl) (spec_LooksAll.run N)

@[reducible] def spec_SameInts.sg : Sg := { ms := [{ k := (.sl (.int .i64)), fl := [none] }, { k := (.sl (.int .i64)), fl := [none] }], keep := [false, false], rs := [{ k := .bool }] }
@[reducible] def spec_SameInts.lvL0 : Lv := { id := 0, slots := [0, 1, 5], ms := [{ k := (.sl (.int .i64)), fl := [none] }, { k := (.sl (.int .i64)), fl := [none] }, { k := (.int .i64) }] }
noncomputable def spec_SameInts.A : Ann := { dp := fun d => isIn [] d, lp := look [(0, spec_SameInts.lvL0)], jn := look [], pins := [], nt := 26 }
noncomputable def spec_SameInts.phis (N : Nat) : List (Nat × Sm D) := []
noncomputable def spec_SameInts.a0 (N : Nat) (n : Nat) (y : (List (Int)) × (List (Int)) × Int × Unit) : Option (Bool × Unit) := loopAt cx (look (spec_SameInts.phis N)) spec_SameInts.A N n (encL cx spec_SameInts.lvL0.ms y).1 (encL cx spec_SameInts.lvL0.ms y).2 (bodyOf Tryd.f19) 0 (Kfin cx spec_SameInts.A spec_SameInts.sg Tryd.f19.results.toList) [1, 1, 0, 1, 1] []
theorem spec_SameInts.r0 (N : Nat) : ∀ (n : Nat) (y : (List (Int)) × (List (Int)) × Int × Unit), spec_SameInts.a0 N n y = spec_SameInts.L0 N n y
  | 0, y => by kernel_rfl
  | n + 1, y => by
    have h : spec_SameInts.a0 N (n + 1) y = spec_SameInts.B0 N (fun z => spec_SameInts.a0 N n z) y := by kernel_rfl
    have e : (fun z => spec_SameInts.a0 N n z) = spec_SameInts.L0 N n := funext fun z => spec_SameInts.r0 N n z
    rw [h]
    try rw [e]
    first | done | rfl
theorem spec_SameInts.run (N : Nat) (x : (List (Int)) × (List (Int)) × Unit) : runF cx (look (spec_SameInts.phis N)) spec_SameInts.A N (bodyOf Tryd.f19) Tryd.f19.results.toList spec_SameInts.sg x = spec_SameInts N x.1 x.2.1 := by
  have h : runF cx (look (spec_SameInts.phis N)) spec_SameInts.A N (bodyOf Tryd.f19) Tryd.f19.results.toList spec_SameInts.sg x = spec_SameInts.B N (fun z => spec_SameInts.a0 N N z) x.1 x.2.1 := by kernel_rfl
  have e0 : (fun z => spec_SameInts.a0 N N z) = spec_SameInts.L0 N N := funext fun z => spec_SameInts.r0 N N z
  rw [h, e0]
  try rfl
noncomputable def spec_SameInts.sm (N : Nat) : Sm D := (⟨spec_SameInts.sg, fun (x : (List (Int)) × (List (Int)) × Unit) => spec_SameInts N x.1 x.2.1⟩ : Sm D)
theorem spec_SameInts.sound (N : Nat) : Sound cx Tryd.prog gam 19 (spec_SameInts.sm N) := fn_sound (A := spec_SameInts.A) (Φ := (look (spec_SameInts.phis N))) pok (G := gam) ΦOk.nil mixed N Tryd.func19 (c := (bodyOf Tryd.f19)) (by kernel_rfl) spec_SameInts.sg (by kernel_rfl) (by kernel_rfl) (by kernel_rfl) (spec_SameInts.run N)

@[reducible] def spec_SameRows.sg : Sg := { ms := [{ k := (.sl (.sl (.int .i64))), fl := [none] }, { k := (.sl (.sl (.int .i64))), fl := [none] }], keep := [false, false], rs := [{ k := .bool }] }
@[reducible] def spec_SameRows.lvL0 : Lv := { id := 0, slots := [0, 1, 5], ms := [{ k := (.sl (.sl (.int .i64))), fl := [none] }, { k := (.sl (.sl (.int .i64))), fl := [none] }, { k := (.int .i64) }] }
noncomputable def spec_SameRows.A : Ann := { dp := fun d => isIn [] d, lp := look [(0, spec_SameRows.lvL0)], jn := look [], pins := [], nt := 27 }
noncomputable def spec_SameRows.phis (N : Nat) : List (Nat × Sm D) := [(19, spec_SameInts.sm N)]
noncomputable def spec_SameRows.a0 (N : Nat) (n : Nat) (y : (List (List (Int))) × (List (List (Int))) × Int × Unit) : Option (Bool × Unit) := loopAt cx (look (spec_SameRows.phis N)) spec_SameRows.A N n (encL cx spec_SameRows.lvL0.ms y).1 (encL cx spec_SameRows.lvL0.ms y).2 (bodyOf Tryd.f7) 0 (Kfin cx spec_SameRows.A spec_SameRows.sg Tryd.f7.results.toList) [1, 1, 0, 1, 1] []
theorem spec_SameRows.r0 (N : Nat) : ∀ (n : Nat) (y : (List (List (Int))) × (List (List (Int))) × Int × Unit), spec_SameRows.a0 N n y = spec_SameRows.L0 N n y
  | 0, y => by kernel_rfl
  | n + 1, y => by
    have h : spec_SameRows.a0 N (n + 1) y = spec_SameRows.B0 N (fun z => spec_SameRows.a0 N n z) y := by kernel_rfl
    have e : (fun z => spec_SameRows.a0 N n z) = spec_SameRows.L0 N n := funext fun z => spec_SameRows.r0 N n z
    rw [h]
    try rw [e]
    first | done | rfl
theorem spec_SameRows.run (N : Nat) (x : (List (List (Int))) × (List (List (Int))) × Unit) : runF cx (look (spec_SameRows.phis N)) spec_SameRows.A N (bodyOf Tryd.f7) Tryd.f7.results.toList spec_SameRows.sg x = spec_SameRows N x.1 x.2.1 := by
  have h : runF cx (look (spec_SameRows.phis N)) spec_SameRows.A N (bodyOf Tryd.f7) Tryd.f7.results.toList spec_SameRows.sg x = spec_SameRows.B N (fun z => spec_SameRows.a0 N N z) x.1 x.2.1 := by kernel_rfl
  have e0 : (fun z => spec_SameRows.a0 N N z) = spec_SameRows.L0 N N := funext fun z => spec_SameRows.r0 N N z
  rw [h, e0]
  try rfl
noncomputable def spec_SameRows.sm (N : Nat) : Sm D := (⟨spec_SameRows.sg, fun (x : (List (List (Int))) × (List (List (Int))) × Unit) => spec_SameRows N x.1 x.2.1⟩ : Sm D)
theorem spec_SameRows.sound (N : Nat) : Sound cx Tryd.prog gam 7 (spec_SameRows.sm N) := fn_sound (A := spec_SameRows.A) (Φ := (look (spec_SameRows.phis N))) pok (G := gam) (ΦOk.cons (spec_SameInts.sound N) (fnOk_of (f := 19) (by kernel_rfl)) ΦOk.nil) mixed N Tryd.func7 (c := (bodyOf Tryd.f7)) (by kernel_rfl) spec_SameRows.sg (by kernel_rfl) (by kernel_rfl) (by kernel_rfl) (spec_SameRows.run N)

@[reducible] def impl_treeCount.sg : Sg := { ms := [{ k := (.st 25) }], keep := [false], rs := [{ k := (.int .i64) }] }
@[reducible] def impl_treeCount.lvL0 : Lv := { id := 0, slots := [3, 7, 8, 9], ms := [{ k := (.int .i64) }, { k := (.sl (.st 25)), fl := [none] }, { k := (.int .i64) }, { k := (.int .i64) }] }
noncomputable def impl_treeCount.A : Ann := { dp := fun d => isIn [] d, lp := look [(0, impl_treeCount.lvL0)], jn := look [], pins := [], nt := 19 }
noncomputable def impl_treeCount.phis (N : Nat) (d : Nat) : List (Nat × Sm D) := [(23, (⟨impl_treeCount.sg, fun (x : ImplTree × Unit) => impl_treeCount.R N d x.1⟩ : Sm D))]
noncomputable def impl_treeCount.a0 (N : Nat) (d : Nat) (n : Nat) (y : Int × (List (ImplTree)) × Int × Int × Unit) : Option (Int × Unit) := loopAt cx (look (impl_treeCount.phis N d)) impl_treeCount.A N n (encL cx impl_treeCount.lvL0.ms y).1 (encL cx impl_treeCount.lvL0.ms y).2 (bodyOf Tryd.f23) 0 (Kfin cx impl_treeCount.A impl_treeCount.sg Tryd.f23.results.toList) [1, 1, 0, 1, 1] []
theorem impl_treeCount.r0 (N : Nat) (d : Nat) : ∀ (n : Nat) (y : Int × (List (ImplTree)) × Int × Int × Unit), impl_treeCount.a0 N d n y = impl_treeCount.L0 N (impl_treeCount.R N d) n y
  | 0, y => by kernel_rfl
  | n + 1, y => by
    have h : impl_treeCount.a0 N d (n + 1) y = impl_treeCount.B0 N (impl_treeCount.R N d) (fun z => impl_treeCount.a0 N d n z) y := by kernel_rfl
    have e : (fun z => impl_treeCount.a0 N d n z) = impl_treeCount.L0 N (impl_treeCount.R N d) n := funext fun z => impl_treeCount.r0 N d n z
    rw [h]
    try rw [e]
    first | done | rfl
theorem impl_treeCount.run (N : Nat) (d : Nat) (x : ImplTree × Unit) : runF cx (look (impl_treeCount.phis N d)) impl_treeCount.A N (bodyOf Tryd.f23) Tryd.f23.results.toList impl_treeCount.sg x = impl_treeCount.R N (d + 1) x.1 := by
  have h : runF cx (look (impl_treeCount.phis N d)) impl_treeCount.A N (bodyOf Tryd.f23) Tryd.f23.results.toList impl_treeCount.sg x = impl_treeCount.B N (impl_treeCount.R N d) (fun z => impl_treeCount.a0 N d N z) x.1 := by kernel_rfl
  have e0 : (fun z => impl_treeCount.a0 N d N z) = impl_treeCount.L0 N (impl_treeCount.R N d) N := funext fun z => impl_treeCount.r0 N d N z
  rw [h, e0]
  try rfl
theorem impl_treeCount.step (N : Nat) (d : Nat) (h_impl_treeCount : Sound cx Tryd.prog gam 23 (⟨impl_treeCount.sg, fun (x : ImplTree × Unit) => impl_treeCount.R N d x.1⟩ : Sm D)) : Sound cx Tryd.prog gam 23 (⟨impl_treeCount.sg, fun (x : ImplTree × Unit) => impl_treeCount.R N (d + 1) x.1⟩ : Sm D) := fn_sound (A := impl_treeCount.A) (Φ := (look (impl_treeCount.phis N d))) pok (G := gam) (ΦOk.cons h_impl_treeCount (fnOk_of (f := 23) (by kernel_rfl)) ΦOk.nil) mixed N Tryd.func23 (c := (bodyOf Tryd.f23)) (by kernel_rfl) impl_treeCount.sg (by kernel_rfl) (by kernel_rfl) (by kernel_rfl) (impl_treeCount.run N d)

theorem impl_treeCount.scc (N : Nat) : ∀ d, Sound cx Tryd.prog gam 23 (⟨impl_treeCount.sg, fun (x : ImplTree × Unit) => impl_treeCount.R N d x.1⟩ : Sm D)
  | 0 => none_sound 23 impl_treeCount.sg
  | d + 1 => by
    have ih := impl_treeCount.scc N d
    exact impl_treeCount.step N d ih
noncomputable def impl_treeCount.sm (N : Nat) : Sm D := (⟨impl_treeCount.sg, fun (x : ImplTree × Unit) => impl_treeCount.R N N x.1⟩ : Sm D)
theorem impl_treeCount.sound (N : Nat) : Sound cx Tryd.prog gam 23 (impl_treeCount.sm N) := (impl_treeCount.scc N N)
@[reducible] def impl_TreeSize.sg : Sg := { ms := [{ k := (.st 25) }], keep := [false], rs := [{ k := (.int .i64) }] }
noncomputable def impl_TreeSize.A : Ann := { dp := fun d => isIn [] d, lp := look [], jn := look [], pins := [], nt := 8 }
noncomputable def impl_TreeSize.phis (N : Nat) : List (Nat × Sm D) := [(8, impl_TreeOk.sm N), (23, impl_treeCount.sm N)]
theorem impl_TreeSize.run (N : Nat) (x : ImplTree × Unit) : runF cx (look (impl_TreeSize.phis N)) impl_TreeSize.A N (bodyOf Tryd.f10) Tryd.f10.results.toList impl_TreeSize.sg x = impl_TreeSize N x.1 := by
  have h : runF cx (look (impl_TreeSize.phis N)) impl_TreeSize.A N (bodyOf Tryd.f10) Tryd.f10.results.toList impl_TreeSize.sg x = impl_TreeSize.B N x.1 := by kernel_rfl
  rw [h]
  try rfl
noncomputable def impl_TreeSize.sm (N : Nat) : Sm D := (⟨impl_TreeSize.sg, fun (x : ImplTree × Unit) => impl_TreeSize N x.1⟩ : Sm D)
theorem impl_TreeSize.sound (N : Nat) : Sound cx Tryd.prog gam 10 (impl_TreeSize.sm N) := fn_sound (A := impl_TreeSize.A) (Φ := (look (impl_TreeSize.phis N))) pok (G := gam) (ΦOk.cons (impl_TreeOk.sound N) (fnOk_of (f := 8) (by kernel_rfl)) (ΦOk.cons (impl_treeCount.sound N) (fnOk_of (f := 23) (by kernel_rfl)) ΦOk.nil)) mixed N Tryd.func10 (c := (bodyOf Tryd.f10)) (by kernel_rfl) impl_TreeSize.sg (by kernel_rfl) (by kernel_rfl) (by kernel_rfl) (impl_TreeSize.run N)

@[reducible] def spec_AllWithin.sg : Sg := { ms := [{ k := (.sl (.int .i64)), fl := [none] }, { k := (.int .i64) }, { k := (.int .i64) }], keep := [false, false, false], rs := [{ k := .bool }] }
@[reducible] def spec_AllWithin.lvL0 : Lv := { id := 0, slots := [0, 1, 2, 7], ms := [{ k := (.sl (.int .i64)), fl := [none] }, { k := (.int .i64) }, { k := (.int .i64) }, { k := (.int .i64) }] }
noncomputable def spec_AllWithin.A : Ann := { dp := fun d => isIn [] d, lp := look [(0, spec_AllWithin.lvL0)], jn := look [], pins := [], nt := 22 }
noncomputable def spec_AllWithin.phis (N : Nat) : List (Nat × Sm D) := [(24, spec_inRange.sm N)]
noncomputable def spec_AllWithin.a0 (N : Nat) (n : Nat) (y : (List (Int)) × Int × Int × Int × Unit) : Option (Bool × Unit) := loopAt cx (look (spec_AllWithin.phis N)) spec_AllWithin.A N n (encL cx spec_AllWithin.lvL0.ms y).1 (encL cx spec_AllWithin.lvL0.ms y).2 (bodyOf Tryd.f11) 0 (Kfin cx spec_AllWithin.A spec_AllWithin.sg Tryd.f11.results.toList) [1, 0, 1, 1] []
theorem spec_AllWithin.r0 (N : Nat) : ∀ (n : Nat) (y : (List (Int)) × Int × Int × Int × Unit), spec_AllWithin.a0 N n y = spec_AllWithin.L0 N n y
  | 0, y => by kernel_rfl
  | n + 1, y => by
    have h : spec_AllWithin.a0 N (n + 1) y = spec_AllWithin.B0 N (fun z => spec_AllWithin.a0 N n z) y := by kernel_rfl
    have e : (fun z => spec_AllWithin.a0 N n z) = spec_AllWithin.L0 N n := funext fun z => spec_AllWithin.r0 N n z
    rw [h]
    try rw [e]
    first | done | rfl
theorem spec_AllWithin.run (N : Nat) (x : (List (Int)) × Int × Int × Unit) : runF cx (look (spec_AllWithin.phis N)) spec_AllWithin.A N (bodyOf Tryd.f11) Tryd.f11.results.toList spec_AllWithin.sg x = spec_AllWithin N x.1 x.2.1 x.2.2.1 := by
  have h : runF cx (look (spec_AllWithin.phis N)) spec_AllWithin.A N (bodyOf Tryd.f11) Tryd.f11.results.toList spec_AllWithin.sg x = spec_AllWithin.B N (fun z => spec_AllWithin.a0 N N z) x.1 x.2.1 x.2.2.1 := by kernel_rfl
  have e0 : (fun z => spec_AllWithin.a0 N N z) = spec_AllWithin.L0 N N := funext fun z => spec_AllWithin.r0 N N z
  rw [h, e0]
  try rfl
noncomputable def spec_AllWithin.sm (N : Nat) : Sm D := (⟨spec_AllWithin.sg, fun (x : (List (Int)) × Int × Int × Unit) => spec_AllWithin N x.1 x.2.1 x.2.2.1⟩ : Sm D)
theorem spec_AllWithin.sound (N : Nat) : Sound cx Tryd.prog gam 11 (spec_AllWithin.sm N) := fn_sound (A := spec_AllWithin.A) (Φ := (look (spec_AllWithin.phis N))) pok (G := gam) (ΦOk.cons (spec_inRange.sound N) (fnOk_of (f := 24) (by kernel_rfl)) ΦOk.nil) mixed N Tryd.func11 (c := (bodyOf Tryd.f11)) (by kernel_rfl) spec_AllWithin.sg (by kernel_rfl) (by kernel_rfl) (by kernel_rfl) (spec_AllWithin.run N)

@[reducible] def laws_FnLooksAll.sg : Sg := { ms := [{ k := (.sl (.int .u8)), fl := [none] }], keep := [false], rs := [{ k := .bool }] }
@[reducible] def laws_FnLooksAll.lvL0 : Lv := { id := 0, slots := [5, 8, 9], ms := [{ k := (.sl (.sl (.int .i64))), fl := [none] }, { k := (.sl (.sl (.int .i64))), fl := [none] }, { k := (.int .i64) }] }
noncomputable def laws_FnLooksAll.A : Ann := { dp := fun d => isIn [] d, lp := look [(0, laws_FnLooksAll.lvL0)], jn := look [], pins := [], nt := 82 }
noncomputable def laws_FnLooksAll.phis (N : Nat) : List (Nat × Sm D) := [(4, spec_DrawLooksAll.sm N), (5, impl_LooksAll.sm N), (6, spec_LooksAll.sm N), (7, spec_SameRows.sm N), (8, impl_TreeOk.sm N), (9, impl_RulesOk.sm N), (10, impl_TreeSize.sm N), (11, spec_AllWithin.sm N)]
noncomputable def laws_FnLooksAll.a0 (N : Nat) (n : Nat) (y : (List (List (Int))) × (List (List (Int))) × Int × Unit) : Option (Bool × Unit) := loopAt cx (look (laws_FnLooksAll.phis N)) laws_FnLooksAll.A N n (encL cx laws_FnLooksAll.lvL0.ms y).1 (encL cx laws_FnLooksAll.lvL0.ms y).2 (bodyOf Tryd.f3) 0 (Kfin cx laws_FnLooksAll.A laws_FnLooksAll.sg Tryd.f3.results.toList) [1, 1, 1, 1, 1, 1, 1, 1, 1, 0, 1, 1] []
theorem laws_FnLooksAll.r0 (N : Nat) : ∀ (n : Nat) (y : (List (List (Int))) × (List (List (Int))) × Int × Unit), laws_FnLooksAll.a0 N n y = laws_FnLooksAll.L0 N n y
  | 0, y => by kernel_rfl
  | n + 1, y => by
    have h : laws_FnLooksAll.a0 N (n + 1) y = laws_FnLooksAll.B0 N (fun z => laws_FnLooksAll.a0 N n z) y := by kernel_rfl
    have e : (fun z => laws_FnLooksAll.a0 N n z) = laws_FnLooksAll.L0 N n := funext fun z => laws_FnLooksAll.r0 N n z
    rw [h]
    try rw [e]
    first | done | rfl
theorem laws_FnLooksAll.run (N : Nat) (x : (List (Int)) × Unit) : runF cx (look (laws_FnLooksAll.phis N)) laws_FnLooksAll.A N (bodyOf Tryd.f3) Tryd.f3.results.toList laws_FnLooksAll.sg x = laws_FnLooksAll N x.1 := by
  have h : runF cx (look (laws_FnLooksAll.phis N)) laws_FnLooksAll.A N (bodyOf Tryd.f3) Tryd.f3.results.toList laws_FnLooksAll.sg x = laws_FnLooksAll.B N (fun z => laws_FnLooksAll.a0 N N z) x.1 := by kernel_rfl
  have e0 : (fun z => laws_FnLooksAll.a0 N N z) = laws_FnLooksAll.L0 N N := funext fun z => laws_FnLooksAll.r0 N N z
  rw [h, e0]
  try rfl
noncomputable def laws_FnLooksAll.sm (N : Nat) : Sm D := (⟨laws_FnLooksAll.sg, fun (x : (List (Int)) × Unit) => laws_FnLooksAll N x.1⟩ : Sm D)
theorem laws_FnLooksAll.sound (N : Nat) : Sound cx Tryd.prog gam 3 (laws_FnLooksAll.sm N) := fn_sound (A := laws_FnLooksAll.A) (Φ := (look (laws_FnLooksAll.phis N))) pok (G := gam) (ΦOk.cons (spec_DrawLooksAll.sound N) (fnOk_of (f := 4) (by kernel_rfl)) (ΦOk.cons (impl_LooksAll.sound N) (fnOk_of (f := 5) (by kernel_rfl)) (ΦOk.cons (spec_LooksAll.sound N) (fnOk_of (f := 6) (by kernel_rfl)) (ΦOk.cons (spec_SameRows.sound N) (fnOk_of (f := 7) (by kernel_rfl)) (ΦOk.cons (impl_TreeOk.sound N) (fnOk_of (f := 8) (by kernel_rfl)) (ΦOk.cons (impl_RulesOk.sound N) (fnOk_of (f := 9) (by kernel_rfl)) (ΦOk.cons (impl_TreeSize.sound N) (fnOk_of (f := 10) (by kernel_rfl)) (ΦOk.cons (spec_AllWithin.sound N) (fnOk_of (f := 11) (by kernel_rfl)) ΦOk.nil)))))))) mixed N Tryd.func3 (c := (bodyOf Tryd.f3)) (by kernel_rfl) laws_FnLooksAll.sg (by kernel_rfl) (by kernel_rfl) (by kernel_rfl) (laws_FnLooksAll.run N)

end
end Go.Ev
