/- Each function that the law reaches does what its plain form says; no condition beyond the table of the library. -/
import Derived.Test.YtmaghpkolkkncaaEvT2
set_option linter.all false
set_option linter.unusedVariables false
set_option linter.unusedSimpArgs false
set_option maxRecDepth 100000
set_option maxHeartbeats 0
namespace Go.Ev
noncomputable section
open Go.Proofs
@[reducible] def impl_tmplSize.sg : Sg := { ms := [{ k := (.sl (.st 50)), fl := [none] }, { k := (.st 48) }], keep := [false, false], rs := [{ k := (.int .i64) }] }
@[reducible] def impl_tmplSize.lvL0 : Lv := { id := 0, slots := [0, 3, 5, 9, 10, 11], ms := [{ k := (.sl (.st 50)), fl := [none] }, { ptr := true, id := 620, t := 49, k := (.st 48), fl := [none, none, none, none, none, none, none] }, { k := (.int .i64) }, { k := (.sl (.st 48)), fl := [none] }, { k := (.int .i64) }, { k := (.int .i64) }] }
noncomputable def impl_tmplSize.A : Ann := { dp := fun d => isIn [] d, lp := look [(0, impl_tmplSize.lvL0)], jn := look [], pins := [], nt := 41 }
noncomputable def impl_tmplSize.phis (N : Nat) (d : Nat) : List (Nat × Sm D) := [(18, (⟨impl_tmplSize.sg, fun (x : (List (ImplComp)) × ImplTmpl × Unit) => impl_tmplSize.R N d x.1 x.2.1⟩ : Sm D))]
noncomputable def impl_tmplSize.a0 (N : Nat) (d : Nat) (n : Nat) (y : (List (ImplComp)) × ImplTmpl × Int × (List (ImplTmpl)) × Int × Int × Unit) : Option (Int × Unit) := loopAt cx (look (impl_tmplSize.phis N d)) impl_tmplSize.A N n (encL cx impl_tmplSize.lvL0.ms y).1 (encL cx impl_tmplSize.lvL0.ms y).2 (bodyOf Try.f18) 0 (Kfin cx impl_tmplSize.A impl_tmplSize.sg Try.f18.results.toList) [1, 1, 0, 1, 1] []
theorem impl_tmplSize.r0 (N : Nat) (d : Nat) : ∀ (n : Nat) (y : (List (ImplComp)) × ImplTmpl × Int × (List (ImplTmpl)) × Int × Int × Unit), impl_tmplSize.a0 N d n y = impl_tmplSize.L0 N (impl_tmplSize.R N d) n y
  | 0, y => by kernel_rfl
  | n + 1, y => by
    have h : impl_tmplSize.a0 N d (n + 1) y = impl_tmplSize.B0 N (impl_tmplSize.R N d) (fun z => impl_tmplSize.a0 N d n z) y := by kernel_rfl
    have e : (fun z => impl_tmplSize.a0 N d n z) = impl_tmplSize.L0 N (impl_tmplSize.R N d) n := funext fun z => impl_tmplSize.r0 N d n z
    rw [h]
    try rw [e]
    first | done | rfl
theorem impl_tmplSize.run (N : Nat) (d : Nat) (x : (List (ImplComp)) × ImplTmpl × Unit) : runF cx (look (impl_tmplSize.phis N d)) impl_tmplSize.A N (bodyOf Try.f18) Try.f18.results.toList impl_tmplSize.sg x = impl_tmplSize.R N (d + 1) x.1 x.2.1 := by
  have h : runF cx (look (impl_tmplSize.phis N d)) impl_tmplSize.A N (bodyOf Try.f18) Try.f18.results.toList impl_tmplSize.sg x = impl_tmplSize.B N (impl_tmplSize.R N d) (fun z => impl_tmplSize.a0 N d N z) x.1 x.2.1 := by kernel_rfl
  have e0 : (fun z => impl_tmplSize.a0 N d N z) = impl_tmplSize.L0 N (impl_tmplSize.R N d) N := funext fun z => impl_tmplSize.r0 N d N z
  rw [h, e0]
  try rfl
theorem impl_tmplSize.step (N : Nat) (d : Nat) (h_impl_tmplSize : Sound cx Try.prog gam 18 (⟨impl_tmplSize.sg, fun (x : (List (ImplComp)) × ImplTmpl × Unit) => impl_tmplSize.R N d x.1 x.2.1⟩ : Sm D)) : Sound cx Try.prog gam 18 (⟨impl_tmplSize.sg, fun (x : (List (ImplComp)) × ImplTmpl × Unit) => impl_tmplSize.R N (d + 1) x.1 x.2.1⟩ : Sm D) := fn_sound (A := impl_tmplSize.A) (Φ := (look (impl_tmplSize.phis N d))) pok (G := gam) (ΦOk.cons h_impl_tmplSize (fnOk_of (f := 18) (by kernel_rfl)) ΦOk.nil) mixed N Try.func18 (c := (bodyOf Try.f18)) (by kernel_rfl) impl_tmplSize.sg (by kernel_rfl) (by kernel_rfl) (by kernel_rfl) (impl_tmplSize.run N d)

theorem impl_tmplSize.scc (N : Nat) : ∀ d, Sound cx Try.prog gam 18 (⟨impl_tmplSize.sg, fun (x : (List (ImplComp)) × ImplTmpl × Unit) => impl_tmplSize.R N d x.1 x.2.1⟩ : Sm D)
  | 0 => none_sound 18 impl_tmplSize.sg
  | d + 1 => by
    have ih := impl_tmplSize.scc N d
    exact impl_tmplSize.step N d ih
noncomputable def impl_tmplSize.sm (N : Nat) : Sm D := (⟨impl_tmplSize.sg, fun (x : (List (ImplComp)) × ImplTmpl × Unit) => impl_tmplSize.R N N x.1 x.2.1⟩ : Sm D)
theorem impl_tmplSize.sound (N : Nat) : Sound cx Try.prog gam 18 (impl_tmplSize.sm N) := (impl_tmplSize.scc N N)
@[reducible] def impl_ProgOk.sg : Sg := { ms := [{ k := (.sl (.st 50)), fl := [none] }], keep := [false], rs := [{ k := .bool }] }
@[reducible] def impl_ProgOk.lvL2 : Lv := { id := 2, slots := [0, 27, 28], ms := [{ k := (.sl (.st 50)), fl := [none] }, { k := (.int .i64) }, { k := (.int .i64) }] }
@[reducible] def impl_ProgOk.lvL0 : Lv := { id := 0, slots := [0, 17, 18], ms := [{ k := (.sl (.st 50)), fl := [none] }, { k := (.int .i64) }, { k := (.int .i64) }] }
noncomputable def impl_ProgOk.A : Ann := { dp := fun d => isIn [] d, lp := look [(2, impl_ProgOk.lvL2), (0, impl_ProgOk.lvL0)], jn := look [], pins := [], nt := 48 }
noncomputable def impl_ProgOk.phis (N : Nat) : List (Nat × Sm D) := [(15, impl_within.sm N), (16, impl_compOk.sm N), (17, impl_tmplOk.sm N), (18, impl_tmplSize.sm N)]
noncomputable def impl_ProgOk.a2 (N : Nat) (n : Nat) (y : (List (ImplComp)) × Int × Int × Unit) : Option (Bool × Unit) := loopAt cx (look (impl_ProgOk.phis N)) impl_ProgOk.A N n (encL cx impl_ProgOk.lvL2.ms y).1 (encL cx impl_ProgOk.lvL2.ms y).2 (bodyOf Try.f8) 0 (Kfin cx impl_ProgOk.A impl_ProgOk.sg Try.f8.results.toList) [1, 1, 1, 0, 1, 1] []
noncomputable def impl_ProgOk.a0 (N : Nat) (n : Nat) (y : (List (ImplComp)) × Int × Int × Unit) : Option (Bool × Unit) := loopAt cx (look (impl_ProgOk.phis N)) impl_ProgOk.A N n (encL cx impl_ProgOk.lvL0.ms y).1 (encL cx impl_ProgOk.lvL0.ms y).2 (bodyOf Try.f8) 0 (Kfin cx impl_ProgOk.A impl_ProgOk.sg Try.f8.results.toList) [1, 1, 0, 1, 1] []
theorem impl_ProgOk.r2 (N : Nat) : ∀ (n : Nat) (y : (List (ImplComp)) × Int × Int × Unit), impl_ProgOk.a2 N n y = impl_ProgOk.L2 N n y
  | 0, y => by kernel_rfl
  | n + 1, y => by
    have h : impl_ProgOk.a2 N (n + 1) y = impl_ProgOk.B2 N (fun z => impl_ProgOk.a2 N n z) y := by kernel_rfl
    have e : (fun z => impl_ProgOk.a2 N n z) = impl_ProgOk.L2 N n := funext fun z => impl_ProgOk.r2 N n z
    rw [h]
    try rw [e]
    first | done | rfl
theorem impl_ProgOk.r0 (N : Nat) : ∀ (n : Nat) (y : (List (ImplComp)) × Int × Int × Unit), impl_ProgOk.a0 N n y = impl_ProgOk.L0 N n y
  | 0, y => by kernel_rfl
  | n + 1, y => by
    have h : impl_ProgOk.a0 N (n + 1) y = impl_ProgOk.B0 N (fun z => impl_ProgOk.a0 N n z) (fun z => impl_ProgOk.a2 N N z) y := by kernel_rfl
    have e : (fun z => impl_ProgOk.a0 N n z) = impl_ProgOk.L0 N n := funext fun z => impl_ProgOk.r0 N n z
    have e2 : (fun z => impl_ProgOk.a2 N N z) = impl_ProgOk.L2 N N := funext fun z => impl_ProgOk.r2 N N z
    rw [h, e2]
    try rw [e]
    first | done | rfl
theorem impl_ProgOk.run (N : Nat) (x : (List (ImplComp)) × Unit) : runF cx (look (impl_ProgOk.phis N)) impl_ProgOk.A N (bodyOf Try.f8) Try.f8.results.toList impl_ProgOk.sg x = impl_ProgOk N x.1 := by
  have h : runF cx (look (impl_ProgOk.phis N)) impl_ProgOk.A N (bodyOf Try.f8) Try.f8.results.toList impl_ProgOk.sg x = impl_ProgOk.B N (fun z => impl_ProgOk.a0 N N z) x.1 := by kernel_rfl
  have e0 : (fun z => impl_ProgOk.a0 N N z) = impl_ProgOk.L0 N N := funext fun z => impl_ProgOk.r0 N N z
  rw [h, e0]
  try rfl
noncomputable def impl_ProgOk.sm (N : Nat) : Sm D := (⟨impl_ProgOk.sg, fun (x : (List (ImplComp)) × Unit) => impl_ProgOk N x.1⟩ : Sm D)
theorem impl_ProgOk.sound (N : Nat) : Sound cx Try.prog gam 8 (impl_ProgOk.sm N) := fn_sound (A := impl_ProgOk.A) (Φ := (look (impl_ProgOk.phis N))) pok (G := gam) (ΦOk.cons (impl_within.sound N) (fnOk_of (f := 15) (by kernel_rfl)) (ΦOk.cons (impl_compOk.sound N) (fnOk_of (f := 16) (by kernel_rfl)) (ΦOk.cons (impl_tmplOk.sound N) (fnOk_of (f := 17) (by kernel_rfl)) (ΦOk.cons (impl_tmplSize.sound N) (fnOk_of (f := 18) (by kernel_rfl)) ΦOk.nil)))) mixed N Try.func8 (c := (bodyOf Try.f8)) (by kernel_rfl) impl_ProgOk.sg (by kernel_rfl) (by kernel_rfl) (by kernel_rfl) (impl_ProgOk.run N)

@[reducible] def laws_eqValue.sg : Sg := { ms := [{ k := (.st 79) }, { k := (.st 79) }], keep := [false, false], rs := [{ k := .bool }] }
noncomputable def laws_eqValue.A : Ann := { dp := fun d => isIn [] d, lp := look [], jn := look [], pins := [], nt := 20 }
noncomputable def laws_eqValue.phis (N : Nat) : List (Nat × Sm D) := []
theorem laws_eqValue.run (N : Nat) (x : ImplValue × ImplValue × Unit) : runF cx (look (laws_eqValue.phis N)) laws_eqValue.A N (bodyOf Try.f59) Try.f59.results.toList laws_eqValue.sg x = laws_eqValue N x.1 x.2.1 := by
  have h : runF cx (look (laws_eqValue.phis N)) laws_eqValue.A N (bodyOf Try.f59) Try.f59.results.toList laws_eqValue.sg x = laws_eqValue.B N x.1 x.2.1 := by kernel_rfl
  rw [h]
  try rfl
noncomputable def laws_eqValue.sm (N : Nat) : Sm D := (⟨laws_eqValue.sg, fun (x : ImplValue × ImplValue × Unit) => laws_eqValue N x.1 x.2.1⟩ : Sm D)
theorem laws_eqValue.sound (N : Nat) : Sound cx Try.prog gam 59 (laws_eqValue.sm N) := fn_sound (A := laws_eqValue.A) (Φ := (look (laws_eqValue.phis N))) pok (G := gam) ΦOk.nil mixed N Try.func59 (c := (bodyOf Try.f59)) (by kernel_rfl) laws_eqValue.sg (by kernel_rfl) (by kernel_rfl) (by kernel_rfl) (laws_eqValue.run N)

@[reducible] def laws_eqValueS.sg : Sg := { ms := [{ k := (.sl (.st 79)), fl := [none] }, { k := (.sl (.st 79)), fl := [none] }], keep := [false, false], rs := [{ k := .bool }] }
@[reducible] def laws_eqValueS.lvL0 : Lv := { id := 0, slots := [0, 1, 5], ms := [{ k := (.sl (.st 79)), fl := [none] }, { k := (.sl (.st 79)), fl := [none] }, { k := (.int .i64) }] }
noncomputable def laws_eqValueS.A : Ann := { dp := fun d => isIn [] d, lp := look [(0, laws_eqValueS.lvL0)], jn := look [], pins := [], nt := 27 }
noncomputable def laws_eqValueS.phis (N : Nat) : List (Nat × Sm D) := [(59, laws_eqValue.sm N)]
noncomputable def laws_eqValueS.a0 (N : Nat) (n : Nat) (y : (List (ImplValue)) × (List (ImplValue)) × Int × Unit) : Option (Bool × Unit) := loopAt cx (look (laws_eqValueS.phis N)) laws_eqValueS.A N n (encL cx laws_eqValueS.lvL0.ms y).1 (encL cx laws_eqValueS.lvL0.ms y).2 (bodyOf Try.f34) 0 (Kfin cx laws_eqValueS.A laws_eqValueS.sg Try.f34.results.toList) [1, 1, 0, 1, 1] []
theorem laws_eqValueS.r0 (N : Nat) : ∀ (n : Nat) (y : (List (ImplValue)) × (List (ImplValue)) × Int × Unit), laws_eqValueS.a0 N n y = laws_eqValueS.L0 N n y
  | 0, y => by kernel_rfl
  | n + 1, y => by
    have h : laws_eqValueS.a0 N (n + 1) y = laws_eqValueS.B0 N (fun z => laws_eqValueS.a0 N n z) y := by kernel_rfl
    have e : (fun z => laws_eqValueS.a0 N n z) = laws_eqValueS.L0 N n := funext fun z => laws_eqValueS.r0 N n z
    rw [h]
    try rw [e]
    first | done | rfl
theorem laws_eqValueS.run (N : Nat) (x : (List (ImplValue)) × (List (ImplValue)) × Unit) : runF cx (look (laws_eqValueS.phis N)) laws_eqValueS.A N (bodyOf Try.f34) Try.f34.results.toList laws_eqValueS.sg x = laws_eqValueS N x.1 x.2.1 := by
  have h : runF cx (look (laws_eqValueS.phis N)) laws_eqValueS.A N (bodyOf Try.f34) Try.f34.results.toList laws_eqValueS.sg x = laws_eqValueS.B N (fun z => laws_eqValueS.a0 N N z) x.1 x.2.1 := by kernel_rfl
  have e0 : (fun z => laws_eqValueS.a0 N N z) = laws_eqValueS.L0 N N := funext fun z => laws_eqValueS.r0 N N z
  rw [h, e0]
  try rfl
noncomputable def laws_eqValueS.sm (N : Nat) : Sm D := (⟨laws_eqValueS.sg, fun (x : (List (ImplValue)) × (List (ImplValue)) × Unit) => laws_eqValueS N x.1 x.2.1⟩ : Sm D)
theorem laws_eqValueS.sound (N : Nat) : Sound cx Try.prog gam 34 (laws_eqValueS.sm N) := fn_sound (A := laws_eqValueS.A) (Φ := (look (laws_eqValueS.phis N))) pok (G := gam) (ΦOk.cons (laws_eqValue.sound N) (fnOk_of (f := 59) (by kernel_rfl)) ΦOk.nil) mixed N Try.func34 (c := (bodyOf Try.f34)) (by kernel_rfl) laws_eqValueS.sg (by kernel_rfl) (by kernel_rfl) (by kernel_rfl) (laws_eqValueS.run N)

@[reducible] def laws_eqStep.sg : Sg := { ms := [{ k := (.st 116) }, { k := (.st 116) }], keep := [false, false], rs := [{ k := .bool }] }
noncomputable def laws_eqStep.A : Ann := { dp := fun d => isIn [] d, lp := look [], jn := look [], pins := [], nt := 21 }
noncomputable def laws_eqStep.phis (N : Nat) : List (Nat × Sm D) := [(59, laws_eqValue.sm N)]
theorem laws_eqStep.run (N : Nat) (x : ImplStep × ImplStep × Unit) : runF cx (look (laws_eqStep.phis N)) laws_eqStep.A N (bodyOf Try.f78) Try.f78.results.toList laws_eqStep.sg x = laws_eqStep N x.1 x.2.1 := by
  have h : runF cx (look (laws_eqStep.phis N)) laws_eqStep.A N (bodyOf Try.f78) Try.f78.results.toList laws_eqStep.sg x = laws_eqStep.B N x.1 x.2.1 := by kernel_rfl
  rw [h]
  try rfl
noncomputable def laws_eqStep.sm (N : Nat) : Sm D := (⟨laws_eqStep.sg, fun (x : ImplStep × ImplStep × Unit) => laws_eqStep N x.1 x.2.1⟩ : Sm D)
theorem laws_eqStep.sound (N : Nat) : Sound cx Try.prog gam 78 (laws_eqStep.sm N) := fn_sound (A := laws_eqStep.A) (Φ := (look (laws_eqStep.phis N))) pok (G := gam) (ΦOk.cons (laws_eqValue.sound N) (fnOk_of (f := 59) (by kernel_rfl)) ΦOk.nil) mixed N Try.func78 (c := (bodyOf Try.f78)) (by kernel_rfl) laws_eqStep.sg (by kernel_rfl) (by kernel_rfl) (by kernel_rfl) (laws_eqStep.run N)

@[reducible] def laws_eqStepS.sg : Sg := { ms := [{ k := (.sl (.st 116)), fl := [none] }, { k := (.sl (.st 116)), fl := [none] }], keep := [false, false], rs := [{ k := .bool }] }
@[reducible] def laws_eqStepS.lvL0 : Lv := { id := 0, slots := [0, 1, 5], ms := [{ k := (.sl (.st 116)), fl := [none] }, { k := (.sl (.st 116)), fl := [none] }, { k := (.int .i64) }] }
noncomputable def laws_eqStepS.A : Ann := { dp := fun d => isIn [] d, lp := look [(0, laws_eqStepS.lvL0)], jn := look [], pins := [], nt := 27 }
noncomputable def laws_eqStepS.phis (N : Nat) : List (Nat × Sm D) := [(78, laws_eqStep.sm N)]
noncomputable def laws_eqStepS.a0 (N : Nat) (n : Nat) (y : (List (ImplStep)) × (List (ImplStep)) × Int × Unit) : Option (Bool × Unit) := loopAt cx (look (laws_eqStepS.phis N)) laws_eqStepS.A N n (encL cx laws_eqStepS.lvL0.ms y).1 (encL cx laws_eqStepS.lvL0.ms y).2 (bodyOf Try.f63) 0 (Kfin cx laws_eqStepS.A laws_eqStepS.sg Try.f63.results.toList) [1, 1, 0, 1, 1] []
theorem laws_eqStepS.r0 (N : Nat) : ∀ (n : Nat) (y : (List (ImplStep)) × (List (ImplStep)) × Int × Unit), laws_eqStepS.a0 N n y = laws_eqStepS.L0 N n y
  | 0, y => by kernel_rfl
  | n + 1, y => by
    have h : laws_eqStepS.a0 N (n + 1) y = laws_eqStepS.B0 N (fun z => laws_eqStepS.a0 N n z) y := by kernel_rfl
    have e : (fun z => laws_eqStepS.a0 N n z) = laws_eqStepS.L0 N n := funext fun z => laws_eqStepS.r0 N n z
    rw [h]
    try rw [e]
    first | done | rfl
theorem laws_eqStepS.run (N : Nat) (x : (List (ImplStep)) × (List (ImplStep)) × Unit) : runF cx (look (laws_eqStepS.phis N)) laws_eqStepS.A N (bodyOf Try.f63) Try.f63.results.toList laws_eqStepS.sg x = laws_eqStepS N x.1 x.2.1 := by
  have h : runF cx (look (laws_eqStepS.phis N)) laws_eqStepS.A N (bodyOf Try.f63) Try.f63.results.toList laws_eqStepS.sg x = laws_eqStepS.B N (fun z => laws_eqStepS.a0 N N z) x.1 x.2.1 := by kernel_rfl
  have e0 : (fun z => laws_eqStepS.a0 N N z) = laws_eqStepS.L0 N N := funext fun z => laws_eqStepS.r0 N N z
  rw [h, e0]
  try rfl
noncomputable def laws_eqStepS.sm (N : Nat) : Sm D := (⟨laws_eqStepS.sg, fun (x : (List (ImplStep)) × (List (ImplStep)) × Unit) => laws_eqStepS N x.1 x.2.1⟩ : Sm D)
theorem laws_eqStepS.sound (N : Nat) : Sound cx Try.prog gam 63 (laws_eqStepS.sm N) := fn_sound (A := laws_eqStepS.A) (Φ := (look (laws_eqStepS.phis N))) pok (G := gam) (ΦOk.cons (laws_eqStep.sound N) (fnOk_of (f := 78) (by kernel_rfl)) ΦOk.nil) mixed N Try.func63 (c := (bodyOf Try.f63)) (by kernel_rfl) laws_eqStepS.sg (by kernel_rfl) (by kernel_rfl) (by kernel_rfl) (laws_eqStepS.run N)

@[reducible] def laws_eqSet.sg : Sg := { ms := [{ k := (.st 68) }, { k := (.st 68) }], keep := [false, false], rs := [{ k := .bool }] }
noncomputable def laws_eqSet.A : Ann := { dp := fun d => isIn [] d, lp := look [], jn := look [], pins := [], nt := 16 }
noncomputable def laws_eqSet.phis (N : Nat) : List (Nat × Sm D) := [(63, laws_eqStepS.sm N)]
theorem laws_eqSet.run (N : Nat) (x : ImplSet × ImplSet × Unit) : runF cx (look (laws_eqSet.phis N)) laws_eqSet.A N (bodyOf Try.f77) Try.f77.results.toList laws_eqSet.sg x = laws_eqSet N x.1 x.2.1 := by
  have h : runF cx (look (laws_eqSet.phis N)) laws_eqSet.A N (bodyOf Try.f77) Try.f77.results.toList laws_eqSet.sg x = laws_eqSet.B N x.1 x.2.1 := by kernel_rfl
  rw [h]
  try rfl
noncomputable def laws_eqSet.sm (N : Nat) : Sm D := (⟨laws_eqSet.sg, fun (x : ImplSet × ImplSet × Unit) => laws_eqSet N x.1 x.2.1⟩ : Sm D)
theorem laws_eqSet.sound (N : Nat) : Sound cx Try.prog gam 77 (laws_eqSet.sm N) := fn_sound (A := laws_eqSet.A) (Φ := (look (laws_eqSet.phis N))) pok (G := gam) (ΦOk.cons (laws_eqStepS.sound N) (fnOk_of (f := 63) (by kernel_rfl)) ΦOk.nil) mixed N Try.func77 (c := (bodyOf Try.f77)) (by kernel_rfl) laws_eqSet.sg (by kernel_rfl) (by kernel_rfl) (by kernel_rfl) (laws_eqSet.run N)

@[reducible] def laws_eqSetS.sg : Sg := { ms := [{ k := (.sl (.st 68)), fl := [none] }, { k := (.sl (.st 68)), fl := [none] }], keep := [false, false], rs := [{ k := .bool }] }
@[reducible] def laws_eqSetS.lvL0 : Lv := { id := 0, slots := [0, 1, 5], ms := [{ k := (.sl (.st 68)), fl := [none] }, { k := (.sl (.st 68)), fl := [none] }, { k := (.int .i64) }] }
noncomputable def laws_eqSetS.A : Ann := { dp := fun d => isIn [] d, lp := look [(0, laws_eqSetS.lvL0)], jn := look [], pins := [], nt := 27 }
noncomputable def laws_eqSetS.phis (N : Nat) : List (Nat × Sm D) := [(77, laws_eqSet.sm N)]
noncomputable def laws_eqSetS.a0 (N : Nat) (n : Nat) (y : (List (ImplSet)) × (List (ImplSet)) × Int × Unit) : Option (Bool × Unit) := loopAt cx (look (laws_eqSetS.phis N)) laws_eqSetS.A N n (encL cx laws_eqSetS.lvL0.ms y).1 (encL cx laws_eqSetS.lvL0.ms y).2 (bodyOf Try.f60) 0 (Kfin cx laws_eqSetS.A laws_eqSetS.sg Try.f60.results.toList) [1, 1, 0, 1, 1] []
theorem laws_eqSetS.r0 (N : Nat) : ∀ (n : Nat) (y : (List (ImplSet)) × (List (ImplSet)) × Int × Unit), laws_eqSetS.a0 N n y = laws_eqSetS.L0 N n y
  | 0, y => by kernel_rfl
  | n + 1, y => by
    have h : laws_eqSetS.a0 N (n + 1) y = laws_eqSetS.B0 N (fun z => laws_eqSetS.a0 N n z) y := by kernel_rfl
    have e : (fun z => laws_eqSetS.a0 N n z) = laws_eqSetS.L0 N n := funext fun z => laws_eqSetS.r0 N n z
    rw [h]
    try rw [e]
    first | done | rfl
theorem laws_eqSetS.run (N : Nat) (x : (List (ImplSet)) × (List (ImplSet)) × Unit) : runF cx (look (laws_eqSetS.phis N)) laws_eqSetS.A N (bodyOf Try.f60) Try.f60.results.toList laws_eqSetS.sg x = laws_eqSetS N x.1 x.2.1 := by
  have h : runF cx (look (laws_eqSetS.phis N)) laws_eqSetS.A N (bodyOf Try.f60) Try.f60.results.toList laws_eqSetS.sg x = laws_eqSetS.B N (fun z => laws_eqSetS.a0 N N z) x.1 x.2.1 := by kernel_rfl
  have e0 : (fun z => laws_eqSetS.a0 N N z) = laws_eqSetS.L0 N N := funext fun z => laws_eqSetS.r0 N N z
  rw [h, e0]
  try rfl
noncomputable def laws_eqSetS.sm (N : Nat) : Sm D := (⟨laws_eqSetS.sg, fun (x : (List (ImplSet)) × (List (ImplSet)) × Unit) => laws_eqSetS N x.1 x.2.1⟩ : Sm D)
theorem laws_eqSetS.sound (N : Nat) : Sound cx Try.prog gam 60 (laws_eqSetS.sm N) := fn_sound (A := laws_eqSetS.A) (Φ := (look (laws_eqSetS.phis N))) pok (G := gam) (ΦOk.cons (laws_eqSet.sound N) (fnOk_of (f := 77) (by kernel_rfl)) ΦOk.nil) mixed N Try.func60 (c := (bodyOf Try.f60)) (by kernel_rfl) laws_eqSetS.sg (by kernel_rfl) (by kernel_rfl) (by kernel_rfl) (laws_eqSetS.run N)

@[reducible] def laws_eqSetSS.sg : Sg := { ms := [{ k := (.sl (.sl (.st 68))), fl := [none] }, { k := (.sl (.sl (.st 68))), fl := [none] }], keep := [false, false], rs := [{ k := .bool }] }
@[reducible] def laws_eqSetSS.lvL0 : Lv := { id := 0, slots := [0, 1, 5], ms := [{ k := (.sl (.sl (.st 68))), fl := [none] }, { k := (.sl (.sl (.st 68))), fl := [none] }, { k := (.int .i64) }] }
noncomputable def laws_eqSetSS.A : Ann := { dp := fun d => isIn [] d, lp := look [(0, laws_eqSetSS.lvL0)], jn := look [], pins := [], nt := 27 }
noncomputable def laws_eqSetSS.phis (N : Nat) : List (Nat × Sm D) := [(60, laws_eqSetS.sm N)]
noncomputable def laws_eqSetSS.a0 (N : Nat) (n : Nat) (y : (List (List (ImplSet))) × (List (List (ImplSet))) × Int × Unit) : Option (Bool × Unit) := loopAt cx (look (laws_eqSetSS.phis N)) laws_eqSetSS.A N n (encL cx laws_eqSetSS.lvL0.ms y).1 (encL cx laws_eqSetSS.lvL0.ms y).2 (bodyOf Try.f35) 0 (Kfin cx laws_eqSetSS.A laws_eqSetSS.sg Try.f35.results.toList) [1, 1, 0, 1, 1] []
theorem laws_eqSetSS.r0 (N : Nat) : ∀ (n : Nat) (y : (List (List (ImplSet))) × (List (List (ImplSet))) × Int × Unit), laws_eqSetSS.a0 N n y = laws_eqSetSS.L0 N n y
  | 0, y => by kernel_rfl
  | n + 1, y => by
    have h : laws_eqSetSS.a0 N (n + 1) y = laws_eqSetSS.B0 N (fun z => laws_eqSetSS.a0 N n z) y := by kernel_rfl
    have e : (fun z => laws_eqSetSS.a0 N n z) = laws_eqSetSS.L0 N n := funext fun z => laws_eqSetSS.r0 N n z
    rw [h]
    try rw [e]
    first | done | rfl
theorem laws_eqSetSS.run (N : Nat) (x : (List (List (ImplSet))) × (List (List (ImplSet))) × Unit) : runF cx (look (laws_eqSetSS.phis N)) laws_eqSetSS.A N (bodyOf Try.f35) Try.f35.results.toList laws_eqSetSS.sg x = laws_eqSetSS N x.1 x.2.1 := by
  have h : runF cx (look (laws_eqSetSS.phis N)) laws_eqSetSS.A N (bodyOf Try.f35) Try.f35.results.toList laws_eqSetSS.sg x = laws_eqSetSS.B N (fun z => laws_eqSetSS.a0 N N z) x.1 x.2.1 := by kernel_rfl
  have e0 : (fun z => laws_eqSetSS.a0 N N z) = laws_eqSetSS.L0 N N := funext fun z => laws_eqSetSS.r0 N N z
  rw [h, e0]
  try rfl
noncomputable def laws_eqSetSS.sm (N : Nat) : Sm D := (⟨laws_eqSetSS.sg, fun (x : (List (List (ImplSet))) × (List (List (ImplSet))) × Unit) => laws_eqSetSS N x.1 x.2.1⟩ : Sm D)
theorem laws_eqSetSS.sound (N : Nat) : Sound cx Try.prog gam 35 (laws_eqSetSS.sm N) := fn_sound (A := laws_eqSetSS.A) (Φ := (look (laws_eqSetSS.phis N))) pok (G := gam) (ΦOk.cons (laws_eqSetS.sound N) (fnOk_of (f := 60) (by kernel_rfl)) ΦOk.nil) mixed N Try.func35 (c := (bodyOf Try.f35)) (by kernel_rfl) laws_eqSetSS.sg (by kernel_rfl) (by kernel_rfl) (by kernel_rfl) (laws_eqSetSS.run N)

@[reducible] def laws_eqIntS.sg : Sg := { ms := [{ k := (.sl (.int .i64)), fl := [none] }, { k := (.sl (.int .i64)), fl := [none] }], keep := [false, false], rs := [{ k := .bool }] }
@[reducible] def laws_eqIntS.lvL0 : Lv := { id := 0, slots := [0, 1, 5], ms := [{ k := (.sl (.int .i64)), fl := [none] }, { k := (.sl (.int .i64)), fl := [none] }, { k := (.int .i64) }] }
noncomputable def laws_eqIntS.A : Ann := { dp := fun d => isIn [] d, lp := look [(0, laws_eqIntS.lvL0)], jn := look [], pins := [], nt := 26 }
noncomputable def laws_eqIntS.phis (N : Nat) : List (Nat × Sm D) := []
noncomputable def laws_eqIntS.a0 (N : Nat) (n : Nat) (y : (List (Int)) × (List (Int)) × Int × Unit) : Option (Bool × Unit) := loopAt cx (look (laws_eqIntS.phis N)) laws_eqIntS.A N n (encL cx laws_eqIntS.lvL0.ms y).1 (encL cx laws_eqIntS.lvL0.ms y).2 (bodyOf Try.f61) 0 (Kfin cx laws_eqIntS.A laws_eqIntS.sg Try.f61.results.toList) [1, 1, 0, 1, 1] []
theorem laws_eqIntS.r0 (N : Nat) : ∀ (n : Nat) (y : (List (Int)) × (List (Int)) × Int × Unit), laws_eqIntS.a0 N n y = laws_eqIntS.L0 N n y
  | 0, y => by kernel_rfl
  | n + 1, y => by
    have h : laws_eqIntS.a0 N (n + 1) y = laws_eqIntS.B0 N (fun z => laws_eqIntS.a0 N n z) y := by kernel_rfl
    have e : (fun z => laws_eqIntS.a0 N n z) = laws_eqIntS.L0 N n := funext fun z => laws_eqIntS.r0 N n z
    rw [h]
    try rw [e]
    first | done | rfl
theorem laws_eqIntS.run (N : Nat) (x : (List (Int)) × (List (Int)) × Unit) : runF cx (look (laws_eqIntS.phis N)) laws_eqIntS.A N (bodyOf Try.f61) Try.f61.results.toList laws_eqIntS.sg x = laws_eqIntS N x.1 x.2.1 := by
  have h : runF cx (look (laws_eqIntS.phis N)) laws_eqIntS.A N (bodyOf Try.f61) Try.f61.results.toList laws_eqIntS.sg x = laws_eqIntS.B N (fun z => laws_eqIntS.a0 N N z) x.1 x.2.1 := by kernel_rfl
  have e0 : (fun z => laws_eqIntS.a0 N N z) = laws_eqIntS.L0 N N := funext fun z => laws_eqIntS.r0 N N z
  rw [h, e0]
  try rfl
noncomputable def laws_eqIntS.sm (N : Nat) : Sm D := (⟨laws_eqIntS.sg, fun (x : (List (Int)) × (List (Int)) × Unit) => laws_eqIntS N x.1 x.2.1⟩ : Sm D)
theorem laws_eqIntS.sound (N : Nat) : Sound cx Try.prog gam 61 (laws_eqIntS.sm N) := fn_sound (A := laws_eqIntS.A) (Φ := (look (laws_eqIntS.phis N))) pok (G := gam) ΦOk.nil mixed N Try.func61 (c := (bodyOf Try.f61)) (by kernel_rfl) laws_eqIntS.sg (by kernel_rfl) (by kernel_rfl) (by kernel_rfl) (laws_eqIntS.run N)

@[reducible] def laws_eqStepSS.sg : Sg := { ms := [{ k := (.sl (.sl (.st 116))), fl := [none] }, { k := (.sl (.sl (.st 116))), fl := [none] }], keep := [false, false], rs := [{ k := .bool }] }
@[reducible] def laws_eqStepSS.lvL0 : Lv := { id := 0, slots := [0, 1, 5], ms := [{ k := (.sl (.sl (.st 116))), fl := [none] }, { k := (.sl (.sl (.st 116))), fl := [none] }, { k := (.int .i64) }] }
noncomputable def laws_eqStepSS.A : Ann := { dp := fun d => isIn [] d, lp := look [(0, laws_eqStepSS.lvL0)], jn := look [], pins := [], nt := 27 }
noncomputable def laws_eqStepSS.phis (N : Nat) : List (Nat × Sm D) := [(63, laws_eqStepS.sm N)]
noncomputable def laws_eqStepSS.a0 (N : Nat) (n : Nat) (y : (List (List (ImplStep))) × (List (List (ImplStep))) × Int × Unit) : Option (Bool × Unit) := loopAt cx (look (laws_eqStepSS.phis N)) laws_eqStepSS.A N n (encL cx laws_eqStepSS.lvL0.ms y).1 (encL cx laws_eqStepSS.lvL0.ms y).2 (bodyOf Try.f62) 0 (Kfin cx laws_eqStepSS.A laws_eqStepSS.sg Try.f62.results.toList) [1, 1, 0, 1, 1] []
theorem laws_eqStepSS.r0 (N : Nat) : ∀ (n : Nat) (y : (List (List (ImplStep))) × (List (List (ImplStep))) × Int × Unit), laws_eqStepSS.a0 N n y = laws_eqStepSS.L0 N n y
  | 0, y => by kernel_rfl
  | n + 1, y => by
    have h : laws_eqStepSS.a0 N (n + 1) y = laws_eqStepSS.B0 N (fun z => laws_eqStepSS.a0 N n z) y := by kernel_rfl
    have e : (fun z => laws_eqStepSS.a0 N n z) = laws_eqStepSS.L0 N n := funext fun z => laws_eqStepSS.r0 N n z
    rw [h]
    try rw [e]
    first | done | rfl
theorem laws_eqStepSS.run (N : Nat) (x : (List (List (ImplStep))) × (List (List (ImplStep))) × Unit) : runF cx (look (laws_eqStepSS.phis N)) laws_eqStepSS.A N (bodyOf Try.f62) Try.f62.results.toList laws_eqStepSS.sg x = laws_eqStepSS N x.1 x.2.1 := by
  have h : runF cx (look (laws_eqStepSS.phis N)) laws_eqStepSS.A N (bodyOf Try.f62) Try.f62.results.toList laws_eqStepSS.sg x = laws_eqStepSS.B N (fun z => laws_eqStepSS.a0 N N z) x.1 x.2.1 := by kernel_rfl
  have e0 : (fun z => laws_eqStepSS.a0 N N z) = laws_eqStepSS.L0 N N := funext fun z => laws_eqStepSS.r0 N N z
  rw [h, e0]
  try rfl
noncomputable def laws_eqStepSS.sm (N : Nat) : Sm D := (⟨laws_eqStepSS.sg, fun (x : (List (List (ImplStep))) × (List (List (ImplStep))) × Unit) => laws_eqStepSS N x.1 x.2.1⟩ : Sm D)
theorem laws_eqStepSS.sound (N : Nat) : Sound cx Try.prog gam 62 (laws_eqStepSS.sm N) := fn_sound (A := laws_eqStepSS.A) (Φ := (look (laws_eqStepSS.phis N))) pok (G := gam) (ΦOk.cons (laws_eqStepS.sound N) (fnOk_of (f := 63) (by kernel_rfl)) ΦOk.nil) mixed N Try.func62 (c := (bodyOf Try.f62)) (by kernel_rfl) laws_eqStepSS.sg (by kernel_rfl) (by kernel_rfl) (by kernel_rfl) (laws_eqStepSS.run N)

@[reducible] def laws_eqOn.sg : Sg := { ms := [{ k := (.st 71) }, { k := (.st 71) }], keep := [false, false], rs := [{ k := .bool }] }
noncomputable def laws_eqOn.A : Ann := { dp := fun d => isIn [] d, lp := look [], jn := look [], pins := [], nt := 15 }
noncomputable def laws_eqOn.phis (N : Nat) : List (Nat × Sm D) := []
theorem laws_eqOn.run (N : Nat) (x : ImplOn × ImplOn × Unit) : runF cx (look (laws_eqOn.phis N)) laws_eqOn.A N (bodyOf Try.f79) Try.f79.results.toList laws_eqOn.sg x = laws_eqOn N x.1 x.2.1 := by
  have h : runF cx (look (laws_eqOn.phis N)) laws_eqOn.A N (bodyOf Try.f79) Try.f79.results.toList laws_eqOn.sg x = laws_eqOn.B N x.1 x.2.1 := by kernel_rfl
  rw [h]
  try rfl
noncomputable def laws_eqOn.sm (N : Nat) : Sm D := (⟨laws_eqOn.sg, fun (x : ImplOn × ImplOn × Unit) => laws_eqOn N x.1 x.2.1⟩ : Sm D)
theorem laws_eqOn.sound (N : Nat) : Sound cx Try.prog gam 79 (laws_eqOn.sm N) := fn_sound (A := laws_eqOn.A) (Φ := (look (laws_eqOn.phis N))) pok (G := gam) ΦOk.nil mixed N Try.func79 (c := (bodyOf Try.f79)) (by kernel_rfl) laws_eqOn.sg (by kernel_rfl) (by kernel_rfl) (by kernel_rfl) (laws_eqOn.run N)

@[reducible] def laws_eqOnS.sg : Sg := { ms := [{ k := (.sl (.st 71)), fl := [none] }, { k := (.sl (.st 71)), fl := [none] }], keep := [false, false], rs := [{ k := .bool }] }
@[reducible] def laws_eqOnS.lvL0 : Lv := { id := 0, slots := [0, 1, 5], ms := [{ k := (.sl (.st 71)), fl := [none] }, { k := (.sl (.st 71)), fl := [none] }, { k := (.int .i64) }] }
noncomputable def laws_eqOnS.A : Ann := { dp := fun d => isIn [] d, lp := look [(0, laws_eqOnS.lvL0)], jn := look [], pins := [], nt := 27 }
noncomputable def laws_eqOnS.phis (N : Nat) : List (Nat × Sm D) := [(79, laws_eqOn.sm N)]
noncomputable def laws_eqOnS.a0 (N : Nat) (n : Nat) (y : (List (ImplOn)) × (List (ImplOn)) × Int × Unit) : Option (Bool × Unit) := loopAt cx (look (laws_eqOnS.phis N)) laws_eqOnS.A N n (encL cx laws_eqOnS.lvL0.ms y).1 (encL cx laws_eqOnS.lvL0.ms y).2 (bodyOf Try.f64) 0 (Kfin cx laws_eqOnS.A laws_eqOnS.sg Try.f64.results.toList) [1, 1, 0, 1, 1] []
theorem laws_eqOnS.r0 (N : Nat) : ∀ (n : Nat) (y : (List (ImplOn)) × (List (ImplOn)) × Int × Unit), laws_eqOnS.a0 N n y = laws_eqOnS.L0 N n y
  | 0, y => by kernel_rfl
  | n + 1, y => by
    have h : laws_eqOnS.a0 N (n + 1) y = laws_eqOnS.B0 N (fun z => laws_eqOnS.a0 N n z) y := by kernel_rfl
    have e : (fun z => laws_eqOnS.a0 N n z) = laws_eqOnS.L0 N n := funext fun z => laws_eqOnS.r0 N n z
    rw [h]
    try rw [e]
    first | done | rfl
theorem laws_eqOnS.run (N : Nat) (x : (List (ImplOn)) × (List (ImplOn)) × Unit) : runF cx (look (laws_eqOnS.phis N)) laws_eqOnS.A N (bodyOf Try.f64) Try.f64.results.toList laws_eqOnS.sg x = laws_eqOnS N x.1 x.2.1 := by
  have h : runF cx (look (laws_eqOnS.phis N)) laws_eqOnS.A N (bodyOf Try.f64) Try.f64.results.toList laws_eqOnS.sg x = laws_eqOnS.B N (fun z => laws_eqOnS.a0 N N z) x.1 x.2.1 := by kernel_rfl
  have e0 : (fun z => laws_eqOnS.a0 N N z) = laws_eqOnS.L0 N N := funext fun z => laws_eqOnS.r0 N N z
  rw [h, e0]
  try rfl
noncomputable def laws_eqOnS.sm (N : Nat) : Sm D := (⟨laws_eqOnS.sg, fun (x : (List (ImplOn)) × (List (ImplOn)) × Unit) => laws_eqOnS N x.1 x.2.1⟩ : Sm D)
theorem laws_eqOnS.sound (N : Nat) : Sound cx Try.prog gam 64 (laws_eqOnS.sm N) := fn_sound (A := laws_eqOnS.A) (Φ := (look (laws_eqOnS.phis N))) pok (G := gam) (ΦOk.cons (laws_eqOn.sound N) (fnOk_of (f := 79) (by kernel_rfl)) ΦOk.nil) mixed N Try.func64 (c := (bodyOf Try.f64)) (by kernel_rfl) laws_eqOnS.sg (by kernel_rfl) (by kernel_rfl) (by kernel_rfl) (laws_eqOnS.run N)

@[reducible] def laws_eqTmplS.sg : Sg := { ms := [{ k := (.sl (.st 48)), fl := [none] }, { k := (.sl (.st 48)), fl := [none] }], keep := [false, false], rs := [{ k := .bool }] }
@[reducible] def laws_eqTmpl.sg : Sg := { ms := [{ k := (.st 48) }, { k := (.st 48) }], keep := [false, false], rs := [{ k := .bool }] }
@[reducible] def laws_eqTmplS.lvL0 : Lv := { id := 0, slots := [0, 1, 5], ms := [{ k := (.sl (.st 48)), fl := [none] }, { k := (.sl (.st 48)), fl := [none] }, { k := (.int .i64) }] }
noncomputable def laws_eqTmplS.A : Ann := { dp := fun d => isIn [] d, lp := look [(0, laws_eqTmplS.lvL0)], jn := look [], pins := [], nt := 27 }
noncomputable def laws_eqTmplS.phis (N : Nat) (d : Nat) : List (Nat × Sm D) := [(36, (⟨laws_eqTmpl.sg, fun (x : ImplTmpl × ImplTmpl × Unit) => laws_eqTmpl.R N d x.1 x.2.1⟩ : Sm D))]
noncomputable def laws_eqTmplS.a0 (N : Nat) (d : Nat) (n : Nat) (y : (List (ImplTmpl)) × (List (ImplTmpl)) × Int × Unit) : Option (Bool × Unit) := loopAt cx (look (laws_eqTmplS.phis N d)) laws_eqTmplS.A N n (encL cx laws_eqTmplS.lvL0.ms y).1 (encL cx laws_eqTmplS.lvL0.ms y).2 (bodyOf Try.f65) 0 (Kfin cx laws_eqTmplS.A laws_eqTmplS.sg Try.f65.results.toList) [1, 1, 0, 1, 1] []
theorem laws_eqTmplS.r0 (N : Nat) (d : Nat) : ∀ (n : Nat) (y : (List (ImplTmpl)) × (List (ImplTmpl)) × Int × Unit), laws_eqTmplS.a0 N d n y = laws_eqTmplS.L0 N (laws_eqTmplS.R N d) (laws_eqTmpl.R N d) n y
  | 0, y => by kernel_rfl
  | n + 1, y => by
    have h : laws_eqTmplS.a0 N d (n + 1) y = laws_eqTmplS.B0 N (laws_eqTmplS.R N d) (laws_eqTmpl.R N d) (fun z => laws_eqTmplS.a0 N d n z) y := by kernel_rfl
    have e : (fun z => laws_eqTmplS.a0 N d n z) = laws_eqTmplS.L0 N (laws_eqTmplS.R N d) (laws_eqTmpl.R N d) n := funext fun z => laws_eqTmplS.r0 N d n z
    rw [h]
    try rw [e]
    first | done | rfl
theorem laws_eqTmplS.run (N : Nat) (d : Nat) (x : (List (ImplTmpl)) × (List (ImplTmpl)) × Unit) : runF cx (look (laws_eqTmplS.phis N d)) laws_eqTmplS.A N (bodyOf Try.f65) Try.f65.results.toList laws_eqTmplS.sg x = laws_eqTmplS.R N (d + 1) x.1 x.2.1 := by
  have h : runF cx (look (laws_eqTmplS.phis N d)) laws_eqTmplS.A N (bodyOf Try.f65) Try.f65.results.toList laws_eqTmplS.sg x = laws_eqTmplS.B N (laws_eqTmplS.R N d) (laws_eqTmpl.R N d) (fun z => laws_eqTmplS.a0 N d N z) x.1 x.2.1 := by kernel_rfl
  have e0 : (fun z => laws_eqTmplS.a0 N d N z) = laws_eqTmplS.L0 N (laws_eqTmplS.R N d) (laws_eqTmpl.R N d) N := funext fun z => laws_eqTmplS.r0 N d N z
  rw [h, e0]
  try rfl
theorem laws_eqTmplS.step (N : Nat) (d : Nat) (h_laws_eqTmpl : Sound cx Try.prog gam 36 (⟨laws_eqTmpl.sg, fun (x : ImplTmpl × ImplTmpl × Unit) => laws_eqTmpl.R N d x.1 x.2.1⟩ : Sm D)) : Sound cx Try.prog gam 65 (⟨laws_eqTmplS.sg, fun (x : (List (ImplTmpl)) × (List (ImplTmpl)) × Unit) => laws_eqTmplS.R N (d + 1) x.1 x.2.1⟩ : Sm D) := fn_sound (A := laws_eqTmplS.A) (Φ := (look (laws_eqTmplS.phis N d))) pok (G := gam) (ΦOk.cons h_laws_eqTmpl (fnOk_of (f := 36) (by kernel_rfl)) ΦOk.nil) mixed N Try.func65 (c := (bodyOf Try.f65)) (by kernel_rfl) laws_eqTmplS.sg (by kernel_rfl) (by kernel_rfl) (by kernel_rfl) (laws_eqTmplS.run N d)

noncomputable def laws_eqTmpl.A : Ann := { dp := fun d => isIn [] d, lp := look [], jn := look [], pins := [], nt := 45 }
noncomputable def laws_eqTmpl.phis (N : Nat) (d : Nat) : List (Nat × Sm D) := [(61, laws_eqIntS.sm N), (62, laws_eqStepSS.sm N), (63, laws_eqStepS.sm N), (64, laws_eqOnS.sm N), (65, (⟨laws_eqTmplS.sg, fun (x : (List (ImplTmpl)) × (List (ImplTmpl)) × Unit) => laws_eqTmplS.R N d x.1 x.2.1⟩ : Sm D))]
theorem laws_eqTmpl.run (N : Nat) (d : Nat) (x : ImplTmpl × ImplTmpl × Unit) : runF cx (look (laws_eqTmpl.phis N d)) laws_eqTmpl.A N (bodyOf Try.f36) Try.f36.results.toList laws_eqTmpl.sg x = laws_eqTmpl.R N (d + 1) x.1 x.2.1 := by
  have h : runF cx (look (laws_eqTmpl.phis N d)) laws_eqTmpl.A N (bodyOf Try.f36) Try.f36.results.toList laws_eqTmpl.sg x = laws_eqTmpl.B N (laws_eqTmplS.R N d) (laws_eqTmpl.R N d) x.1 x.2.1 := by kernel_rfl
  rw [h]
  try rfl
theorem laws_eqTmpl.step (N : Nat) (d : Nat) (h_laws_eqTmplS : Sound cx Try.prog gam 65 (⟨laws_eqTmplS.sg, fun (x : (List (ImplTmpl)) × (List (ImplTmpl)) × Unit) => laws_eqTmplS.R N d x.1 x.2.1⟩ : Sm D)) : Sound cx Try.prog gam 36 (⟨laws_eqTmpl.sg, fun (x : ImplTmpl × ImplTmpl × Unit) => laws_eqTmpl.R N (d + 1) x.1 x.2.1⟩ : Sm D) := fn_sound (A := laws_eqTmpl.A) (Φ := (look (laws_eqTmpl.phis N d))) pok (G := gam) (ΦOk.cons (laws_eqIntS.sound N) (fnOk_of (f := 61) (by kernel_rfl)) (ΦOk.cons (laws_eqStepSS.sound N) (fnOk_of (f := 62) (by kernel_rfl)) (ΦOk.cons (laws_eqStepS.sound N) (fnOk_of (f := 63) (by kernel_rfl)) (ΦOk.cons (laws_eqOnS.sound N) (fnOk_of (f := 64) (by kernel_rfl)) (ΦOk.cons h_laws_eqTmplS (fnOk_of (f := 65) (by kernel_rfl)) ΦOk.nil))))) mixed N Try.func36 (c := (bodyOf Try.f36)) (by kernel_rfl) laws_eqTmpl.sg (by kernel_rfl) (by kernel_rfl) (by kernel_rfl) (laws_eqTmpl.run N d)

theorem laws_eqTmplS.scc (N : Nat) : ∀ d, Sound cx Try.prog gam 65 (⟨laws_eqTmplS.sg, fun (x : (List (ImplTmpl)) × (List (ImplTmpl)) × Unit) => laws_eqTmplS.R N d x.1 x.2.1⟩ : Sm D) ∧ Sound cx Try.prog gam 36 (⟨laws_eqTmpl.sg, fun (x : ImplTmpl × ImplTmpl × Unit) => laws_eqTmpl.R N d x.1 x.2.1⟩ : Sm D)
  | 0 => ⟨none_sound 65 laws_eqTmplS.sg, none_sound 36 laws_eqTmpl.sg⟩
  | d + 1 => by
    have ih := laws_eqTmplS.scc N d
    obtain ⟨ih0, ih1⟩ := ih
    exact ⟨laws_eqTmplS.step N d ih1, laws_eqTmpl.step N d ih0⟩
noncomputable def laws_eqTmplS.sm (N : Nat) : Sm D := (⟨laws_eqTmplS.sg, fun (x : (List (ImplTmpl)) × (List (ImplTmpl)) × Unit) => laws_eqTmplS.R N N x.1 x.2.1⟩ : Sm D)
theorem laws_eqTmplS.sound (N : Nat) : Sound cx Try.prog gam 65 (laws_eqTmplS.sm N) := (laws_eqTmplS.scc N N).1
noncomputable def laws_eqTmpl.sm (N : Nat) : Sm D := (⟨laws_eqTmpl.sg, fun (x : ImplTmpl × ImplTmpl × Unit) => laws_eqTmpl.R N N x.1 x.2.1⟩ : Sm D)
theorem laws_eqTmpl.sound (N : Nat) : Sound cx Try.prog gam 36 (laws_eqTmpl.sm N) := (laws_eqTmplS.scc N N).2
@[reducible] def laws_eqComp.sg : Sg := { ms := [{ k := (.st 50) }, { k := (.st 50) }], keep := [false, false], rs := [{ k := .bool }] }
noncomputable def laws_eqComp.A : Ann := { dp := fun d => isIn [] d, lp := look [], jn := look [], pins := [], nt := 28 }
noncomputable def laws_eqComp.phis (N : Nat) : List (Nat × Sm D) := [(34, laws_eqValueS.sm N), (35, laws_eqSetSS.sm N), (36, laws_eqTmpl.sm N)]
theorem laws_eqComp.run (N : Nat) (x : ImplComp × ImplComp × Unit) : runF cx (look (laws_eqComp.phis N)) laws_eqComp.A N (bodyOf Try.f19) Try.f19.results.toList laws_eqComp.sg x = laws_eqComp N x.1 x.2.1 := by
  have h : runF cx (look (laws_eqComp.phis N)) laws_eqComp.A N (bodyOf Try.f19) Try.f19.results.toList laws_eqComp.sg x = laws_eqComp.B N x.1 x.2.1 := by kernel_rfl
  rw [h]
  try rfl
noncomputable def laws_eqComp.sm (N : Nat) : Sm D := (⟨laws_eqComp.sg, fun (x : ImplComp × ImplComp × Unit) => laws_eqComp N x.1 x.2.1⟩ : Sm D)
theorem laws_eqComp.sound (N : Nat) : Sound cx Try.prog gam 19 (laws_eqComp.sm N) := fn_sound (A := laws_eqComp.A) (Φ := (look (laws_eqComp.phis N))) pok (G := gam) (ΦOk.cons (laws_eqValueS.sound N) (fnOk_of (f := 34) (by kernel_rfl)) (ΦOk.cons (laws_eqSetSS.sound N) (fnOk_of (f := 35) (by kernel_rfl)) (ΦOk.cons (laws_eqTmpl.sound N) (fnOk_of (f := 36) (by kernel_rfl)) ΦOk.nil))) mixed N Try.func19 (c := (bodyOf Try.f19)) (by kernel_rfl) laws_eqComp.sg (by kernel_rfl) (by kernel_rfl) (by kernel_rfl) (laws_eqComp.run N)

@[reducible] def laws_eqCompS.sg : Sg := { ms := [{ k := (.sl (.st 50)), fl := [none] }, { k := (.sl (.st 50)), fl := [none] }], keep := [false, false], rs := [{ k := .bool }] }
@[reducible] def laws_eqCompS.lvL0 : Lv := { id := 0, slots := [0, 1, 5], ms := [{ k := (.sl (.st 50)), fl := [none] }, { k := (.sl (.st 50)), fl := [none] }, { k := (.int .i64) }] }
noncomputable def laws_eqCompS.A : Ann := { dp := fun d => isIn [] d, lp := look [(0, laws_eqCompS.lvL0)], jn := look [], pins := [], nt := 27 }
noncomputable def laws_eqCompS.phis (N : Nat) : List (Nat × Sm D) := [(19, laws_eqComp.sm N)]
noncomputable def laws_eqCompS.a0 (N : Nat) (n : Nat) (y : (List (ImplComp)) × (List (ImplComp)) × Int × Unit) : Option (Bool × Unit) := loopAt cx (look (laws_eqCompS.phis N)) laws_eqCompS.A N n (encL cx laws_eqCompS.lvL0.ms y).1 (encL cx laws_eqCompS.lvL0.ms y).2 (bodyOf Try.f9) 0 (Kfin cx laws_eqCompS.A laws_eqCompS.sg Try.f9.results.toList) [1, 1, 0, 1, 1] []
theorem laws_eqCompS.r0 (N : Nat) : ∀ (n : Nat) (y : (List (ImplComp)) × (List (ImplComp)) × Int × Unit), laws_eqCompS.a0 N n y = laws_eqCompS.L0 N n y
  | 0, y => by kernel_rfl
  | n + 1, y => by
    have h : laws_eqCompS.a0 N (n + 1) y = laws_eqCompS.B0 N (fun z => laws_eqCompS.a0 N n z) y := by kernel_rfl
    have e : (fun z => laws_eqCompS.a0 N n z) = laws_eqCompS.L0 N n := funext fun z => laws_eqCompS.r0 N n z
    rw [h]
    try rw [e]
    first | done | rfl
theorem laws_eqCompS.run (N : Nat) (x : (List (ImplComp)) × (List (ImplComp)) × Unit) : runF cx (look (laws_eqCompS.phis N)) laws_eqCompS.A N (bodyOf Try.f9) Try.f9.results.toList laws_eqCompS.sg x = laws_eqCompS N x.1 x.2.1 := by
  have h : runF cx (look (laws_eqCompS.phis N)) laws_eqCompS.A N (bodyOf Try.f9) Try.f9.results.toList laws_eqCompS.sg x = laws_eqCompS.B N (fun z => laws_eqCompS.a0 N N z) x.1 x.2.1 := by kernel_rfl
  have e0 : (fun z => laws_eqCompS.a0 N N z) = laws_eqCompS.L0 N N := funext fun z => laws_eqCompS.r0 N N z
  rw [h, e0]
  try rfl
noncomputable def laws_eqCompS.sm (N : Nat) : Sm D := (⟨laws_eqCompS.sg, fun (x : (List (ImplComp)) × (List (ImplComp)) × Unit) => laws_eqCompS N x.1 x.2.1⟩ : Sm D)
theorem laws_eqCompS.sound (N : Nat) : Sound cx Try.prog gam 9 (laws_eqCompS.sm N) := fn_sound (A := laws_eqCompS.A) (Φ := (look (laws_eqCompS.phis N))) pok (G := gam) (ΦOk.cons (laws_eqComp.sound N) (fnOk_of (f := 19) (by kernel_rfl)) ΦOk.nil) mixed N Try.func9 (c := (bodyOf Try.f9)) (by kernel_rfl) laws_eqCompS.sg (by kernel_rfl) (by kernel_rfl) (by kernel_rfl) (laws_eqCompS.run N)

@[reducible] def laws_FnExactProgOk.sg : Sg := { ms := [{ k := (.sl (.st 40)), fl := [none] }], keep := [false], rs := [{ k := .bool }] }
noncomputable def laws_FnExactProgOk.A : Ann := { dp := fun d => isIn [] d, lp := look [], jn := look [], pins := [], nt := 27 }
noncomputable def laws_FnExactProgOk.phis (N : Nat) : List (Nat × Sm D) := [(5, laws_szCompS.sm N), (7, laws_toCompS.sm N), (6, spec_ProgOk.sm N), (8, impl_ProgOk.sm N), (9, laws_eqCompS.sm N)]
theorem laws_FnExactProgOk.run (N : Nat) (x : (List (LawsComp)) × Unit) : runF cx (look (laws_FnExactProgOk.phis N)) laws_FnExactProgOk.A N (bodyOf Try.f3) Try.f3.results.toList laws_FnExactProgOk.sg x = laws_FnExactProgOk N x.1 := by
  have h : runF cx (look (laws_FnExactProgOk.phis N)) laws_FnExactProgOk.A N (bodyOf Try.f3) Try.f3.results.toList laws_FnExactProgOk.sg x = laws_FnExactProgOk.B N x.1 := by kernel_rfl
  rw [h]
  try rfl
noncomputable def laws_FnExactProgOk.sm (N : Nat) : Sm D := (⟨laws_FnExactProgOk.sg, fun (x : (List (LawsComp)) × Unit) => laws_FnExactProgOk N x.1⟩ : Sm D)
theorem laws_FnExactProgOk.sound (N : Nat) : Sound cx Try.prog gam 3 (laws_FnExactProgOk.sm N) := fn_sound (A := laws_FnExactProgOk.A) (Φ := (look (laws_FnExactProgOk.phis N))) pok (G := gam) (ΦOk.cons (laws_szCompS.sound N) (fnOk_of (f := 5) (by kernel_rfl)) (ΦOk.cons (laws_toCompS.sound N) (fnOk_of (f := 7) (by kernel_rfl)) (ΦOk.cons (spec_ProgOk.sound N) (fnOk_of (f := 6) (by kernel_rfl)) (ΦOk.cons (impl_ProgOk.sound N) (fnOk_of (f := 8) (by kernel_rfl)) (ΦOk.cons (laws_eqCompS.sound N) (fnOk_of (f := 9) (by kernel_rfl)) ΦOk.nil))))) mixed N Try.func3 (c := (bodyOf Try.f3)) (by kernel_rfl) laws_FnExactProgOk.sg (by kernel_rfl) (by kernel_rfl) (by kernel_rfl) (laws_FnExactProgOk.run N)

end
end Go.Ev
