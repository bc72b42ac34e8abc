/- Each function that the law reaches does what its plain form says; no condition beyond the table of the library. -/
import Derived.Test.YtehpapfbbcbooaaDoorEvT1
set_option linter.all false
set_option linter.unusedVariables false
set_option linter.unusedSimpArgs false
set_option maxRecDepth 100000
set_option maxHeartbeats 0
namespace Go.Ev
noncomputable section
open Go.Proofs
@[reducible] def impl_findAll.sg : Sg := { ms := [{ k := (.st 36) }, { k := (.st 40) }, { k := (.sl (.int .i64)), fl := [none] }, { k := (.sl (.int .i64)), fl := [none] }], keep := [false, false, false, false], rs := [{ k := (.sl (.sl (.int .i64))), fl := [some (true, 411)] }] }
@[reducible] def impl_findAll.lvL0 : Lv := { id := 0, slots := [3, 5, 9, 10, 33, 34, 35], ms := [{ k := (.sl (.int .i64)), fl := [none] }, { ptr := true, id := 620, t := 41, k := (.st 40), fl := [none, none, none, none, none, none, none, none] }, { k := (.sl (.sl (.int .i64))), fl := [some (true, 640)] }, { k := (.sl (.int .i64)), fl := [some (true, 660)] }, { k := (.sl (.st 36)), fl := [none] }, { k := (.int .i64) }, { k := (.int .i64) }] }
@[reducible] def impl_findAll.lvJ6 : Lv := { id := 6, slots := [2, 3, 4, 5, 9], ms := [{ k := (.sl (.int .i64)), fl := [none] }, { k := (.sl (.int .i64)), fl := [none] }, { ptr := true, id := 640, t := 37, k := (.st 36), fl := [none, none, none, none, none] }, { ptr := true, id := 660, t := 41, k := (.st 40), fl := [none, none, none, none, none, none, none, none] }, { k := (.sl (.sl (.int .i64))), fl := [some (true, 680)] }] }
noncomputable def impl_findAll.A : Ann := { dp := fun _ => true, lp := look [(0, impl_findAll.lvL0)], jn := look [(6, impl_findAll.lvJ6)], pins := [], nt := 51 }
noncomputable def impl_findAll.phis (N : Nat) (d : Nat) : List (Nat × Sm D) := [(44, impl_meets.sm N), (45, impl_wayCopy.sm N), (46, impl_wayMore.sm N), (26, (⟨impl_findAll.sg, fun (x : ImplTree × ImplRule × (List (Int)) × (List (Int)) × Unit) => impl_findAll.R N d x.1 x.2.1 x.2.2.1 x.2.2.2.1⟩ : Sm D))]
noncomputable def impl_findAll.a0 (N : Nat) (d : Nat) (n : Nat) (y : (List (Int)) × ImplRule × (List (List (Int))) × (List (Int)) × (List (ImplTree)) × Int × Int × Unit) : Option ((List (List (Int))) × Unit) := loopAt cx (look (impl_findAll.phis N d)) impl_findAll.A N n (encL cx impl_findAll.lvL0.ms y).1 (encL cx impl_findAll.lvL0.ms y).2 (bodyOf Tryd.f26) 0 (Kfin cx impl_findAll.A impl_findAll.sg Tryd.f26.results.toList) [1, 1, 1, 1, 1, 0, 1, 1] []
theorem impl_findAll.r0 (N : Nat) (d : Nat) : ∀ (n : Nat) (y : (List (Int)) × ImplRule × (List (List (Int))) × (List (Int)) × (List (ImplTree)) × Int × Int × Unit), impl_findAll.a0 N d n y = impl_findAll.L0 N (impl_findAll.R N d) n y
  | 0, y => by kernel_rfl
  | n + 1, y => by
    have h : impl_findAll.a0 N d (n + 1) y = impl_findAll.B0 N (impl_findAll.R N d) (fun z => impl_findAll.a0 N d n z) y := by kernel_rfl
    have e : (fun z => impl_findAll.a0 N d n z) = impl_findAll.L0 N (impl_findAll.R N d) n := funext fun z => impl_findAll.r0 N d n z
    rw [h]
    try rw [e]
    first | done | rfl
theorem impl_findAll.run (N : Nat) (d : Nat) (x : ImplTree × ImplRule × (List (Int)) × (List (Int)) × Unit) : runF cx (look (impl_findAll.phis N d)) impl_findAll.A N (bodyOf Tryd.f26) Tryd.f26.results.toList impl_findAll.sg x = impl_findAll.R N (d + 1) x.1 x.2.1 x.2.2.1 x.2.2.2.1 := by
  have h : runF cx (look (impl_findAll.phis N d)) impl_findAll.A N (bodyOf Tryd.f26) Tryd.f26.results.toList impl_findAll.sg x = impl_findAll.B N (impl_findAll.R N d) (fun z => impl_findAll.a0 N d N z) x.1 x.2.1 x.2.2.1 x.2.2.2.1 := by kernel_rfl
  have e0 : (fun z => impl_findAll.a0 N d N z) = impl_findAll.L0 N (impl_findAll.R N d) N := funext fun z => impl_findAll.r0 N d N z
  rw [h, e0]
  try rfl
theorem impl_findAll.step (N : Nat) (d : Nat) (h_impl_findAll : Sound cx Tryd.prog gam 26 (⟨impl_findAll.sg, fun (x : ImplTree × ImplRule × (List (Int)) × (List (Int)) × Unit) => impl_findAll.R N d x.1 x.2.1 x.2.2.1 x.2.2.2.1⟩ : Sm D)) : Sound cx Tryd.prog gam 26 (⟨impl_findAll.sg, fun (x : ImplTree × ImplRule × (List (Int)) × (List (Int)) × Unit) => impl_findAll.R N (d + 1) x.1 x.2.1 x.2.2.1 x.2.2.2.1⟩ : Sm D) := fn_sound (A := impl_findAll.A) (Φ := (look (impl_findAll.phis N d))) pok (G := gam) (ΦOk.cons (impl_meets.sound N) (fnOk_of (f := 44) (by kernel_rfl)) (ΦOk.cons (impl_wayCopy.sound N) (fnOk_of (f := 45) (by kernel_rfl)) (ΦOk.cons (impl_wayMore.sound N) (fnOk_of (f := 46) (by kernel_rfl)) (ΦOk.cons h_impl_findAll (fnOk_of (f := 26) (by kernel_rfl)) ΦOk.nil)))) mixed N Tryd.func26 (c := (bodyOf Tryd.f26)) (by kernel_rfl) impl_findAll.sg (by kernel_rfl) (by kernel_rfl) (by kernel_rfl) (impl_findAll.run N d)

theorem impl_findAll.scc (N : Nat) : ∀ d, Sound cx Tryd.prog gam 26 (⟨impl_findAll.sg, fun (x : ImplTree × ImplRule × (List (Int)) × (List (Int)) × Unit) => impl_findAll.R N d x.1 x.2.1 x.2.2.1 x.2.2.2.1⟩ : Sm D)
  | 0 => none_sound 26 impl_findAll.sg
  | d + 1 => by
    have ih := impl_findAll.scc N d
    exact impl_findAll.step N d ih
noncomputable def impl_findAll.sm (N : Nat) : Sm D := (⟨impl_findAll.sg, fun (x : ImplTree × ImplRule × (List (Int)) × (List (Int)) × Unit) => impl_findAll.R N N x.1 x.2.1 x.2.2.1 x.2.2.2.1⟩ : Sm D)
theorem impl_findAll.sound (N : Nat) : Sound cx Tryd.prog gam 26 (impl_findAll.sm N) := (impl_findAll.scc N N)
@[reducible] def impl_FindAll.sg : Sg := { ms := [{ k := (.st 36) }, { k := (.st 40) }], keep := [false, false], rs := [{ k := (.sl (.sl (.int .i64))), fl := [some (true, 411)] }] }
noncomputable def impl_FindAll.A : Ann := { dp := fun _ => true, lp := look [], jn := look [], pins := [], nt := 17 }
noncomputable def impl_FindAll.phis (N : Nat) : List (Nat × Sm D) := [(24, impl_TreeOk.sm N), (25, impl_RulesOk.sm N), (26, impl_findAll.sm N)]
theorem impl_FindAll.run (N : Nat) (x : ImplTree × ImplRule × Unit) : runF cx (look (impl_FindAll.phis N)) impl_FindAll.A N (bodyOf Tryd.f9) Tryd.f9.results.toList impl_FindAll.sg x = impl_FindAll N x.1 x.2.1 := by
  have h : runF cx (look (impl_FindAll.phis N)) impl_FindAll.A N (bodyOf Tryd.f9) Tryd.f9.results.toList impl_FindAll.sg x = impl_FindAll.B N x.1 x.2.1 := by kernel_rfl
  rw [h]
  try rfl
noncomputable def impl_FindAll.sm (N : Nat) : Sm D := (⟨impl_FindAll.sg, fun (x : ImplTree × ImplRule × Unit) => impl_FindAll N x.1 x.2.1⟩ : Sm D)
theorem impl_FindAll.sound (N : Nat) : Sound cx Tryd.prog gam 9 (impl_FindAll.sm N) := fn_sound (A := impl_FindAll.A) (Φ := (look (impl_FindAll.phis N))) pok (G := gam) (ΦOk.cons (impl_TreeOk.sound N) (fnOk_of (f := 24) (by kernel_rfl)) (ΦOk.cons (impl_RulesOk.sound N) (fnOk_of (f := 25) (by kernel_rfl)) (ΦOk.cons (impl_findAll.sound N) (fnOk_of (f := 26) (by kernel_rfl)) ΦOk.nil))) mixed N Tryd.func9 (c := (bodyOf Tryd.f9)) (by kernel_rfl) impl_FindAll.sg (by kernel_rfl) (by kernel_rfl) (by kernel_rfl) (impl_FindAll.run N)

@[reducible] def laws_eqIntS.sg : Sg := { ms := [{ k := (.sl (.int .i64)), fl := [none] }, { k := (.sl (.int .i64)), fl := [none] }], keep := [false, false], rs := [{ k := .bool }] }
@[reducible] def laws_eqIntS.lvL0 : Lv := { id := 0, slots := [0, 1, 5], ms := [{ k := (.sl (.int .i64)), fl := [none] }, { k := (.sl (.int .i64)), fl := [none] }, { k := (.int .i64) }] }
noncomputable def laws_eqIntS.A : Ann := { dp := fun d => isIn [] d, lp := look [(0, laws_eqIntS.lvL0)], jn := look [], pins := [], nt := 26 }
noncomputable def laws_eqIntS.phis (N : Nat) : List (Nat × Sm D) := []
noncomputable def laws_eqIntS.a0 (N : Nat) (n : Nat) (y : (List (Int)) × (List (Int)) × Int × Unit) : Option (Bool × Unit) := loopAt cx (look (laws_eqIntS.phis N)) laws_eqIntS.A N n (encL cx laws_eqIntS.lvL0.ms y).1 (encL cx laws_eqIntS.lvL0.ms y).2 (bodyOf Tryd.f27) 0 (Kfin cx laws_eqIntS.A laws_eqIntS.sg Tryd.f27.results.toList) [1, 1, 0, 1, 1] []
theorem laws_eqIntS.r0 (N : Nat) : ∀ (n : Nat) (y : (List (Int)) × (List (Int)) × Int × Unit), laws_eqIntS.a0 N n y = laws_eqIntS.L0 N n y
  | 0, y => by kernel_rfl
  | n + 1, y => by
    have h : laws_eqIntS.a0 N (n + 1) y = laws_eqIntS.B0 N (fun z => laws_eqIntS.a0 N n z) y := by kernel_rfl
    have e : (fun z => laws_eqIntS.a0 N n z) = laws_eqIntS.L0 N n := funext fun z => laws_eqIntS.r0 N n z
    rw [h]
    try rw [e]
    first | done | rfl
theorem laws_eqIntS.run (N : Nat) (x : (List (Int)) × (List (Int)) × Unit) : runF cx (look (laws_eqIntS.phis N)) laws_eqIntS.A N (bodyOf Tryd.f27) Tryd.f27.results.toList laws_eqIntS.sg x = laws_eqIntS N x.1 x.2.1 := by
  have h : runF cx (look (laws_eqIntS.phis N)) laws_eqIntS.A N (bodyOf Tryd.f27) Tryd.f27.results.toList laws_eqIntS.sg x = laws_eqIntS.B N (fun z => laws_eqIntS.a0 N N z) x.1 x.2.1 := by kernel_rfl
  have e0 : (fun z => laws_eqIntS.a0 N N z) = laws_eqIntS.L0 N N := funext fun z => laws_eqIntS.r0 N N z
  rw [h, e0]
  try rfl
noncomputable def laws_eqIntS.sm (N : Nat) : Sm D := (⟨laws_eqIntS.sg, fun (x : (List (Int)) × (List (Int)) × Unit) => laws_eqIntS N x.1 x.2.1⟩ : Sm D)
theorem laws_eqIntS.sound (N : Nat) : Sound cx Tryd.prog gam 27 (laws_eqIntS.sm N) := fn_sound (A := laws_eqIntS.A) (Φ := (look (laws_eqIntS.phis N))) pok (G := gam) ΦOk.nil mixed N Tryd.func27 (c := (bodyOf Tryd.f27)) (by kernel_rfl) laws_eqIntS.sg (by kernel_rfl) (by kernel_rfl) (by kernel_rfl) (laws_eqIntS.run N)

@[reducible] def laws_eqIntSS.sg : Sg := { ms := [{ k := (.sl (.sl (.int .i64))), fl := [none] }, { k := (.sl (.sl (.int .i64))), fl := [none] }], keep := [false, false], rs := [{ k := .bool }] }
@[reducible] def laws_eqIntSS.lvL0 : Lv := { id := 0, slots := [0, 1, 5], ms := [{ k := (.sl (.sl (.int .i64))), fl := [none] }, { k := (.sl (.sl (.int .i64))), fl := [none] }, { k := (.int .i64) }] }
noncomputable def laws_eqIntSS.A : Ann := { dp := fun d => isIn [] d, lp := look [(0, laws_eqIntSS.lvL0)], jn := look [], pins := [], nt := 27 }
noncomputable def laws_eqIntSS.phis (N : Nat) : List (Nat × Sm D) := [(27, laws_eqIntS.sm N)]
noncomputable def laws_eqIntSS.a0 (N : Nat) (n : Nat) (y : (List (List (Int))) × (List (List (Int))) × Int × Unit) : Option (Bool × Unit) := loopAt cx (look (laws_eqIntSS.phis N)) laws_eqIntSS.A N n (encL cx laws_eqIntSS.lvL0.ms y).1 (encL cx laws_eqIntSS.lvL0.ms y).2 (bodyOf Tryd.f10) 0 (Kfin cx laws_eqIntSS.A laws_eqIntSS.sg Tryd.f10.results.toList) [1, 1, 0, 1, 1] []
theorem laws_eqIntSS.r0 (N : Nat) : ∀ (n : Nat) (y : (List (List (Int))) × (List (List (Int))) × Int × Unit), laws_eqIntSS.a0 N n y = laws_eqIntSS.L0 N n y
  | 0, y => by kernel_rfl
  | n + 1, y => by
    have h : laws_eqIntSS.a0 N (n + 1) y = laws_eqIntSS.B0 N (fun z => laws_eqIntSS.a0 N n z) y := by kernel_rfl
    have e : (fun z => laws_eqIntSS.a0 N n z) = laws_eqIntSS.L0 N n := funext fun z => laws_eqIntSS.r0 N n z
    rw [h]
    try rw [e]
    first | done | rfl
theorem laws_eqIntSS.run (N : Nat) (x : (List (List (Int))) × (List (List (Int))) × Unit) : runF cx (look (laws_eqIntSS.phis N)) laws_eqIntSS.A N (bodyOf Tryd.f10) Tryd.f10.results.toList laws_eqIntSS.sg x = laws_eqIntSS N x.1 x.2.1 := by
  have h : runF cx (look (laws_eqIntSS.phis N)) laws_eqIntSS.A N (bodyOf Tryd.f10) Tryd.f10.results.toList laws_eqIntSS.sg x = laws_eqIntSS.B N (fun z => laws_eqIntSS.a0 N N z) x.1 x.2.1 := by kernel_rfl
  have e0 : (fun z => laws_eqIntSS.a0 N N z) = laws_eqIntSS.L0 N N := funext fun z => laws_eqIntSS.r0 N N z
  rw [h, e0]
  try rfl
noncomputable def laws_eqIntSS.sm (N : Nat) : Sm D := (⟨laws_eqIntSS.sg, fun (x : (List (List (Int))) × (List (List (Int))) × Unit) => laws_eqIntSS N x.1 x.2.1⟩ : Sm D)
theorem laws_eqIntSS.sound (N : Nat) : Sound cx Tryd.prog gam 10 (laws_eqIntSS.sm N) := fn_sound (A := laws_eqIntSS.A) (Φ := (look (laws_eqIntSS.phis N))) pok (G := gam) (ΦOk.cons (laws_eqIntS.sound N) (fnOk_of (f := 27) (by kernel_rfl)) ΦOk.nil) mixed N Tryd.func10 (c := (bodyOf Tryd.f10)) (by kernel_rfl) laws_eqIntSS.sg (by kernel_rfl) (by kernel_rfl) (by kernel_rfl) (laws_eqIntSS.run N)

@[reducible] def laws_eqValue.sg : Sg := { ms := [{ k := (.st 26) }, { k := (.st 26) }], keep := [false, false], rs := [{ k := .bool }] }
noncomputable def laws_eqValue.A : Ann := { dp := fun d => isIn [] d, lp := look [], jn := look [], pins := [], nt := 20 }
noncomputable def laws_eqValue.phis (N : Nat) : List (Nat × Sm D) := []
theorem laws_eqValue.run (N : Nat) (x : ImplValue × ImplValue × Unit) : runF cx (look (laws_eqValue.phis N)) laws_eqValue.A N (bodyOf Tryd.f57) Tryd.f57.results.toList laws_eqValue.sg x = laws_eqValue N x.1 x.2.1 := by
  have h : runF cx (look (laws_eqValue.phis N)) laws_eqValue.A N (bodyOf Tryd.f57) Tryd.f57.results.toList laws_eqValue.sg x = laws_eqValue.B N x.1 x.2.1 := by kernel_rfl
  rw [h]
  try rfl
noncomputable def laws_eqValue.sm (N : Nat) : Sm D := (⟨laws_eqValue.sg, fun (x : ImplValue × ImplValue × Unit) => laws_eqValue N x.1 x.2.1⟩ : Sm D)
theorem laws_eqValue.sound (N : Nat) : Sound cx Tryd.prog gam 57 (laws_eqValue.sm N) := fn_sound (A := laws_eqValue.A) (Φ := (look (laws_eqValue.phis N))) pok (G := gam) ΦOk.nil mixed N Tryd.func57 (c := (bodyOf Tryd.f57)) (by kernel_rfl) laws_eqValue.sg (by kernel_rfl) (by kernel_rfl) (by kernel_rfl) (laws_eqValue.run N)

@[reducible] def laws_eqProp.sg : Sg := { ms := [{ k := (.st 73) }, { k := (.st 73) }], keep := [false, false], rs := [{ k := .bool }] }
noncomputable def laws_eqProp.A : Ann := { dp := fun d => isIn [] d, lp := look [], jn := look [], pins := [], nt := 16 }
noncomputable def laws_eqProp.phis (N : Nat) : List (Nat × Sm D) := [(57, laws_eqValue.sm N)]
theorem laws_eqProp.run (N : Nat) (x : ImplProp × ImplProp × Unit) : runF cx (look (laws_eqProp.phis N)) laws_eqProp.A N (bodyOf Tryd.f47) Tryd.f47.results.toList laws_eqProp.sg x = laws_eqProp N x.1 x.2.1 := by
  have h : runF cx (look (laws_eqProp.phis N)) laws_eqProp.A N (bodyOf Tryd.f47) Tryd.f47.results.toList laws_eqProp.sg x = laws_eqProp.B N x.1 x.2.1 := by kernel_rfl
  rw [h]
  try rfl
noncomputable def laws_eqProp.sm (N : Nat) : Sm D := (⟨laws_eqProp.sg, fun (x : ImplProp × ImplProp × Unit) => laws_eqProp N x.1 x.2.1⟩ : Sm D)
theorem laws_eqProp.sound (N : Nat) : Sound cx Tryd.prog gam 47 (laws_eqProp.sm N) := fn_sound (A := laws_eqProp.A) (Φ := (look (laws_eqProp.phis N))) pok (G := gam) (ΦOk.cons (laws_eqValue.sound N) (fnOk_of (f := 57) (by kernel_rfl)) ΦOk.nil) mixed N Tryd.func47 (c := (bodyOf Tryd.f47)) (by kernel_rfl) laws_eqProp.sg (by kernel_rfl) (by kernel_rfl) (by kernel_rfl) (laws_eqProp.run N)

@[reducible] def laws_eqPropS.sg : Sg := { ms := [{ k := (.sl (.st 73)), fl := [none] }, { k := (.sl (.st 73)), fl := [none] }], keep := [false, false], rs := [{ k := .bool }] }
@[reducible] def laws_eqPropS.lvL0 : Lv := { id := 0, slots := [0, 1, 5], ms := [{ k := (.sl (.st 73)), fl := [none] }, { k := (.sl (.st 73)), fl := [none] }, { k := (.int .i64) }] }
noncomputable def laws_eqPropS.A : Ann := { dp := fun d => isIn [] d, lp := look [(0, laws_eqPropS.lvL0)], jn := look [], pins := [], nt := 27 }
noncomputable def laws_eqPropS.phis (N : Nat) : List (Nat × Sm D) := [(47, laws_eqProp.sm N)]
noncomputable def laws_eqPropS.a0 (N : Nat) (n : Nat) (y : (List (ImplProp)) × (List (ImplProp)) × Int × Unit) : Option (Bool × Unit) := loopAt cx (look (laws_eqPropS.phis N)) laws_eqPropS.A N n (encL cx laws_eqPropS.lvL0.ms y).1 (encL cx laws_eqPropS.lvL0.ms y).2 (bodyOf Tryd.f28) 0 (Kfin cx laws_eqPropS.A laws_eqPropS.sg Tryd.f28.results.toList) [1, 1, 0, 1, 1] []
theorem laws_eqPropS.r0 (N : Nat) : ∀ (n : Nat) (y : (List (ImplProp)) × (List (ImplProp)) × Int × Unit), laws_eqPropS.a0 N n y = laws_eqPropS.L0 N n y
  | 0, y => by kernel_rfl
  | n + 1, y => by
    have h : laws_eqPropS.a0 N (n + 1) y = laws_eqPropS.B0 N (fun z => laws_eqPropS.a0 N n z) y := by kernel_rfl
    have e : (fun z => laws_eqPropS.a0 N n z) = laws_eqPropS.L0 N n := funext fun z => laws_eqPropS.r0 N n z
    rw [h]
    try rw [e]
    first | done | rfl
theorem laws_eqPropS.run (N : Nat) (x : (List (ImplProp)) × (List (ImplProp)) × Unit) : runF cx (look (laws_eqPropS.phis N)) laws_eqPropS.A N (bodyOf Tryd.f28) Tryd.f28.results.toList laws_eqPropS.sg x = laws_eqPropS N x.1 x.2.1 := by
  have h : runF cx (look (laws_eqPropS.phis N)) laws_eqPropS.A N (bodyOf Tryd.f28) Tryd.f28.results.toList laws_eqPropS.sg x = laws_eqPropS.B N (fun z => laws_eqPropS.a0 N N z) x.1 x.2.1 := by kernel_rfl
  have e0 : (fun z => laws_eqPropS.a0 N N z) = laws_eqPropS.L0 N N := funext fun z => laws_eqPropS.r0 N N z
  rw [h, e0]
  try rfl
noncomputable def laws_eqPropS.sm (N : Nat) : Sm D := (⟨laws_eqPropS.sg, fun (x : (List (ImplProp)) × (List (ImplProp)) × Unit) => laws_eqPropS N x.1 x.2.1⟩ : Sm D)
theorem laws_eqPropS.sound (N : Nat) : Sound cx Tryd.prog gam 28 (laws_eqPropS.sm N) := fn_sound (A := laws_eqPropS.A) (Φ := (look (laws_eqPropS.phis N))) pok (G := gam) (ΦOk.cons (laws_eqProp.sound N) (fnOk_of (f := 47) (by kernel_rfl)) ΦOk.nil) mixed N Tryd.func28 (c := (bodyOf Tryd.f28)) (by kernel_rfl) laws_eqPropS.sg (by kernel_rfl) (by kernel_rfl) (by kernel_rfl) (laws_eqPropS.run N)

@[reducible] def laws_eqTreeS.sg : Sg := { ms := [{ k := (.sl (.st 36)), fl := [none] }, { k := (.sl (.st 36)), fl := [none] }], keep := [false, false], rs := [{ k := .bool }] }
@[reducible] def laws_eqTree.sg : Sg := { ms := [{ k := (.st 36) }, { k := (.st 36) }], keep := [false, false], rs := [{ k := .bool }] }
@[reducible] def laws_eqTreeS.lvL0 : Lv := { id := 0, slots := [0, 1, 5], ms := [{ k := (.sl (.st 36)), fl := [none] }, { k := (.sl (.st 36)), fl := [none] }, { k := (.int .i64) }] }
noncomputable def laws_eqTreeS.A : Ann := { dp := fun d => isIn [] d, lp := look [(0, laws_eqTreeS.lvL0)], jn := look [], pins := [], nt := 27 }
noncomputable def laws_eqTreeS.phis (N : Nat) (d : Nat) : List (Nat × Sm D) := [(11, (⟨laws_eqTree.sg, fun (x : ImplTree × ImplTree × Unit) => laws_eqTree.R N d x.1 x.2.1⟩ : Sm D))]
noncomputable def laws_eqTreeS.a0 (N : Nat) (d : Nat) (n : Nat) (y : (List (ImplTree)) × (List (ImplTree)) × Int × Unit) : Option (Bool × Unit) := loopAt cx (look (laws_eqTreeS.phis N d)) laws_eqTreeS.A N n (encL cx laws_eqTreeS.lvL0.ms y).1 (encL cx laws_eqTreeS.lvL0.ms y).2 (bodyOf Tryd.f29) 0 (Kfin cx laws_eqTreeS.A laws_eqTreeS.sg Tryd.f29.results.toList) [1, 1, 0, 1, 1] []
theorem laws_eqTreeS.r0 (N : Nat) (d : Nat) : ∀ (n : Nat) (y : (List (ImplTree)) × (List (ImplTree)) × Int × Unit), laws_eqTreeS.a0 N d n y = laws_eqTreeS.L0 N (laws_eqTreeS.R N d) (laws_eqTree.R N d) n y
  | 0, y => by kernel_rfl
  | n + 1, y => by
    have h : laws_eqTreeS.a0 N d (n + 1) y = laws_eqTreeS.B0 N (laws_eqTreeS.R N d) (laws_eqTree.R N d) (fun z => laws_eqTreeS.a0 N d n z) y := by kernel_rfl
    have e : (fun z => laws_eqTreeS.a0 N d n z) = laws_eqTreeS.L0 N (laws_eqTreeS.R N d) (laws_eqTree.R N d) n := funext fun z => laws_eqTreeS.r0 N d n z
    rw [h]
    try rw [e]
    first | done | rfl
theorem laws_eqTreeS.run (N : Nat) (d : Nat) (x : (List (ImplTree)) × (List (ImplTree)) × Unit) : runF cx (look (laws_eqTreeS.phis N d)) laws_eqTreeS.A N (bodyOf Tryd.f29) Tryd.f29.results.toList laws_eqTreeS.sg x = laws_eqTreeS.R N (d + 1) x.1 x.2.1 := by
  have h : runF cx (look (laws_eqTreeS.phis N d)) laws_eqTreeS.A N (bodyOf Tryd.f29) Tryd.f29.results.toList laws_eqTreeS.sg x = laws_eqTreeS.B N (laws_eqTreeS.R N d) (laws_eqTree.R N d) (fun z => laws_eqTreeS.a0 N d N z) x.1 x.2.1 := by kernel_rfl
  have e0 : (fun z => laws_eqTreeS.a0 N d N z) = laws_eqTreeS.L0 N (laws_eqTreeS.R N d) (laws_eqTree.R N d) N := funext fun z => laws_eqTreeS.r0 N d N z
  rw [h, e0]
  try rfl
theorem laws_eqTreeS.step (N : Nat) (d : Nat) (h_laws_eqTree : Sound cx Tryd.prog gam 11 (⟨laws_eqTree.sg, fun (x : ImplTree × ImplTree × Unit) => laws_eqTree.R N d x.1 x.2.1⟩ : Sm D)) : Sound cx Tryd.prog gam 29 (⟨laws_eqTreeS.sg, fun (x : (List (ImplTree)) × (List (ImplTree)) × Unit) => laws_eqTreeS.R N (d + 1) x.1 x.2.1⟩ : Sm D) := fn_sound (A := laws_eqTreeS.A) (Φ := (look (laws_eqTreeS.phis N d))) pok (G := gam) (ΦOk.cons h_laws_eqTree (fnOk_of (f := 11) (by kernel_rfl)) ΦOk.nil) mixed N Tryd.func29 (c := (bodyOf Tryd.f29)) (by kernel_rfl) laws_eqTreeS.sg (by kernel_rfl) (by kernel_rfl) (by kernel_rfl) (laws_eqTreeS.run N d)

noncomputable def laws_eqTree.A : Ann := { dp := fun d => isIn [] d, lp := look [], jn := look [], pins := [], nt := 32 }
noncomputable def laws_eqTree.phis (N : Nat) (d : Nat) : List (Nat × Sm D) := [(28, laws_eqPropS.sm N), (29, (⟨laws_eqTreeS.sg, fun (x : (List (ImplTree)) × (List (ImplTree)) × Unit) => laws_eqTreeS.R N d x.1 x.2.1⟩ : Sm D))]
theorem laws_eqTree.run (N : Nat) (d : Nat) (x : ImplTree × ImplTree × Unit) : runF cx (look (laws_eqTree.phis N d)) laws_eqTree.A N (bodyOf Tryd.f11) Tryd.f11.results.toList laws_eqTree.sg x = laws_eqTree.R N (d + 1) x.1 x.2.1 := by
  have h : runF cx (look (laws_eqTree.phis N d)) laws_eqTree.A N (bodyOf Tryd.f11) Tryd.f11.results.toList laws_eqTree.sg x = laws_eqTree.B N (laws_eqTreeS.R N d) (laws_eqTree.R N d) x.1 x.2.1 := by kernel_rfl
  rw [h]
  try rfl
theorem laws_eqTree.step (N : Nat) (d : Nat) (h_laws_eqTreeS : Sound cx Tryd.prog gam 29 (⟨laws_eqTreeS.sg, fun (x : (List (ImplTree)) × (List (ImplTree)) × Unit) => laws_eqTreeS.R N d x.1 x.2.1⟩ : Sm D)) : Sound cx Tryd.prog gam 11 (⟨laws_eqTree.sg, fun (x : ImplTree × ImplTree × Unit) => laws_eqTree.R N (d + 1) x.1 x.2.1⟩ : Sm D) := fn_sound (A := laws_eqTree.A) (Φ := (look (laws_eqTree.phis N d))) pok (G := gam) (ΦOk.cons (laws_eqPropS.sound N) (fnOk_of (f := 28) (by kernel_rfl)) (ΦOk.cons h_laws_eqTreeS (fnOk_of (f := 29) (by kernel_rfl)) ΦOk.nil)) mixed N Tryd.func11 (c := (bodyOf Tryd.f11)) (by kernel_rfl) laws_eqTree.sg (by kernel_rfl) (by kernel_rfl) (by kernel_rfl) (laws_eqTree.run N d)

theorem laws_eqTreeS.scc (N : Nat) : ∀ d, Sound cx Tryd.prog gam 29 (⟨laws_eqTreeS.sg, fun (x : (List (ImplTree)) × (List (ImplTree)) × Unit) => laws_eqTreeS.R N d x.1 x.2.1⟩ : Sm D) ∧ Sound cx Tryd.prog gam 11 (⟨laws_eqTree.sg, fun (x : ImplTree × ImplTree × Unit) => laws_eqTree.R N d x.1 x.2.1⟩ : Sm D)
  | 0 => ⟨none_sound 29 laws_eqTreeS.sg, none_sound 11 laws_eqTree.sg⟩
  | d + 1 => by
    have ih := laws_eqTreeS.scc N d
    obtain ⟨ih0, ih1⟩ := ih
    exact ⟨laws_eqTreeS.step N d ih1, laws_eqTree.step N d ih0⟩
noncomputable def laws_eqTreeS.sm (N : Nat) : Sm D := (⟨laws_eqTreeS.sg, fun (x : (List (ImplTree)) × (List (ImplTree)) × Unit) => laws_eqTreeS.R N N x.1 x.2.1⟩ : Sm D)
theorem laws_eqTreeS.sound (N : Nat) : Sound cx Tryd.prog gam 29 (laws_eqTreeS.sm N) := (laws_eqTreeS.scc N N).1
noncomputable def laws_eqTree.sm (N : Nat) : Sm D := (⟨laws_eqTree.sg, fun (x : ImplTree × ImplTree × Unit) => laws_eqTree.R N N x.1 x.2.1⟩ : Sm D)
theorem laws_eqTree.sound (N : Nat) : Sound cx Tryd.prog gam 11 (laws_eqTree.sm N) := (laws_eqTreeS.scc N N).2
@[reducible] def laws_markText.sg : Sg := { ms := [{ k := (.int .i64) }], keep := [false], rs := [{ k := .str }] }
@[reducible] def laws_markText.lvL0 : Lv := { id := 0, slots := [0, 3], ms := [{ k := (.int .i64) }, { k := .str }] }
noncomputable def laws_markText.A : Ann := { dp := fun d => isIn [] d, lp := look [(0, laws_markText.lvL0)], jn := look [], pins := [], nt := 20 }
noncomputable def laws_markText.phis (N : Nat) : List (Nat × Sm D) := []
noncomputable def laws_markText.a0 (N : Nat) (n : Nat) (y : Int × (List UInt8) × Unit) : Option ((List UInt8) × Unit) := loopAt cx (look (laws_markText.phis N)) laws_markText.A N n (encL cx laws_markText.lvL0.ms y).1 (encL cx laws_markText.lvL0.ms y).2 (bodyOf Tryd.f48) 0 (Kfin cx laws_markText.A laws_markText.sg Tryd.f48.results.toList) [1, 1, 1, 0, 1] []
theorem laws_markText.r0 (N : Nat) : ∀ (n : Nat) (y : Int × (List UInt8) × Unit), laws_markText.a0 N n y = laws_markText.L0 N n y
  | 0, y => by kernel_rfl
  | n + 1, y => by
    have h : laws_markText.a0 N (n + 1) y = laws_markText.B0 N (fun z => laws_markText.a0 N n z) y := by kernel_rfl
    have e : (fun z => laws_markText.a0 N n z) = laws_markText.L0 N n := funext fun z => laws_markText.r0 N n z
    rw [h]
    try rw [e]
    first | done | rfl
theorem laws_markText.run (N : Nat) (x : Int × Unit) : runF cx (look (laws_markText.phis N)) laws_markText.A N (bodyOf Tryd.f48) Tryd.f48.results.toList laws_markText.sg x = laws_markText N x.1 := by
  have h : runF cx (look (laws_markText.phis N)) laws_markText.A N (bodyOf Tryd.f48) Tryd.f48.results.toList laws_markText.sg x = laws_markText.B N (fun z => laws_markText.a0 N N z) x.1 := by kernel_rfl
  have e0 : (fun z => laws_markText.a0 N N z) = laws_markText.L0 N N := funext fun z => laws_markText.r0 N N z
  rw [h, e0]
  try rfl
noncomputable def laws_markText.sm (N : Nat) : Sm D := (⟨laws_markText.sg, fun (x : Int × Unit) => laws_markText N x.1⟩ : Sm D)
theorem laws_markText.sound (N : Nat) : Sound cx Tryd.prog gam 48 (laws_markText.sm N) := fn_sound (A := laws_markText.A) (Φ := (look (laws_markText.phis N))) pok (G := gam) ΦOk.nil mixed N Tryd.func48 (c := (bodyOf Tryd.f48)) (by kernel_rfl) laws_markText.sg (by kernel_rfl) (by kernel_rfl) (by kernel_rfl) (laws_markText.run N)

@[reducible] def laws_markPropS.sg : Sg := { ms := [{ k := (.sl (.st 73)), fl := [some (true, 11)] }, { k := (.int .i64) }], keep := [true, false], rs := [{ k := (.int .i64) }] }
@[reducible] def laws_markPropS.lvL0 : Lv := { id := 0, slots := [0, 1, 5], ms := [{ k := (.sl (.st 73)), fl := [some (true, 11)] }, { k := (.int .i64) }, { k := (.int .i64) }] }
noncomputable def laws_markPropS.A : Ann := { dp := fun d => isIn [] d, lp := look [(0, laws_markPropS.lvL0)], jn := look [], pins := [11], nt := 45 }
noncomputable def laws_markPropS.phis (N : Nat) : List (Nat × Sm D) := [(48, laws_markText.sm N)]
noncomputable def laws_markPropS.a0 (N : Nat) (n : Nat) (y : (List (ImplProp)) × Int × Int × Unit) : Option ((List (ImplProp)) × Int × Unit) := loopAt cx (look (laws_markPropS.phis N)) laws_markPropS.A N n (encL cx laws_markPropS.lvL0.ms y).1 (encL cx laws_markPropS.lvL0.ms y).2 (bodyOf Tryd.f30) 0 (Kfin cx laws_markPropS.A laws_markPropS.sg Tryd.f30.results.toList) [1, 0, 1, 1] []
theorem laws_markPropS.r0 (N : Nat) : ∀ (n : Nat) (y : (List (ImplProp)) × Int × Int × Unit), laws_markPropS.a0 N n y = laws_markPropS.L0 N n y
  | 0, y => by kernel_rfl
  | n + 1, y => by
    have h : laws_markPropS.a0 N (n + 1) y = laws_markPropS.B0 N (fun z => laws_markPropS.a0 N n z) y := by kernel_rfl
    have e : (fun z => laws_markPropS.a0 N n z) = laws_markPropS.L0 N n := funext fun z => laws_markPropS.r0 N n z
    rw [h]
    try rw [e]
    first | done | rfl
theorem laws_markPropS.run (N : Nat) (x : (List (ImplProp)) × Int × Unit) : runF cx (look (laws_markPropS.phis N)) laws_markPropS.A N (bodyOf Tryd.f30) Tryd.f30.results.toList laws_markPropS.sg x = laws_markPropS N x.1 x.2.1 := by
  have h : runF cx (look (laws_markPropS.phis N)) laws_markPropS.A N (bodyOf Tryd.f30) Tryd.f30.results.toList laws_markPropS.sg x = laws_markPropS.B N (fun z => laws_markPropS.a0 N N z) x.1 x.2.1 := by kernel_rfl
  have e0 : (fun z => laws_markPropS.a0 N N z) = laws_markPropS.L0 N N := funext fun z => laws_markPropS.r0 N N z
  rw [h, e0]
  try rfl
noncomputable def laws_markPropS.sm (N : Nat) : Sm D := (⟨laws_markPropS.sg, fun (x : (List (ImplProp)) × Int × Unit) => laws_markPropS N x.1 x.2.1⟩ : Sm D)
theorem laws_markPropS.sound (N : Nat) : Sound cx Tryd.prog gam 30 (laws_markPropS.sm N) := fn_sound (A := laws_markPropS.A) (Φ := (look (laws_markPropS.phis N))) pok (G := gam) (ΦOk.cons (laws_markText.sound N) (fnOk_of (f := 48) (by kernel_rfl)) ΦOk.nil) mixed N Tryd.func30 (c := (bodyOf Tryd.f30)) (by kernel_rfl) laws_markPropS.sg (by kernel_rfl) (by kernel_rfl) (by kernel_rfl) (laws_markPropS.run N)

@[reducible] def laws_markTreeS.sg : Sg := { ms := [{ k := (.sl (.st 36)), fl := [some (true, 11)] }, { k := (.int .i64) }], keep := [true, false], rs := [{ k := (.int .i64) }] }
@[reducible] def laws_markTreeS.lvL0 : Lv := { id := 0, slots := [0, 1, 5], ms := [{ k := (.sl (.st 36)), fl := [some (true, 11)] }, { k := (.int .i64) }, { k := (.int .i64) }] }
noncomputable def laws_markTreeS.A : Ann := { dp := fun d => isIn [] d, lp := look [(0, laws_markTreeS.lvL0)], jn := look [], pins := [11], nt := 49 }
noncomputable def laws_markTreeS.phis (N : Nat) (d : Nat) : List (Nat × Sm D) := [(48, laws_markText.sm N), (30, laws_markPropS.sm N), (31, (⟨laws_markTreeS.sg, fun (x : (List (ImplTree)) × Int × Unit) => laws_markTreeS.R N d x.1 x.2.1⟩ : Sm D))]
noncomputable def laws_markTreeS.a0 (N : Nat) (d : Nat) (n : Nat) (y : (List (ImplTree)) × Int × Int × Unit) : Option ((List (ImplTree)) × Int × Unit) := loopAt cx (look (laws_markTreeS.phis N d)) laws_markTreeS.A N n (encL cx laws_markTreeS.lvL0.ms y).1 (encL cx laws_markTreeS.lvL0.ms y).2 (bodyOf Tryd.f31) 0 (Kfin cx laws_markTreeS.A laws_markTreeS.sg Tryd.f31.results.toList) [1, 0, 1, 1] []
theorem laws_markTreeS.r0 (N : Nat) (d : Nat) : ∀ (n : Nat) (y : (List (ImplTree)) × Int × Int × Unit), laws_markTreeS.a0 N d n y = laws_markTreeS.L0 N (laws_markTreeS.R N d) n y
  | 0, y => by kernel_rfl
  | n + 1, y => by
    have h : laws_markTreeS.a0 N d (n + 1) y = laws_markTreeS.B0 N (laws_markTreeS.R N d) (fun z => laws_markTreeS.a0 N d n z) y := by kernel_rfl
    have e : (fun z => laws_markTreeS.a0 N d n z) = laws_markTreeS.L0 N (laws_markTreeS.R N d) n := funext fun z => laws_markTreeS.r0 N d n z
    rw [h]
    try rw [e]
    first | done | rfl
theorem laws_markTreeS.run (N : Nat) (d : Nat) (x : (List (ImplTree)) × Int × Unit) : runF cx (look (laws_markTreeS.phis N d)) laws_markTreeS.A N (bodyOf Tryd.f31) Tryd.f31.results.toList laws_markTreeS.sg x = laws_markTreeS.R N (d + 1) x.1 x.2.1 := by
  have h : runF cx (look (laws_markTreeS.phis N d)) laws_markTreeS.A N (bodyOf Tryd.f31) Tryd.f31.results.toList laws_markTreeS.sg x = laws_markTreeS.B N (laws_markTreeS.R N d) (fun z => laws_markTreeS.a0 N d N z) x.1 x.2.1 := by kernel_rfl
  have e0 : (fun z => laws_markTreeS.a0 N d N z) = laws_markTreeS.L0 N (laws_markTreeS.R N d) N := funext fun z => laws_markTreeS.r0 N d N z
  rw [h, e0]
  try rfl
theorem laws_markTreeS.step (N : Nat) (d : Nat) (h_laws_markTreeS : Sound cx Tryd.prog gam 31 (⟨laws_markTreeS.sg, fun (x : (List (ImplTree)) × Int × Unit) => laws_markTreeS.R N d x.1 x.2.1⟩ : Sm D)) : Sound cx Tryd.prog gam 31 (⟨laws_markTreeS.sg, fun (x : (List (ImplTree)) × Int × Unit) => laws_markTreeS.R N (d + 1) x.1 x.2.1⟩ : Sm D) := fn_sound (A := laws_markTreeS.A) (Φ := (look (laws_markTreeS.phis N d))) pok (G := gam) (ΦOk.cons (laws_markText.sound N) (fnOk_of (f := 48) (by kernel_rfl)) (ΦOk.cons (laws_markPropS.sound N) (fnOk_of (f := 30) (by kernel_rfl)) (ΦOk.cons h_laws_markTreeS (fnOk_of (f := 31) (by kernel_rfl)) ΦOk.nil))) mixed N Tryd.func31 (c := (bodyOf Tryd.f31)) (by kernel_rfl) laws_markTreeS.sg (by kernel_rfl) (by kernel_rfl) (by kernel_rfl) (laws_markTreeS.run N d)

theorem laws_markTreeS.scc (N : Nat) : ∀ d, Sound cx Tryd.prog gam 31 (⟨laws_markTreeS.sg, fun (x : (List (ImplTree)) × Int × Unit) => laws_markTreeS.R N d x.1 x.2.1⟩ : Sm D)
  | 0 => none_sound 31 laws_markTreeS.sg
  | d + 1 => by
    have ih := laws_markTreeS.scc N d
    exact laws_markTreeS.step N d ih
noncomputable def laws_markTreeS.sm (N : Nat) : Sm D := (⟨laws_markTreeS.sg, fun (x : (List (ImplTree)) × Int × Unit) => laws_markTreeS.R N N x.1 x.2.1⟩ : Sm D)
theorem laws_markTreeS.sound (N : Nat) : Sound cx Tryd.prog gam 31 (laws_markTreeS.sm N) := (laws_markTreeS.scc N N)
@[reducible] def laws_markTree.sg : Sg := { ms := [{ k := (.st 36), fl := [none, none, none, some (true, 14), some (true, 15)] }, { k := (.int .i64) }], keep := [true, false], rs := [{ k := (.int .i64) }] }
noncomputable def laws_markTree.A : Ann := { dp := fun d => isIn [] d, lp := look [], jn := look [], pins := [14, 15], nt := 14 }
noncomputable def laws_markTree.phis (N : Nat) : List (Nat × Sm D) := [(30, laws_markPropS.sm N), (31, laws_markTreeS.sm N)]
theorem laws_markTree.run (N : Nat) (x : ImplTree × Int × Unit) : runF cx (look (laws_markTree.phis N)) laws_markTree.A N (bodyOf Tryd.f12) Tryd.f12.results.toList laws_markTree.sg x = laws_markTree N x.1 x.2.1 := by
  have h : runF cx (look (laws_markTree.phis N)) laws_markTree.A N (bodyOf Tryd.f12) Tryd.f12.results.toList laws_markTree.sg x = laws_markTree.B N x.1 x.2.1 := by kernel_rfl
  rw [h]
  try rfl
noncomputable def laws_markTree.sm (N : Nat) : Sm D := (⟨laws_markTree.sg, fun (x : ImplTree × Int × Unit) => laws_markTree N x.1 x.2.1⟩ : Sm D)
theorem laws_markTree.sound (N : Nat) : Sound cx Tryd.prog gam 12 (laws_markTree.sm N) := fn_sound (A := laws_markTree.A) (Φ := (look (laws_markTree.phis N))) pok (G := gam) (ΦOk.cons (laws_markPropS.sound N) (fnOk_of (f := 30) (by kernel_rfl)) (ΦOk.cons (laws_markTreeS.sound N) (fnOk_of (f := 31) (by kernel_rfl)) ΦOk.nil)) mixed N Tryd.func12 (c := (bodyOf Tryd.f12)) (by kernel_rfl) laws_markTree.sg (by kernel_rfl) (by kernel_rfl) (by kernel_rfl) (laws_markTree.run N)

@[reducible] def laws_markIntS.sg : Sg := { ms := [{ k := (.sl (.int .i64)), fl := [some (true, 11)] }, { k := (.int .i64) }], keep := [true, false], rs := [{ k := (.int .i64) }] }
@[reducible] def laws_markIntS.lvL0 : Lv := { id := 0, slots := [0, 1, 5], ms := [{ k := (.sl (.int .i64)), fl := [some (true, 11)] }, { k := (.int .i64) }, { k := (.int .i64) }] }
noncomputable def laws_markIntS.A : Ann := { dp := fun d => isIn [] d, lp := look [(0, laws_markIntS.lvL0)], jn := look [], pins := [11], nt := 19 }
noncomputable def laws_markIntS.phis (N : Nat) : List (Nat × Sm D) := []
noncomputable def laws_markIntS.a0 (N : Nat) (n : Nat) (y : (List (Int)) × Int × Int × Unit) : Option ((List (Int)) × Int × Unit) := loopAt cx (look (laws_markIntS.phis N)) laws_markIntS.A N n (encL cx laws_markIntS.lvL0.ms y).1 (encL cx laws_markIntS.lvL0.ms y).2 (bodyOf Tryd.f32) 0 (Kfin cx laws_markIntS.A laws_markIntS.sg Tryd.f32.results.toList) [1, 0, 1, 1] []
theorem laws_markIntS.r0 (N : Nat) : ∀ (n : Nat) (y : (List (Int)) × Int × Int × Unit), laws_markIntS.a0 N n y = laws_markIntS.L0 N n y
  | 0, y => by kernel_rfl
  | n + 1, y => by
    have h : laws_markIntS.a0 N (n + 1) y = laws_markIntS.B0 N (fun z => laws_markIntS.a0 N n z) y := by kernel_rfl
    have e : (fun z => laws_markIntS.a0 N n z) = laws_markIntS.L0 N n := funext fun z => laws_markIntS.r0 N n z
    rw [h]
    try rw [e]
    first | done | rfl
theorem laws_markIntS.run (N : Nat) (x : (List (Int)) × Int × Unit) : runF cx (look (laws_markIntS.phis N)) laws_markIntS.A N (bodyOf Tryd.f32) Tryd.f32.results.toList laws_markIntS.sg x = laws_markIntS N x.1 x.2.1 := by
  have h : runF cx (look (laws_markIntS.phis N)) laws_markIntS.A N (bodyOf Tryd.f32) Tryd.f32.results.toList laws_markIntS.sg x = laws_markIntS.B N (fun z => laws_markIntS.a0 N N z) x.1 x.2.1 := by kernel_rfl
  have e0 : (fun z => laws_markIntS.a0 N N z) = laws_markIntS.L0 N N := funext fun z => laws_markIntS.r0 N N z
  rw [h, e0]
  try rfl
noncomputable def laws_markIntS.sm (N : Nat) : Sm D := (⟨laws_markIntS.sg, fun (x : (List (Int)) × Int × Unit) => laws_markIntS N x.1 x.2.1⟩ : Sm D)
theorem laws_markIntS.sound (N : Nat) : Sound cx Tryd.prog gam 32 (laws_markIntS.sm N) := fn_sound (A := laws_markIntS.A) (Φ := (look (laws_markIntS.phis N))) pok (G := gam) ΦOk.nil mixed N Tryd.func32 (c := (bodyOf Tryd.f32)) (by kernel_rfl) laws_markIntS.sg (by kernel_rfl) (by kernel_rfl) (by kernel_rfl) (laws_markIntS.run N)

@[reducible] def laws_markIntSS.sg : Sg := { ms := [{ k := (.sl (.sl (.int .i64))), fl := [some (true, 11)] }, { k := (.int .i64) }], keep := [true, false], rs := [{ k := (.int .i64) }] }
@[reducible] def laws_markIntSS.lvL0 : Lv := { id := 0, slots := [0, 1, 5], ms := [{ k := (.sl (.sl (.int .i64))), fl := [some (true, 11)] }, { k := (.int .i64) }, { k := (.int .i64) }] }
noncomputable def laws_markIntSS.A : Ann := { dp := fun d => isIn [] d, lp := look [(0, laws_markIntSS.lvL0)], jn := look [], pins := [11], nt := 19 }
noncomputable def laws_markIntSS.phis (N : Nat) : List (Nat × Sm D) := [(32, laws_markIntS.sm N)]
noncomputable def laws_markIntSS.a0 (N : Nat) (n : Nat) (y : (List (List (Int))) × Int × Int × Unit) : Option ((List (List (Int))) × Int × Unit) := loopAt cx (look (laws_markIntSS.phis N)) laws_markIntSS.A N n (encL cx laws_markIntSS.lvL0.ms y).1 (encL cx laws_markIntSS.lvL0.ms y).2 (bodyOf Tryd.f13) 0 (Kfin cx laws_markIntSS.A laws_markIntSS.sg Tryd.f13.results.toList) [1, 0, 1, 1] []
theorem laws_markIntSS.r0 (N : Nat) : ∀ (n : Nat) (y : (List (List (Int))) × Int × Int × Unit), laws_markIntSS.a0 N n y = laws_markIntSS.L0 N n y
  | 0, y => by kernel_rfl
  | n + 1, y => by
    have h : laws_markIntSS.a0 N (n + 1) y = laws_markIntSS.B0 N (fun z => laws_markIntSS.a0 N n z) y := by kernel_rfl
    have e : (fun z => laws_markIntSS.a0 N n z) = laws_markIntSS.L0 N n := funext fun z => laws_markIntSS.r0 N n z
    rw [h]
    try rw [e]
    first | done | rfl
theorem laws_markIntSS.run (N : Nat) (x : (List (List (Int))) × Int × Unit) : runF cx (look (laws_markIntSS.phis N)) laws_markIntSS.A N (bodyOf Tryd.f13) Tryd.f13.results.toList laws_markIntSS.sg x = laws_markIntSS N x.1 x.2.1 := by
  have h : runF cx (look (laws_markIntSS.phis N)) laws_markIntSS.A N (bodyOf Tryd.f13) Tryd.f13.results.toList laws_markIntSS.sg x = laws_markIntSS.B N (fun z => laws_markIntSS.a0 N N z) x.1 x.2.1 := by kernel_rfl
  have e0 : (fun z => laws_markIntSS.a0 N N z) = laws_markIntSS.L0 N N := funext fun z => laws_markIntSS.r0 N N z
  rw [h, e0]
  try rfl
noncomputable def laws_markIntSS.sm (N : Nat) : Sm D := (⟨laws_markIntSS.sg, fun (x : (List (List (Int))) × Int × Unit) => laws_markIntSS N x.1 x.2.1⟩ : Sm D)
theorem laws_markIntSS.sound (N : Nat) : Sound cx Tryd.prog gam 13 (laws_markIntSS.sm N) := fn_sound (A := laws_markIntSS.A) (Φ := (look (laws_markIntSS.phis N))) pok (G := gam) (ΦOk.cons (laws_markIntS.sound N) (fnOk_of (f := 32) (by kernel_rfl)) ΦOk.nil) mixed N Tryd.func13 (c := (bodyOf Tryd.f13)) (by kernel_rfl) laws_markIntSS.sg (by kernel_rfl) (by kernel_rfl) (by kernel_rfl) (laws_markIntSS.run N)

@[reducible] def laws_heldIntS.sg : Sg := { ms := [{ k := (.sl (.int .i64)), fl := [none] }, { k := (.int .i64) }], keep := [false, false], rs := [{ k := (.int .i64) }] }
@[reducible] def laws_heldIntS.lvL0 : Lv := { id := 0, slots := [0, 1, 5], ms := [{ k := (.sl (.int .i64)), fl := [none] }, { k := (.int .i64) }, { k := (.int .i64) }] }
noncomputable def laws_heldIntS.A : Ann := { dp := fun d => isIn [] d, lp := look [(0, laws_heldIntS.lvL0)], jn := look [], pins := [], nt := 21 }
noncomputable def laws_heldIntS.phis (N : Nat) : List (Nat × Sm D) := []
noncomputable def laws_heldIntS.a0 (N : Nat) (n : Nat) (y : (List (Int)) × Int × Int × Unit) : Option (Int × Unit) := loopAt cx (look (laws_heldIntS.phis N)) laws_heldIntS.A N n (encL cx laws_heldIntS.lvL0.ms y).1 (encL cx laws_heldIntS.lvL0.ms y).2 (bodyOf Tryd.f33) 0 (Kfin cx laws_heldIntS.A laws_heldIntS.sg Tryd.f33.results.toList) [1, 0, 1, 1] []
theorem laws_heldIntS.r0 (N : Nat) : ∀ (n : Nat) (y : (List (Int)) × Int × Int × Unit), laws_heldIntS.a0 N n y = laws_heldIntS.L0 N n y
  | 0, y => by kernel_rfl
  | n + 1, y => by
    have h : laws_heldIntS.a0 N (n + 1) y = laws_heldIntS.B0 N (fun z => laws_heldIntS.a0 N n z) y := by kernel_rfl
    have e : (fun z => laws_heldIntS.a0 N n z) = laws_heldIntS.L0 N n := funext fun z => laws_heldIntS.r0 N n z
    rw [h]
    try rw [e]
    first | done | rfl
theorem laws_heldIntS.run (N : Nat) (x : (List (Int)) × Int × Unit) : runF cx (look (laws_heldIntS.phis N)) laws_heldIntS.A N (bodyOf Tryd.f33) Tryd.f33.results.toList laws_heldIntS.sg x = laws_heldIntS N x.1 x.2.1 := by
  have h : runF cx (look (laws_heldIntS.phis N)) laws_heldIntS.A N (bodyOf Tryd.f33) Tryd.f33.results.toList laws_heldIntS.sg x = laws_heldIntS.B N (fun z => laws_heldIntS.a0 N N z) x.1 x.2.1 := by kernel_rfl
  have e0 : (fun z => laws_heldIntS.a0 N N z) = laws_heldIntS.L0 N N := funext fun z => laws_heldIntS.r0 N N z
  rw [h, e0]
  try rfl
noncomputable def laws_heldIntS.sm (N : Nat) : Sm D := (⟨laws_heldIntS.sg, fun (x : (List (Int)) × Int × Unit) => laws_heldIntS N x.1 x.2.1⟩ : Sm D)
theorem laws_heldIntS.sound (N : Nat) : Sound cx Tryd.prog gam 33 (laws_heldIntS.sm N) := fn_sound (A := laws_heldIntS.A) (Φ := (look (laws_heldIntS.phis N))) pok (G := gam) ΦOk.nil mixed N Tryd.func33 (c := (bodyOf Tryd.f33)) (by kernel_rfl) laws_heldIntS.sg (by kernel_rfl) (by kernel_rfl) (by kernel_rfl) (laws_heldIntS.run N)

@[reducible] def laws_heldIntSS.sg : Sg := { ms := [{ k := (.sl (.sl (.int .i64))), fl := [none] }, { k := (.int .i64) }], keep := [false, false], rs := [{ k := (.int .i64) }] }
@[reducible] def laws_heldIntSS.lvL0 : Lv := { id := 0, slots := [0, 1, 5], ms := [{ k := (.sl (.sl (.int .i64))), fl := [none] }, { k := (.int .i64) }, { k := (.int .i64) }] }
noncomputable def laws_heldIntSS.A : Ann := { dp := fun d => isIn [] d, lp := look [(0, laws_heldIntSS.lvL0)], jn := look [], pins := [], nt := 21 }
noncomputable def laws_heldIntSS.phis (N : Nat) : List (Nat × Sm D) := [(33, laws_heldIntS.sm N)]
noncomputable def laws_heldIntSS.a0 (N : Nat) (n : Nat) (y : (List (List (Int))) × Int × Int × Unit) : Option (Int × Unit) := loopAt cx (look (laws_heldIntSS.phis N)) laws_heldIntSS.A N n (encL cx laws_heldIntSS.lvL0.ms y).1 (encL cx laws_heldIntSS.lvL0.ms y).2 (bodyOf Tryd.f14) 0 (Kfin cx laws_heldIntSS.A laws_heldIntSS.sg Tryd.f14.results.toList) [1, 0, 1, 1] []
theorem laws_heldIntSS.r0 (N : Nat) : ∀ (n : Nat) (y : (List (List (Int))) × Int × Int × Unit), laws_heldIntSS.a0 N n y = laws_heldIntSS.L0 N n y
  | 0, y => by kernel_rfl
  | n + 1, y => by
    have h : laws_heldIntSS.a0 N (n + 1) y = laws_heldIntSS.B0 N (fun z => laws_heldIntSS.a0 N n z) y := by kernel_rfl
    have e : (fun z => laws_heldIntSS.a0 N n z) = laws_heldIntSS.L0 N n := funext fun z => laws_heldIntSS.r0 N n z
    rw [h]
    try rw [e]
    first | done | rfl
theorem laws_heldIntSS.run (N : Nat) (x : (List (List (Int))) × Int × Unit) : runF cx (look (laws_heldIntSS.phis N)) laws_heldIntSS.A N (bodyOf Tryd.f14) Tryd.f14.results.toList laws_heldIntSS.sg x = laws_heldIntSS N x.1 x.2.1 := by
  have h : runF cx (look (laws_heldIntSS.phis N)) laws_heldIntSS.A N (bodyOf Tryd.f14) Tryd.f14.results.toList laws_heldIntSS.sg x = laws_heldIntSS.B N (fun z => laws_heldIntSS.a0 N N z) x.1 x.2.1 := by kernel_rfl
  have e0 : (fun z => laws_heldIntSS.a0 N N z) = laws_heldIntSS.L0 N N := funext fun z => laws_heldIntSS.r0 N N z
  rw [h, e0]
  try rfl
noncomputable def laws_heldIntSS.sm (N : Nat) : Sm D := (⟨laws_heldIntSS.sg, fun (x : (List (List (Int))) × Int × Unit) => laws_heldIntSS N x.1 x.2.1⟩ : Sm D)
theorem laws_heldIntSS.sound (N : Nat) : Sound cx Tryd.prog gam 14 (laws_heldIntSS.sm N) := fn_sound (A := laws_heldIntSS.A) (Φ := (look (laws_heldIntSS.phis N))) pok (G := gam) (ΦOk.cons (laws_heldIntS.sound N) (fnOk_of (f := 33) (by kernel_rfl)) ΦOk.nil) mixed N Tryd.func14 (c := (bodyOf Tryd.f14)) (by kernel_rfl) laws_heldIntSS.sg (by kernel_rfl) (by kernel_rfl) (by kernel_rfl) (laws_heldIntSS.run N)

@[reducible] def laws_FnExactFindAll.sg : Sg := { ms := [{ k := (.st 24) }, { k := (.st 28) }], keep := [false, false], rs := [{ k := .bool }] }
noncomputable def laws_FnExactFindAll.A : Ann := { dp := fun d => isIn [] d, lp := look [], jn := look [], pins := [], nt := 82 }
noncomputable def laws_FnExactFindAll.phis (N : Nat) : List (Nat × Sm D) := [(4, laws_szTree.sm N), (5, laws_szRule.sm N), (7, laws_toTree.sm N), (8, laws_toRule.sm N), (6, spec_FindAll.sm N), (9, impl_FindAll.sm N), (10, laws_eqIntSS.sm N), (11, laws_eqTree.sm N), (12, laws_markTree.sm N), (13, laws_markIntSS.sm N), (14, laws_heldIntSS.sm N)]
theorem laws_FnExactFindAll.run (N : Nat) (x : LawsTree × LawsRule × Unit) : runF cx (look (laws_FnExactFindAll.phis N)) laws_FnExactFindAll.A N (bodyOf Tryd.f3) Tryd.f3.results.toList laws_FnExactFindAll.sg x = laws_FnExactFindAll N x.1 x.2.1 := by
  have h : runF cx (look (laws_FnExactFindAll.phis N)) laws_FnExactFindAll.A N (bodyOf Tryd.f3) Tryd.f3.results.toList laws_FnExactFindAll.sg x = laws_FnExactFindAll.B N x.1 x.2.1 := by kernel_rfl
  rw [h]
  try rfl
noncomputable def laws_FnExactFindAll.sm (N : Nat) : Sm D := (⟨laws_FnExactFindAll.sg, fun (x : LawsTree × LawsRule × Unit) => laws_FnExactFindAll N x.1 x.2.1⟩ : Sm D)
theorem laws_FnExactFindAll.sound (N : Nat) : Sound cx Tryd.prog gam 3 (laws_FnExactFindAll.sm N) := fn_sound (A := laws_FnExactFindAll.A) (Φ := (look (laws_FnExactFindAll.phis N))) pok (G := gam) (ΦOk.cons (laws_szTree.sound N) (fnOk_of (f := 4) (by kernel_rfl)) (ΦOk.cons (laws_szRule.sound N) (fnOk_of (f := 5) (by kernel_rfl)) (ΦOk.cons (laws_toTree.sound N) (fnOk_of (f := 7) (by kernel_rfl)) (ΦOk.cons (laws_toRule.sound N) (fnOk_of (f := 8) (by kernel_rfl)) (ΦOk.cons (spec_FindAll.sound N) (fnOk_of (f := 6) (by kernel_rfl)) (ΦOk.cons (impl_FindAll.sound N) (fnOk_of (f := 9) (by kernel_rfl)) (ΦOk.cons (laws_eqIntSS.sound N) (fnOk_of (f := 10) (by kernel_rfl)) (ΦOk.cons (laws_eqTree.sound N) (fnOk_of (f := 11) (by kernel_rfl)) (ΦOk.cons (laws_markTree.sound N) (fnOk_of (f := 12) (by kernel_rfl)) (ΦOk.cons (laws_markIntSS.sound N) (fnOk_of (f := 13) (by kernel_rfl)) (ΦOk.cons (laws_heldIntSS.sound N) (fnOk_of (f := 14) (by kernel_rfl)) ΦOk.nil))))))))))) mixed N Tryd.func3 (c := (bodyOf Tryd.f3)) (by kernel_rfl) laws_FnExactFindAll.sg (by kernel_rfl) (by kernel_rfl) (by kernel_rfl) (laws_FnExactFindAll.run N)

end
end Go.Ev
