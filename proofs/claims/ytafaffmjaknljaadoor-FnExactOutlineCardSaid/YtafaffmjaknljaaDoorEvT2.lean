/- Each function that the law reaches does what its plain form says; no condition beyond the table of the library. -/
import Derived.Test.YtafaffmjaknljaaDoorEvT1
set_option linter.all false
set_option linter.unusedVariables false
set_option linter.unusedSimpArgs false
set_option maxRecDepth 100000
set_option maxHeartbeats 0
namespace Go.Ev
noncomputable section
open Go.Proofs
@[reducible] def impl_Outline.sg : Sg := { ms := [{ k := (.st 31) }], keep := [false], rs := [{ k := (.sl .str), fl := [some (false, 411)] }] }
noncomputable def impl_Outline.A : Ann := { dp := fun d => isIn [] d, lp := look [], jn := look [], pins := [], nt := 8 }
noncomputable def impl_Outline.phis (N : Nat) : List (Nat × Sm D) := [(19, impl_TreeOk.sm N), (20, impl_outline.sm N)]
theorem impl_Outline.run (N : Nat) (x : ImplTree × Unit) : runF cx (look (impl_Outline.phis N)) impl_Outline.A N (bodyOf Tryd.f7) Tryd.f7.results.toList impl_Outline.sg x = impl_Outline N x.1 := by
  have h : runF cx (look (impl_Outline.phis N)) impl_Outline.A N (bodyOf Tryd.f7) Tryd.f7.results.toList impl_Outline.sg x = impl_Outline.B N x.1 := by kernel_rfl
  rw [h]
  try rfl
noncomputable def impl_Outline.sm (N : Nat) : Sm D := (⟨impl_Outline.sg, fun (x : ImplTree × Unit) => impl_Outline N x.1⟩ : Sm D)
theorem impl_Outline.sound (N : Nat) : Sound cx Tryd.prog gam 7 (impl_Outline.sm N) := fn_sound (A := impl_Outline.A) (Φ := (look (impl_Outline.phis N))) pok (G := gam) (ΦOk.cons (impl_TreeOk.sound N) (fnOk_of (f := 19) (by kernel_rfl)) (ΦOk.cons (impl_outline.sound N) (fnOk_of (f := 20) (by kernel_rfl)) ΦOk.nil)) mixed N Tryd.func7 (c := (bodyOf Tryd.f7)) (by kernel_rfl) impl_Outline.sg (by kernel_rfl) (by kernel_rfl) (by kernel_rfl) (impl_Outline.run N)

@[reducible] def laws_eqStringS.sg : Sg := { ms := [{ k := (.sl .str), fl := [none] }, { k := (.sl .str), fl := [none] }], keep := [false, false], rs := [{ k := .bool }] }
@[reducible] def laws_eqStringS.lvL0 : Lv := { id := 0, slots := [0, 1, 5], ms := [{ k := (.sl .str), fl := [none] }, { k := (.sl .str), fl := [none] }, { k := (.int .i64) }] }
noncomputable def laws_eqStringS.A : Ann := { dp := fun d => isIn [] d, lp := look [(0, laws_eqStringS.lvL0)], jn := look [], pins := [], nt := 26 }
noncomputable def laws_eqStringS.phis (N : Nat) : List (Nat × Sm D) := []
noncomputable def laws_eqStringS.a0 (N : Nat) (n : Nat) (y : (List (List UInt8)) × (List (List UInt8)) × Int × Unit) : Option (Bool × Unit) := loopAt cx (look (laws_eqStringS.phis N)) laws_eqStringS.A N n (encL cx laws_eqStringS.lvL0.ms y).1 (encL cx laws_eqStringS.lvL0.ms y).2 (bodyOf Tryd.f8) 0 (Kfin cx laws_eqStringS.A laws_eqStringS.sg Tryd.f8.results.toList) [1, 1, 0, 1, 1] []
theorem laws_eqStringS.r0 (N : Nat) : ∀ (n : Nat) (y : (List (List UInt8)) × (List (List UInt8)) × Int × Unit), laws_eqStringS.a0 N n y = laws_eqStringS.L0 N n y
  | 0, y => by kernel_rfl
  | n + 1, y => by
    have h : laws_eqStringS.a0 N (n + 1) y = laws_eqStringS.B0 N (fun z => laws_eqStringS.a0 N n z) y := by kernel_rfl
    have e : (fun z => laws_eqStringS.a0 N n z) = laws_eqStringS.L0 N n := funext fun z => laws_eqStringS.r0 N n z
    rw [h]
    try rw [e]
    first | done | rfl
theorem laws_eqStringS.run (N : Nat) (x : (List (List UInt8)) × (List (List UInt8)) × Unit) : runF cx (look (laws_eqStringS.phis N)) laws_eqStringS.A N (bodyOf Tryd.f8) Tryd.f8.results.toList laws_eqStringS.sg x = laws_eqStringS N x.1 x.2.1 := by
  have h : runF cx (look (laws_eqStringS.phis N)) laws_eqStringS.A N (bodyOf Tryd.f8) Tryd.f8.results.toList laws_eqStringS.sg x = laws_eqStringS.B N (fun z => laws_eqStringS.a0 N N z) x.1 x.2.1 := by kernel_rfl
  have e0 : (fun z => laws_eqStringS.a0 N N z) = laws_eqStringS.L0 N N := funext fun z => laws_eqStringS.r0 N N z
  rw [h, e0]
  try rfl
noncomputable def laws_eqStringS.sm (N : Nat) : Sm D := (⟨laws_eqStringS.sg, fun (x : (List (List UInt8)) × (List (List UInt8)) × Unit) => laws_eqStringS N x.1 x.2.1⟩ : Sm D)
theorem laws_eqStringS.sound (N : Nat) : Sound cx Tryd.prog gam 8 (laws_eqStringS.sm N) := fn_sound (A := laws_eqStringS.A) (Φ := (look (laws_eqStringS.phis N))) pok (G := gam) ΦOk.nil mixed N Tryd.func8 (c := (bodyOf Tryd.f8)) (by kernel_rfl) laws_eqStringS.sg (by kernel_rfl) (by kernel_rfl) (by kernel_rfl) (laws_eqStringS.run N)

@[reducible] def laws_eqValue.sg : Sg := { ms := [{ k := (.st 52) }, { k := (.st 52) }], keep := [false, false], rs := [{ k := .bool }] }
noncomputable def laws_eqValue.A : Ann := { dp := fun d => isIn [] d, lp := look [], jn := look [], pins := [], nt := 20 }
noncomputable def laws_eqValue.phis (N : Nat) : List (Nat × Sm D) := []
theorem laws_eqValue.run (N : Nat) (x : ImplValue × ImplValue × Unit) : runF cx (look (laws_eqValue.phis N)) laws_eqValue.A N (bodyOf Tryd.f54) Tryd.f54.results.toList laws_eqValue.sg x = laws_eqValue N x.1 x.2.1 := by
  have h : runF cx (look (laws_eqValue.phis N)) laws_eqValue.A N (bodyOf Tryd.f54) Tryd.f54.results.toList laws_eqValue.sg x = laws_eqValue.B N x.1 x.2.1 := by kernel_rfl
  rw [h]
  try rfl
noncomputable def laws_eqValue.sm (N : Nat) : Sm D := (⟨laws_eqValue.sg, fun (x : ImplValue × ImplValue × Unit) => laws_eqValue N x.1 x.2.1⟩ : Sm D)
theorem laws_eqValue.sound (N : Nat) : Sound cx Tryd.prog gam 54 (laws_eqValue.sm N) := fn_sound (A := laws_eqValue.A) (Φ := (look (laws_eqValue.phis N))) pok (G := gam) ΦOk.nil mixed N Tryd.func54 (c := (bodyOf Tryd.f54)) (by kernel_rfl) laws_eqValue.sg (by kernel_rfl) (by kernel_rfl) (by kernel_rfl) (laws_eqValue.run N)

@[reducible] def laws_eqProp.sg : Sg := { ms := [{ k := (.st 58) }, { k := (.st 58) }], keep := [false, false], rs := [{ k := .bool }] }
noncomputable def laws_eqProp.A : Ann := { dp := fun d => isIn [] d, lp := look [], jn := look [], pins := [], nt := 16 }
noncomputable def laws_eqProp.phis (N : Nat) : List (Nat × Sm D) := [(54, laws_eqValue.sm N)]
theorem laws_eqProp.run (N : Nat) (x : ImplProp × ImplProp × Unit) : runF cx (look (laws_eqProp.phis N)) laws_eqProp.A N (bodyOf Tryd.f34) Tryd.f34.results.toList laws_eqProp.sg x = laws_eqProp N x.1 x.2.1 := by
  have h : runF cx (look (laws_eqProp.phis N)) laws_eqProp.A N (bodyOf Tryd.f34) Tryd.f34.results.toList laws_eqProp.sg x = laws_eqProp.B N x.1 x.2.1 := by kernel_rfl
  rw [h]
  try rfl
noncomputable def laws_eqProp.sm (N : Nat) : Sm D := (⟨laws_eqProp.sg, fun (x : ImplProp × ImplProp × Unit) => laws_eqProp N x.1 x.2.1⟩ : Sm D)
theorem laws_eqProp.sound (N : Nat) : Sound cx Tryd.prog gam 34 (laws_eqProp.sm N) := fn_sound (A := laws_eqProp.A) (Φ := (look (laws_eqProp.phis N))) pok (G := gam) (ΦOk.cons (laws_eqValue.sound N) (fnOk_of (f := 54) (by kernel_rfl)) ΦOk.nil) mixed N Tryd.func34 (c := (bodyOf Tryd.f34)) (by kernel_rfl) laws_eqProp.sg (by kernel_rfl) (by kernel_rfl) (by kernel_rfl) (laws_eqProp.run N)

@[reducible] def laws_eqPropS.sg : Sg := { ms := [{ k := (.sl (.st 58)), fl := [none] }, { k := (.sl (.st 58)), fl := [none] }], keep := [false, false], rs := [{ k := .bool }] }
@[reducible] def laws_eqPropS.lvL0 : Lv := { id := 0, slots := [0, 1, 5], ms := [{ k := (.sl (.st 58)), fl := [none] }, { k := (.sl (.st 58)), fl := [none] }, { k := (.int .i64) }] }
noncomputable def laws_eqPropS.A : Ann := { dp := fun d => isIn [] d, lp := look [(0, laws_eqPropS.lvL0)], jn := look [], pins := [], nt := 27 }
noncomputable def laws_eqPropS.phis (N : Nat) : List (Nat × Sm D) := [(34, laws_eqProp.sm N)]
noncomputable def laws_eqPropS.a0 (N : Nat) (n : Nat) (y : (List (ImplProp)) × (List (ImplProp)) × Int × Unit) : Option (Bool × Unit) := loopAt cx (look (laws_eqPropS.phis N)) laws_eqPropS.A N n (encL cx laws_eqPropS.lvL0.ms y).1 (encL cx laws_eqPropS.lvL0.ms y).2 (bodyOf Tryd.f21) 0 (Kfin cx laws_eqPropS.A laws_eqPropS.sg Tryd.f21.results.toList) [1, 1, 0, 1, 1] []
theorem laws_eqPropS.r0 (N : Nat) : ∀ (n : Nat) (y : (List (ImplProp)) × (List (ImplProp)) × Int × Unit), laws_eqPropS.a0 N n y = laws_eqPropS.L0 N n y
  | 0, y => by kernel_rfl
  | n + 1, y => by
    have h : laws_eqPropS.a0 N (n + 1) y = laws_eqPropS.B0 N (fun z => laws_eqPropS.a0 N n z) y := by kernel_rfl
    have e : (fun z => laws_eqPropS.a0 N n z) = laws_eqPropS.L0 N n := funext fun z => laws_eqPropS.r0 N n z
    rw [h]
    try rw [e]
    first | done | rfl
theorem laws_eqPropS.run (N : Nat) (x : (List (ImplProp)) × (List (ImplProp)) × Unit) : runF cx (look (laws_eqPropS.phis N)) laws_eqPropS.A N (bodyOf Tryd.f21) Tryd.f21.results.toList laws_eqPropS.sg x = laws_eqPropS N x.1 x.2.1 := by
  have h : runF cx (look (laws_eqPropS.phis N)) laws_eqPropS.A N (bodyOf Tryd.f21) Tryd.f21.results.toList laws_eqPropS.sg x = laws_eqPropS.B N (fun z => laws_eqPropS.a0 N N z) x.1 x.2.1 := by kernel_rfl
  have e0 : (fun z => laws_eqPropS.a0 N N z) = laws_eqPropS.L0 N N := funext fun z => laws_eqPropS.r0 N N z
  rw [h, e0]
  try rfl
noncomputable def laws_eqPropS.sm (N : Nat) : Sm D := (⟨laws_eqPropS.sg, fun (x : (List (ImplProp)) × (List (ImplProp)) × Unit) => laws_eqPropS N x.1 x.2.1⟩ : Sm D)
theorem laws_eqPropS.sound (N : Nat) : Sound cx Tryd.prog gam 21 (laws_eqPropS.sm N) := fn_sound (A := laws_eqPropS.A) (Φ := (look (laws_eqPropS.phis N))) pok (G := gam) (ΦOk.cons (laws_eqProp.sound N) (fnOk_of (f := 34) (by kernel_rfl)) ΦOk.nil) mixed N Tryd.func21 (c := (bodyOf Tryd.f21)) (by kernel_rfl) laws_eqPropS.sg (by kernel_rfl) (by kernel_rfl) (by kernel_rfl) (laws_eqPropS.run N)

@[reducible] def laws_eqTreeS.sg : Sg := { ms := [{ k := (.sl (.st 31)), fl := [none] }, { k := (.sl (.st 31)), fl := [none] }], keep := [false, false], rs := [{ k := .bool }] }
@[reducible] def laws_eqTree.sg : Sg := { ms := [{ k := (.st 31) }, { k := (.st 31) }], keep := [false, false], rs := [{ k := .bool }] }
@[reducible] def laws_eqTreeS.lvL0 : Lv := { id := 0, slots := [0, 1, 5], ms := [{ k := (.sl (.st 31)), fl := [none] }, { k := (.sl (.st 31)), fl := [none] }, { k := (.int .i64) }] }
noncomputable def laws_eqTreeS.A : Ann := { dp := fun d => isIn [] d, lp := look [(0, laws_eqTreeS.lvL0)], jn := look [], pins := [], nt := 27 }
noncomputable def laws_eqTreeS.phis (N : Nat) (d : Nat) : List (Nat × Sm D) := [(9, (⟨laws_eqTree.sg, fun (x : ImplTree × ImplTree × Unit) => laws_eqTree.R N d x.1 x.2.1⟩ : Sm D))]
noncomputable def laws_eqTreeS.a0 (N : Nat) (d : Nat) (n : Nat) (y : (List (ImplTree)) × (List (ImplTree)) × Int × Unit) : Option (Bool × Unit) := loopAt cx (look (laws_eqTreeS.phis N d)) laws_eqTreeS.A N n (encL cx laws_eqTreeS.lvL0.ms y).1 (encL cx laws_eqTreeS.lvL0.ms y).2 (bodyOf Tryd.f22) 0 (Kfin cx laws_eqTreeS.A laws_eqTreeS.sg Tryd.f22.results.toList) [1, 1, 0, 1, 1] []
theorem laws_eqTreeS.r0 (N : Nat) (d : Nat) : ∀ (n : Nat) (y : (List (ImplTree)) × (List (ImplTree)) × Int × Unit), laws_eqTreeS.a0 N d n y = laws_eqTreeS.L0 N (laws_eqTreeS.R N d) (laws_eqTree.R N d) n y
  | 0, y => by kernel_rfl
  | n + 1, y => by
    have h : laws_eqTreeS.a0 N d (n + 1) y = laws_eqTreeS.B0 N (laws_eqTreeS.R N d) (laws_eqTree.R N d) (fun z => laws_eqTreeS.a0 N d n z) y := by kernel_rfl
    have e : (fun z => laws_eqTreeS.a0 N d n z) = laws_eqTreeS.L0 N (laws_eqTreeS.R N d) (laws_eqTree.R N d) n := funext fun z => laws_eqTreeS.r0 N d n z
    rw [h]
    try rw [e]
    first | done | rfl
theorem laws_eqTreeS.run (N : Nat) (d : Nat) (x : (List (ImplTree)) × (List (ImplTree)) × Unit) : runF cx (look (laws_eqTreeS.phis N d)) laws_eqTreeS.A N (bodyOf Tryd.f22) Tryd.f22.results.toList laws_eqTreeS.sg x = laws_eqTreeS.R N (d + 1) x.1 x.2.1 := by
  have h : runF cx (look (laws_eqTreeS.phis N d)) laws_eqTreeS.A N (bodyOf Tryd.f22) Tryd.f22.results.toList laws_eqTreeS.sg x = laws_eqTreeS.B N (laws_eqTreeS.R N d) (laws_eqTree.R N d) (fun z => laws_eqTreeS.a0 N d N z) x.1 x.2.1 := by kernel_rfl
  have e0 : (fun z => laws_eqTreeS.a0 N d N z) = laws_eqTreeS.L0 N (laws_eqTreeS.R N d) (laws_eqTree.R N d) N := funext fun z => laws_eqTreeS.r0 N d N z
  rw [h, e0]
  try rfl
theorem laws_eqTreeS.step (N : Nat) (d : Nat) (h_laws_eqTree : Sound cx Tryd.prog gam 9 (⟨laws_eqTree.sg, fun (x : ImplTree × ImplTree × Unit) => laws_eqTree.R N d x.1 x.2.1⟩ : Sm D)) : Sound cx Tryd.prog gam 22 (⟨laws_eqTreeS.sg, fun (x : (List (ImplTree)) × (List (ImplTree)) × Unit) => laws_eqTreeS.R N (d + 1) x.1 x.2.1⟩ : Sm D) := fn_sound (A := laws_eqTreeS.A) (Φ := (look (laws_eqTreeS.phis N d))) pok (G := gam) (ΦOk.cons h_laws_eqTree (fnOk_of (f := 9) (by kernel_rfl)) ΦOk.nil) mixed N Tryd.func22 (c := (bodyOf Tryd.f22)) (by kernel_rfl) laws_eqTreeS.sg (by kernel_rfl) (by kernel_rfl) (by kernel_rfl) (laws_eqTreeS.run N d)

noncomputable def laws_eqTree.A : Ann := { dp := fun d => isIn [] d, lp := look [], jn := look [], pins := [], nt := 32 }
noncomputable def laws_eqTree.phis (N : Nat) (d : Nat) : List (Nat × Sm D) := [(21, laws_eqPropS.sm N), (22, (⟨laws_eqTreeS.sg, fun (x : (List (ImplTree)) × (List (ImplTree)) × Unit) => laws_eqTreeS.R N d x.1 x.2.1⟩ : Sm D))]
theorem laws_eqTree.run (N : Nat) (d : Nat) (x : ImplTree × ImplTree × Unit) : runF cx (look (laws_eqTree.phis N d)) laws_eqTree.A N (bodyOf Tryd.f9) Tryd.f9.results.toList laws_eqTree.sg x = laws_eqTree.R N (d + 1) x.1 x.2.1 := by
  have h : runF cx (look (laws_eqTree.phis N d)) laws_eqTree.A N (bodyOf Tryd.f9) Tryd.f9.results.toList laws_eqTree.sg x = laws_eqTree.B N (laws_eqTreeS.R N d) (laws_eqTree.R N d) x.1 x.2.1 := by kernel_rfl
  rw [h]
  try rfl
theorem laws_eqTree.step (N : Nat) (d : Nat) (h_laws_eqTreeS : Sound cx Tryd.prog gam 22 (⟨laws_eqTreeS.sg, fun (x : (List (ImplTree)) × (List (ImplTree)) × Unit) => laws_eqTreeS.R N d x.1 x.2.1⟩ : Sm D)) : Sound cx Tryd.prog gam 9 (⟨laws_eqTree.sg, fun (x : ImplTree × ImplTree × Unit) => laws_eqTree.R N (d + 1) x.1 x.2.1⟩ : Sm D) := fn_sound (A := laws_eqTree.A) (Φ := (look (laws_eqTree.phis N d))) pok (G := gam) (ΦOk.cons (laws_eqPropS.sound N) (fnOk_of (f := 21) (by kernel_rfl)) (ΦOk.cons h_laws_eqTreeS (fnOk_of (f := 22) (by kernel_rfl)) ΦOk.nil)) mixed N Tryd.func9 (c := (bodyOf Tryd.f9)) (by kernel_rfl) laws_eqTree.sg (by kernel_rfl) (by kernel_rfl) (by kernel_rfl) (laws_eqTree.run N d)

theorem laws_eqTreeS.scc (N : Nat) : ∀ d, Sound cx Tryd.prog gam 22 (⟨laws_eqTreeS.sg, fun (x : (List (ImplTree)) × (List (ImplTree)) × Unit) => laws_eqTreeS.R N d x.1 x.2.1⟩ : Sm D) ∧ Sound cx Tryd.prog gam 9 (⟨laws_eqTree.sg, fun (x : ImplTree × ImplTree × Unit) => laws_eqTree.R N d x.1 x.2.1⟩ : Sm D)
  | 0 => ⟨none_sound 22 laws_eqTreeS.sg, none_sound 9 laws_eqTree.sg⟩
  | d + 1 => by
    have ih := laws_eqTreeS.scc N d
    obtain ⟨ih0, ih1⟩ := ih
    exact ⟨laws_eqTreeS.step N d ih1, laws_eqTree.step N d ih0⟩
noncomputable def laws_eqTreeS.sm (N : Nat) : Sm D := (⟨laws_eqTreeS.sg, fun (x : (List (ImplTree)) × (List (ImplTree)) × Unit) => laws_eqTreeS.R N N x.1 x.2.1⟩ : Sm D)
theorem laws_eqTreeS.sound (N : Nat) : Sound cx Tryd.prog gam 22 (laws_eqTreeS.sm N) := (laws_eqTreeS.scc N N).1
noncomputable def laws_eqTree.sm (N : Nat) : Sm D := (⟨laws_eqTree.sg, fun (x : ImplTree × ImplTree × Unit) => laws_eqTree.R N N x.1 x.2.1⟩ : Sm D)
theorem laws_eqTree.sound (N : Nat) : Sound cx Tryd.prog gam 9 (laws_eqTree.sm N) := (laws_eqTreeS.scc N N).2
@[reducible] def laws_markText.sg : Sg := { ms := [{ k := (.int .i64) }], keep := [false], rs := [{ k := .str }] }
@[reducible] def laws_markText.lvL0 : Lv := { id := 0, slots := [0, 3], ms := [{ k := (.int .i64) }, { k := .str }] }
noncomputable def laws_markText.A : Ann := { dp := fun d => isIn [] d, lp := look [(0, laws_markText.lvL0)], jn := look [], pins := [], nt := 20 }
noncomputable def laws_markText.phis (N : Nat) : List (Nat × Sm D) := []
noncomputable def laws_markText.a0 (N : Nat) (n : Nat) (y : Int × (List UInt8) × Unit) : Option ((List UInt8) × Unit) := loopAt cx (look (laws_markText.phis N)) laws_markText.A N n (encL cx laws_markText.lvL0.ms y).1 (encL cx laws_markText.lvL0.ms y).2 (bodyOf Tryd.f25) 0 (Kfin cx laws_markText.A laws_markText.sg Tryd.f25.results.toList) [1, 1, 1, 0, 1] []
theorem laws_markText.r0 (N : Nat) : ∀ (n : Nat) (y : Int × (List UInt8) × Unit), laws_markText.a0 N n y = laws_markText.L0 N n y
  | 0, y => by kernel_rfl
  | n + 1, y => by
    have h : laws_markText.a0 N (n + 1) y = laws_markText.B0 N (fun z => laws_markText.a0 N n z) y := by kernel_rfl
    have e : (fun z => laws_markText.a0 N n z) = laws_markText.L0 N n := funext fun z => laws_markText.r0 N n z
    rw [h]
    try rw [e]
    first | done | rfl
theorem laws_markText.run (N : Nat) (x : Int × Unit) : runF cx (look (laws_markText.phis N)) laws_markText.A N (bodyOf Tryd.f25) Tryd.f25.results.toList laws_markText.sg x = laws_markText N x.1 := by
  have h : runF cx (look (laws_markText.phis N)) laws_markText.A N (bodyOf Tryd.f25) Tryd.f25.results.toList laws_markText.sg x = laws_markText.B N (fun z => laws_markText.a0 N N z) x.1 := by kernel_rfl
  have e0 : (fun z => laws_markText.a0 N N z) = laws_markText.L0 N N := funext fun z => laws_markText.r0 N N z
  rw [h, e0]
  try rfl
noncomputable def laws_markText.sm (N : Nat) : Sm D := (⟨laws_markText.sg, fun (x : Int × Unit) => laws_markText N x.1⟩ : Sm D)
theorem laws_markText.sound (N : Nat) : Sound cx Tryd.prog gam 25 (laws_markText.sm N) := fn_sound (A := laws_markText.A) (Φ := (look (laws_markText.phis N))) pok (G := gam) ΦOk.nil mixed N Tryd.func25 (c := (bodyOf Tryd.f25)) (by kernel_rfl) laws_markText.sg (by kernel_rfl) (by kernel_rfl) (by kernel_rfl) (laws_markText.run N)

@[reducible] def laws_markPropS.sg : Sg := { ms := [{ k := (.sl (.st 58)), fl := [some (true, 11)] }, { k := (.int .i64) }], keep := [true, false], rs := [{ k := (.int .i64) }] }
@[reducible] def laws_markPropS.lvL0 : Lv := { id := 0, slots := [0, 1, 5], ms := [{ k := (.sl (.st 58)), fl := [some (true, 11)] }, { k := (.int .i64) }, { k := (.int .i64) }] }
noncomputable def laws_markPropS.A : Ann := { dp := fun d => isIn [] d, lp := look [(0, laws_markPropS.lvL0)], jn := look [], pins := [11], nt := 45 }
noncomputable def laws_markPropS.phis (N : Nat) : List (Nat × Sm D) := [(25, laws_markText.sm N)]
noncomputable def laws_markPropS.a0 (N : Nat) (n : Nat) (y : (List (ImplProp)) × Int × Int × Unit) : Option ((List (ImplProp)) × Int × Unit) := loopAt cx (look (laws_markPropS.phis N)) laws_markPropS.A N n (encL cx laws_markPropS.lvL0.ms y).1 (encL cx laws_markPropS.lvL0.ms y).2 (bodyOf Tryd.f23) 0 (Kfin cx laws_markPropS.A laws_markPropS.sg Tryd.f23.results.toList) [1, 0, 1, 1] []
theorem laws_markPropS.r0 (N : Nat) : ∀ (n : Nat) (y : (List (ImplProp)) × Int × Int × Unit), laws_markPropS.a0 N n y = laws_markPropS.L0 N n y
  | 0, y => by kernel_rfl
  | n + 1, y => by
    have h : laws_markPropS.a0 N (n + 1) y = laws_markPropS.B0 N (fun z => laws_markPropS.a0 N n z) y := by kernel_rfl
    have e : (fun z => laws_markPropS.a0 N n z) = laws_markPropS.L0 N n := funext fun z => laws_markPropS.r0 N n z
    rw [h]
    try rw [e]
    first | done | rfl
theorem laws_markPropS.run (N : Nat) (x : (List (ImplProp)) × Int × Unit) : runF cx (look (laws_markPropS.phis N)) laws_markPropS.A N (bodyOf Tryd.f23) Tryd.f23.results.toList laws_markPropS.sg x = laws_markPropS N x.1 x.2.1 := by
  have h : runF cx (look (laws_markPropS.phis N)) laws_markPropS.A N (bodyOf Tryd.f23) Tryd.f23.results.toList laws_markPropS.sg x = laws_markPropS.B N (fun z => laws_markPropS.a0 N N z) x.1 x.2.1 := by kernel_rfl
  have e0 : (fun z => laws_markPropS.a0 N N z) = laws_markPropS.L0 N N := funext fun z => laws_markPropS.r0 N N z
  rw [h, e0]
  try rfl
noncomputable def laws_markPropS.sm (N : Nat) : Sm D := (⟨laws_markPropS.sg, fun (x : (List (ImplProp)) × Int × Unit) => laws_markPropS N x.1 x.2.1⟩ : Sm D)
theorem laws_markPropS.sound (N : Nat) : Sound cx Tryd.prog gam 23 (laws_markPropS.sm N) := fn_sound (A := laws_markPropS.A) (Φ := (look (laws_markPropS.phis N))) pok (G := gam) (ΦOk.cons (laws_markText.sound N) (fnOk_of (f := 25) (by kernel_rfl)) ΦOk.nil) mixed N Tryd.func23 (c := (bodyOf Tryd.f23)) (by kernel_rfl) laws_markPropS.sg (by kernel_rfl) (by kernel_rfl) (by kernel_rfl) (laws_markPropS.run N)

@[reducible] def laws_markTreeS.sg : Sg := { ms := [{ k := (.sl (.st 31)), fl := [some (true, 11)] }, { k := (.int .i64) }], keep := [true, false], rs := [{ k := (.int .i64) }] }
@[reducible] def laws_markTreeS.lvL0 : Lv := { id := 0, slots := [0, 1, 5], ms := [{ k := (.sl (.st 31)), fl := [some (true, 11)] }, { k := (.int .i64) }, { k := (.int .i64) }] }
noncomputable def laws_markTreeS.A : Ann := { dp := fun d => isIn [] d, lp := look [(0, laws_markTreeS.lvL0)], jn := look [], pins := [11], nt := 49 }
noncomputable def laws_markTreeS.phis (N : Nat) (d : Nat) : List (Nat × Sm D) := [(25, laws_markText.sm N), (23, laws_markPropS.sm N), (24, (⟨laws_markTreeS.sg, fun (x : (List (ImplTree)) × Int × Unit) => laws_markTreeS.R N d x.1 x.2.1⟩ : Sm D))]
noncomputable def laws_markTreeS.a0 (N : Nat) (d : Nat) (n : Nat) (y : (List (ImplTree)) × Int × Int × Unit) : Option ((List (ImplTree)) × Int × Unit) := loopAt cx (look (laws_markTreeS.phis N d)) laws_markTreeS.A N n (encL cx laws_markTreeS.lvL0.ms y).1 (encL cx laws_markTreeS.lvL0.ms y).2 (bodyOf Tryd.f24) 0 (Kfin cx laws_markTreeS.A laws_markTreeS.sg Tryd.f24.results.toList) [1, 0, 1, 1] []
theorem laws_markTreeS.r0 (N : Nat) (d : Nat) : ∀ (n : Nat) (y : (List (ImplTree)) × Int × Int × Unit), laws_markTreeS.a0 N d n y = laws_markTreeS.L0 N (laws_markTreeS.R N d) n y
  | 0, y => by kernel_rfl
  | n + 1, y => by
    have h : laws_markTreeS.a0 N d (n + 1) y = laws_markTreeS.B0 N (laws_markTreeS.R N d) (fun z => laws_markTreeS.a0 N d n z) y := by kernel_rfl
    have e : (fun z => laws_markTreeS.a0 N d n z) = laws_markTreeS.L0 N (laws_markTreeS.R N d) n := funext fun z => laws_markTreeS.r0 N d n z
    rw [h]
    try rw [e]
    first | done | rfl
theorem laws_markTreeS.run (N : Nat) (d : Nat) (x : (List (ImplTree)) × Int × Unit) : runF cx (look (laws_markTreeS.phis N d)) laws_markTreeS.A N (bodyOf Tryd.f24) Tryd.f24.results.toList laws_markTreeS.sg x = laws_markTreeS.R N (d + 1) x.1 x.2.1 := by
  have h : runF cx (look (laws_markTreeS.phis N d)) laws_markTreeS.A N (bodyOf Tryd.f24) Tryd.f24.results.toList laws_markTreeS.sg x = laws_markTreeS.B N (laws_markTreeS.R N d) (fun z => laws_markTreeS.a0 N d N z) x.1 x.2.1 := by kernel_rfl
  have e0 : (fun z => laws_markTreeS.a0 N d N z) = laws_markTreeS.L0 N (laws_markTreeS.R N d) N := funext fun z => laws_markTreeS.r0 N d N z
  rw [h, e0]
  try rfl
theorem laws_markTreeS.step (N : Nat) (d : Nat) (h_laws_markTreeS : Sound cx Tryd.prog gam 24 (⟨laws_markTreeS.sg, fun (x : (List (ImplTree)) × Int × Unit) => laws_markTreeS.R N d x.1 x.2.1⟩ : Sm D)) : Sound cx Tryd.prog gam 24 (⟨laws_markTreeS.sg, fun (x : (List (ImplTree)) × Int × Unit) => laws_markTreeS.R N (d + 1) x.1 x.2.1⟩ : Sm D) := fn_sound (A := laws_markTreeS.A) (Φ := (look (laws_markTreeS.phis N d))) pok (G := gam) (ΦOk.cons (laws_markText.sound N) (fnOk_of (f := 25) (by kernel_rfl)) (ΦOk.cons (laws_markPropS.sound N) (fnOk_of (f := 23) (by kernel_rfl)) (ΦOk.cons h_laws_markTreeS (fnOk_of (f := 24) (by kernel_rfl)) ΦOk.nil))) mixed N Tryd.func24 (c := (bodyOf Tryd.f24)) (by kernel_rfl) laws_markTreeS.sg (by kernel_rfl) (by kernel_rfl) (by kernel_rfl) (laws_markTreeS.run N d)

theorem laws_markTreeS.scc (N : Nat) : ∀ d, Sound cx Tryd.prog gam 24 (⟨laws_markTreeS.sg, fun (x : (List (ImplTree)) × Int × Unit) => laws_markTreeS.R N d x.1 x.2.1⟩ : Sm D)
  | 0 => none_sound 24 laws_markTreeS.sg
  | d + 1 => by
    have ih := laws_markTreeS.scc N d
    exact laws_markTreeS.step N d ih
noncomputable def laws_markTreeS.sm (N : Nat) : Sm D := (⟨laws_markTreeS.sg, fun (x : (List (ImplTree)) × Int × Unit) => laws_markTreeS.R N N x.1 x.2.1⟩ : Sm D)
theorem laws_markTreeS.sound (N : Nat) : Sound cx Tryd.prog gam 24 (laws_markTreeS.sm N) := (laws_markTreeS.scc N N)
@[reducible] def laws_markTree.sg : Sg := { ms := [{ k := (.st 31), fl := [none, none, none, some (true, 14), some (true, 15)] }, { k := (.int .i64) }], keep := [true, false], rs := [{ k := (.int .i64) }] }
noncomputable def laws_markTree.A : Ann := { dp := fun d => isIn [] d, lp := look [], jn := look [], pins := [14, 15], nt := 14 }
noncomputable def laws_markTree.phis (N : Nat) : List (Nat × Sm D) := [(23, laws_markPropS.sm N), (24, laws_markTreeS.sm N)]
theorem laws_markTree.run (N : Nat) (x : ImplTree × Int × Unit) : runF cx (look (laws_markTree.phis N)) laws_markTree.A N (bodyOf Tryd.f10) Tryd.f10.results.toList laws_markTree.sg x = laws_markTree N x.1 x.2.1 := by
  have h : runF cx (look (laws_markTree.phis N)) laws_markTree.A N (bodyOf Tryd.f10) Tryd.f10.results.toList laws_markTree.sg x = laws_markTree.B N x.1 x.2.1 := by kernel_rfl
  rw [h]
  try rfl
noncomputable def laws_markTree.sm (N : Nat) : Sm D := (⟨laws_markTree.sg, fun (x : ImplTree × Int × Unit) => laws_markTree N x.1 x.2.1⟩ : Sm D)
theorem laws_markTree.sound (N : Nat) : Sound cx Tryd.prog gam 10 (laws_markTree.sm N) := fn_sound (A := laws_markTree.A) (Φ := (look (laws_markTree.phis N))) pok (G := gam) (ΦOk.cons (laws_markPropS.sound N) (fnOk_of (f := 23) (by kernel_rfl)) (ΦOk.cons (laws_markTreeS.sound N) (fnOk_of (f := 24) (by kernel_rfl)) ΦOk.nil)) mixed N Tryd.func10 (c := (bodyOf Tryd.f10)) (by kernel_rfl) laws_markTree.sg (by kernel_rfl) (by kernel_rfl) (by kernel_rfl) (laws_markTree.run N)

@[reducible] def laws_markStringS.sg : Sg := { ms := [{ k := (.sl .str), fl := [some (false, 11)] }, { k := (.int .i64) }], keep := [true, false], rs := [{ k := (.int .i64) }] }
@[reducible] def laws_markStringS.lvL0 : Lv := { id := 0, slots := [0, 1, 5], ms := [{ k := (.sl .str), fl := [some (false, 11)] }, { k := (.int .i64) }, { k := (.int .i64) }] }
noncomputable def laws_markStringS.A : Ann := { dp := fun d => isIn [] d, lp := look [(0, laws_markStringS.lvL0)], jn := look [], pins := [11], nt := 20 }
noncomputable def laws_markStringS.phis (N : Nat) : List (Nat × Sm D) := [(25, laws_markText.sm N)]
noncomputable def laws_markStringS.a0 (N : Nat) (n : Nat) (y : (List (List UInt8)) × Int × Int × Unit) : Option ((List (List UInt8)) × Int × Unit) := loopAt cx (look (laws_markStringS.phis N)) laws_markStringS.A N n (encL cx laws_markStringS.lvL0.ms y).1 (encL cx laws_markStringS.lvL0.ms y).2 (bodyOf Tryd.f11) 0 (Kfin cx laws_markStringS.A laws_markStringS.sg Tryd.f11.results.toList) [1, 0, 1, 1] []
theorem laws_markStringS.r0 (N : Nat) : ∀ (n : Nat) (y : (List (List UInt8)) × Int × Int × Unit), laws_markStringS.a0 N n y = laws_markStringS.L0 N n y
  | 0, y => by kernel_rfl
  | n + 1, y => by
    have h : laws_markStringS.a0 N (n + 1) y = laws_markStringS.B0 N (fun z => laws_markStringS.a0 N n z) y := by kernel_rfl
    have e : (fun z => laws_markStringS.a0 N n z) = laws_markStringS.L0 N n := funext fun z => laws_markStringS.r0 N n z
    rw [h]
    try rw [e]
    first | done | rfl
theorem laws_markStringS.run (N : Nat) (x : (List (List UInt8)) × Int × Unit) : runF cx (look (laws_markStringS.phis N)) laws_markStringS.A N (bodyOf Tryd.f11) Tryd.f11.results.toList laws_markStringS.sg x = laws_markStringS N x.1 x.2.1 := by
  have h : runF cx (look (laws_markStringS.phis N)) laws_markStringS.A N (bodyOf Tryd.f11) Tryd.f11.results.toList laws_markStringS.sg x = laws_markStringS.B N (fun z => laws_markStringS.a0 N N z) x.1 x.2.1 := by kernel_rfl
  have e0 : (fun z => laws_markStringS.a0 N N z) = laws_markStringS.L0 N N := funext fun z => laws_markStringS.r0 N N z
  rw [h, e0]
  try rfl
noncomputable def laws_markStringS.sm (N : Nat) : Sm D := (⟨laws_markStringS.sg, fun (x : (List (List UInt8)) × Int × Unit) => laws_markStringS N x.1 x.2.1⟩ : Sm D)
theorem laws_markStringS.sound (N : Nat) : Sound cx Tryd.prog gam 11 (laws_markStringS.sm N) := fn_sound (A := laws_markStringS.A) (Φ := (look (laws_markStringS.phis N))) pok (G := gam) (ΦOk.cons (laws_markText.sound N) (fnOk_of (f := 25) (by kernel_rfl)) ΦOk.nil) mixed N Tryd.func11 (c := (bodyOf Tryd.f11)) (by kernel_rfl) laws_markStringS.sg (by kernel_rfl) (by kernel_rfl) (by kernel_rfl) (laws_markStringS.run N)

@[reducible] def laws_heldStringS.sg : Sg := { ms := [{ k := (.sl .str), fl := [none] }, { k := (.int .i64) }], keep := [false, false], rs := [{ k := (.int .i64) }] }
@[reducible] def laws_heldStringS.lvL0 : Lv := { id := 0, slots := [0, 1, 5], ms := [{ k := (.sl .str), fl := [none] }, { k := (.int .i64) }, { k := (.int .i64) }] }
noncomputable def laws_heldStringS.A : Ann := { dp := fun d => isIn [] d, lp := look [(0, laws_heldStringS.lvL0)], jn := look [], pins := [], nt := 22 }
noncomputable def laws_heldStringS.phis (N : Nat) : List (Nat × Sm D) := [(25, laws_markText.sm N)]
noncomputable def laws_heldStringS.a0 (N : Nat) (n : Nat) (y : (List (List UInt8)) × Int × Int × Unit) : Option (Int × Unit) := loopAt cx (look (laws_heldStringS.phis N)) laws_heldStringS.A N n (encL cx laws_heldStringS.lvL0.ms y).1 (encL cx laws_heldStringS.lvL0.ms y).2 (bodyOf Tryd.f12) 0 (Kfin cx laws_heldStringS.A laws_heldStringS.sg Tryd.f12.results.toList) [1, 0, 1, 1] []
theorem laws_heldStringS.r0 (N : Nat) : ∀ (n : Nat) (y : (List (List UInt8)) × Int × Int × Unit), laws_heldStringS.a0 N n y = laws_heldStringS.L0 N n y
  | 0, y => by kernel_rfl
  | n + 1, y => by
    have h : laws_heldStringS.a0 N (n + 1) y = laws_heldStringS.B0 N (fun z => laws_heldStringS.a0 N n z) y := by kernel_rfl
    have e : (fun z => laws_heldStringS.a0 N n z) = laws_heldStringS.L0 N n := funext fun z => laws_heldStringS.r0 N n z
    rw [h]
    try rw [e]
    first | done | rfl
theorem laws_heldStringS.run (N : Nat) (x : (List (List UInt8)) × Int × Unit) : runF cx (look (laws_heldStringS.phis N)) laws_heldStringS.A N (bodyOf Tryd.f12) Tryd.f12.results.toList laws_heldStringS.sg x = laws_heldStringS N x.1 x.2.1 := by
  have h : runF cx (look (laws_heldStringS.phis N)) laws_heldStringS.A N (bodyOf Tryd.f12) Tryd.f12.results.toList laws_heldStringS.sg x = laws_heldStringS.B N (fun z => laws_heldStringS.a0 N N z) x.1 x.2.1 := by kernel_rfl
  have e0 : (fun z => laws_heldStringS.a0 N N z) = laws_heldStringS.L0 N N := funext fun z => laws_heldStringS.r0 N N z
  rw [h, e0]
  try rfl
noncomputable def laws_heldStringS.sm (N : Nat) : Sm D := (⟨laws_heldStringS.sg, fun (x : (List (List UInt8)) × Int × Unit) => laws_heldStringS N x.1 x.2.1⟩ : Sm D)
theorem laws_heldStringS.sound (N : Nat) : Sound cx Tryd.prog gam 12 (laws_heldStringS.sm N) := fn_sound (A := laws_heldStringS.A) (Φ := (look (laws_heldStringS.phis N))) pok (G := gam) (ΦOk.cons (laws_markText.sound N) (fnOk_of (f := 25) (by kernel_rfl)) ΦOk.nil) mixed N Tryd.func12 (c := (bodyOf Tryd.f12)) (by kernel_rfl) laws_heldStringS.sg (by kernel_rfl) (by kernel_rfl) (by kernel_rfl) (laws_heldStringS.run N)

@[reducible] def laws_FnExactOutline.sg : Sg := { ms := [{ k := (.st 24) }], keep := [false], rs := [{ k := .bool }] }
noncomputable def laws_FnExactOutline.A : Ann := { dp := fun d => isIn [] d, lp := look [], jn := look [], pins := [], nt := 69 }
noncomputable def laws_FnExactOutline.phis (N : Nat) : List (Nat × Sm D) := [(4, laws_szTree.sm N), (6, laws_toTree.sm N), (5, spec_Outline.sm N), (7, impl_Outline.sm N), (8, laws_eqStringS.sm N), (9, laws_eqTree.sm N), (10, laws_markTree.sm N), (11, laws_markStringS.sm N), (12, laws_heldStringS.sm N)]
theorem laws_FnExactOutline.run (N : Nat) (x : LawsTree × Unit) : runF cx (look (laws_FnExactOutline.phis N)) laws_FnExactOutline.A N (bodyOf Tryd.f3) Tryd.f3.results.toList laws_FnExactOutline.sg x = laws_FnExactOutline N x.1 := by
  have h : runF cx (look (laws_FnExactOutline.phis N)) laws_FnExactOutline.A N (bodyOf Tryd.f3) Tryd.f3.results.toList laws_FnExactOutline.sg x = laws_FnExactOutline.B N x.1 := by kernel_rfl
  rw [h]
  try rfl
noncomputable def laws_FnExactOutline.sm (N : Nat) : Sm D := (⟨laws_FnExactOutline.sg, fun (x : LawsTree × Unit) => laws_FnExactOutline N x.1⟩ : Sm D)
theorem laws_FnExactOutline.sound (N : Nat) : Sound cx Tryd.prog gam 3 (laws_FnExactOutline.sm N) := fn_sound (A := laws_FnExactOutline.A) (Φ := (look (laws_FnExactOutline.phis N))) pok (G := gam) (ΦOk.cons (laws_szTree.sound N) (fnOk_of (f := 4) (by kernel_rfl)) (ΦOk.cons (laws_toTree.sound N) (fnOk_of (f := 6) (by kernel_rfl)) (ΦOk.cons (spec_Outline.sound N) (fnOk_of (f := 5) (by kernel_rfl)) (ΦOk.cons (impl_Outline.sound N) (fnOk_of (f := 7) (by kernel_rfl)) (ΦOk.cons (laws_eqStringS.sound N) (fnOk_of (f := 8) (by kernel_rfl)) (ΦOk.cons (laws_eqTree.sound N) (fnOk_of (f := 9) (by kernel_rfl)) (ΦOk.cons (laws_markTree.sound N) (fnOk_of (f := 10) (by kernel_rfl)) (ΦOk.cons (laws_markStringS.sound N) (fnOk_of (f := 11) (by kernel_rfl)) (ΦOk.cons (laws_heldStringS.sound N) (fnOk_of (f := 12) (by kernel_rfl)) ΦOk.nil))))))))) mixed N Tryd.func3 (c := (bodyOf Tryd.f3)) (by kernel_rfl) laws_FnExactOutline.sg (by kernel_rfl) (by kernel_rfl) (by kernel_rfl) (laws_FnExactOutline.run N)

end
end Go.Ev
