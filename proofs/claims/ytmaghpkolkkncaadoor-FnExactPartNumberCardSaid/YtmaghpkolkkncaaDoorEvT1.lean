/- Each function that the law reaches does what its plain form says; no condition beyond the table of the library. -/
import Derived.Test.YtmaghpkolkkncaaDoorEvT0
set_option linter.all false
set_option linter.unusedVariables false
set_option linter.unusedSimpArgs false
set_option maxRecDepth 100000
set_option maxHeartbeats 0
namespace Go.Ev
noncomputable section
open Go.Proofs
@[reducible] def laws_szTreeS.sg : Sg := { ms := [{ k := (.sl (.st 32)), fl := [none] }, { k := (.int .i64) }], keep := [false, false], rs := [{ k := (.int .i64) }] }
@[reducible] def laws_szTree.sg : Sg := { ms := [{ k := (.st 32) }, { k := (.int .i64) }], keep := [false, false], rs := [{ k := (.int .i64) }] }
@[reducible] def laws_szTreeS.lvL0 : Lv := { id := 0, slots := [0, 1, 5], ms := [{ k := (.sl (.st 32)), fl := [none] }, { k := (.int .i64) }, { k := (.int .i64) }] }
noncomputable def laws_szTreeS.A : Ann := { dp := fun d => isIn [] d, lp := look [(0, laws_szTreeS.lvL0)], jn := look [], pins := [], nt := 27 }
noncomputable def laws_szTreeS.phis (N : Nat) (d : Nat) : List (Nat × Sm D) := [(16, (⟨laws_szTree.sg, fun (x : LawsTree × Int × Unit) => laws_szTree.R N d x.1 x.2.1⟩ : Sm D))]
noncomputable def laws_szTreeS.a0 (N : Nat) (d : Nat) (n : Nat) (y : (List (LawsTree)) × Int × Int × Unit) : Option (Int × Unit) := loopAt cx (look (laws_szTreeS.phis N d)) laws_szTreeS.A N n (encL cx laws_szTreeS.lvL0.ms y).1 (encL cx laws_szTreeS.lvL0.ms y).2 (bodyOf Tryd.f46) 0 (Kfin cx laws_szTreeS.A laws_szTreeS.sg Tryd.f46.results.toList) [1, 1, 1, 0, 1, 1] []
theorem laws_szTreeS.r0 (N : Nat) (d : Nat) : ∀ (n : Nat) (y : (List (LawsTree)) × Int × Int × Unit), laws_szTreeS.a0 N d n y = laws_szTreeS.L0 N (laws_szTreeS.R N d) (laws_szTree.R N d) n y
  | 0, y => by kernel_rfl
  | n + 1, y => by
    have h : laws_szTreeS.a0 N d (n + 1) y = laws_szTreeS.B0 N (laws_szTreeS.R N d) (laws_szTree.R N d) (fun z => laws_szTreeS.a0 N d n z) y := by kernel_rfl
    have e : (fun z => laws_szTreeS.a0 N d n z) = laws_szTreeS.L0 N (laws_szTreeS.R N d) (laws_szTree.R N d) n := funext fun z => laws_szTreeS.r0 N d n z
    rw [h]
    try rw [e]
    first | done | rfl
theorem laws_szTreeS.run (N : Nat) (d : Nat) (x : (List (LawsTree)) × Int × Unit) : runF cx (look (laws_szTreeS.phis N d)) laws_szTreeS.A N (bodyOf Tryd.f46) Tryd.f46.results.toList laws_szTreeS.sg x = laws_szTreeS.R N (d + 1) x.1 x.2.1 := by
  have h : runF cx (look (laws_szTreeS.phis N d)) laws_szTreeS.A N (bodyOf Tryd.f46) Tryd.f46.results.toList laws_szTreeS.sg x = laws_szTreeS.B N (laws_szTreeS.R N d) (laws_szTree.R N d) (fun z => laws_szTreeS.a0 N d N z) x.1 x.2.1 := by kernel_rfl
  have e0 : (fun z => laws_szTreeS.a0 N d N z) = laws_szTreeS.L0 N (laws_szTreeS.R N d) (laws_szTree.R N d) N := funext fun z => laws_szTreeS.r0 N d N z
  rw [h, e0]
  try rfl
theorem laws_szTreeS.step (N : Nat) (d : Nat) (h_laws_szTree : Sound cx Tryd.prog gam 16 (⟨laws_szTree.sg, fun (x : LawsTree × Int × Unit) => laws_szTree.R N d x.1 x.2.1⟩ : Sm D)) : Sound cx Tryd.prog gam 46 (⟨laws_szTreeS.sg, fun (x : (List (LawsTree)) × Int × Unit) => laws_szTreeS.R N (d + 1) x.1 x.2.1⟩ : Sm D) := fn_sound (A := laws_szTreeS.A) (Φ := (look (laws_szTreeS.phis N d))) pok (G := gam) (ΦOk.cons h_laws_szTree (fnOk_of (f := 16) (by kernel_rfl)) ΦOk.nil) mixed N Tryd.func46 (c := (bodyOf Tryd.f46)) (by kernel_rfl) laws_szTreeS.sg (by kernel_rfl) (by kernel_rfl) (by kernel_rfl) (laws_szTreeS.run N d)

noncomputable def laws_szTree.A : Ann := { dp := fun d => isIn [] d, lp := look [], jn := look [], pins := [], nt := 25 }
noncomputable def laws_szTree.phis (N : Nat) (d : Nat) : List (Nat × Sm D) := [(45, laws_szPropS.sm N), (46, (⟨laws_szTreeS.sg, fun (x : (List (LawsTree)) × Int × Unit) => laws_szTreeS.R N d x.1 x.2.1⟩ : Sm D))]
theorem laws_szTree.run (N : Nat) (d : Nat) (x : LawsTree × Int × Unit) : runF cx (look (laws_szTree.phis N d)) laws_szTree.A N (bodyOf Tryd.f16) Tryd.f16.results.toList laws_szTree.sg x = laws_szTree.R N (d + 1) x.1 x.2.1 := by
  have h : runF cx (look (laws_szTree.phis N d)) laws_szTree.A N (bodyOf Tryd.f16) Tryd.f16.results.toList laws_szTree.sg x = laws_szTree.B N (laws_szTreeS.R N d) (laws_szTree.R N d) x.1 x.2.1 := by kernel_rfl
  rw [h]
  try rfl
theorem laws_szTree.step (N : Nat) (d : Nat) (h_laws_szTreeS : Sound cx Tryd.prog gam 46 (⟨laws_szTreeS.sg, fun (x : (List (LawsTree)) × Int × Unit) => laws_szTreeS.R N d x.1 x.2.1⟩ : Sm D)) : Sound cx Tryd.prog gam 16 (⟨laws_szTree.sg, fun (x : LawsTree × Int × Unit) => laws_szTree.R N (d + 1) x.1 x.2.1⟩ : Sm D) := fn_sound (A := laws_szTree.A) (Φ := (look (laws_szTree.phis N d))) pok (G := gam) (ΦOk.cons (laws_szPropS.sound N) (fnOk_of (f := 45) (by kernel_rfl)) (ΦOk.cons h_laws_szTreeS (fnOk_of (f := 46) (by kernel_rfl)) ΦOk.nil)) mixed N Tryd.func16 (c := (bodyOf Tryd.f16)) (by kernel_rfl) laws_szTree.sg (by kernel_rfl) (by kernel_rfl) (by kernel_rfl) (laws_szTree.run N d)

theorem laws_szTreeS.scc (N : Nat) : ∀ d, Sound cx Tryd.prog gam 46 (⟨laws_szTreeS.sg, fun (x : (List (LawsTree)) × Int × Unit) => laws_szTreeS.R N d x.1 x.2.1⟩ : Sm D) ∧ Sound cx Tryd.prog gam 16 (⟨laws_szTree.sg, fun (x : LawsTree × Int × Unit) => laws_szTree.R N d x.1 x.2.1⟩ : Sm D)
  | 0 => ⟨none_sound 46 laws_szTreeS.sg, none_sound 16 laws_szTree.sg⟩
  | d + 1 => by
    have ih := laws_szTreeS.scc N d
    obtain ⟨ih0, ih1⟩ := ih
    exact ⟨laws_szTreeS.step N d ih1, laws_szTree.step N d ih0⟩
noncomputable def laws_szTreeS.sm (N : Nat) : Sm D := (⟨laws_szTreeS.sg, fun (x : (List (LawsTree)) × Int × Unit) => laws_szTreeS.R N N x.1 x.2.1⟩ : Sm D)
theorem laws_szTreeS.sound (N : Nat) : Sound cx Tryd.prog gam 46 (laws_szTreeS.sm N) := (laws_szTreeS.scc N N).1
noncomputable def laws_szTree.sm (N : Nat) : Sm D := (⟨laws_szTree.sg, fun (x : LawsTree × Int × Unit) => laws_szTree.R N N x.1 x.2.1⟩ : Sm D)
theorem laws_szTree.sound (N : Nat) : Sound cx Tryd.prog gam 16 (laws_szTree.sm N) := (laws_szTreeS.scc N N).2
@[reducible] def laws_toValue.sg : Sg := { ms := [{ k := (.st 81) }], keep := [false], rs := [{ k := (.st 81) }] }
noncomputable def laws_toValue.A : Ann := { dp := fun d => isIn [] d, lp := look [], jn := look [], pins := [], nt := 14 }
noncomputable def laws_toValue.phis (N : Nat) : List (Nat × Sm D) := []
theorem laws_toValue.run (N : Nat) (x : ImplValue × Unit) : runF cx (look (laws_toValue.phis N)) laws_toValue.A N (bodyOf Tryd.f97) Tryd.f97.results.toList laws_toValue.sg x = laws_toValue N x.1 := by
  have h : runF cx (look (laws_toValue.phis N)) laws_toValue.A N (bodyOf Tryd.f97) Tryd.f97.results.toList laws_toValue.sg x = laws_toValue.B N x.1 := by kernel_rfl
  rw [h]
  try rfl
noncomputable def laws_toValue.sm (N : Nat) : Sm D := (⟨laws_toValue.sg, fun (x : ImplValue × Unit) => laws_toValue N x.1⟩ : Sm D)
theorem laws_toValue.sound (N : Nat) : Sound cx Tryd.prog gam 97 (laws_toValue.sm N) := fn_sound (A := laws_toValue.A) (Φ := (look (laws_toValue.phis N))) pok (G := gam) ΦOk.nil mixed N Tryd.func97 (c := (bodyOf Tryd.f97)) (by kernel_rfl) laws_toValue.sg (by kernel_rfl) (by kernel_rfl) (by kernel_rfl) (laws_toValue.run N)

@[reducible] def laws_toProp.sg : Sg := { ms := [{ k := (.st 88) }], keep := [false], rs := [{ k := (.st 83) }] }
noncomputable def laws_toProp.A : Ann := { dp := fun d => isIn [] d, lp := look [], jn := look [], pins := [], nt := 12 }
noncomputable def laws_toProp.phis (N : Nat) : List (Nat × Sm D) := [(97, laws_toValue.sm N)]
theorem laws_toProp.run (N : Nat) (x : LawsProp × Unit) : runF cx (look (laws_toProp.phis N)) laws_toProp.A N (bodyOf Tryd.f78) Tryd.f78.results.toList laws_toProp.sg x = laws_toProp N x.1 := by
  have h : runF cx (look (laws_toProp.phis N)) laws_toProp.A N (bodyOf Tryd.f78) Tryd.f78.results.toList laws_toProp.sg x = laws_toProp.B N x.1 := by kernel_rfl
  rw [h]
  try rfl
noncomputable def laws_toProp.sm (N : Nat) : Sm D := (⟨laws_toProp.sg, fun (x : LawsProp × Unit) => laws_toProp N x.1⟩ : Sm D)
theorem laws_toProp.sound (N : Nat) : Sound cx Tryd.prog gam 78 (laws_toProp.sm N) := fn_sound (A := laws_toProp.A) (Φ := (look (laws_toProp.phis N))) pok (G := gam) (ΦOk.cons (laws_toValue.sound N) (fnOk_of (f := 97) (by kernel_rfl)) ΦOk.nil) mixed N Tryd.func78 (c := (bodyOf Tryd.f78)) (by kernel_rfl) laws_toProp.sg (by kernel_rfl) (by kernel_rfl) (by kernel_rfl) (laws_toProp.run N)

@[reducible] def laws_toPropS.sg : Sg := { ms := [{ k := (.sl (.st 88)), fl := [none] }], keep := [false], rs := [{ k := (.sl (.st 83)), fl := [none] }], hold := true }
@[reducible] def laws_toPropS.lvL0 : Lv := { id := 0, slots := [0, 3, 4], ms := [{ k := (.sl (.st 88)), fl := [none] }, { k := (.sl (.st 83)), fl := [some (false, 620)] }, { k := (.int .i64) }] }
noncomputable def laws_toPropS.A : Ann := { dp := fun d => isIn [] d, lp := look [(0, laws_toPropS.lvL0)], jn := look [], pins := [], nt := 23 }
noncomputable def laws_toPropS.phis (N : Nat) : List (Nat × Sm D) := [(78, laws_toProp.sm N)]
noncomputable def laws_toPropS.a0 (N : Nat) (n : Nat) (y : (List (LawsProp)) × (List (ImplProp)) × Int × Unit) : Option ((List (ImplProp)) × Unit) := loopAt cx (look (laws_toPropS.phis N)) laws_toPropS.A N n (encL cx laws_toPropS.lvL0.ms y).1 (encL cx laws_toPropS.lvL0.ms y).2 (bodyOf Tryd.f47) 0 (Kfin cx laws_toPropS.A laws_toPropS.sg Tryd.f47.results.toList) [1, 1, 0, 1, 1] []
theorem laws_toPropS.r0 (N : Nat) : ∀ (n : Nat) (y : (List (LawsProp)) × (List (ImplProp)) × Int × Unit), laws_toPropS.a0 N n y = laws_toPropS.L0 N n y
  | 0, y => by kernel_rfl
  | n + 1, y => by
    have h : laws_toPropS.a0 N (n + 1) y = laws_toPropS.B0 N (fun z => laws_toPropS.a0 N n z) y := by kernel_rfl
    have e : (fun z => laws_toPropS.a0 N n z) = laws_toPropS.L0 N n := funext fun z => laws_toPropS.r0 N n z
    rw [h]
    try rw [e]
    first | done | rfl
theorem laws_toPropS.run (N : Nat) (x : (List (LawsProp)) × Unit) : runF cx (look (laws_toPropS.phis N)) laws_toPropS.A N (bodyOf Tryd.f47) Tryd.f47.results.toList laws_toPropS.sg x = laws_toPropS N x.1 := by
  have h : runF cx (look (laws_toPropS.phis N)) laws_toPropS.A N (bodyOf Tryd.f47) Tryd.f47.results.toList laws_toPropS.sg x = laws_toPropS.B N (fun z => laws_toPropS.a0 N N z) x.1 := by kernel_rfl
  have e0 : (fun z => laws_toPropS.a0 N N z) = laws_toPropS.L0 N N := funext fun z => laws_toPropS.r0 N N z
  rw [h, e0]
  try rfl
noncomputable def laws_toPropS.sm (N : Nat) : Sm D := (⟨laws_toPropS.sg, fun (x : (List (LawsProp)) × Unit) => laws_toPropS N x.1⟩ : Sm D)
theorem laws_toPropS.sound (N : Nat) : Sound cx Tryd.prog gam 47 (laws_toPropS.sm N) := fn_sound (A := laws_toPropS.A) (Φ := (look (laws_toPropS.phis N))) pok (G := gam) (ΦOk.cons (laws_toProp.sound N) (fnOk_of (f := 78) (by kernel_rfl)) ΦOk.nil) mixed N Tryd.func47 (c := (bodyOf Tryd.f47)) (by kernel_rfl) laws_toPropS.sg (by kernel_rfl) (by kernel_rfl) (by kernel_rfl) (laws_toPropS.run N)

@[reducible] def laws_toTreeS.sg : Sg := { ms := [{ k := (.sl (.st 32)), fl := [none] }], keep := [false], rs := [{ k := (.sl (.st 25)), fl := [none] }], hold := true }
@[reducible] def laws_toTree.sg : Sg := { ms := [{ k := (.st 32) }], keep := [false], rs := [{ k := (.st 25) }], hold := true }
@[reducible] def laws_toTreeS.lvL0 : Lv := { id := 0, slots := [0, 3, 4], ms := [{ k := (.sl (.st 32)), fl := [none] }, { k := (.sl (.st 25)), fl := [some (false, 620)] }, { k := (.int .i64) }] }
noncomputable def laws_toTreeS.A : Ann := { dp := fun d => isIn [] d, lp := look [(0, laws_toTreeS.lvL0)], jn := look [], pins := [], nt := 23 }
noncomputable def laws_toTreeS.phis (N : Nat) (d : Nat) : List (Nat × Sm D) := [(18, (⟨laws_toTree.sg, fun (x : LawsTree × Unit) => laws_toTree.R N d x.1⟩ : Sm D))]
noncomputable def laws_toTreeS.a0 (N : Nat) (d : Nat) (n : Nat) (y : (List (LawsTree)) × (List (ImplTree)) × Int × Unit) : Option ((List (ImplTree)) × Unit) := loopAt cx (look (laws_toTreeS.phis N d)) laws_toTreeS.A N n (encL cx laws_toTreeS.lvL0.ms y).1 (encL cx laws_toTreeS.lvL0.ms y).2 (bodyOf Tryd.f48) 0 (Kfin cx laws_toTreeS.A laws_toTreeS.sg Tryd.f48.results.toList) [1, 1, 0, 1, 1] []
theorem laws_toTreeS.r0 (N : Nat) (d : Nat) : ∀ (n : Nat) (y : (List (LawsTree)) × (List (ImplTree)) × Int × Unit), laws_toTreeS.a0 N d n y = laws_toTreeS.L0 N (laws_toTreeS.R N d) (laws_toTree.R N d) n y
  | 0, y => by kernel_rfl
  | n + 1, y => by
    have h : laws_toTreeS.a0 N d (n + 1) y = laws_toTreeS.B0 N (laws_toTreeS.R N d) (laws_toTree.R N d) (fun z => laws_toTreeS.a0 N d n z) y := by kernel_rfl
    have e : (fun z => laws_toTreeS.a0 N d n z) = laws_toTreeS.L0 N (laws_toTreeS.R N d) (laws_toTree.R N d) n := funext fun z => laws_toTreeS.r0 N d n z
    rw [h]
    try rw [e]
    first | done | rfl
theorem laws_toTreeS.run (N : Nat) (d : Nat) (x : (List (LawsTree)) × Unit) : runF cx (look (laws_toTreeS.phis N d)) laws_toTreeS.A N (bodyOf Tryd.f48) Tryd.f48.results.toList laws_toTreeS.sg x = laws_toTreeS.R N (d + 1) x.1 := by
  have h : runF cx (look (laws_toTreeS.phis N d)) laws_toTreeS.A N (bodyOf Tryd.f48) Tryd.f48.results.toList laws_toTreeS.sg x = laws_toTreeS.B N (laws_toTreeS.R N d) (laws_toTree.R N d) (fun z => laws_toTreeS.a0 N d N z) x.1 := by kernel_rfl
  have e0 : (fun z => laws_toTreeS.a0 N d N z) = laws_toTreeS.L0 N (laws_toTreeS.R N d) (laws_toTree.R N d) N := funext fun z => laws_toTreeS.r0 N d N z
  rw [h, e0]
  try rfl
theorem laws_toTreeS.step (N : Nat) (d : Nat) (h_laws_toTree : Sound cx Tryd.prog gam 18 (⟨laws_toTree.sg, fun (x : LawsTree × Unit) => laws_toTree.R N d x.1⟩ : Sm D)) : Sound cx Tryd.prog gam 48 (⟨laws_toTreeS.sg, fun (x : (List (LawsTree)) × Unit) => laws_toTreeS.R N (d + 1) x.1⟩ : Sm D) := fn_sound (A := laws_toTreeS.A) (Φ := (look (laws_toTreeS.phis N d))) pok (G := gam) (ΦOk.cons h_laws_toTree (fnOk_of (f := 18) (by kernel_rfl)) ΦOk.nil) mixed N Tryd.func48 (c := (bodyOf Tryd.f48)) (by kernel_rfl) laws_toTreeS.sg (by kernel_rfl) (by kernel_rfl) (by kernel_rfl) (laws_toTreeS.run N d)

noncomputable def laws_toTree.A : Ann := { dp := fun d => isIn [] d, lp := look [], jn := look [], pins := [], nt := 22 }
noncomputable def laws_toTree.phis (N : Nat) (d : Nat) : List (Nat × Sm D) := [(47, laws_toPropS.sm N), (48, (⟨laws_toTreeS.sg, fun (x : (List (LawsTree)) × Unit) => laws_toTreeS.R N d x.1⟩ : Sm D))]
theorem laws_toTree.run (N : Nat) (d : Nat) (x : LawsTree × Unit) : runF cx (look (laws_toTree.phis N d)) laws_toTree.A N (bodyOf Tryd.f18) Tryd.f18.results.toList laws_toTree.sg x = laws_toTree.R N (d + 1) x.1 := by
  have h : runF cx (look (laws_toTree.phis N d)) laws_toTree.A N (bodyOf Tryd.f18) Tryd.f18.results.toList laws_toTree.sg x = laws_toTree.B N (laws_toTreeS.R N d) (laws_toTree.R N d) x.1 := by kernel_rfl
  rw [h]
  try rfl
theorem laws_toTree.step (N : Nat) (d : Nat) (h_laws_toTreeS : Sound cx Tryd.prog gam 48 (⟨laws_toTreeS.sg, fun (x : (List (LawsTree)) × Unit) => laws_toTreeS.R N d x.1⟩ : Sm D)) : Sound cx Tryd.prog gam 18 (⟨laws_toTree.sg, fun (x : LawsTree × Unit) => laws_toTree.R N (d + 1) x.1⟩ : Sm D) := fn_sound (A := laws_toTree.A) (Φ := (look (laws_toTree.phis N d))) pok (G := gam) (ΦOk.cons (laws_toPropS.sound N) (fnOk_of (f := 47) (by kernel_rfl)) (ΦOk.cons h_laws_toTreeS (fnOk_of (f := 48) (by kernel_rfl)) ΦOk.nil)) mixed N Tryd.func18 (c := (bodyOf Tryd.f18)) (by kernel_rfl) laws_toTree.sg (by kernel_rfl) (by kernel_rfl) (by kernel_rfl) (laws_toTree.run N d)

theorem laws_toTreeS.scc (N : Nat) : ∀ d, Sound cx Tryd.prog gam 48 (⟨laws_toTreeS.sg, fun (x : (List (LawsTree)) × Unit) => laws_toTreeS.R N d x.1⟩ : Sm D) ∧ Sound cx Tryd.prog gam 18 (⟨laws_toTree.sg, fun (x : LawsTree × Unit) => laws_toTree.R N d x.1⟩ : Sm D)
  | 0 => ⟨none_sound 48 laws_toTreeS.sg, none_sound 18 laws_toTree.sg⟩
  | d + 1 => by
    have ih := laws_toTreeS.scc N d
    obtain ⟨ih0, ih1⟩ := ih
    exact ⟨laws_toTreeS.step N d ih1, laws_toTree.step N d ih0⟩
noncomputable def laws_toTreeS.sm (N : Nat) : Sm D := (⟨laws_toTreeS.sg, fun (x : (List (LawsTree)) × Unit) => laws_toTreeS.R N N x.1⟩ : Sm D)
theorem laws_toTreeS.sound (N : Nat) : Sound cx Tryd.prog gam 48 (laws_toTreeS.sm N) := (laws_toTreeS.scc N N).1
noncomputable def laws_toTree.sm (N : Nat) : Sm D := (⟨laws_toTree.sg, fun (x : LawsTree × Unit) => laws_toTree.R N N x.1⟩ : Sm D)
theorem laws_toTree.sound (N : Nat) : Sound cx Tryd.prog gam 18 (laws_toTree.sm N) := (laws_toTreeS.scc N N).2
@[reducible] def laws_eqValue.sg : Sg := { ms := [{ k := (.st 81) }, { k := (.st 81) }], keep := [false, false], rs := [{ k := .bool }] }
noncomputable def laws_eqValue.A : Ann := { dp := fun d => isIn [] d, lp := look [], jn := look [], pins := [], nt := 20 }
noncomputable def laws_eqValue.phis (N : Nat) : List (Nat × Sm D) := []
theorem laws_eqValue.run (N : Nat) (x : ImplValue × ImplValue × Unit) : runF cx (look (laws_eqValue.phis N)) laws_eqValue.A N (bodyOf Tryd.f100) Tryd.f100.results.toList laws_eqValue.sg x = laws_eqValue N x.1 x.2.1 := by
  have h : runF cx (look (laws_eqValue.phis N)) laws_eqValue.A N (bodyOf Tryd.f100) Tryd.f100.results.toList laws_eqValue.sg x = laws_eqValue.B N x.1 x.2.1 := by kernel_rfl
  rw [h]
  try rfl
noncomputable def laws_eqValue.sm (N : Nat) : Sm D := (⟨laws_eqValue.sg, fun (x : ImplValue × ImplValue × Unit) => laws_eqValue N x.1 x.2.1⟩ : Sm D)
theorem laws_eqValue.sound (N : Nat) : Sound cx Tryd.prog gam 100 (laws_eqValue.sm N) := fn_sound (A := laws_eqValue.A) (Φ := (look (laws_eqValue.phis N))) pok (G := gam) ΦOk.nil mixed N Tryd.func100 (c := (bodyOf Tryd.f100)) (by kernel_rfl) laws_eqValue.sg (by kernel_rfl) (by kernel_rfl) (by kernel_rfl) (laws_eqValue.run N)

@[reducible] def laws_eqProp.sg : Sg := { ms := [{ k := (.st 83) }, { k := (.st 83) }], keep := [false, false], rs := [{ k := .bool }] }
noncomputable def laws_eqProp.A : Ann := { dp := fun d => isIn [] d, lp := look [], jn := look [], pins := [], nt := 16 }
noncomputable def laws_eqProp.phis (N : Nat) : List (Nat × Sm D) := [(100, laws_eqValue.sm N)]
theorem laws_eqProp.run (N : Nat) (x : ImplProp × ImplProp × Unit) : runF cx (look (laws_eqProp.phis N)) laws_eqProp.A N (bodyOf Tryd.f81) Tryd.f81.results.toList laws_eqProp.sg x = laws_eqProp N x.1 x.2.1 := by
  have h : runF cx (look (laws_eqProp.phis N)) laws_eqProp.A N (bodyOf Tryd.f81) Tryd.f81.results.toList laws_eqProp.sg x = laws_eqProp.B N x.1 x.2.1 := by kernel_rfl
  rw [h]
  try rfl
noncomputable def laws_eqProp.sm (N : Nat) : Sm D := (⟨laws_eqProp.sg, fun (x : ImplProp × ImplProp × Unit) => laws_eqProp N x.1 x.2.1⟩ : Sm D)
theorem laws_eqProp.sound (N : Nat) : Sound cx Tryd.prog gam 81 (laws_eqProp.sm N) := fn_sound (A := laws_eqProp.A) (Φ := (look (laws_eqProp.phis N))) pok (G := gam) (ΦOk.cons (laws_eqValue.sound N) (fnOk_of (f := 100) (by kernel_rfl)) ΦOk.nil) mixed N Tryd.func81 (c := (bodyOf Tryd.f81)) (by kernel_rfl) laws_eqProp.sg (by kernel_rfl) (by kernel_rfl) (by kernel_rfl) (laws_eqProp.run N)

@[reducible] def laws_eqPropS.sg : Sg := { ms := [{ k := (.sl (.st 83)), fl := [none] }, { k := (.sl (.st 83)), fl := [none] }], keep := [false, false], rs := [{ k := .bool }] }
@[reducible] def laws_eqPropS.lvL0 : Lv := { id := 0, slots := [0, 1, 5], ms := [{ k := (.sl (.st 83)), fl := [none] }, { k := (.sl (.st 83)), fl := [none] }, { k := (.int .i64) }] }
noncomputable def laws_eqPropS.A : Ann := { dp := fun d => isIn [] d, lp := look [(0, laws_eqPropS.lvL0)], jn := look [], pins := [], nt := 27 }
noncomputable def laws_eqPropS.phis (N : Nat) : List (Nat × Sm D) := [(81, laws_eqProp.sm N)]
noncomputable def laws_eqPropS.a0 (N : Nat) (n : Nat) (y : (List (ImplProp)) × (List (ImplProp)) × Int × Unit) : Option (Bool × Unit) := loopAt cx (look (laws_eqPropS.phis N)) laws_eqPropS.A N n (encL cx laws_eqPropS.lvL0.ms y).1 (encL cx laws_eqPropS.lvL0.ms y).2 (bodyOf Tryd.f50) 0 (Kfin cx laws_eqPropS.A laws_eqPropS.sg Tryd.f50.results.toList) [1, 1, 0, 1, 1] []
theorem laws_eqPropS.r0 (N : Nat) : ∀ (n : Nat) (y : (List (ImplProp)) × (List (ImplProp)) × Int × Unit), laws_eqPropS.a0 N n y = laws_eqPropS.L0 N n y
  | 0, y => by kernel_rfl
  | n + 1, y => by
    have h : laws_eqPropS.a0 N (n + 1) y = laws_eqPropS.B0 N (fun z => laws_eqPropS.a0 N n z) y := by kernel_rfl
    have e : (fun z => laws_eqPropS.a0 N n z) = laws_eqPropS.L0 N n := funext fun z => laws_eqPropS.r0 N n z
    rw [h]
    try rw [e]
    first | done | rfl
theorem laws_eqPropS.run (N : Nat) (x : (List (ImplProp)) × (List (ImplProp)) × Unit) : runF cx (look (laws_eqPropS.phis N)) laws_eqPropS.A N (bodyOf Tryd.f50) Tryd.f50.results.toList laws_eqPropS.sg x = laws_eqPropS N x.1 x.2.1 := by
  have h : runF cx (look (laws_eqPropS.phis N)) laws_eqPropS.A N (bodyOf Tryd.f50) Tryd.f50.results.toList laws_eqPropS.sg x = laws_eqPropS.B N (fun z => laws_eqPropS.a0 N N z) x.1 x.2.1 := by kernel_rfl
  have e0 : (fun z => laws_eqPropS.a0 N N z) = laws_eqPropS.L0 N N := funext fun z => laws_eqPropS.r0 N N z
  rw [h, e0]
  try rfl
noncomputable def laws_eqPropS.sm (N : Nat) : Sm D := (⟨laws_eqPropS.sg, fun (x : (List (ImplProp)) × (List (ImplProp)) × Unit) => laws_eqPropS N x.1 x.2.1⟩ : Sm D)
theorem laws_eqPropS.sound (N : Nat) : Sound cx Tryd.prog gam 50 (laws_eqPropS.sm N) := fn_sound (A := laws_eqPropS.A) (Φ := (look (laws_eqPropS.phis N))) pok (G := gam) (ΦOk.cons (laws_eqProp.sound N) (fnOk_of (f := 81) (by kernel_rfl)) ΦOk.nil) mixed N Tryd.func50 (c := (bodyOf Tryd.f50)) (by kernel_rfl) laws_eqPropS.sg (by kernel_rfl) (by kernel_rfl) (by kernel_rfl) (laws_eqPropS.run N)

@[reducible] def laws_eqTreeS.sg : Sg := { ms := [{ k := (.sl (.st 25)), fl := [none] }, { k := (.sl (.st 25)), fl := [none] }], keep := [false, false], rs := [{ k := .bool }] }
@[reducible] def laws_eqTree.sg : Sg := { ms := [{ k := (.st 25) }, { k := (.st 25) }], keep := [false, false], rs := [{ k := .bool }] }
@[reducible] def laws_eqTreeS.lvL0 : Lv := { id := 0, slots := [0, 1, 5], ms := [{ k := (.sl (.st 25)), fl := [none] }, { k := (.sl (.st 25)), fl := [none] }, { k := (.int .i64) }] }
noncomputable def laws_eqTreeS.A : Ann := { dp := fun d => isIn [] d, lp := look [(0, laws_eqTreeS.lvL0)], jn := look [], pins := [], nt := 27 }
noncomputable def laws_eqTreeS.phis (N : Nat) (d : Nat) : List (Nat × Sm D) := [(20, (⟨laws_eqTree.sg, fun (x : ImplTree × ImplTree × Unit) => laws_eqTree.R N d x.1 x.2.1⟩ : Sm D))]
noncomputable def laws_eqTreeS.a0 (N : Nat) (d : Nat) (n : Nat) (y : (List (ImplTree)) × (List (ImplTree)) × Int × Unit) : Option (Bool × Unit) := loopAt cx (look (laws_eqTreeS.phis N d)) laws_eqTreeS.A N n (encL cx laws_eqTreeS.lvL0.ms y).1 (encL cx laws_eqTreeS.lvL0.ms y).2 (bodyOf Tryd.f51) 0 (Kfin cx laws_eqTreeS.A laws_eqTreeS.sg Tryd.f51.results.toList) [1, 1, 0, 1, 1] []
theorem laws_eqTreeS.r0 (N : Nat) (d : Nat) : ∀ (n : Nat) (y : (List (ImplTree)) × (List (ImplTree)) × Int × Unit), laws_eqTreeS.a0 N d n y = laws_eqTreeS.L0 N (laws_eqTreeS.R N d) (laws_eqTree.R N d) n y
  | 0, y => by kernel_rfl
  | n + 1, y => by
    have h : laws_eqTreeS.a0 N d (n + 1) y = laws_eqTreeS.B0 N (laws_eqTreeS.R N d) (laws_eqTree.R N d) (fun z => laws_eqTreeS.a0 N d n z) y := by kernel_rfl
    have e : (fun z => laws_eqTreeS.a0 N d n z) = laws_eqTreeS.L0 N (laws_eqTreeS.R N d) (laws_eqTree.R N d) n := funext fun z => laws_eqTreeS.r0 N d n z
    rw [h]
    try rw [e]
    first | done | rfl
theorem laws_eqTreeS.run (N : Nat) (d : Nat) (x : (List (ImplTree)) × (List (ImplTree)) × Unit) : runF cx (look (laws_eqTreeS.phis N d)) laws_eqTreeS.A N (bodyOf Tryd.f51) Tryd.f51.results.toList laws_eqTreeS.sg x = laws_eqTreeS.R N (d + 1) x.1 x.2.1 := by
  have h : runF cx (look (laws_eqTreeS.phis N d)) laws_eqTreeS.A N (bodyOf Tryd.f51) Tryd.f51.results.toList laws_eqTreeS.sg x = laws_eqTreeS.B N (laws_eqTreeS.R N d) (laws_eqTree.R N d) (fun z => laws_eqTreeS.a0 N d N z) x.1 x.2.1 := by kernel_rfl
  have e0 : (fun z => laws_eqTreeS.a0 N d N z) = laws_eqTreeS.L0 N (laws_eqTreeS.R N d) (laws_eqTree.R N d) N := funext fun z => laws_eqTreeS.r0 N d N z
  rw [h, e0]
  try rfl
theorem laws_eqTreeS.step (N : Nat) (d : Nat) (h_laws_eqTree : Sound cx Tryd.prog gam 20 (⟨laws_eqTree.sg, fun (x : ImplTree × ImplTree × Unit) => laws_eqTree.R N d x.1 x.2.1⟩ : Sm D)) : Sound cx Tryd.prog gam 51 (⟨laws_eqTreeS.sg, fun (x : (List (ImplTree)) × (List (ImplTree)) × Unit) => laws_eqTreeS.R N (d + 1) x.1 x.2.1⟩ : Sm D) := fn_sound (A := laws_eqTreeS.A) (Φ := (look (laws_eqTreeS.phis N d))) pok (G := gam) (ΦOk.cons h_laws_eqTree (fnOk_of (f := 20) (by kernel_rfl)) ΦOk.nil) mixed N Tryd.func51 (c := (bodyOf Tryd.f51)) (by kernel_rfl) laws_eqTreeS.sg (by kernel_rfl) (by kernel_rfl) (by kernel_rfl) (laws_eqTreeS.run N d)

noncomputable def laws_eqTree.A : Ann := { dp := fun d => isIn [] d, lp := look [], jn := look [], pins := [], nt := 32 }
noncomputable def laws_eqTree.phis (N : Nat) (d : Nat) : List (Nat × Sm D) := [(50, laws_eqPropS.sm N), (51, (⟨laws_eqTreeS.sg, fun (x : (List (ImplTree)) × (List (ImplTree)) × Unit) => laws_eqTreeS.R N d x.1 x.2.1⟩ : Sm D))]
theorem laws_eqTree.run (N : Nat) (d : Nat) (x : ImplTree × ImplTree × Unit) : runF cx (look (laws_eqTree.phis N d)) laws_eqTree.A N (bodyOf Tryd.f20) Tryd.f20.results.toList laws_eqTree.sg x = laws_eqTree.R N (d + 1) x.1 x.2.1 := by
  have h : runF cx (look (laws_eqTree.phis N d)) laws_eqTree.A N (bodyOf Tryd.f20) Tryd.f20.results.toList laws_eqTree.sg x = laws_eqTree.B N (laws_eqTreeS.R N d) (laws_eqTree.R N d) x.1 x.2.1 := by kernel_rfl
  rw [h]
  try rfl
theorem laws_eqTree.step (N : Nat) (d : Nat) (h_laws_eqTreeS : Sound cx Tryd.prog gam 51 (⟨laws_eqTreeS.sg, fun (x : (List (ImplTree)) × (List (ImplTree)) × Unit) => laws_eqTreeS.R N d x.1 x.2.1⟩ : Sm D)) : Sound cx Tryd.prog gam 20 (⟨laws_eqTree.sg, fun (x : ImplTree × ImplTree × Unit) => laws_eqTree.R N (d + 1) x.1 x.2.1⟩ : Sm D) := fn_sound (A := laws_eqTree.A) (Φ := (look (laws_eqTree.phis N d))) pok (G := gam) (ΦOk.cons (laws_eqPropS.sound N) (fnOk_of (f := 50) (by kernel_rfl)) (ΦOk.cons h_laws_eqTreeS (fnOk_of (f := 51) (by kernel_rfl)) ΦOk.nil)) mixed N Tryd.func20 (c := (bodyOf Tryd.f20)) (by kernel_rfl) laws_eqTree.sg (by kernel_rfl) (by kernel_rfl) (by kernel_rfl) (laws_eqTree.run N d)

theorem laws_eqTreeS.scc (N : Nat) : ∀ d, Sound cx Tryd.prog gam 51 (⟨laws_eqTreeS.sg, fun (x : (List (ImplTree)) × (List (ImplTree)) × Unit) => laws_eqTreeS.R N d x.1 x.2.1⟩ : Sm D) ∧ Sound cx Tryd.prog gam 20 (⟨laws_eqTree.sg, fun (x : ImplTree × ImplTree × Unit) => laws_eqTree.R N d x.1 x.2.1⟩ : Sm D)
  | 0 => ⟨none_sound 51 laws_eqTreeS.sg, none_sound 20 laws_eqTree.sg⟩
  | d + 1 => by
    have ih := laws_eqTreeS.scc N d
    obtain ⟨ih0, ih1⟩ := ih
    exact ⟨laws_eqTreeS.step N d ih1, laws_eqTree.step N d ih0⟩
noncomputable def laws_eqTreeS.sm (N : Nat) : Sm D := (⟨laws_eqTreeS.sg, fun (x : (List (ImplTree)) × (List (ImplTree)) × Unit) => laws_eqTreeS.R N N x.1 x.2.1⟩ : Sm D)
theorem laws_eqTreeS.sound (N : Nat) : Sound cx Tryd.prog gam 51 (laws_eqTreeS.sm N) := (laws_eqTreeS.scc N N).1
noncomputable def laws_eqTree.sm (N : Nat) : Sm D := (⟨laws_eqTree.sg, fun (x : ImplTree × ImplTree × Unit) => laws_eqTree.R N N x.1 x.2.1⟩ : Sm D)
theorem laws_eqTree.sound (N : Nat) : Sound cx Tryd.prog gam 20 (laws_eqTree.sm N) := (laws_eqTreeS.scc N N).2
@[reducible] def impl_treeCount.sg : Sg := { ms := [{ k := (.st 25) }], keep := [false], rs := [{ k := (.int .i64) }] }
@[reducible] def impl_treeCount.lvL0 : Lv := { id := 0, slots := [3, 7, 8, 9], ms := [{ k := (.int .i64) }, { k := (.sl (.st 25)), fl := [none] }, { k := (.int .i64) }, { k := (.int .i64) }] }
noncomputable def impl_treeCount.A : Ann := { dp := fun d => isIn [] d, lp := look [(0, impl_treeCount.lvL0)], jn := look [], pins := [], nt := 19 }
noncomputable def impl_treeCount.phis (N : Nat) (d : Nat) : List (Nat × Sm D) := [(53, (⟨impl_treeCount.sg, fun (x : ImplTree × Unit) => impl_treeCount.R N d x.1⟩ : Sm D))]
noncomputable def impl_treeCount.a0 (N : Nat) (d : Nat) (n : Nat) (y : Int × (List (ImplTree)) × Int × Int × Unit) : Option (Int × Unit) := loopAt cx (look (impl_treeCount.phis N d)) impl_treeCount.A N n (encL cx impl_treeCount.lvL0.ms y).1 (encL cx impl_treeCount.lvL0.ms y).2 (bodyOf Tryd.f53) 0 (Kfin cx impl_treeCount.A impl_treeCount.sg Tryd.f53.results.toList) [1, 1, 0, 1, 1] []
theorem impl_treeCount.r0 (N : Nat) (d : Nat) : ∀ (n : Nat) (y : Int × (List (ImplTree)) × Int × Int × Unit), impl_treeCount.a0 N d n y = impl_treeCount.L0 N (impl_treeCount.R N d) n y
  | 0, y => by kernel_rfl
  | n + 1, y => by
    have h : impl_treeCount.a0 N d (n + 1) y = impl_treeCount.B0 N (impl_treeCount.R N d) (fun z => impl_treeCount.a0 N d n z) y := by kernel_rfl
    have e : (fun z => impl_treeCount.a0 N d n z) = impl_treeCount.L0 N (impl_treeCount.R N d) n := funext fun z => impl_treeCount.r0 N d n z
    rw [h]
    try rw [e]
    first | done | rfl
theorem impl_treeCount.run (N : Nat) (d : Nat) (x : ImplTree × Unit) : runF cx (look (impl_treeCount.phis N d)) impl_treeCount.A N (bodyOf Tryd.f53) Tryd.f53.results.toList impl_treeCount.sg x = impl_treeCount.R N (d + 1) x.1 := by
  have h : runF cx (look (impl_treeCount.phis N d)) impl_treeCount.A N (bodyOf Tryd.f53) Tryd.f53.results.toList impl_treeCount.sg x = impl_treeCount.B N (impl_treeCount.R N d) (fun z => impl_treeCount.a0 N d N z) x.1 := by kernel_rfl
  have e0 : (fun z => impl_treeCount.a0 N d N z) = impl_treeCount.L0 N (impl_treeCount.R N d) N := funext fun z => impl_treeCount.r0 N d N z
  rw [h, e0]
  try rfl
theorem impl_treeCount.step (N : Nat) (d : Nat) (h_impl_treeCount : Sound cx Tryd.prog gam 53 (⟨impl_treeCount.sg, fun (x : ImplTree × Unit) => impl_treeCount.R N d x.1⟩ : Sm D)) : Sound cx Tryd.prog gam 53 (⟨impl_treeCount.sg, fun (x : ImplTree × Unit) => impl_treeCount.R N (d + 1) x.1⟩ : Sm D) := fn_sound (A := impl_treeCount.A) (Φ := (look (impl_treeCount.phis N d))) pok (G := gam) (ΦOk.cons h_impl_treeCount (fnOk_of (f := 53) (by kernel_rfl)) ΦOk.nil) mixed N Tryd.func53 (c := (bodyOf Tryd.f53)) (by kernel_rfl) impl_treeCount.sg (by kernel_rfl) (by kernel_rfl) (by kernel_rfl) (impl_treeCount.run N d)

theorem impl_treeCount.scc (N : Nat) : ∀ d, Sound cx Tryd.prog gam 53 (⟨impl_treeCount.sg, fun (x : ImplTree × Unit) => impl_treeCount.R N d x.1⟩ : Sm D)
  | 0 => none_sound 53 impl_treeCount.sg
  | d + 1 => by
    have ih := impl_treeCount.scc N d
    exact impl_treeCount.step N d ih
noncomputable def impl_treeCount.sm (N : Nat) : Sm D := (⟨impl_treeCount.sg, fun (x : ImplTree × Unit) => impl_treeCount.R N N x.1⟩ : Sm D)
theorem impl_treeCount.sound (N : Nat) : Sound cx Tryd.prog gam 53 (impl_treeCount.sm N) := (impl_treeCount.scc N N)
@[reducible] def spec_partAt.sg : Sg := { ms := [{ k := (.st 25) }, { k := (.sl (.int .i64)), fl := [none] }], keep := [false, false], rs := [{ k := (.st 25) }, { k := .bool }], hold := true }
@[reducible] def spec_partAt.lvL0 : Lv := { id := 0, slots := [1, 2, 4, 6], ms := [{ k := (.sl (.int .i64)), fl := [none] }, { ptr := true, id := 620, t := 26, k := (.st 25), fl := [none, none, none, none, none] }, { ptr := true, id := 640, t := 26, k := (.st 25), fl := [none, none, none, some (false, 644), some (false, 645)] }, { k := (.int .i64) }] }
noncomputable def spec_partAt.A : Ann := { dp := fun d => isIn [] d, lp := look [(0, spec_partAt.lvL0)], jn := look [], pins := [], nt := 33 }
noncomputable def spec_partAt.phis (N : Nat) : List (Nat × Sm D) := [(63, spec_inRange.sm N)]
noncomputable def spec_partAt.a0 (N : Nat) (n : Nat) (y : (List (Int)) × ImplTree × ImplTree × Int × Unit) : Option (ImplTree × Bool × Unit) := loopAt cx (look (spec_partAt.phis N)) spec_partAt.A N n (encL cx spec_partAt.lvL0.ms y).1 (encL cx spec_partAt.lvL0.ms y).2 (bodyOf Tryd.f57) 0 (Kfin cx spec_partAt.A spec_partAt.sg Tryd.f57.results.toList) [1, 0, 1, 1] []
theorem spec_partAt.r0 (N : Nat) : ∀ (n : Nat) (y : (List (Int)) × ImplTree × ImplTree × Int × Unit), spec_partAt.a0 N n y = spec_partAt.L0 N n y
  | 0, y => by kernel_rfl
  | n + 1, y => by
    have h : spec_partAt.a0 N (n + 1) y = spec_partAt.B0 N (fun z => spec_partAt.a0 N n z) y := by kernel_rfl
    have e : (fun z => spec_partAt.a0 N n z) = spec_partAt.L0 N n := funext fun z => spec_partAt.r0 N n z
    rw [h]
    try rw [e]
    first | done | rfl
theorem spec_partAt.run (N : Nat) (x : ImplTree × (List (Int)) × Unit) : runF cx (look (spec_partAt.phis N)) spec_partAt.A N (bodyOf Tryd.f57) Tryd.f57.results.toList spec_partAt.sg x = spec_partAt N x.1 x.2.1 := by
  have h : runF cx (look (spec_partAt.phis N)) spec_partAt.A N (bodyOf Tryd.f57) Tryd.f57.results.toList spec_partAt.sg x = spec_partAt.B N (fun z => spec_partAt.a0 N N z) x.1 x.2.1 := by kernel_rfl
  have e0 : (fun z => spec_partAt.a0 N N z) = spec_partAt.L0 N N := funext fun z => spec_partAt.r0 N N z
  rw [h, e0]
  try rfl
noncomputable def spec_partAt.sm (N : Nat) : Sm D := (⟨spec_partAt.sg, fun (x : ImplTree × (List (Int)) × Unit) => spec_partAt N x.1 x.2.1⟩ : Sm D)
theorem spec_partAt.sound (N : Nat) : Sound cx Tryd.prog gam 57 (spec_partAt.sm N) := fn_sound (A := spec_partAt.A) (Φ := (look (spec_partAt.phis N))) pok (G := gam) (ΦOk.cons (spec_inRange.sound N) (fnOk_of (f := 63) (by kernel_rfl)) ΦOk.nil) mixed N Tryd.func57 (c := (bodyOf Tryd.f57)) (by kernel_rfl) spec_partAt.sg (by kernel_rfl) (by kernel_rfl) (by kernel_rfl) (spec_partAt.run N)

@[reducible] def impl_partNumber.sg : Sg := { ms := [{ k := (.st 25) }, { k := (.sl (.int .i64)), fl := [none] }], keep := [false, false], rs := [{ k := (.int .i64) }] }
@[reducible] def impl_partNumber.lvL2 : Lv := { id := 2, slots := [2, 5, 7, 10, 11, 12, 28, 29, 30], ms := [{ ptr := true, id := 600, t := 26, k := (.st 25), fl := [none, none, none, none, none] }, { k := (.int .i64) }, { k := (.int .i64) }, { k := (.sl (.int .i64)), fl := [none] }, { k := (.int .i64) }, { k := (.int .i64) }, { k := (.sl (.st 25)), fl := [none] }, { k := (.int .i64) }, { k := (.int .i64) }] }
@[reducible] def impl_partNumber.lvL0 : Lv := { id := 0, slots := [2, 5, 10, 11, 12], ms := [{ ptr := true, id := 600, t := 26, k := (.st 25), fl := [none, none, none, none, none] }, { k := (.int .i64) }, { k := (.sl (.int .i64)), fl := [none] }, { k := (.int .i64) }, { k := (.int .i64) }] }
noncomputable def impl_partNumber.A : Ann := { dp := fun d => isIn [] d, lp := look [(2, impl_partNumber.lvL2), (0, impl_partNumber.lvL0)], jn := look [], pins := [], nt := 46 }
noncomputable def impl_partNumber.phis (N : Nat) : List (Nat × Sm D) := [(55, impl_within.sm N), (53, impl_treeCount.sm N)]
noncomputable def impl_partNumber.a2 (N : Nat) (m0 : Nat) (n : Nat) (y : ImplTree × Int × Int × (List (Int)) × Int × Int × (List (ImplTree)) × Int × Int × Unit) : Option (Int × Unit) := loopAt cx (look (impl_partNumber.phis N)) impl_partNumber.A N n (encL cx impl_partNumber.lvL2.ms y).1 (encL cx impl_partNumber.lvL2.ms y).2 (bodyOf Tryd.f67) 0 (Kfin cx impl_partNumber.A impl_partNumber.sg Tryd.f67.results.toList) [1, 1, 0, 1, 1, 1, 1, 1, 0, 1, 1, 1, 1, 0, 1, 1] [m0]
noncomputable def impl_partNumber.a0 (N : Nat) (n : Nat) (y : ImplTree × Int × (List (Int)) × Int × Int × Unit) : Option (Int × Unit) := loopAt cx (look (impl_partNumber.phis N)) impl_partNumber.A N n (encL cx impl_partNumber.lvL0.ms y).1 (encL cx impl_partNumber.lvL0.ms y).2 (bodyOf Tryd.f67) 0 (Kfin cx impl_partNumber.A impl_partNumber.sg Tryd.f67.results.toList) [1, 1, 0, 1, 1] []
theorem impl_partNumber.r2 (N : Nat) (m0 : Nat) : ∀ (n : Nat) (y : ImplTree × Int × Int × (List (Int)) × Int × Int × (List (ImplTree)) × Int × Int × Unit), impl_partNumber.a2 N m0 n y = impl_partNumber.L2 N (fun z => impl_partNumber.a0 N m0 z) n y
  | 0, y => by kernel_rfl
  | n + 1, y => by
    have h : impl_partNumber.a2 N m0 (n + 1) y = impl_partNumber.B2 N (fun z => impl_partNumber.a0 N m0 z) (fun z => impl_partNumber.a2 N m0 n z) y := by kernel_rfl
    have e : (fun z => impl_partNumber.a2 N m0 n z) = impl_partNumber.L2 N (fun z => impl_partNumber.a0 N m0 z) n := funext fun z => impl_partNumber.r2 N m0 n z
    rw [h]
    try rw [e]
    first | done | rfl
theorem impl_partNumber.r0 (N : Nat) : ∀ (n : Nat) (y : ImplTree × Int × (List (Int)) × Int × Int × Unit), impl_partNumber.a0 N n y = impl_partNumber.L0 N n y
  | 0, y => by kernel_rfl
  | n + 1, y => by
    have h : impl_partNumber.a0 N (n + 1) y = impl_partNumber.B0 N (fun z => impl_partNumber.a2 N n N z) y := by kernel_rfl
    have e : (fun z => impl_partNumber.a0 N n z) = impl_partNumber.L0 N n := funext fun z => impl_partNumber.r0 N n z
    have e2 : (fun z => impl_partNumber.a2 N n N z) = impl_partNumber.L2 N (fun z => impl_partNumber.a0 N n z) N := funext fun z => impl_partNumber.r2 N n N z
    rw [h, e2]
    try rw [e]
    first | done | rfl
theorem impl_partNumber.run (N : Nat) (x : ImplTree × (List (Int)) × Unit) : runF cx (look (impl_partNumber.phis N)) impl_partNumber.A N (bodyOf Tryd.f67) Tryd.f67.results.toList impl_partNumber.sg x = impl_partNumber N x.1 x.2.1 := by
  have h : runF cx (look (impl_partNumber.phis N)) impl_partNumber.A N (bodyOf Tryd.f67) Tryd.f67.results.toList impl_partNumber.sg x = impl_partNumber.B N (fun z => impl_partNumber.a0 N N z) x.1 x.2.1 := by kernel_rfl
  have e0 : (fun z => impl_partNumber.a0 N N z) = impl_partNumber.L0 N N := funext fun z => impl_partNumber.r0 N N z
  rw [h, e0]
  try rfl
noncomputable def impl_partNumber.sm (N : Nat) : Sm D := (⟨impl_partNumber.sg, fun (x : ImplTree × (List (Int)) × Unit) => impl_partNumber N x.1 x.2.1⟩ : Sm D)
theorem impl_partNumber.sound (N : Nat) : Sound cx Tryd.prog gam 67 (impl_partNumber.sm N) := fn_sound (A := impl_partNumber.A) (Φ := (look (impl_partNumber.phis N))) pok (G := gam) (ΦOk.cons (impl_within.sound N) (fnOk_of (f := 55) (by kernel_rfl)) (ΦOk.cons (impl_treeCount.sound N) (fnOk_of (f := 53) (by kernel_rfl)) ΦOk.nil)) mixed N Tryd.func67 (c := (bodyOf Tryd.f67)) (by kernel_rfl) impl_partNumber.sg (by kernel_rfl) (by kernel_rfl) (by kernel_rfl) (impl_partNumber.run N)

@[reducible] def impl_PartNumber.sg : Sg := { ms := [{ k := (.st 25) }, { k := (.sl (.int .i64)), fl := [none] }], keep := [false, false], rs := [{ k := (.int .i64) }] }
noncomputable def impl_PartNumber.A : Ann := { dp := fun d => isIn [] d, lp := look [], jn := look [], pins := [], nt := 11 }
noncomputable def impl_PartNumber.phis (N : Nat) : List (Nat × Sm D) := [(19, impl_TreeOk.sm N), (67, impl_partNumber.sm N)]
theorem impl_PartNumber.run (N : Nat) (x : ImplTree × (List (Int)) × Unit) : runF cx (look (impl_PartNumber.phis N)) impl_PartNumber.A N (bodyOf Tryd.f34) Tryd.f34.results.toList impl_PartNumber.sg x = impl_PartNumber N x.1 x.2.1 := by
  have h : runF cx (look (impl_PartNumber.phis N)) impl_PartNumber.A N (bodyOf Tryd.f34) Tryd.f34.results.toList impl_PartNumber.sg x = impl_PartNumber.B N x.1 x.2.1 := by kernel_rfl
  rw [h]
  try rfl
noncomputable def impl_PartNumber.sm (N : Nat) : Sm D := (⟨impl_PartNumber.sg, fun (x : ImplTree × (List (Int)) × Unit) => impl_PartNumber N x.1 x.2.1⟩ : Sm D)
theorem impl_PartNumber.sound (N : Nat) : Sound cx Tryd.prog gam 34 (impl_PartNumber.sm N) := fn_sound (A := impl_PartNumber.A) (Φ := (look (impl_PartNumber.phis N))) pok (G := gam) (ΦOk.cons (impl_TreeOk.sound N) (fnOk_of (f := 19) (by kernel_rfl)) (ΦOk.cons (impl_partNumber.sound N) (fnOk_of (f := 67) (by kernel_rfl)) ΦOk.nil)) mixed N Tryd.func34 (c := (bodyOf Tryd.f34)) (by kernel_rfl) impl_PartNumber.sg (by kernel_rfl) (by kernel_rfl) (by kernel_rfl) (impl_PartNumber.run N)

@[reducible] def spec_numberOf.sg : Sg := { ms := [{ k := (.st 25) }, { k := (.sl (.int .i64)), fl := [none] }], keep := [false, false], rs := [{ k := (.int .i64) }] }
@[reducible] def spec_numberOf.lvL2 : Lv := { id := 2, slots := [1, 2, 5, 6, 7], ms := [{ k := (.sl (.int .i64)), fl := [none] }, { ptr := true, id := 620, t := 26, k := (.st 25), fl := [none, none, none, none, none] }, { k := (.int .i64) }, { k := (.int .i64) }, { k := (.int .i64) }] }
@[reducible] def spec_numberOf.lvL0 : Lv := { id := 0, slots := [1, 2, 5, 6], ms := [{ k := (.sl (.int .i64)), fl := [none] }, { ptr := true, id := 620, t := 26, k := (.st 25), fl := [none, none, none, none, none] }, { k := (.int .i64) }, { k := (.int .i64) }] }
noncomputable def spec_numberOf.A : Ann := { dp := fun d => isIn [] d, lp := look [(2, spec_numberOf.lvL2), (0, spec_numberOf.lvL0)], jn := look [], pins := [], nt := 41 }
noncomputable def spec_numberOf.phis (N : Nat) : List (Nat × Sm D) := [(52, spec_treeSize.sm N)]
noncomputable def spec_numberOf.a2 (N : Nat) (m0 : Nat) (n : Nat) (y : (List (Int)) × ImplTree × Int × Int × Int × Unit) : Option (Int × Unit) := loopAt cx (look (spec_numberOf.phis N)) spec_numberOf.A N n (encL cx spec_numberOf.lvL2.ms y).1 (encL cx spec_numberOf.lvL2.ms y).2 (bodyOf Tryd.f68) 0 (Kfin cx spec_numberOf.A spec_numberOf.sg Tryd.f68.results.toList) [1, 1, 0, 1, 1, 1, 1, 0, 1, 1, 0, 1, 1] [m0]
noncomputable def spec_numberOf.a0 (N : Nat) (n : Nat) (y : (List (Int)) × ImplTree × Int × Int × Unit) : Option (Int × Unit) := loopAt cx (look (spec_numberOf.phis N)) spec_numberOf.A N n (encL cx spec_numberOf.lvL0.ms y).1 (encL cx spec_numberOf.lvL0.ms y).2 (bodyOf Tryd.f68) 0 (Kfin cx spec_numberOf.A spec_numberOf.sg Tryd.f68.results.toList) [1, 1, 0, 1, 1] []
theorem spec_numberOf.r2 (N : Nat) (m0 : Nat) : ∀ (n : Nat) (y : (List (Int)) × ImplTree × Int × Int × Int × Unit), spec_numberOf.a2 N m0 n y = spec_numberOf.L2 N (fun z => spec_numberOf.a0 N m0 z) n y
  | 0, y => by kernel_rfl
  | n + 1, y => by
    have h : spec_numberOf.a2 N m0 (n + 1) y = spec_numberOf.B2 N (fun z => spec_numberOf.a0 N m0 z) (fun z => spec_numberOf.a2 N m0 n z) y := by kernel_rfl
    have e : (fun z => spec_numberOf.a2 N m0 n z) = spec_numberOf.L2 N (fun z => spec_numberOf.a0 N m0 z) n := funext fun z => spec_numberOf.r2 N m0 n z
    rw [h]
    try rw [e]
    first | done | rfl
theorem spec_numberOf.r0 (N : Nat) : ∀ (n : Nat) (y : (List (Int)) × ImplTree × Int × Int × Unit), spec_numberOf.a0 N n y = spec_numberOf.L0 N n y
  | 0, y => by kernel_rfl
  | n + 1, y => by
    have h : spec_numberOf.a0 N (n + 1) y = spec_numberOf.B0 N (fun z => spec_numberOf.a2 N n N z) y := by kernel_rfl
    have e : (fun z => spec_numberOf.a0 N n z) = spec_numberOf.L0 N n := funext fun z => spec_numberOf.r0 N n z
    have e2 : (fun z => spec_numberOf.a2 N n N z) = spec_numberOf.L2 N (fun z => spec_numberOf.a0 N n z) N := funext fun z => spec_numberOf.r2 N n N z
    rw [h, e2]
    try rw [e]
    first | done | rfl
theorem spec_numberOf.run (N : Nat) (x : ImplTree × (List (Int)) × Unit) : runF cx (look (spec_numberOf.phis N)) spec_numberOf.A N (bodyOf Tryd.f68) Tryd.f68.results.toList spec_numberOf.sg x = spec_numberOf N x.1 x.2.1 := by
  have h : runF cx (look (spec_numberOf.phis N)) spec_numberOf.A N (bodyOf Tryd.f68) Tryd.f68.results.toList spec_numberOf.sg x = spec_numberOf.B N (fun z => spec_numberOf.a0 N N z) x.1 x.2.1 := by kernel_rfl
  have e0 : (fun z => spec_numberOf.a0 N N z) = spec_numberOf.L0 N N := funext fun z => spec_numberOf.r0 N N z
  rw [h, e0]
  try rfl
noncomputable def spec_numberOf.sm (N : Nat) : Sm D := (⟨spec_numberOf.sg, fun (x : ImplTree × (List (Int)) × Unit) => spec_numberOf N x.1 x.2.1⟩ : Sm D)
theorem spec_numberOf.sound (N : Nat) : Sound cx Tryd.prog gam 68 (spec_numberOf.sm N) := fn_sound (A := spec_numberOf.A) (Φ := (look (spec_numberOf.phis N))) pok (G := gam) (ΦOk.cons (spec_treeSize.sound N) (fnOk_of (f := 52) (by kernel_rfl)) ΦOk.nil) mixed N Tryd.func68 (c := (bodyOf Tryd.f68)) (by kernel_rfl) spec_numberOf.sg (by kernel_rfl) (by kernel_rfl) (by kernel_rfl) (spec_numberOf.run N)

@[reducible] def spec_PartNumber.sg : Sg := { ms := [{ k := (.st 25) }, { k := (.sl (.int .i64)), fl := [none] }], keep := [false, false], rs := [{ k := (.int .i64) }] }
noncomputable def spec_PartNumber.A : Ann := { dp := fun d => isIn [] d, lp := look [], jn := look [], pins := [], nt := 21 }
noncomputable def spec_PartNumber.phis (N : Nat) : List (Nat × Sm D) := [(43, spec_validTree.sm N), (57, spec_partAt.sm N), (68, spec_numberOf.sm N)]
theorem spec_PartNumber.run (N : Nat) (x : ImplTree × (List (Int)) × Unit) : runF cx (look (spec_PartNumber.phis N)) spec_PartNumber.A N (bodyOf Tryd.f35) Tryd.f35.results.toList spec_PartNumber.sg x = spec_PartNumber N x.1 x.2.1 := by
  have h : runF cx (look (spec_PartNumber.phis N)) spec_PartNumber.A N (bodyOf Tryd.f35) Tryd.f35.results.toList spec_PartNumber.sg x = spec_PartNumber.B N x.1 x.2.1 := by kernel_rfl
  rw [h]
  try rfl
noncomputable def spec_PartNumber.sm (N : Nat) : Sm D := (⟨spec_PartNumber.sg, fun (x : ImplTree × (List (Int)) × Unit) => spec_PartNumber N x.1 x.2.1⟩ : Sm D)
theorem spec_PartNumber.sound (N : Nat) : Sound cx Tryd.prog gam 35 (spec_PartNumber.sm N) := fn_sound (A := spec_PartNumber.A) (Φ := (look (spec_PartNumber.phis N))) pok (G := gam) (ΦOk.cons (spec_validTree.sound N) (fnOk_of (f := 43) (by kernel_rfl)) (ΦOk.cons (spec_partAt.sound N) (fnOk_of (f := 57) (by kernel_rfl)) (ΦOk.cons (spec_numberOf.sound N) (fnOk_of (f := 68) (by kernel_rfl)) ΦOk.nil))) mixed N Tryd.func35 (c := (bodyOf Tryd.f35)) (by kernel_rfl) spec_PartNumber.sg (by kernel_rfl) (by kernel_rfl) (by kernel_rfl) (spec_PartNumber.run N)

end
end Go.Ev
