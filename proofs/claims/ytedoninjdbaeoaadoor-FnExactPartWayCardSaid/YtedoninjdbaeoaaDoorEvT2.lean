/- Each function that the law reaches does what its plain form says; no condition beyond the table of the library. -/
import Derived.Test.YtedoninjdbaeoaaDoorEvT1
set_option linter.all false
set_option linter.unusedVariables false
set_option linter.unusedSimpArgs false
set_option maxRecDepth 100000
set_option maxHeartbeats 0
namespace Go.Ev
noncomputable section
open Go.Proofs
@[reducible] def laws_markText.sg : Sg := { ms := [{ k := (.int .i64) }], keep := [false], rs := [{ k := .str }] }
@[reducible] def laws_markText.lvL0 : Lv := { id := 0, slots := [0, 3], ms := [{ k := (.int .i64) }, { k := .str }] }
noncomputable def laws_markText.A : Ann := { dp := fun d => isIn [] d, lp := look [(0, laws_markText.lvL0)], jn := look [], pins := [], nt := 20 }
noncomputable def laws_markText.phis (N : Nat) : List (Nat × Sm D) := []
noncomputable def laws_markText.a0 (N : Nat) (n : Nat) (y : Int × (List UInt8) × Unit) : Option ((List UInt8) × Unit) := loopAt cx (look (laws_markText.phis N)) laws_markText.A N n (encL cx laws_markText.lvL0.ms y).1 (encL cx laws_markText.lvL0.ms y).2 (bodyOf Tryd.f49) 0 (Kfin cx laws_markText.A laws_markText.sg Tryd.f49.results.toList) [1, 1, 1, 0, 1] []
theorem laws_markText.r0 (N : Nat) : ∀ (n : Nat) (y : Int × (List UInt8) × Unit), laws_markText.a0 N n y = laws_markText.L0 N n y
  | 0, y => by kernel_rfl
  | n + 1, y => by
    have h : laws_markText.a0 N (n + 1) y = laws_markText.B0 N (fun z => laws_markText.a0 N n z) y := by kernel_rfl
    have e : (fun z => laws_markText.a0 N n z) = laws_markText.L0 N n := funext fun z => laws_markText.r0 N n z
    rw [h]
    try rw [e]
    first | done | rfl
theorem laws_markText.run (N : Nat) (x : Int × Unit) : runF cx (look (laws_markText.phis N)) laws_markText.A N (bodyOf Tryd.f49) Tryd.f49.results.toList laws_markText.sg x = laws_markText N x.1 := by
  have h : runF cx (look (laws_markText.phis N)) laws_markText.A N (bodyOf Tryd.f49) Tryd.f49.results.toList laws_markText.sg x = laws_markText.B N (fun z => laws_markText.a0 N N z) x.1 := by kernel_rfl
  have e0 : (fun z => laws_markText.a0 N N z) = laws_markText.L0 N N := funext fun z => laws_markText.r0 N N z
  rw [h, e0]
  try rfl
noncomputable def laws_markText.sm (N : Nat) : Sm D := (⟨laws_markText.sg, fun (x : Int × Unit) => laws_markText N x.1⟩ : Sm D)
theorem laws_markText.sound (N : Nat) : Sound cx Tryd.prog gam 49 (laws_markText.sm N) := fn_sound (A := laws_markText.A) (Φ := (look (laws_markText.phis N))) pok (G := gam) ΦOk.nil mixed N Tryd.func49 (c := (bodyOf Tryd.f49)) (by kernel_rfl) laws_markText.sg (by kernel_rfl) (by kernel_rfl) (by kernel_rfl) (laws_markText.run N)

@[reducible] def laws_markPropS.sg : Sg := { ms := [{ k := (.sl (.st 65)), fl := [some (true, 11)] }, { k := (.int .i64) }], keep := [true, false], rs := [{ k := (.int .i64) }] }
@[reducible] def laws_markPropS.lvL0 : Lv := { id := 0, slots := [0, 1, 5], ms := [{ k := (.sl (.st 65)), fl := [some (true, 11)] }, { k := (.int .i64) }, { k := (.int .i64) }] }
noncomputable def laws_markPropS.A : Ann := { dp := fun d => isIn [] d, lp := look [(0, laws_markPropS.lvL0)], jn := look [], pins := [11], nt := 45 }
noncomputable def laws_markPropS.phis (N : Nat) : List (Nat × Sm D) := [(49, laws_markText.sm N)]
noncomputable def laws_markPropS.a0 (N : Nat) (n : Nat) (y : (List (ImplProp)) × Int × Int × Unit) : Option ((List (ImplProp)) × Int × Unit) := loopAt cx (look (laws_markPropS.phis N)) laws_markPropS.A N n (encL cx laws_markPropS.lvL0.ms y).1 (encL cx laws_markPropS.lvL0.ms y).2 (bodyOf Tryd.f33) 0 (Kfin cx laws_markPropS.A laws_markPropS.sg Tryd.f33.results.toList) [1, 0, 1, 1] []
theorem laws_markPropS.r0 (N : Nat) : ∀ (n : Nat) (y : (List (ImplProp)) × Int × Int × Unit), laws_markPropS.a0 N n y = laws_markPropS.L0 N n y
  | 0, y => by kernel_rfl
  | n + 1, y => by
    have h : laws_markPropS.a0 N (n + 1) y = laws_markPropS.B0 N (fun z => laws_markPropS.a0 N n z) y := by kernel_rfl
    have e : (fun z => laws_markPropS.a0 N n z) = laws_markPropS.L0 N n := funext fun z => laws_markPropS.r0 N n z
    rw [h]
    try rw [e]
    first | done | rfl
theorem laws_markPropS.run (N : Nat) (x : (List (ImplProp)) × Int × Unit) : runF cx (look (laws_markPropS.phis N)) laws_markPropS.A N (bodyOf Tryd.f33) Tryd.f33.results.toList laws_markPropS.sg x = laws_markPropS N x.1 x.2.1 := by
  have h : runF cx (look (laws_markPropS.phis N)) laws_markPropS.A N (bodyOf Tryd.f33) Tryd.f33.results.toList laws_markPropS.sg x = laws_markPropS.B N (fun z => laws_markPropS.a0 N N z) x.1 x.2.1 := by kernel_rfl
  have e0 : (fun z => laws_markPropS.a0 N N z) = laws_markPropS.L0 N N := funext fun z => laws_markPropS.r0 N N z
  rw [h, e0]
  try rfl
noncomputable def laws_markPropS.sm (N : Nat) : Sm D := (⟨laws_markPropS.sg, fun (x : (List (ImplProp)) × Int × Unit) => laws_markPropS N x.1 x.2.1⟩ : Sm D)
theorem laws_markPropS.sound (N : Nat) : Sound cx Tryd.prog gam 33 (laws_markPropS.sm N) := fn_sound (A := laws_markPropS.A) (Φ := (look (laws_markPropS.phis N))) pok (G := gam) (ΦOk.cons (laws_markText.sound N) (fnOk_of (f := 49) (by kernel_rfl)) ΦOk.nil) mixed N Tryd.func33 (c := (bodyOf Tryd.f33)) (by kernel_rfl) laws_markPropS.sg (by kernel_rfl) (by kernel_rfl) (by kernel_rfl) (laws_markPropS.run N)

@[reducible] def laws_markTreeS.sg : Sg := { ms := [{ k := (.sl (.st 32)), fl := [some (true, 11)] }, { k := (.int .i64) }], keep := [true, false], rs := [{ k := (.int .i64) }] }
@[reducible] def laws_markTreeS.lvL0 : Lv := { id := 0, slots := [0, 1, 5], ms := [{ k := (.sl (.st 32)), fl := [some (true, 11)] }, { k := (.int .i64) }, { k := (.int .i64) }] }
noncomputable def laws_markTreeS.A : Ann := { dp := fun d => isIn [] d, lp := look [(0, laws_markTreeS.lvL0)], jn := look [], pins := [11], nt := 49 }
noncomputable def laws_markTreeS.phis (N : Nat) (d : Nat) : List (Nat × Sm D) := [(49, laws_markText.sm N), (33, laws_markPropS.sm N), (34, (⟨laws_markTreeS.sg, fun (x : (List (ImplTree)) × Int × Unit) => laws_markTreeS.R N d x.1 x.2.1⟩ : Sm D))]
noncomputable def laws_markTreeS.a0 (N : Nat) (d : Nat) (n : Nat) (y : (List (ImplTree)) × Int × Int × Unit) : Option ((List (ImplTree)) × Int × Unit) := loopAt cx (look (laws_markTreeS.phis N d)) laws_markTreeS.A N n (encL cx laws_markTreeS.lvL0.ms y).1 (encL cx laws_markTreeS.lvL0.ms y).2 (bodyOf Tryd.f34) 0 (Kfin cx laws_markTreeS.A laws_markTreeS.sg Tryd.f34.results.toList) [1, 0, 1, 1] []
theorem laws_markTreeS.r0 (N : Nat) (d : Nat) : ∀ (n : Nat) (y : (List (ImplTree)) × Int × Int × Unit), laws_markTreeS.a0 N d n y = laws_markTreeS.L0 N (laws_markTreeS.R N d) n y
  | 0, y => by kernel_rfl
  | n + 1, y => by
    have h : laws_markTreeS.a0 N d (n + 1) y = laws_markTreeS.B0 N (laws_markTreeS.R N d) (fun z => laws_markTreeS.a0 N d n z) y := by kernel_rfl
    have e : (fun z => laws_markTreeS.a0 N d n z) = laws_markTreeS.L0 N (laws_markTreeS.R N d) n := funext fun z => laws_markTreeS.r0 N d n z
    rw [h]
    try rw [e]
    first | done | rfl
theorem laws_markTreeS.run (N : Nat) (d : Nat) (x : (List (ImplTree)) × Int × Unit) : runF cx (look (laws_markTreeS.phis N d)) laws_markTreeS.A N (bodyOf Tryd.f34) Tryd.f34.results.toList laws_markTreeS.sg x = laws_markTreeS.R N (d + 1) x.1 x.2.1 := by
  have h : runF cx (look (laws_markTreeS.phis N d)) laws_markTreeS.A N (bodyOf Tryd.f34) Tryd.f34.results.toList laws_markTreeS.sg x = laws_markTreeS.B N (laws_markTreeS.R N d) (fun z => laws_markTreeS.a0 N d N z) x.1 x.2.1 := by kernel_rfl
  have e0 : (fun z => laws_markTreeS.a0 N d N z) = laws_markTreeS.L0 N (laws_markTreeS.R N d) N := funext fun z => laws_markTreeS.r0 N d N z
  rw [h, e0]
  try rfl
theorem laws_markTreeS.step (N : Nat) (d : Nat) (h_laws_markTreeS : Sound cx Tryd.prog gam 34 (⟨laws_markTreeS.sg, fun (x : (List (ImplTree)) × Int × Unit) => laws_markTreeS.R N d x.1 x.2.1⟩ : Sm D)) : Sound cx Tryd.prog gam 34 (⟨laws_markTreeS.sg, fun (x : (List (ImplTree)) × Int × Unit) => laws_markTreeS.R N (d + 1) x.1 x.2.1⟩ : Sm D) := fn_sound (A := laws_markTreeS.A) (Φ := (look (laws_markTreeS.phis N d))) pok (G := gam) (ΦOk.cons (laws_markText.sound N) (fnOk_of (f := 49) (by kernel_rfl)) (ΦOk.cons (laws_markPropS.sound N) (fnOk_of (f := 33) (by kernel_rfl)) (ΦOk.cons h_laws_markTreeS (fnOk_of (f := 34) (by kernel_rfl)) ΦOk.nil))) mixed N Tryd.func34 (c := (bodyOf Tryd.f34)) (by kernel_rfl) laws_markTreeS.sg (by kernel_rfl) (by kernel_rfl) (by kernel_rfl) (laws_markTreeS.run N d)

theorem laws_markTreeS.scc (N : Nat) : ∀ d, Sound cx Tryd.prog gam 34 (⟨laws_markTreeS.sg, fun (x : (List (ImplTree)) × Int × Unit) => laws_markTreeS.R N d x.1 x.2.1⟩ : Sm D)
  | 0 => none_sound 34 laws_markTreeS.sg
  | d + 1 => by
    have ih := laws_markTreeS.scc N d
    exact laws_markTreeS.step N d ih
noncomputable def laws_markTreeS.sm (N : Nat) : Sm D := (⟨laws_markTreeS.sg, fun (x : (List (ImplTree)) × Int × Unit) => laws_markTreeS.R N N x.1 x.2.1⟩ : Sm D)
theorem laws_markTreeS.sound (N : Nat) : Sound cx Tryd.prog gam 34 (laws_markTreeS.sm N) := (laws_markTreeS.scc N N)
@[reducible] def laws_markTree.sg : Sg := { ms := [{ k := (.st 32), fl := [none, none, none, some (true, 14), some (true, 15)] }, { k := (.int .i64) }], keep := [true, false], rs := [{ k := (.int .i64) }] }
noncomputable def laws_markTree.A : Ann := { dp := fun d => isIn [] d, lp := look [], jn := look [], pins := [14, 15], nt := 14 }
noncomputable def laws_markTree.phis (N : Nat) : List (Nat × Sm D) := [(33, laws_markPropS.sm N), (34, laws_markTreeS.sm N)]
theorem laws_markTree.run (N : Nat) (x : ImplTree × Int × Unit) : runF cx (look (laws_markTree.phis N)) laws_markTree.A N (bodyOf Tryd.f12) Tryd.f12.results.toList laws_markTree.sg x = laws_markTree N x.1 x.2.1 := by
  have h : runF cx (look (laws_markTree.phis N)) laws_markTree.A N (bodyOf Tryd.f12) Tryd.f12.results.toList laws_markTree.sg x = laws_markTree.B N x.1 x.2.1 := by kernel_rfl
  rw [h]
  try rfl
noncomputable def laws_markTree.sm (N : Nat) : Sm D := (⟨laws_markTree.sg, fun (x : ImplTree × Int × Unit) => laws_markTree N x.1 x.2.1⟩ : Sm D)
theorem laws_markTree.sound (N : Nat) : Sound cx Tryd.prog gam 12 (laws_markTree.sm N) := fn_sound (A := laws_markTree.A) (Φ := (look (laws_markTree.phis N))) pok (G := gam) (ΦOk.cons (laws_markPropS.sound N) (fnOk_of (f := 33) (by kernel_rfl)) (ΦOk.cons (laws_markTreeS.sound N) (fnOk_of (f := 34) (by kernel_rfl)) ΦOk.nil)) mixed N Tryd.func12 (c := (bodyOf Tryd.f12)) (by kernel_rfl) laws_markTree.sg (by kernel_rfl) (by kernel_rfl) (by kernel_rfl) (laws_markTree.run N)

@[reducible] def laws_markIntS.sg : Sg := { ms := [{ k := (.sl (.int .i64)), fl := [some (false, 11)] }, { k := (.int .i64) }], keep := [true, false], rs := [{ k := (.int .i64) }] }
@[reducible] def laws_markIntS.lvL0 : Lv := { id := 0, slots := [0, 1, 5], ms := [{ k := (.sl (.int .i64)), fl := [some (false, 11)] }, { k := (.int .i64) }, { k := (.int .i64) }] }
noncomputable def laws_markIntS.A : Ann := { dp := fun d => isIn [] d, lp := look [(0, laws_markIntS.lvL0)], jn := look [], pins := [11], nt := 19 }
noncomputable def laws_markIntS.phis (N : Nat) : List (Nat × Sm D) := []
noncomputable def laws_markIntS.a0 (N : Nat) (n : Nat) (y : (List (Int)) × Int × Int × Unit) : Option ((List (Int)) × Int × Unit) := loopAt cx (look (laws_markIntS.phis N)) laws_markIntS.A N n (encL cx laws_markIntS.lvL0.ms y).1 (encL cx laws_markIntS.lvL0.ms y).2 (bodyOf Tryd.f13) 0 (Kfin cx laws_markIntS.A laws_markIntS.sg Tryd.f13.results.toList) [1, 0, 1, 1] []
theorem laws_markIntS.r0 (N : Nat) : ∀ (n : Nat) (y : (List (Int)) × Int × Int × Unit), laws_markIntS.a0 N n y = laws_markIntS.L0 N n y
  | 0, y => by kernel_rfl
  | n + 1, y => by
    have h : laws_markIntS.a0 N (n + 1) y = laws_markIntS.B0 N (fun z => laws_markIntS.a0 N n z) y := by kernel_rfl
    have e : (fun z => laws_markIntS.a0 N n z) = laws_markIntS.L0 N n := funext fun z => laws_markIntS.r0 N n z
    rw [h]
    try rw [e]
    first | done | rfl
theorem laws_markIntS.run (N : Nat) (x : (List (Int)) × Int × Unit) : runF cx (look (laws_markIntS.phis N)) laws_markIntS.A N (bodyOf Tryd.f13) Tryd.f13.results.toList laws_markIntS.sg x = laws_markIntS N x.1 x.2.1 := by
  have h : runF cx (look (laws_markIntS.phis N)) laws_markIntS.A N (bodyOf Tryd.f13) Tryd.f13.results.toList laws_markIntS.sg x = laws_markIntS.B N (fun z => laws_markIntS.a0 N N z) x.1 x.2.1 := by kernel_rfl
  have e0 : (fun z => laws_markIntS.a0 N N z) = laws_markIntS.L0 N N := funext fun z => laws_markIntS.r0 N N z
  rw [h, e0]
  try rfl
noncomputable def laws_markIntS.sm (N : Nat) : Sm D := (⟨laws_markIntS.sg, fun (x : (List (Int)) × Int × Unit) => laws_markIntS N x.1 x.2.1⟩ : Sm D)
theorem laws_markIntS.sound (N : Nat) : Sound cx Tryd.prog gam 13 (laws_markIntS.sm N) := fn_sound (A := laws_markIntS.A) (Φ := (look (laws_markIntS.phis N))) pok (G := gam) ΦOk.nil mixed N Tryd.func13 (c := (bodyOf Tryd.f13)) (by kernel_rfl) laws_markIntS.sg (by kernel_rfl) (by kernel_rfl) (by kernel_rfl) (laws_markIntS.run N)

@[reducible] def laws_heldIntS.sg : Sg := { ms := [{ k := (.sl (.int .i64)), fl := [none] }, { k := (.int .i64) }], keep := [false, false], rs := [{ k := (.int .i64) }] }
@[reducible] def laws_heldIntS.lvL0 : Lv := { id := 0, slots := [0, 1, 5], ms := [{ k := (.sl (.int .i64)), fl := [none] }, { k := (.int .i64) }, { k := (.int .i64) }] }
noncomputable def laws_heldIntS.A : Ann := { dp := fun d => isIn [] d, lp := look [(0, laws_heldIntS.lvL0)], jn := look [], pins := [], nt := 21 }
noncomputable def laws_heldIntS.phis (N : Nat) : List (Nat × Sm D) := []
noncomputable def laws_heldIntS.a0 (N : Nat) (n : Nat) (y : (List (Int)) × Int × Int × Unit) : Option (Int × Unit) := loopAt cx (look (laws_heldIntS.phis N)) laws_heldIntS.A N n (encL cx laws_heldIntS.lvL0.ms y).1 (encL cx laws_heldIntS.lvL0.ms y).2 (bodyOf Tryd.f14) 0 (Kfin cx laws_heldIntS.A laws_heldIntS.sg Tryd.f14.results.toList) [1, 0, 1, 1] []
theorem laws_heldIntS.r0 (N : Nat) : ∀ (n : Nat) (y : (List (Int)) × Int × Int × Unit), laws_heldIntS.a0 N n y = laws_heldIntS.L0 N n y
  | 0, y => by kernel_rfl
  | n + 1, y => by
    have h : laws_heldIntS.a0 N (n + 1) y = laws_heldIntS.B0 N (fun z => laws_heldIntS.a0 N n z) y := by kernel_rfl
    have e : (fun z => laws_heldIntS.a0 N n z) = laws_heldIntS.L0 N n := funext fun z => laws_heldIntS.r0 N n z
    rw [h]
    try rw [e]
    first | done | rfl
theorem laws_heldIntS.run (N : Nat) (x : (List (Int)) × Int × Unit) : runF cx (look (laws_heldIntS.phis N)) laws_heldIntS.A N (bodyOf Tryd.f14) Tryd.f14.results.toList laws_heldIntS.sg x = laws_heldIntS N x.1 x.2.1 := by
  have h : runF cx (look (laws_heldIntS.phis N)) laws_heldIntS.A N (bodyOf Tryd.f14) Tryd.f14.results.toList laws_heldIntS.sg x = laws_heldIntS.B N (fun z => laws_heldIntS.a0 N N z) x.1 x.2.1 := by kernel_rfl
  have e0 : (fun z => laws_heldIntS.a0 N N z) = laws_heldIntS.L0 N N := funext fun z => laws_heldIntS.r0 N N z
  rw [h, e0]
  try rfl
noncomputable def laws_heldIntS.sm (N : Nat) : Sm D := (⟨laws_heldIntS.sg, fun (x : (List (Int)) × Int × Unit) => laws_heldIntS N x.1 x.2.1⟩ : Sm D)
theorem laws_heldIntS.sound (N : Nat) : Sound cx Tryd.prog gam 14 (laws_heldIntS.sm N) := fn_sound (A := laws_heldIntS.A) (Φ := (look (laws_heldIntS.phis N))) pok (G := gam) ΦOk.nil mixed N Tryd.func14 (c := (bodyOf Tryd.f14)) (by kernel_rfl) laws_heldIntS.sg (by kernel_rfl) (by kernel_rfl) (by kernel_rfl) (laws_heldIntS.run N)

@[reducible] def laws_FnExactPartWay.sg : Sg := { ms := [{ k := (.st 24) }, { k := (.int .i64) }], keep := [false, false], rs := [{ k := .bool }] }
noncomputable def laws_FnExactPartWay.A : Ann := { dp := fun d => isIn [] d, lp := look [], jn := look [], pins := [], nt := 101 }
noncomputable def laws_FnExactPartWay.phis (N : Nat) : List (Nat × Sm D) := [(6, laws_szTree.sm N), (8, laws_toTree.sm N), (7, spec_PartWay.sm N), (9, impl_PartWay.sm N), (10, laws_eqIntS.sm N), (11, laws_eqTree.sm N), (12, laws_markTree.sm N), (13, laws_markIntS.sm N), (14, laws_heldIntS.sm N)]
theorem laws_FnExactPartWay.run (N : Nat) (x : LawsTree × Int × Unit) : runF cx (look (laws_FnExactPartWay.phis N)) laws_FnExactPartWay.A N (bodyOf Tryd.f3) Tryd.f3.results.toList laws_FnExactPartWay.sg x = laws_FnExactPartWay N x.1 x.2.1 := by
  have h : runF cx (look (laws_FnExactPartWay.phis N)) laws_FnExactPartWay.A N (bodyOf Tryd.f3) Tryd.f3.results.toList laws_FnExactPartWay.sg x = laws_FnExactPartWay.B N x.1 x.2.1 := by kernel_rfl
  rw [h]
  try rfl
noncomputable def laws_FnExactPartWay.sm (N : Nat) : Sm D := (⟨laws_FnExactPartWay.sg, fun (x : LawsTree × Int × Unit) => laws_FnExactPartWay N x.1 x.2.1⟩ : Sm D)
theorem laws_FnExactPartWay.sound (N : Nat) : Sound cx Tryd.prog gam 3 (laws_FnExactPartWay.sm N) := fn_sound (A := laws_FnExactPartWay.A) (Φ := (look (laws_FnExactPartWay.phis N))) pok (G := gam) (ΦOk.cons (laws_szTree.sound N) (fnOk_of (f := 6) (by kernel_rfl)) (ΦOk.cons (laws_toTree.sound N) (fnOk_of (f := 8) (by kernel_rfl)) (ΦOk.cons (spec_PartWay.sound N) (fnOk_of (f := 7) (by kernel_rfl)) (ΦOk.cons (impl_PartWay.sound N) (fnOk_of (f := 9) (by kernel_rfl)) (ΦOk.cons (laws_eqIntS.sound N) (fnOk_of (f := 10) (by kernel_rfl)) (ΦOk.cons (laws_eqTree.sound N) (fnOk_of (f := 11) (by kernel_rfl)) (ΦOk.cons (laws_markTree.sound N) (fnOk_of (f := 12) (by kernel_rfl)) (ΦOk.cons (laws_markIntS.sound N) (fnOk_of (f := 13) (by kernel_rfl)) (ΦOk.cons (laws_heldIntS.sound N) (fnOk_of (f := 14) (by kernel_rfl)) ΦOk.nil))))))))) mixed N Tryd.func3 (c := (bodyOf Tryd.f3)) (by kernel_rfl) laws_FnExactPartWay.sg (by kernel_rfl) (by kernel_rfl) (by kernel_rfl) (laws_FnExactPartWay.run N)

end
end Go.Ev
