/- Each function that the law reaches does what its plain form says; no condition beyond the table of the library. -/
import Derived.Test.YtilggcjneaecmaaDoorEvF
set_option linter.all false
set_option linter.unusedVariables false
set_option linter.unusedSimpArgs false
set_option maxRecDepth 100000
set_option maxHeartbeats 0
namespace Go.Ev
noncomputable section
open Go.Proofs
@[reducible] def laws_szValue.sg : Sg := { ms := [{ k := (.st 43) }, { k := (.int .i64) }], keep := [false, false], rs := [{ k := (.int .i64) }] }
noncomputable def laws_szValue.A : Ann := { dp := fun d => isIn [] d, lp := look [], jn := look [], pins := [], nt := 13 }
noncomputable def laws_szValue.phis (N : Nat) : List (Nat × Sm D) := []
theorem laws_szValue.run (N : Nat) (x : ImplValue × Int × Unit) : runF cx (look (laws_szValue.phis N)) laws_szValue.A N (bodyOf Tryd.f27) Tryd.f27.results.toList laws_szValue.sg x = laws_szValue N x.1 x.2.1 := by
  have h : runF cx (look (laws_szValue.phis N)) laws_szValue.A N (bodyOf Tryd.f27) Tryd.f27.results.toList laws_szValue.sg x = laws_szValue.B N x.1 x.2.1 := by kernel_rfl
  rw [h]
  try rfl
noncomputable def laws_szValue.sm (N : Nat) : Sm D := (⟨laws_szValue.sg, fun (x : ImplValue × Int × Unit) => laws_szValue N x.1 x.2.1⟩ : Sm D)
theorem laws_szValue.sound (N : Nat) : Sound cx Tryd.prog gam 27 (laws_szValue.sm N) := fn_sound (A := laws_szValue.A) (Φ := (look (laws_szValue.phis N))) pok (G := gam) ΦOk.nil mixed N Tryd.func27 (c := (bodyOf Tryd.f27)) (by kernel_rfl) laws_szValue.sg (by kernel_rfl) (by kernel_rfl) (by kernel_rfl) (laws_szValue.run N)

@[reducible] def laws_szProp.sg : Sg := { ms := [{ k := (.st 64) }, { k := (.int .i64) }], keep := [false, false], rs := [{ k := (.int .i64) }] }
noncomputable def laws_szProp.A : Ann := { dp := fun d => isIn [] d, lp := look [], jn := look [], pins := [], nt := 12 }
noncomputable def laws_szProp.phis (N : Nat) : List (Nat × Sm D) := [(27, laws_szValue.sm N)]
theorem laws_szProp.run (N : Nat) (x : LawsProp × Int × Unit) : runF cx (look (laws_szProp.phis N)) laws_szProp.A N (bodyOf Tryd.f26) Tryd.f26.results.toList laws_szProp.sg x = laws_szProp N x.1 x.2.1 := by
  have h : runF cx (look (laws_szProp.phis N)) laws_szProp.A N (bodyOf Tryd.f26) Tryd.f26.results.toList laws_szProp.sg x = laws_szProp.B N x.1 x.2.1 := by kernel_rfl
  rw [h]
  try rfl
noncomputable def laws_szProp.sm (N : Nat) : Sm D := (⟨laws_szProp.sg, fun (x : LawsProp × Int × Unit) => laws_szProp N x.1 x.2.1⟩ : Sm D)
theorem laws_szProp.sound (N : Nat) : Sound cx Tryd.prog gam 26 (laws_szProp.sm N) := fn_sound (A := laws_szProp.A) (Φ := (look (laws_szProp.phis N))) pok (G := gam) (ΦOk.cons (laws_szValue.sound N) (fnOk_of (f := 27) (by kernel_rfl)) ΦOk.nil) mixed N Tryd.func26 (c := (bodyOf Tryd.f26)) (by kernel_rfl) laws_szProp.sg (by kernel_rfl) (by kernel_rfl) (by kernel_rfl) (laws_szProp.run N)

@[reducible] def laws_szPropS.sg : Sg := { ms := [{ k := (.sl (.st 64)), fl := [none] }, { k := (.int .i64) }], keep := [false, false], rs := [{ k := (.int .i64) }] }
@[reducible] def laws_szPropS.lvL0 : Lv := { id := 0, slots := [0, 1, 5], ms := [{ k := (.sl (.st 64)), fl := [none] }, { k := (.int .i64) }, { k := (.int .i64) }] }
noncomputable def laws_szPropS.A : Ann := { dp := fun d => isIn [] d, lp := look [(0, laws_szPropS.lvL0)], jn := look [], pins := [], nt := 27 }
noncomputable def laws_szPropS.phis (N : Nat) : List (Nat × Sm D) := [(26, laws_szProp.sm N)]
noncomputable def laws_szPropS.a0 (N : Nat) (n : Nat) (y : (List (LawsProp)) × Int × Int × Unit) : Option (Int × Unit) := loopAt cx (look (laws_szPropS.phis N)) laws_szPropS.A N n (encL cx laws_szPropS.lvL0.ms y).1 (encL cx laws_szPropS.lvL0.ms y).2 (bodyOf Tryd.f12) 0 (Kfin cx laws_szPropS.A laws_szPropS.sg Tryd.f12.results.toList) [1, 1, 1, 0, 1, 1] []
theorem laws_szPropS.r0 (N : Nat) : ∀ (n : Nat) (y : (List (LawsProp)) × Int × Int × Unit), laws_szPropS.a0 N n y = laws_szPropS.L0 N n y
  | 0, y => by kernel_rfl
  | n + 1, y => by
    have h : laws_szPropS.a0 N (n + 1) y = laws_szPropS.B0 N (fun z => laws_szPropS.a0 N n z) y := by kernel_rfl
    have e : (fun z => laws_szPropS.a0 N n z) = laws_szPropS.L0 N n := funext fun z => laws_szPropS.r0 N n z
    rw [h]
    try rw [e]
    first | done | rfl
theorem laws_szPropS.run (N : Nat) (x : (List (LawsProp)) × Int × Unit) : runF cx (look (laws_szPropS.phis N)) laws_szPropS.A N (bodyOf Tryd.f12) Tryd.f12.results.toList laws_szPropS.sg x = laws_szPropS N x.1 x.2.1 := by
  have h : runF cx (look (laws_szPropS.phis N)) laws_szPropS.A N (bodyOf Tryd.f12) Tryd.f12.results.toList laws_szPropS.sg x = laws_szPropS.B N (fun z => laws_szPropS.a0 N N z) x.1 x.2.1 := by kernel_rfl
  have e0 : (fun z => laws_szPropS.a0 N N z) = laws_szPropS.L0 N N := funext fun z => laws_szPropS.r0 N N z
  rw [h, e0]
  try rfl
noncomputable def laws_szPropS.sm (N : Nat) : Sm D := (⟨laws_szPropS.sg, fun (x : (List (LawsProp)) × Int × Unit) => laws_szPropS N x.1 x.2.1⟩ : Sm D)
theorem laws_szPropS.sound (N : Nat) : Sound cx Tryd.prog gam 12 (laws_szPropS.sm N) := fn_sound (A := laws_szPropS.A) (Φ := (look (laws_szPropS.phis N))) pok (G := gam) (ΦOk.cons (laws_szProp.sound N) (fnOk_of (f := 26) (by kernel_rfl)) ΦOk.nil) mixed N Tryd.func12 (c := (bodyOf Tryd.f12)) (by kernel_rfl) laws_szPropS.sg (by kernel_rfl) (by kernel_rfl) (by kernel_rfl) (laws_szPropS.run N)

@[reducible] def laws_szTreeS.sg : Sg := { ms := [{ k := (.sl (.st 24)), fl := [none] }, { k := (.int .i64) }], keep := [false, false], rs := [{ k := (.int .i64) }] }
@[reducible] def laws_szTree.sg : Sg := { ms := [{ k := (.st 24) }, { k := (.int .i64) }], keep := [false, false], rs := [{ k := (.int .i64) }] }
@[reducible] def laws_szTreeS.lvL0 : Lv := { id := 0, slots := [0, 1, 5], ms := [{ k := (.sl (.st 24)), fl := [none] }, { k := (.int .i64) }, { k := (.int .i64) }] }
noncomputable def laws_szTreeS.A : Ann := { dp := fun d => isIn [] d, lp := look [(0, laws_szTreeS.lvL0)], jn := look [], pins := [], nt := 27 }
noncomputable def laws_szTreeS.phis (N : Nat) (d : Nat) : List (Nat × Sm D) := [(4, (⟨laws_szTree.sg, fun (x : LawsTree × Int × Unit) => laws_szTree.R N d x.1 x.2.1⟩ : Sm D))]
noncomputable def laws_szTreeS.a0 (N : Nat) (d : Nat) (n : Nat) (y : (List (LawsTree)) × Int × Int × Unit) : Option (Int × Unit) := loopAt cx (look (laws_szTreeS.phis N d)) laws_szTreeS.A N n (encL cx laws_szTreeS.lvL0.ms y).1 (encL cx laws_szTreeS.lvL0.ms y).2 (bodyOf Tryd.f13) 0 (Kfin cx laws_szTreeS.A laws_szTreeS.sg Tryd.f13.results.toList) [1, 1, 1, 0, 1, 1] []
theorem laws_szTreeS.r0 (N : Nat) (d : Nat) : ∀ (n : Nat) (y : (List (LawsTree)) × Int × Int × Unit), laws_szTreeS.a0 N d n y = laws_szTreeS.L0 N (laws_szTreeS.R N d) (laws_szTree.R N d) n y
  | 0, y => by kernel_rfl
  | n + 1, y => by
    have h : laws_szTreeS.a0 N d (n + 1) y = laws_szTreeS.B0 N (laws_szTreeS.R N d) (laws_szTree.R N d) (fun z => laws_szTreeS.a0 N d n z) y := by kernel_rfl
    have e : (fun z => laws_szTreeS.a0 N d n z) = laws_szTreeS.L0 N (laws_szTreeS.R N d) (laws_szTree.R N d) n := funext fun z => laws_szTreeS.r0 N d n z
    rw [h]
    try rw [e]
    first | done | rfl
theorem laws_szTreeS.run (N : Nat) (d : Nat) (x : (List (LawsTree)) × Int × Unit) : runF cx (look (laws_szTreeS.phis N d)) laws_szTreeS.A N (bodyOf Tryd.f13) Tryd.f13.results.toList laws_szTreeS.sg x = laws_szTreeS.R N (d + 1) x.1 x.2.1 := by
  have h : runF cx (look (laws_szTreeS.phis N d)) laws_szTreeS.A N (bodyOf Tryd.f13) Tryd.f13.results.toList laws_szTreeS.sg x = laws_szTreeS.B N (laws_szTreeS.R N d) (laws_szTree.R N d) (fun z => laws_szTreeS.a0 N d N z) x.1 x.2.1 := by kernel_rfl
  have e0 : (fun z => laws_szTreeS.a0 N d N z) = laws_szTreeS.L0 N (laws_szTreeS.R N d) (laws_szTree.R N d) N := funext fun z => laws_szTreeS.r0 N d N z
  rw [h, e0]
  try rfl
theorem laws_szTreeS.step (N : Nat) (d : Nat) (h_laws_szTree : Sound cx Tryd.prog gam 4 (⟨laws_szTree.sg, fun (x : LawsTree × Int × Unit) => laws_szTree.R N d x.1 x.2.1⟩ : Sm D)) : Sound cx Tryd.prog gam 13 (⟨laws_szTreeS.sg, fun (x : (List (LawsTree)) × Int × Unit) => laws_szTreeS.R N (d + 1) x.1 x.2.1⟩ : Sm D) := fn_sound (A := laws_szTreeS.A) (Φ := (look (laws_szTreeS.phis N d))) pok (G := gam) (ΦOk.cons h_laws_szTree (fnOk_of (f := 4) (by kernel_rfl)) ΦOk.nil) mixed N Tryd.func13 (c := (bodyOf Tryd.f13)) (by kernel_rfl) laws_szTreeS.sg (by kernel_rfl) (by kernel_rfl) (by kernel_rfl) (laws_szTreeS.run N d)

noncomputable def laws_szTree.A : Ann := { dp := fun d => isIn [] d, lp := look [], jn := look [], pins := [], nt := 25 }
noncomputable def laws_szTree.phis (N : Nat) (d : Nat) : List (Nat × Sm D) := [(12, laws_szPropS.sm N), (13, (⟨laws_szTreeS.sg, fun (x : (List (LawsTree)) × Int × Unit) => laws_szTreeS.R N d x.1 x.2.1⟩ : Sm D))]
theorem laws_szTree.run (N : Nat) (d : Nat) (x : LawsTree × Int × Unit) : runF cx (look (laws_szTree.phis N d)) laws_szTree.A N (bodyOf Tryd.f4) Tryd.f4.results.toList laws_szTree.sg x = laws_szTree.R N (d + 1) x.1 x.2.1 := by
  have h : runF cx (look (laws_szTree.phis N d)) laws_szTree.A N (bodyOf Tryd.f4) Tryd.f4.results.toList laws_szTree.sg x = laws_szTree.B N (laws_szTreeS.R N d) (laws_szTree.R N d) x.1 x.2.1 := by kernel_rfl
  rw [h]
  try rfl
theorem laws_szTree.step (N : Nat) (d : Nat) (h_laws_szTreeS : Sound cx Tryd.prog gam 13 (⟨laws_szTreeS.sg, fun (x : (List (LawsTree)) × Int × Unit) => laws_szTreeS.R N d x.1 x.2.1⟩ : Sm D)) : Sound cx Tryd.prog gam 4 (⟨laws_szTree.sg, fun (x : LawsTree × Int × Unit) => laws_szTree.R N (d + 1) x.1 x.2.1⟩ : Sm D) := fn_sound (A := laws_szTree.A) (Φ := (look (laws_szTree.phis N d))) pok (G := gam) (ΦOk.cons (laws_szPropS.sound N) (fnOk_of (f := 12) (by kernel_rfl)) (ΦOk.cons h_laws_szTreeS (fnOk_of (f := 13) (by kernel_rfl)) ΦOk.nil)) mixed N Tryd.func4 (c := (bodyOf Tryd.f4)) (by kernel_rfl) laws_szTree.sg (by kernel_rfl) (by kernel_rfl) (by kernel_rfl) (laws_szTree.run N d)

theorem laws_szTreeS.scc (N : Nat) : ∀ d, Sound cx Tryd.prog gam 13 (⟨laws_szTreeS.sg, fun (x : (List (LawsTree)) × Int × Unit) => laws_szTreeS.R N d x.1 x.2.1⟩ : Sm D) ∧ Sound cx Tryd.prog gam 4 (⟨laws_szTree.sg, fun (x : LawsTree × Int × Unit) => laws_szTree.R N d x.1 x.2.1⟩ : Sm D)
  | 0 => ⟨none_sound 13 laws_szTreeS.sg, none_sound 4 laws_szTree.sg⟩
  | d + 1 => by
    have ih := laws_szTreeS.scc N d
    obtain ⟨ih0, ih1⟩ := ih
    exact ⟨laws_szTreeS.step N d ih1, laws_szTree.step N d ih0⟩
noncomputable def laws_szTreeS.sm (N : Nat) : Sm D := (⟨laws_szTreeS.sg, fun (x : (List (LawsTree)) × Int × Unit) => laws_szTreeS.R N N x.1 x.2.1⟩ : Sm D)
theorem laws_szTreeS.sound (N : Nat) : Sound cx Tryd.prog gam 13 (laws_szTreeS.sm N) := (laws_szTreeS.scc N N).1
noncomputable def laws_szTree.sm (N : Nat) : Sm D := (⟨laws_szTree.sg, fun (x : LawsTree × Int × Unit) => laws_szTree.R N N x.1 x.2.1⟩ : Sm D)
theorem laws_szTree.sound (N : Nat) : Sound cx Tryd.prog gam 4 (laws_szTree.sm N) := (laws_szTreeS.scc N N).2
@[reducible] def laws_szRule.sg : Sg := { ms := [{ k := (.st 45) }, { k := (.int .i64) }], keep := [false, false], rs := [{ k := (.int .i64) }] }
noncomputable def laws_szRule.A : Ann := { dp := fun d => isIn [] d, lp := look [], jn := look [], pins := [], nt := 12 }
noncomputable def laws_szRule.phis (N : Nat) : List (Nat × Sm D) := [(27, laws_szValue.sm N)]
theorem laws_szRule.run (N : Nat) (x : LawsRule × Int × Unit) : runF cx (look (laws_szRule.phis N)) laws_szRule.A N (bodyOf Tryd.f14) Tryd.f14.results.toList laws_szRule.sg x = laws_szRule N x.1 x.2.1 := by
  have h : runF cx (look (laws_szRule.phis N)) laws_szRule.A N (bodyOf Tryd.f14) Tryd.f14.results.toList laws_szRule.sg x = laws_szRule.B N x.1 x.2.1 := by kernel_rfl
  rw [h]
  try rfl
noncomputable def laws_szRule.sm (N : Nat) : Sm D := (⟨laws_szRule.sg, fun (x : LawsRule × Int × Unit) => laws_szRule N x.1 x.2.1⟩ : Sm D)
theorem laws_szRule.sound (N : Nat) : Sound cx Tryd.prog gam 14 (laws_szRule.sm N) := fn_sound (A := laws_szRule.A) (Φ := (look (laws_szRule.phis N))) pok (G := gam) (ΦOk.cons (laws_szValue.sound N) (fnOk_of (f := 27) (by kernel_rfl)) ΦOk.nil) mixed N Tryd.func14 (c := (bodyOf Tryd.f14)) (by kernel_rfl) laws_szRule.sg (by kernel_rfl) (by kernel_rfl) (by kernel_rfl) (laws_szRule.run N)

@[reducible] def laws_szRuleS.sg : Sg := { ms := [{ k := (.sl (.st 45)), fl := [none] }, { k := (.int .i64) }], keep := [false, false], rs := [{ k := (.int .i64) }] }
@[reducible] def laws_szRuleS.lvL0 : Lv := { id := 0, slots := [0, 1, 5], ms := [{ k := (.sl (.st 45)), fl := [none] }, { k := (.int .i64) }, { k := (.int .i64) }] }
noncomputable def laws_szRuleS.A : Ann := { dp := fun d => isIn [] d, lp := look [(0, laws_szRuleS.lvL0)], jn := look [], pins := [], nt := 27 }
noncomputable def laws_szRuleS.phis (N : Nat) : List (Nat × Sm D) := [(14, laws_szRule.sm N)]
noncomputable def laws_szRuleS.a0 (N : Nat) (n : Nat) (y : (List (LawsRule)) × Int × Int × Unit) : Option (Int × Unit) := loopAt cx (look (laws_szRuleS.phis N)) laws_szRuleS.A N n (encL cx laws_szRuleS.lvL0.ms y).1 (encL cx laws_szRuleS.lvL0.ms y).2 (bodyOf Tryd.f5) 0 (Kfin cx laws_szRuleS.A laws_szRuleS.sg Tryd.f5.results.toList) [1, 1, 1, 0, 1, 1] []
theorem laws_szRuleS.r0 (N : Nat) : ∀ (n : Nat) (y : (List (LawsRule)) × Int × Int × Unit), laws_szRuleS.a0 N n y = laws_szRuleS.L0 N n y
  | 0, y => by kernel_rfl
  | n + 1, y => by
    have h : laws_szRuleS.a0 N (n + 1) y = laws_szRuleS.B0 N (fun z => laws_szRuleS.a0 N n z) y := by kernel_rfl
    have e : (fun z => laws_szRuleS.a0 N n z) = laws_szRuleS.L0 N n := funext fun z => laws_szRuleS.r0 N n z
    rw [h]
    try rw [e]
    first | done | rfl
theorem laws_szRuleS.run (N : Nat) (x : (List (LawsRule)) × Int × Unit) : runF cx (look (laws_szRuleS.phis N)) laws_szRuleS.A N (bodyOf Tryd.f5) Tryd.f5.results.toList laws_szRuleS.sg x = laws_szRuleS N x.1 x.2.1 := by
  have h : runF cx (look (laws_szRuleS.phis N)) laws_szRuleS.A N (bodyOf Tryd.f5) Tryd.f5.results.toList laws_szRuleS.sg x = laws_szRuleS.B N (fun z => laws_szRuleS.a0 N N z) x.1 x.2.1 := by kernel_rfl
  have e0 : (fun z => laws_szRuleS.a0 N N z) = laws_szRuleS.L0 N N := funext fun z => laws_szRuleS.r0 N N z
  rw [h, e0]
  try rfl
noncomputable def laws_szRuleS.sm (N : Nat) : Sm D := (⟨laws_szRuleS.sg, fun (x : (List (LawsRule)) × Int × Unit) => laws_szRuleS N x.1 x.2.1⟩ : Sm D)
theorem laws_szRuleS.sound (N : Nat) : Sound cx Tryd.prog gam 5 (laws_szRuleS.sm N) := fn_sound (A := laws_szRuleS.A) (Φ := (look (laws_szRuleS.phis N))) pok (G := gam) (ΦOk.cons (laws_szRule.sound N) (fnOk_of (f := 14) (by kernel_rfl)) ΦOk.nil) mixed N Tryd.func5 (c := (bodyOf Tryd.f5)) (by kernel_rfl) laws_szRuleS.sg (by kernel_rfl) (by kernel_rfl) (by kernel_rfl) (laws_szRuleS.run N)

@[reducible] def laws_toValue.sg : Sg := { ms := [{ k := (.st 43) }], keep := [false], rs := [{ k := (.st 43) }] }
noncomputable def laws_toValue.A : Ann := { dp := fun d => isIn [] d, lp := look [], jn := look [], pins := [], nt := 14 }
noncomputable def laws_toValue.phis (N : Nat) : List (Nat × Sm D) := []
theorem laws_toValue.run (N : Nat) (x : ImplValue × Unit) : runF cx (look (laws_toValue.phis N)) laws_toValue.A N (bodyOf Tryd.f33) Tryd.f33.results.toList laws_toValue.sg x = laws_toValue N x.1 := by
  have h : runF cx (look (laws_toValue.phis N)) laws_toValue.A N (bodyOf Tryd.f33) Tryd.f33.results.toList laws_toValue.sg x = laws_toValue.B N x.1 := by kernel_rfl
  rw [h]
  try rfl
noncomputable def laws_toValue.sm (N : Nat) : Sm D := (⟨laws_toValue.sg, fun (x : ImplValue × Unit) => laws_toValue N x.1⟩ : Sm D)
theorem laws_toValue.sound (N : Nat) : Sound cx Tryd.prog gam 33 (laws_toValue.sm N) := fn_sound (A := laws_toValue.A) (Φ := (look (laws_toValue.phis N))) pok (G := gam) ΦOk.nil mixed N Tryd.func33 (c := (bodyOf Tryd.f33)) (by kernel_rfl) laws_toValue.sg (by kernel_rfl) (by kernel_rfl) (by kernel_rfl) (laws_toValue.run N)

@[reducible] def laws_toProp.sg : Sg := { ms := [{ k := (.st 64) }], keep := [false], rs := [{ k := (.st 74) }] }
noncomputable def laws_toProp.A : Ann := { dp := fun d => isIn [] d, lp := look [], jn := look [], pins := [], nt := 12 }
noncomputable def laws_toProp.phis (N : Nat) : List (Nat × Sm D) := [(33, laws_toValue.sm N)]
theorem laws_toProp.run (N : Nat) (x : LawsProp × Unit) : runF cx (look (laws_toProp.phis N)) laws_toProp.A N (bodyOf Tryd.f32) Tryd.f32.results.toList laws_toProp.sg x = laws_toProp N x.1 := by
  have h : runF cx (look (laws_toProp.phis N)) laws_toProp.A N (bodyOf Tryd.f32) Tryd.f32.results.toList laws_toProp.sg x = laws_toProp.B N x.1 := by kernel_rfl
  rw [h]
  try rfl
noncomputable def laws_toProp.sm (N : Nat) : Sm D := (⟨laws_toProp.sg, fun (x : LawsProp × Unit) => laws_toProp N x.1⟩ : Sm D)
theorem laws_toProp.sound (N : Nat) : Sound cx Tryd.prog gam 32 (laws_toProp.sm N) := fn_sound (A := laws_toProp.A) (Φ := (look (laws_toProp.phis N))) pok (G := gam) (ΦOk.cons (laws_toValue.sound N) (fnOk_of (f := 33) (by kernel_rfl)) ΦOk.nil) mixed N Tryd.func32 (c := (bodyOf Tryd.f32)) (by kernel_rfl) laws_toProp.sg (by kernel_rfl) (by kernel_rfl) (by kernel_rfl) (laws_toProp.run N)

@[reducible] def laws_toPropS.sg : Sg := { ms := [{ k := (.sl (.st 64)), fl := [none] }], keep := [false], rs := [{ k := (.sl (.st 74)), fl := [some (true, 411)] }] }
@[reducible] def laws_toPropS.lvL0 : Lv := { id := 0, slots := [0, 3, 4], ms := [{ k := (.sl (.st 64)), fl := [none] }, { k := (.sl (.st 74)), fl := [some (false, 620)] }, { k := (.int .i64) }] }
noncomputable def laws_toPropS.A : Ann := { dp := fun d => isIn [] d, lp := look [(0, laws_toPropS.lvL0)], jn := look [], pins := [], nt := 23 }
noncomputable def laws_toPropS.phis (N : Nat) : List (Nat × Sm D) := [(32, laws_toProp.sm N)]
noncomputable def laws_toPropS.a0 (N : Nat) (n : Nat) (y : (List (LawsProp)) × (List (ImplProp)) × Int × Unit) : Option ((List (ImplProp)) × Unit) := loopAt cx (look (laws_toPropS.phis N)) laws_toPropS.A N n (encL cx laws_toPropS.lvL0.ms y).1 (encL cx laws_toPropS.lvL0.ms y).2 (bodyOf Tryd.f19) 0 (Kfin cx laws_toPropS.A laws_toPropS.sg Tryd.f19.results.toList) [1, 1, 0, 1, 1] []
theorem laws_toPropS.r0 (N : Nat) : ∀ (n : Nat) (y : (List (LawsProp)) × (List (ImplProp)) × Int × Unit), laws_toPropS.a0 N n y = laws_toPropS.L0 N n y
  | 0, y => by kernel_rfl
  | n + 1, y => by
    have h : laws_toPropS.a0 N (n + 1) y = laws_toPropS.B0 N (fun z => laws_toPropS.a0 N n z) y := by kernel_rfl
    have e : (fun z => laws_toPropS.a0 N n z) = laws_toPropS.L0 N n := funext fun z => laws_toPropS.r0 N n z
    rw [h]
    try rw [e]
    first | done | rfl
theorem laws_toPropS.run (N : Nat) (x : (List (LawsProp)) × Unit) : runF cx (look (laws_toPropS.phis N)) laws_toPropS.A N (bodyOf Tryd.f19) Tryd.f19.results.toList laws_toPropS.sg x = laws_toPropS N x.1 := by
  have h : runF cx (look (laws_toPropS.phis N)) laws_toPropS.A N (bodyOf Tryd.f19) Tryd.f19.results.toList laws_toPropS.sg x = laws_toPropS.B N (fun z => laws_toPropS.a0 N N z) x.1 := by kernel_rfl
  have e0 : (fun z => laws_toPropS.a0 N N z) = laws_toPropS.L0 N N := funext fun z => laws_toPropS.r0 N N z
  rw [h, e0]
  try rfl
noncomputable def laws_toPropS.sm (N : Nat) : Sm D := (⟨laws_toPropS.sg, fun (x : (List (LawsProp)) × Unit) => laws_toPropS N x.1⟩ : Sm D)
theorem laws_toPropS.sound (N : Nat) : Sound cx Tryd.prog gam 19 (laws_toPropS.sm N) := fn_sound (A := laws_toPropS.A) (Φ := (look (laws_toPropS.phis N))) pok (G := gam) (ΦOk.cons (laws_toProp.sound N) (fnOk_of (f := 32) (by kernel_rfl)) ΦOk.nil) mixed N Tryd.func19 (c := (bodyOf Tryd.f19)) (by kernel_rfl) laws_toPropS.sg (by kernel_rfl) (by kernel_rfl) (by kernel_rfl) (laws_toPropS.run N)

@[reducible] def laws_toTreeS.sg : Sg := { ms := [{ k := (.sl (.st 24)), fl := [none] }], keep := [false], rs := [{ k := (.sl (.st 32)), fl := [some (true, 411)] }] }
@[reducible] def laws_toTree.sg : Sg := { ms := [{ k := (.st 24) }], keep := [false], rs := [{ k := (.st 32), fl := [none, none, none, some (true, 414), some (true, 415)] }] }
@[reducible] def laws_toTreeS.lvL0 : Lv := { id := 0, slots := [0, 3, 4], ms := [{ k := (.sl (.st 24)), fl := [none] }, { k := (.sl (.st 32)), fl := [some (true, 620)] }, { k := (.int .i64) }] }
noncomputable def laws_toTreeS.A : Ann := { dp := fun d => Nat.blt d 1000000, lp := look [(0, laws_toTreeS.lvL0)], jn := look [], pins := [], nt := 23 }
noncomputable def laws_toTreeS.phis (N : Nat) (d : Nat) : List (Nat × Sm D) := [(7, (⟨laws_toTree.sg, fun (x : LawsTree × Unit) => laws_toTree.R N d x.1⟩ : Sm D))]
noncomputable def laws_toTreeS.a0 (N : Nat) (d : Nat) (n : Nat) (y : (List (LawsTree)) × (List (ImplTree)) × Int × Unit) : Option ((List (ImplTree)) × Unit) := loopAt cx (look (laws_toTreeS.phis N d)) laws_toTreeS.A N n (encL cx laws_toTreeS.lvL0.ms y).1 (encL cx laws_toTreeS.lvL0.ms y).2 (bodyOf Tryd.f20) 0 (Kfin cx laws_toTreeS.A laws_toTreeS.sg Tryd.f20.results.toList) [1, 1, 0, 1, 1] []
theorem laws_toTreeS.r0 (N : Nat) (d : Nat) : ∀ (n : Nat) (y : (List (LawsTree)) × (List (ImplTree)) × Int × Unit), laws_toTreeS.a0 N d n y = laws_toTreeS.L0 N (laws_toTreeS.R N d) (laws_toTree.R N d) n y
  | 0, y => by kernel_rfl
  | n + 1, y => by
    have h : laws_toTreeS.a0 N d (n + 1) y = laws_toTreeS.B0 N (laws_toTreeS.R N d) (laws_toTree.R N d) (fun z => laws_toTreeS.a0 N d n z) y := by kernel_rfl
    have e : (fun z => laws_toTreeS.a0 N d n z) = laws_toTreeS.L0 N (laws_toTreeS.R N d) (laws_toTree.R N d) n := funext fun z => laws_toTreeS.r0 N d n z
    rw [h]
    try rw [e]
    first | done | rfl
theorem laws_toTreeS.run (N : Nat) (d : Nat) (x : (List (LawsTree)) × Unit) : runF cx (look (laws_toTreeS.phis N d)) laws_toTreeS.A N (bodyOf Tryd.f20) Tryd.f20.results.toList laws_toTreeS.sg x = laws_toTreeS.R N (d + 1) x.1 := by
  have h : runF cx (look (laws_toTreeS.phis N d)) laws_toTreeS.A N (bodyOf Tryd.f20) Tryd.f20.results.toList laws_toTreeS.sg x = laws_toTreeS.B N (laws_toTreeS.R N d) (laws_toTree.R N d) (fun z => laws_toTreeS.a0 N d N z) x.1 := by kernel_rfl
  have e0 : (fun z => laws_toTreeS.a0 N d N z) = laws_toTreeS.L0 N (laws_toTreeS.R N d) (laws_toTree.R N d) N := funext fun z => laws_toTreeS.r0 N d N z
  rw [h, e0]
  try rfl
theorem laws_toTreeS.step (N : Nat) (d : Nat) (h_laws_toTree : Sound cx Tryd.prog gam 7 (⟨laws_toTree.sg, fun (x : LawsTree × Unit) => laws_toTree.R N d x.1⟩ : Sm D)) : Sound cx Tryd.prog gam 20 (⟨laws_toTreeS.sg, fun (x : (List (LawsTree)) × Unit) => laws_toTreeS.R N (d + 1) x.1⟩ : Sm D) := fn_sound (A := laws_toTreeS.A) (Φ := (look (laws_toTreeS.phis N d))) pok (G := gam) (ΦOk.cons h_laws_toTree (fnOk_of (f := 7) (by kernel_rfl)) ΦOk.nil) mixed N Tryd.func20 (c := (bodyOf Tryd.f20)) (by kernel_rfl) laws_toTreeS.sg (by kernel_rfl) (by kernel_rfl) (by kernel_rfl) (laws_toTreeS.run N d)

noncomputable def laws_toTree.A : Ann := { dp := fun d => Nat.blt d 1000000, lp := look [], jn := look [], pins := [], nt := 22 }
noncomputable def laws_toTree.phis (N : Nat) (d : Nat) : List (Nat × Sm D) := [(19, laws_toPropS.sm N), (20, (⟨laws_toTreeS.sg, fun (x : (List (LawsTree)) × Unit) => laws_toTreeS.R N d x.1⟩ : Sm D))]
theorem laws_toTree.run (N : Nat) (d : Nat) (x : LawsTree × Unit) : runF cx (look (laws_toTree.phis N d)) laws_toTree.A N (bodyOf Tryd.f7) Tryd.f7.results.toList laws_toTree.sg x = laws_toTree.R N (d + 1) x.1 := by
  have h : runF cx (look (laws_toTree.phis N d)) laws_toTree.A N (bodyOf Tryd.f7) Tryd.f7.results.toList laws_toTree.sg x = laws_toTree.B N (laws_toTreeS.R N d) (laws_toTree.R N d) x.1 := by kernel_rfl
  rw [h]
  try rfl
theorem laws_toTree.step (N : Nat) (d : Nat) (h_laws_toTreeS : Sound cx Tryd.prog gam 20 (⟨laws_toTreeS.sg, fun (x : (List (LawsTree)) × Unit) => laws_toTreeS.R N d x.1⟩ : Sm D)) : Sound cx Tryd.prog gam 7 (⟨laws_toTree.sg, fun (x : LawsTree × Unit) => laws_toTree.R N (d + 1) x.1⟩ : Sm D) := fn_sound (A := laws_toTree.A) (Φ := (look (laws_toTree.phis N d))) pok (G := gam) (ΦOk.cons (laws_toPropS.sound N) (fnOk_of (f := 19) (by kernel_rfl)) (ΦOk.cons h_laws_toTreeS (fnOk_of (f := 20) (by kernel_rfl)) ΦOk.nil)) mixed N Tryd.func7 (c := (bodyOf Tryd.f7)) (by kernel_rfl) laws_toTree.sg (by kernel_rfl) (by kernel_rfl) (by kernel_rfl) (laws_toTree.run N d)

theorem laws_toTreeS.scc (N : Nat) : ∀ d, Sound cx Tryd.prog gam 20 (⟨laws_toTreeS.sg, fun (x : (List (LawsTree)) × Unit) => laws_toTreeS.R N d x.1⟩ : Sm D) ∧ Sound cx Tryd.prog gam 7 (⟨laws_toTree.sg, fun (x : LawsTree × Unit) => laws_toTree.R N d x.1⟩ : Sm D)
  | 0 => ⟨none_sound 20 laws_toTreeS.sg, none_sound 7 laws_toTree.sg⟩
  | d + 1 => by
    have ih := laws_toTreeS.scc N d
    obtain ⟨ih0, ih1⟩ := ih
    exact ⟨laws_toTreeS.step N d ih1, laws_toTree.step N d ih0⟩
noncomputable def laws_toTreeS.sm (N : Nat) : Sm D := (⟨laws_toTreeS.sg, fun (x : (List (LawsTree)) × Unit) => laws_toTreeS.R N N x.1⟩ : Sm D)
theorem laws_toTreeS.sound (N : Nat) : Sound cx Tryd.prog gam 20 (laws_toTreeS.sm N) := (laws_toTreeS.scc N N).1
noncomputable def laws_toTree.sm (N : Nat) : Sm D := (⟨laws_toTree.sg, fun (x : LawsTree × Unit) => laws_toTree.R N N x.1⟩ : Sm D)
theorem laws_toTree.sound (N : Nat) : Sound cx Tryd.prog gam 7 (laws_toTree.sm N) := (laws_toTreeS.scc N N).2
@[reducible] def laws_toRule.sg : Sg := { ms := [{ k := (.st 45) }], keep := [false], rs := [{ k := (.st 57) }] }
noncomputable def laws_toRule.A : Ann := { dp := fun d => isIn [] d, lp := look [], jn := look [], pins := [], nt := 24 }
noncomputable def laws_toRule.phis (N : Nat) : List (Nat × Sm D) := [(33, laws_toValue.sm N)]
theorem laws_toRule.run (N : Nat) (x : LawsRule × Unit) : runF cx (look (laws_toRule.phis N)) laws_toRule.A N (bodyOf Tryd.f21) Tryd.f21.results.toList laws_toRule.sg x = laws_toRule N x.1 := by
  have h : runF cx (look (laws_toRule.phis N)) laws_toRule.A N (bodyOf Tryd.f21) Tryd.f21.results.toList laws_toRule.sg x = laws_toRule.B N x.1 := by kernel_rfl
  rw [h]
  try rfl
noncomputable def laws_toRule.sm (N : Nat) : Sm D := (⟨laws_toRule.sg, fun (x : LawsRule × Unit) => laws_toRule N x.1⟩ : Sm D)
theorem laws_toRule.sound (N : Nat) : Sound cx Tryd.prog gam 21 (laws_toRule.sm N) := fn_sound (A := laws_toRule.A) (Φ := (look (laws_toRule.phis N))) pok (G := gam) (ΦOk.cons (laws_toValue.sound N) (fnOk_of (f := 33) (by kernel_rfl)) ΦOk.nil) mixed N Tryd.func21 (c := (bodyOf Tryd.f21)) (by kernel_rfl) laws_toRule.sg (by kernel_rfl) (by kernel_rfl) (by kernel_rfl) (laws_toRule.run N)

@[reducible] def laws_toRuleS.sg : Sg := { ms := [{ k := (.sl (.st 45)), fl := [none] }], keep := [false], rs := [{ k := (.sl (.st 57)), fl := [none] }], hold := true }
@[reducible] def laws_toRuleS.lvL0 : Lv := { id := 0, slots := [0, 3, 4], ms := [{ k := (.sl (.st 45)), fl := [none] }, { k := (.sl (.st 57)), fl := [some (false, 620)] }, { k := (.int .i64) }] }
noncomputable def laws_toRuleS.A : Ann := { dp := fun d => isIn [] d, lp := look [(0, laws_toRuleS.lvL0)], jn := look [], pins := [], nt := 23 }
noncomputable def laws_toRuleS.phis (N : Nat) : List (Nat × Sm D) := [(21, laws_toRule.sm N)]
noncomputable def laws_toRuleS.a0 (N : Nat) (n : Nat) (y : (List (LawsRule)) × (List (ImplRule)) × Int × Unit) : Option ((List (ImplRule)) × Unit) := loopAt cx (look (laws_toRuleS.phis N)) laws_toRuleS.A N n (encL cx laws_toRuleS.lvL0.ms y).1 (encL cx laws_toRuleS.lvL0.ms y).2 (bodyOf Tryd.f8) 0 (Kfin cx laws_toRuleS.A laws_toRuleS.sg Tryd.f8.results.toList) [1, 1, 0, 1, 1] []
theorem laws_toRuleS.r0 (N : Nat) : ∀ (n : Nat) (y : (List (LawsRule)) × (List (ImplRule)) × Int × Unit), laws_toRuleS.a0 N n y = laws_toRuleS.L0 N n y
  | 0, y => by kernel_rfl
  | n + 1, y => by
    have h : laws_toRuleS.a0 N (n + 1) y = laws_toRuleS.B0 N (fun z => laws_toRuleS.a0 N n z) y := by kernel_rfl
    have e : (fun z => laws_toRuleS.a0 N n z) = laws_toRuleS.L0 N n := funext fun z => laws_toRuleS.r0 N n z
    rw [h]
    try rw [e]
    first | done | rfl
theorem laws_toRuleS.run (N : Nat) (x : (List (LawsRule)) × Unit) : runF cx (look (laws_toRuleS.phis N)) laws_toRuleS.A N (bodyOf Tryd.f8) Tryd.f8.results.toList laws_toRuleS.sg x = laws_toRuleS N x.1 := by
  have h : runF cx (look (laws_toRuleS.phis N)) laws_toRuleS.A N (bodyOf Tryd.f8) Tryd.f8.results.toList laws_toRuleS.sg x = laws_toRuleS.B N (fun z => laws_toRuleS.a0 N N z) x.1 := by kernel_rfl
  have e0 : (fun z => laws_toRuleS.a0 N N z) = laws_toRuleS.L0 N N := funext fun z => laws_toRuleS.r0 N N z
  rw [h, e0]
  try rfl
noncomputable def laws_toRuleS.sm (N : Nat) : Sm D := (⟨laws_toRuleS.sg, fun (x : (List (LawsRule)) × Unit) => laws_toRuleS N x.1⟩ : Sm D)
theorem laws_toRuleS.sound (N : Nat) : Sound cx Tryd.prog gam 8 (laws_toRuleS.sm N) := fn_sound (A := laws_toRuleS.A) (Φ := (look (laws_toRuleS.phis N))) pok (G := gam) (ΦOk.cons (laws_toRule.sound N) (fnOk_of (f := 21) (by kernel_rfl)) ΦOk.nil) mixed N Tryd.func8 (c := (bodyOf Tryd.f8)) (by kernel_rfl) laws_toRuleS.sg (by kernel_rfl) (by kernel_rfl) (by kernel_rfl) (laws_toRuleS.run N)

@[reducible] def spec_treeSize.sg : Sg := { ms := [{ k := (.st 32) }, { k := (.int .i64) }], keep := [false, false], rs := [{ k := (.int .i64) }] }
@[reducible] def spec_treeSize.lvL0 : Lv := { id := 0, slots := [1, 2, 5, 6], ms := [{ k := (.int .i64) }, { ptr := true, id := 620, t := 33, k := (.st 32), fl := [none, none, none, none, none] }, { k := (.int .i64) }, { k := (.int .i64) }] }
noncomputable def spec_treeSize.A : Ann := { dp := fun d => isIn [] d, lp := look [(0, spec_treeSize.lvL0)], jn := look [], pins := [], nt := 32 }
noncomputable def spec_treeSize.phis (N : Nat) (d : Nat) : List (Nat × Sm D) := [(28, (⟨spec_treeSize.sg, fun (x : ImplTree × Int × Unit) => spec_treeSize.R N d x.1 x.2.1⟩ : Sm D))]
noncomputable def spec_treeSize.a0 (N : Nat) (d : Nat) (n : Nat) (y : Int × ImplTree × Int × Int × Unit) : Option (Int × Unit) := loopAt cx (look (spec_treeSize.phis N d)) spec_treeSize.A N n (encL cx spec_treeSize.lvL0.ms y).1 (encL cx spec_treeSize.lvL0.ms y).2 (bodyOf Tryd.f28) 0 (Kfin cx spec_treeSize.A spec_treeSize.sg Tryd.f28.results.toList) [1, 1, 1, 0, 1, 1] []
theorem spec_treeSize.r0 (N : Nat) (d : Nat) : ∀ (n : Nat) (y : Int × ImplTree × Int × Int × Unit), spec_treeSize.a0 N d n y = spec_treeSize.L0 N (spec_treeSize.R N d) n y
  | 0, y => by kernel_rfl
  | n + 1, y => by
    have h : spec_treeSize.a0 N d (n + 1) y = spec_treeSize.B0 N (spec_treeSize.R N d) (fun z => spec_treeSize.a0 N d n z) y := by kernel_rfl
    have e : (fun z => spec_treeSize.a0 N d n z) = spec_treeSize.L0 N (spec_treeSize.R N d) n := funext fun z => spec_treeSize.r0 N d n z
    rw [h]
    try rw [e]
    first | done | rfl
theorem spec_treeSize.run (N : Nat) (d : Nat) (x : ImplTree × Int × Unit) : runF cx (look (spec_treeSize.phis N d)) spec_treeSize.A N (bodyOf Tryd.f28) Tryd.f28.results.toList spec_treeSize.sg x = spec_treeSize.R N (d + 1) x.1 x.2.1 := by
  have h : runF cx (look (spec_treeSize.phis N d)) spec_treeSize.A N (bodyOf Tryd.f28) Tryd.f28.results.toList spec_treeSize.sg x = spec_treeSize.B N (spec_treeSize.R N d) (fun z => spec_treeSize.a0 N d N z) x.1 x.2.1 := by kernel_rfl
  have e0 : (fun z => spec_treeSize.a0 N d N z) = spec_treeSize.L0 N (spec_treeSize.R N d) N := funext fun z => spec_treeSize.r0 N d N z
  rw [h, e0]
  try rfl
theorem spec_treeSize.step (N : Nat) (d : Nat) (h_spec_treeSize : Sound cx Tryd.prog gam 28 (⟨spec_treeSize.sg, fun (x : ImplTree × Int × Unit) => spec_treeSize.R N d x.1 x.2.1⟩ : Sm D)) : Sound cx Tryd.prog gam 28 (⟨spec_treeSize.sg, fun (x : ImplTree × Int × Unit) => spec_treeSize.R N (d + 1) x.1 x.2.1⟩ : Sm D) := fn_sound (A := spec_treeSize.A) (Φ := (look (spec_treeSize.phis N d))) pok (G := gam) (ΦOk.cons h_spec_treeSize (fnOk_of (f := 28) (by kernel_rfl)) ΦOk.nil) mixed N Tryd.func28 (c := (bodyOf Tryd.f28)) (by kernel_rfl) spec_treeSize.sg (by kernel_rfl) (by kernel_rfl) (by kernel_rfl) (spec_treeSize.run N d)

theorem spec_treeSize.scc (N : Nat) : ∀ d, Sound cx Tryd.prog gam 28 (⟨spec_treeSize.sg, fun (x : ImplTree × Int × Unit) => spec_treeSize.R N d x.1 x.2.1⟩ : Sm D)
  | 0 => none_sound 28 spec_treeSize.sg
  | d + 1 => by
    have ih := spec_treeSize.scc N d
    exact spec_treeSize.step N d ih
noncomputable def spec_treeSize.sm (N : Nat) : Sm D := (⟨spec_treeSize.sg, fun (x : ImplTree × Int × Unit) => spec_treeSize.R N N x.1 x.2.1⟩ : Sm D)
theorem spec_treeSize.sound (N : Nat) : Sound cx Tryd.prog gam 28 (spec_treeSize.sm N) := (spec_treeSize.scc N N)
@[reducible] def spec_plainByte.sg : Sg := { ms := [{ k := (.int .u8) }], keep := [false], rs := [{ k := .bool }] }
noncomputable def spec_plainByte.A : Ann := { dp := fun d => isIn [] d, lp := look [], jn := look [], pins := [], nt := 21 }
noncomputable def spec_plainByte.phis (N : Nat) : List (Nat × Sm D) := []
theorem spec_plainByte.run (N : Nat) (x : Int × Unit) : runF cx (look (spec_plainByte.phis N)) spec_plainByte.A N (bodyOf Tryd.f62) Tryd.f62.results.toList spec_plainByte.sg x = spec_plainByte N x.1 := by
  have h : runF cx (look (spec_plainByte.phis N)) spec_plainByte.A N (bodyOf Tryd.f62) Tryd.f62.results.toList spec_plainByte.sg x = spec_plainByte.B N x.1 := by kernel_rfl
  rw [h]
  try rfl
noncomputable def spec_plainByte.sm (N : Nat) : Sm D := (⟨spec_plainByte.sg, fun (x : Int × Unit) => spec_plainByte N x.1⟩ : Sm D)
theorem spec_plainByte.sound (N : Nat) : Sound cx Tryd.prog gam 62 (spec_plainByte.sm N) := fn_sound (A := spec_plainByte.A) (Φ := (look (spec_plainByte.phis N))) pok (G := gam) ΦOk.nil mixed N Tryd.func62 (c := (bodyOf Tryd.f62)) (by kernel_rfl) spec_plainByte.sg (by kernel_rfl) (by kernel_rfl) (by kernel_rfl) (spec_plainByte.run N)

@[reducible] def spec_validWord.sg : Sg := { ms := [{ k := .str }], keep := [false], rs := [{ k := .bool }] }
@[reducible] def spec_validWord.lvL0 : Lv := { id := 0, slots := [0, 3], ms := [{ k := .str }, { k := (.int .i64) }] }
noncomputable def spec_validWord.A : Ann := { dp := fun d => isIn [] d, lp := look [(0, spec_validWord.lvL0)], jn := look [], pins := [], nt := 18 }
noncomputable def spec_validWord.phis (N : Nat) : List (Nat × Sm D) := [(62, spec_plainByte.sm N)]
noncomputable def spec_validWord.a0 (N : Nat) (n : Nat) (y : (List UInt8) × Int × Unit) : Option (Bool × Unit) := loopAt cx (look (spec_validWord.phis N)) spec_validWord.A N n (encL cx spec_validWord.lvL0.ms y).1 (encL cx spec_validWord.lvL0.ms y).2 (bodyOf Tryd.f52) 0 (Kfin cx spec_validWord.A spec_validWord.sg Tryd.f52.results.toList) [1, 1, 0, 1, 1] []
theorem spec_validWord.r0 (N : Nat) : ∀ (n : Nat) (y : (List UInt8) × Int × Unit), spec_validWord.a0 N n y = spec_validWord.L0 N n y
  | 0, y => by kernel_rfl
  | n + 1, y => by
    have h : spec_validWord.a0 N (n + 1) y = spec_validWord.B0 N (fun z => spec_validWord.a0 N n z) y := by kernel_rfl
    have e : (fun z => spec_validWord.a0 N n z) = spec_validWord.L0 N n := funext fun z => spec_validWord.r0 N n z
    rw [h]
    try rw [e]
    first | done | rfl
theorem spec_validWord.run (N : Nat) (x : (List UInt8) × Unit) : runF cx (look (spec_validWord.phis N)) spec_validWord.A N (bodyOf Tryd.f52) Tryd.f52.results.toList spec_validWord.sg x = spec_validWord N x.1 := by
  have h : runF cx (look (spec_validWord.phis N)) spec_validWord.A N (bodyOf Tryd.f52) Tryd.f52.results.toList spec_validWord.sg x = spec_validWord.B N (fun z => spec_validWord.a0 N N z) x.1 := by kernel_rfl
  have e0 : (fun z => spec_validWord.a0 N N z) = spec_validWord.L0 N N := funext fun z => spec_validWord.r0 N N z
  rw [h, e0]
  try rfl
noncomputable def spec_validWord.sm (N : Nat) : Sm D := (⟨spec_validWord.sg, fun (x : (List UInt8) × Unit) => spec_validWord N x.1⟩ : Sm D)
theorem spec_validWord.sound (N : Nat) : Sound cx Tryd.prog gam 52 (spec_validWord.sm N) := fn_sound (A := spec_validWord.A) (Φ := (look (spec_validWord.phis N))) pok (G := gam) (ΦOk.cons (spec_plainByte.sound N) (fnOk_of (f := 62) (by kernel_rfl)) ΦOk.nil) mixed N Tryd.func52 (c := (bodyOf Tryd.f52)) (by kernel_rfl) spec_validWord.sg (by kernel_rfl) (by kernel_rfl) (by kernel_rfl) (spec_validWord.run N)

@[reducible] def spec_decimal.sg : Sg := { ms := [{ k := (.int .i64) }], keep := [false], rs := [{ k := .str }] }
noncomputable def spec_decimal.A : Ann := { dp := fun d => isIn [] d, lp := look [], jn := look [], pins := [], nt := 22 }
noncomputable def spec_decimal.phis (N : Nat) (d : Nat) : List (Nat × Sm D) := [(53, (⟨spec_decimal.sg, fun (x : Int × Unit) => spec_decimal.R N d x.1⟩ : Sm D))]
theorem spec_decimal.run (N : Nat) (d : Nat) (x : Int × Unit) : runF cx (look (spec_decimal.phis N d)) spec_decimal.A N (bodyOf Tryd.f53) Tryd.f53.results.toList spec_decimal.sg x = spec_decimal.R N (d + 1) x.1 := by
  have h : runF cx (look (spec_decimal.phis N d)) spec_decimal.A N (bodyOf Tryd.f53) Tryd.f53.results.toList spec_decimal.sg x = spec_decimal.B N (spec_decimal.R N d) x.1 := by kernel_rfl
  rw [h]
  try rfl
theorem spec_decimal.step (N : Nat) (d : Nat) (h_spec_decimal : Sound cx Tryd.prog gam 53 (⟨spec_decimal.sg, fun (x : Int × Unit) => spec_decimal.R N d x.1⟩ : Sm D)) : Sound cx Tryd.prog gam 53 (⟨spec_decimal.sg, fun (x : Int × Unit) => spec_decimal.R N (d + 1) x.1⟩ : Sm D) := fn_sound (A := spec_decimal.A) (Φ := (look (spec_decimal.phis N d))) pok (G := gam) (ΦOk.cons h_spec_decimal (fnOk_of (f := 53) (by kernel_rfl)) ΦOk.nil) mixed N Tryd.func53 (c := (bodyOf Tryd.f53)) (by kernel_rfl) spec_decimal.sg (by kernel_rfl) (by kernel_rfl) (by kernel_rfl) (spec_decimal.run N d)

theorem spec_decimal.scc (N : Nat) : ∀ d, Sound cx Tryd.prog gam 53 (⟨spec_decimal.sg, fun (x : Int × Unit) => spec_decimal.R N d x.1⟩ : Sm D)
  | 0 => none_sound 53 spec_decimal.sg
  | d + 1 => by
    have ih := spec_decimal.scc N d
    exact spec_decimal.step N d ih
noncomputable def spec_decimal.sm (N : Nat) : Sm D := (⟨spec_decimal.sg, fun (x : Int × Unit) => spec_decimal.R N N x.1⟩ : Sm D)
theorem spec_decimal.sound (N : Nat) : Sound cx Tryd.prog gam 53 (spec_decimal.sm N) := (spec_decimal.scc N N)
@[reducible] def spec_validShown.sg : Sg := { ms := [{ k := .str }], keep := [false], rs := [{ k := .bool }] }
@[reducible] def spec_validShown.lvL0 : Lv := { id := 0, slots := [0, 3], ms := [{ k := .str }, { k := (.int .i64) }] }
noncomputable def spec_validShown.A : Ann := { dp := fun d => isIn [] d, lp := look [(0, spec_validShown.lvL0)], jn := look [], pins := [], nt := 23 }
noncomputable def spec_validShown.phis (N : Nat) : List (Nat × Sm D) := [(52, spec_validWord.sm N), (53, spec_decimal.sm N)]
noncomputable def spec_validShown.a0 (N : Nat) (n : Nat) (y : (List UInt8) × Int × Unit) : Option (Bool × Unit) := loopAt cx (look (spec_validShown.phis N)) spec_validShown.A N n (encL cx spec_validShown.lvL0.ms y).1 (encL cx spec_validShown.lvL0.ms y).2 (bodyOf Tryd.f40) 0 (Kfin cx spec_validShown.A spec_validShown.sg Tryd.f40.results.toList) [1, 1, 0, 1, 1] []
theorem spec_validShown.r0 (N : Nat) : ∀ (n : Nat) (y : (List UInt8) × Int × Unit), spec_validShown.a0 N n y = spec_validShown.L0 N n y
  | 0, y => by kernel_rfl
  | n + 1, y => by
    have h : spec_validShown.a0 N (n + 1) y = spec_validShown.B0 N (fun z => spec_validShown.a0 N n z) y := by kernel_rfl
    have e : (fun z => spec_validShown.a0 N n z) = spec_validShown.L0 N n := funext fun z => spec_validShown.r0 N n z
    rw [h]
    try rw [e]
    first | done | rfl
theorem spec_validShown.run (N : Nat) (x : (List UInt8) × Unit) : runF cx (look (spec_validShown.phis N)) spec_validShown.A N (bodyOf Tryd.f40) Tryd.f40.results.toList spec_validShown.sg x = spec_validShown N x.1 := by
  have h : runF cx (look (spec_validShown.phis N)) spec_validShown.A N (bodyOf Tryd.f40) Tryd.f40.results.toList spec_validShown.sg x = spec_validShown.B N (fun z => spec_validShown.a0 N N z) x.1 := by kernel_rfl
  have e0 : (fun z => spec_validShown.a0 N N z) = spec_validShown.L0 N N := funext fun z => spec_validShown.r0 N N z
  rw [h, e0]
  try rfl
noncomputable def spec_validShown.sm (N : Nat) : Sm D := (⟨spec_validShown.sg, fun (x : (List UInt8) × Unit) => spec_validShown N x.1⟩ : Sm D)
theorem spec_validShown.sound (N : Nat) : Sound cx Tryd.prog gam 40 (spec_validShown.sm N) := fn_sound (A := spec_validShown.A) (Φ := (look (spec_validShown.phis N))) pok (G := gam) (ΦOk.cons (spec_validWord.sound N) (fnOk_of (f := 52) (by kernel_rfl)) (ΦOk.cons (spec_decimal.sound N) (fnOk_of (f := 53) (by kernel_rfl)) ΦOk.nil)) mixed N Tryd.func40 (c := (bodyOf Tryd.f40)) (by kernel_rfl) spec_validShown.sg (by kernel_rfl) (by kernel_rfl) (by kernel_rfl) (spec_validShown.run N)

@[reducible] def spec_inRange.sg : Sg := { ms := [{ k := (.int .i64) }, { k := (.int .i64) }, { k := (.int .i64) }], keep := [false, false, false], rs := [{ k := .bool }] }
noncomputable def spec_inRange.A : Ann := { dp := fun d => isIn [] d, lp := look [], jn := look [], pins := [], nt := 15 }
noncomputable def spec_inRange.phis (N : Nat) : List (Nat × Sm D) := []
theorem spec_inRange.run (N : Nat) (x : Int × Int × Int × Unit) : runF cx (look (spec_inRange.phis N)) spec_inRange.A N (bodyOf Tryd.f17) Tryd.f17.results.toList spec_inRange.sg x = spec_inRange N x.1 x.2.1 x.2.2.1 := by
  have h : runF cx (look (spec_inRange.phis N)) spec_inRange.A N (bodyOf Tryd.f17) Tryd.f17.results.toList spec_inRange.sg x = spec_inRange.B N x.1 x.2.1 x.2.2.1 := by kernel_rfl
  rw [h]
  try rfl
noncomputable def spec_inRange.sm (N : Nat) : Sm D := (⟨spec_inRange.sg, fun (x : Int × Int × Int × Unit) => spec_inRange N x.1 x.2.1 x.2.2.1⟩ : Sm D)
theorem spec_inRange.sound (N : Nat) : Sound cx Tryd.prog gam 17 (spec_inRange.sm N) := fn_sound (A := spec_inRange.A) (Φ := (look (spec_inRange.phis N))) pok (G := gam) ΦOk.nil mixed N Tryd.func17 (c := (bodyOf Tryd.f17)) (by kernel_rfl) spec_inRange.sg (by kernel_rfl) (by kernel_rfl) (by kernel_rfl) (spec_inRange.run N)

@[reducible] def spec_validValue.sg : Sg := { ms := [{ k := (.st 43) }], keep := [false], rs := [{ k := .bool }] }
noncomputable def spec_validValue.A : Ann := { dp := fun d => isIn [] d, lp := look [], jn := look [], pins := [], nt := 35 }
noncomputable def spec_validValue.phis (N : Nat) : List (Nat × Sm D) := [(17, spec_inRange.sm N), (52, spec_validWord.sm N)]
theorem spec_validValue.run (N : Nat) (x : ImplValue × Unit) : runF cx (look (spec_validValue.phis N)) spec_validValue.A N (bodyOf Tryd.f43) Tryd.f43.results.toList spec_validValue.sg x = spec_validValue N x.1 := by
  have h : runF cx (look (spec_validValue.phis N)) spec_validValue.A N (bodyOf Tryd.f43) Tryd.f43.results.toList spec_validValue.sg x = spec_validValue.B N x.1 := by kernel_rfl
  rw [h]
  try rfl
noncomputable def spec_validValue.sm (N : Nat) : Sm D := (⟨spec_validValue.sg, fun (x : ImplValue × Unit) => spec_validValue N x.1⟩ : Sm D)
theorem spec_validValue.sound (N : Nat) : Sound cx Tryd.prog gam 43 (spec_validValue.sm N) := fn_sound (A := spec_validValue.A) (Φ := (look (spec_validValue.phis N))) pok (G := gam) (ΦOk.cons (spec_inRange.sound N) (fnOk_of (f := 17) (by kernel_rfl)) (ΦOk.cons (spec_validWord.sound N) (fnOk_of (f := 52) (by kernel_rfl)) ΦOk.nil)) mixed N Tryd.func43 (c := (bodyOf Tryd.f43)) (by kernel_rfl) spec_validValue.sg (by kernel_rfl) (by kernel_rfl) (by kernel_rfl) (spec_validValue.run N)

end
end Go.Ev
