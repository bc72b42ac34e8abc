/- Each function that the law reaches does what its plain form says; no condition beyond the table of the library. -/
import Derived.Test.YtmaghpkolkkncaaEvT0
set_option linter.all false
set_option linter.unusedVariables false
set_option linter.unusedSimpArgs false
set_option maxRecDepth 100000
set_option maxHeartbeats 0
namespace Go.Ev
noncomputable section
open Go.Proofs
@[reducible] def laws_toStepSS.sg : Sg := { ms := [{ k := (.sl (.sl (.st 112))), fl := [none] }], keep := [false], rs := [{ k := (.sl (.sl (.st 116))), fl := [none] }], hold := true }
@[reducible] def laws_toStepSS.lvL0 : Lv := { id := 0, slots := [0, 3, 4], ms := [{ k := (.sl (.sl (.st 112))), fl := [none] }, { k := (.sl (.sl (.st 116))), fl := [some (false, 620)] }, { k := (.int .i64) }] }
noncomputable def laws_toStepSS.A : Ann := { dp := fun d => isIn [] d, lp := look [(0, laws_toStepSS.lvL0)], jn := look [], pins := [], nt := 23 }
noncomputable def laws_toStepSS.phis (N : Nat) : List (Nat × Sm D) := [(54, laws_toStepS.sm N)]
noncomputable def laws_toStepSS.a0 (N : Nat) (n : Nat) (y : (List (List (LawsStep))) × (List (List (ImplStep))) × Int × Unit) : Option ((List (List (ImplStep))) × Unit) := loopAt cx (look (laws_toStepSS.phis N)) laws_toStepSS.A N n (encL cx laws_toStepSS.lvL0.ms y).1 (encL cx laws_toStepSS.lvL0.ms y).2 (bodyOf Try.f53) 0 (Kfin cx laws_toStepSS.A laws_toStepSS.sg Try.f53.results.toList) [1, 1, 0, 1, 1] []
theorem laws_toStepSS.r0 (N : Nat) : ∀ (n : Nat) (y : (List (List (LawsStep))) × (List (List (ImplStep))) × Int × Unit), laws_toStepSS.a0 N n y = laws_toStepSS.L0 N n y
  | 0, y => by kernel_rfl
  | n + 1, y => by
    have h : laws_toStepSS.a0 N (n + 1) y = laws_toStepSS.B0 N (fun z => laws_toStepSS.a0 N n z) y := by kernel_rfl
    have e : (fun z => laws_toStepSS.a0 N n z) = laws_toStepSS.L0 N n := funext fun z => laws_toStepSS.r0 N n z
    rw [h]
    try rw [e]
    first | done | rfl
theorem laws_toStepSS.run (N : Nat) (x : (List (List (LawsStep))) × Unit) : runF cx (look (laws_toStepSS.phis N)) laws_toStepSS.A N (bodyOf Try.f53) Try.f53.results.toList laws_toStepSS.sg x = laws_toStepSS N x.1 := by
  have h : runF cx (look (laws_toStepSS.phis N)) laws_toStepSS.A N (bodyOf Try.f53) Try.f53.results.toList laws_toStepSS.sg x = laws_toStepSS.B N (fun z => laws_toStepSS.a0 N N z) x.1 := by kernel_rfl
  have e0 : (fun z => laws_toStepSS.a0 N N z) = laws_toStepSS.L0 N N := funext fun z => laws_toStepSS.r0 N N z
  rw [h, e0]
  try rfl
noncomputable def laws_toStepSS.sm (N : Nat) : Sm D := (⟨laws_toStepSS.sg, fun (x : (List (List (LawsStep))) × Unit) => laws_toStepSS N x.1⟩ : Sm D)
theorem laws_toStepSS.sound (N : Nat) : Sound cx Try.prog gam 53 (laws_toStepSS.sm N) := fn_sound (A := laws_toStepSS.A) (Φ := (look (laws_toStepSS.phis N))) pok (G := gam) (ΦOk.cons (laws_toStepS.sound N) (fnOk_of (f := 54) (by kernel_rfl)) ΦOk.nil) mixed N Try.func53 (c := (bodyOf Try.f53)) (by kernel_rfl) laws_toStepSS.sg (by kernel_rfl) (by kernel_rfl) (by kernel_rfl) (laws_toStepSS.run N)

@[reducible] def laws_toOn.sg : Sg := { ms := [{ k := (.st 71) }], keep := [false], rs := [{ k := (.st 71) }] }
noncomputable def laws_toOn.A : Ann := { dp := fun d => isIn [] d, lp := look [], jn := look [], pins := [], nt := 11 }
noncomputable def laws_toOn.phis (N : Nat) : List (Nat × Sm D) := []
theorem laws_toOn.run (N : Nat) (x : ImplOn × Unit) : runF cx (look (laws_toOn.phis N)) laws_toOn.A N (bodyOf Try.f75) Try.f75.results.toList laws_toOn.sg x = laws_toOn N x.1 := by
  have h : runF cx (look (laws_toOn.phis N)) laws_toOn.A N (bodyOf Try.f75) Try.f75.results.toList laws_toOn.sg x = laws_toOn.B N x.1 := by kernel_rfl
  rw [h]
  try rfl
noncomputable def laws_toOn.sm (N : Nat) : Sm D := (⟨laws_toOn.sg, fun (x : ImplOn × Unit) => laws_toOn N x.1⟩ : Sm D)
theorem laws_toOn.sound (N : Nat) : Sound cx Try.prog gam 75 (laws_toOn.sm N) := fn_sound (A := laws_toOn.A) (Φ := (look (laws_toOn.phis N))) pok (G := gam) ΦOk.nil mixed N Try.func75 (c := (bodyOf Try.f75)) (by kernel_rfl) laws_toOn.sg (by kernel_rfl) (by kernel_rfl) (by kernel_rfl) (laws_toOn.run N)

@[reducible] def laws_toOnS.sg : Sg := { ms := [{ k := (.sl (.st 71)), fl := [none] }], keep := [false], rs := [{ k := (.sl (.st 71)), fl := [none] }], hold := true }
@[reducible] def laws_toOnS.lvL0 : Lv := { id := 0, slots := [0, 3, 4], ms := [{ k := (.sl (.st 71)), fl := [none] }, { k := (.sl (.st 71)), fl := [some (false, 620)] }, { k := (.int .i64) }] }
noncomputable def laws_toOnS.A : Ann := { dp := fun d => isIn [] d, lp := look [(0, laws_toOnS.lvL0)], jn := look [], pins := [], nt := 23 }
noncomputable def laws_toOnS.phis (N : Nat) : List (Nat × Sm D) := [(75, laws_toOn.sm N)]
noncomputable def laws_toOnS.a0 (N : Nat) (n : Nat) (y : (List (ImplOn)) × (List (ImplOn)) × Int × Unit) : Option ((List (ImplOn)) × Unit) := loopAt cx (look (laws_toOnS.phis N)) laws_toOnS.A N n (encL cx laws_toOnS.lvL0.ms y).1 (encL cx laws_toOnS.lvL0.ms y).2 (bodyOf Try.f55) 0 (Kfin cx laws_toOnS.A laws_toOnS.sg Try.f55.results.toList) [1, 1, 0, 1, 1] []
theorem laws_toOnS.r0 (N : Nat) : ∀ (n : Nat) (y : (List (ImplOn)) × (List (ImplOn)) × Int × Unit), laws_toOnS.a0 N n y = laws_toOnS.L0 N n y
  | 0, y => by kernel_rfl
  | n + 1, y => by
    have h : laws_toOnS.a0 N (n + 1) y = laws_toOnS.B0 N (fun z => laws_toOnS.a0 N n z) y := by kernel_rfl
    have e : (fun z => laws_toOnS.a0 N n z) = laws_toOnS.L0 N n := funext fun z => laws_toOnS.r0 N n z
    rw [h]
    try rw [e]
    first | done | rfl
theorem laws_toOnS.run (N : Nat) (x : (List (ImplOn)) × Unit) : runF cx (look (laws_toOnS.phis N)) laws_toOnS.A N (bodyOf Try.f55) Try.f55.results.toList laws_toOnS.sg x = laws_toOnS N x.1 := by
  have h : runF cx (look (laws_toOnS.phis N)) laws_toOnS.A N (bodyOf Try.f55) Try.f55.results.toList laws_toOnS.sg x = laws_toOnS.B N (fun z => laws_toOnS.a0 N N z) x.1 := by kernel_rfl
  have e0 : (fun z => laws_toOnS.a0 N N z) = laws_toOnS.L0 N N := funext fun z => laws_toOnS.r0 N N z
  rw [h, e0]
  try rfl
noncomputable def laws_toOnS.sm (N : Nat) : Sm D := (⟨laws_toOnS.sg, fun (x : (List (ImplOn)) × Unit) => laws_toOnS N x.1⟩ : Sm D)
theorem laws_toOnS.sound (N : Nat) : Sound cx Try.prog gam 55 (laws_toOnS.sm N) := fn_sound (A := laws_toOnS.A) (Φ := (look (laws_toOnS.phis N))) pok (G := gam) (ΦOk.cons (laws_toOn.sound N) (fnOk_of (f := 75) (by kernel_rfl)) ΦOk.nil) mixed N Try.func55 (c := (bodyOf Try.f55)) (by kernel_rfl) laws_toOnS.sg (by kernel_rfl) (by kernel_rfl) (by kernel_rfl) (laws_toOnS.run N)

@[reducible] def laws_toTmplS.sg : Sg := { ms := [{ k := (.sl (.st 38)), fl := [none] }], keep := [false], rs := [{ k := (.sl (.st 48)), fl := [none] }], hold := true }
@[reducible] def laws_toTmpl.sg : Sg := { ms := [{ k := (.st 38) }], keep := [false], rs := [{ k := (.st 48) }], hold := true }
@[reducible] def laws_toTmplS.lvL0 : Lv := { id := 0, slots := [0, 3, 4], ms := [{ k := (.sl (.st 38)), fl := [none] }, { k := (.sl (.st 48)), fl := [some (false, 620)] }, { k := (.int .i64) }] }
noncomputable def laws_toTmplS.A : Ann := { dp := fun d => isIn [] d, lp := look [(0, laws_toTmplS.lvL0)], jn := look [], pins := [], nt := 23 }
noncomputable def laws_toTmplS.phis (N : Nat) (d : Nat) : List (Nat × Sm D) := [(30, (⟨laws_toTmpl.sg, fun (x : LawsTmpl × Unit) => laws_toTmpl.R N d x.1⟩ : Sm D))]
noncomputable def laws_toTmplS.a0 (N : Nat) (d : Nat) (n : Nat) (y : (List (LawsTmpl)) × (List (ImplTmpl)) × Int × Unit) : Option ((List (ImplTmpl)) × Unit) := loopAt cx (look (laws_toTmplS.phis N d)) laws_toTmplS.A N n (encL cx laws_toTmplS.lvL0.ms y).1 (encL cx laws_toTmplS.lvL0.ms y).2 (bodyOf Try.f56) 0 (Kfin cx laws_toTmplS.A laws_toTmplS.sg Try.f56.results.toList) [1, 1, 0, 1, 1] []
theorem laws_toTmplS.r0 (N : Nat) (d : Nat) : ∀ (n : Nat) (y : (List (LawsTmpl)) × (List (ImplTmpl)) × Int × Unit), laws_toTmplS.a0 N d n y = laws_toTmplS.L0 N (laws_toTmplS.R N d) (laws_toTmpl.R N d) n y
  | 0, y => by kernel_rfl
  | n + 1, y => by
    have h : laws_toTmplS.a0 N d (n + 1) y = laws_toTmplS.B0 N (laws_toTmplS.R N d) (laws_toTmpl.R N d) (fun z => laws_toTmplS.a0 N d n z) y := by kernel_rfl
    have e : (fun z => laws_toTmplS.a0 N d n z) = laws_toTmplS.L0 N (laws_toTmplS.R N d) (laws_toTmpl.R N d) n := funext fun z => laws_toTmplS.r0 N d n z
    rw [h]
    try rw [e]
    first | done | rfl
theorem laws_toTmplS.run (N : Nat) (d : Nat) (x : (List (LawsTmpl)) × Unit) : runF cx (look (laws_toTmplS.phis N d)) laws_toTmplS.A N (bodyOf Try.f56) Try.f56.results.toList laws_toTmplS.sg x = laws_toTmplS.R N (d + 1) x.1 := by
  have h : runF cx (look (laws_toTmplS.phis N d)) laws_toTmplS.A N (bodyOf Try.f56) Try.f56.results.toList laws_toTmplS.sg x = laws_toTmplS.B N (laws_toTmplS.R N d) (laws_toTmpl.R N d) (fun z => laws_toTmplS.a0 N d N z) x.1 := by kernel_rfl
  have e0 : (fun z => laws_toTmplS.a0 N d N z) = laws_toTmplS.L0 N (laws_toTmplS.R N d) (laws_toTmpl.R N d) N := funext fun z => laws_toTmplS.r0 N d N z
  rw [h, e0]
  try rfl
theorem laws_toTmplS.step (N : Nat) (d : Nat) (h_laws_toTmpl : Sound cx Try.prog gam 30 (⟨laws_toTmpl.sg, fun (x : LawsTmpl × Unit) => laws_toTmpl.R N d x.1⟩ : Sm D)) : Sound cx Try.prog gam 56 (⟨laws_toTmplS.sg, fun (x : (List (LawsTmpl)) × Unit) => laws_toTmplS.R N (d + 1) x.1⟩ : Sm D) := fn_sound (A := laws_toTmplS.A) (Φ := (look (laws_toTmplS.phis N d))) pok (G := gam) (ΦOk.cons h_laws_toTmpl (fnOk_of (f := 30) (by kernel_rfl)) ΦOk.nil) mixed N Try.func56 (c := (bodyOf Try.f56)) (by kernel_rfl) laws_toTmplS.sg (by kernel_rfl) (by kernel_rfl) (by kernel_rfl) (laws_toTmplS.run N d)

noncomputable def laws_toTmpl.A : Ann := { dp := fun d => isIn [] d, lp := look [], jn := look [], pins := [], nt := 31 }
noncomputable def laws_toTmpl.phis (N : Nat) (d : Nat) : List (Nat × Sm D) := [(52, laws_toIntS.sm N), (53, laws_toStepSS.sm N), (54, laws_toStepS.sm N), (55, laws_toOnS.sm N), (56, (⟨laws_toTmplS.sg, fun (x : (List (LawsTmpl)) × Unit) => laws_toTmplS.R N d x.1⟩ : Sm D))]
theorem laws_toTmpl.run (N : Nat) (d : Nat) (x : LawsTmpl × Unit) : runF cx (look (laws_toTmpl.phis N d)) laws_toTmpl.A N (bodyOf Try.f30) Try.f30.results.toList laws_toTmpl.sg x = laws_toTmpl.R N (d + 1) x.1 := by
  have h : runF cx (look (laws_toTmpl.phis N d)) laws_toTmpl.A N (bodyOf Try.f30) Try.f30.results.toList laws_toTmpl.sg x = laws_toTmpl.B N (laws_toTmplS.R N d) (laws_toTmpl.R N d) x.1 := by kernel_rfl
  rw [h]
  try rfl
theorem laws_toTmpl.step (N : Nat) (d : Nat) (h_laws_toTmplS : Sound cx Try.prog gam 56 (⟨laws_toTmplS.sg, fun (x : (List (LawsTmpl)) × Unit) => laws_toTmplS.R N d x.1⟩ : Sm D)) : Sound cx Try.prog gam 30 (⟨laws_toTmpl.sg, fun (x : LawsTmpl × Unit) => laws_toTmpl.R N (d + 1) x.1⟩ : Sm D) := fn_sound (A := laws_toTmpl.A) (Φ := (look (laws_toTmpl.phis N d))) pok (G := gam) (ΦOk.cons (laws_toIntS.sound N) (fnOk_of (f := 52) (by kernel_rfl)) (ΦOk.cons (laws_toStepSS.sound N) (fnOk_of (f := 53) (by kernel_rfl)) (ΦOk.cons (laws_toStepS.sound N) (fnOk_of (f := 54) (by kernel_rfl)) (ΦOk.cons (laws_toOnS.sound N) (fnOk_of (f := 55) (by kernel_rfl)) (ΦOk.cons h_laws_toTmplS (fnOk_of (f := 56) (by kernel_rfl)) ΦOk.nil))))) mixed N Try.func30 (c := (bodyOf Try.f30)) (by kernel_rfl) laws_toTmpl.sg (by kernel_rfl) (by kernel_rfl) (by kernel_rfl) (laws_toTmpl.run N d)

theorem laws_toTmplS.scc (N : Nat) : ∀ d, Sound cx Try.prog gam 56 (⟨laws_toTmplS.sg, fun (x : (List (LawsTmpl)) × Unit) => laws_toTmplS.R N d x.1⟩ : Sm D) ∧ Sound cx Try.prog gam 30 (⟨laws_toTmpl.sg, fun (x : LawsTmpl × Unit) => laws_toTmpl.R N d x.1⟩ : Sm D)
  | 0 => ⟨none_sound 56 laws_toTmplS.sg, none_sound 30 laws_toTmpl.sg⟩
  | d + 1 => by
    have ih := laws_toTmplS.scc N d
    obtain ⟨ih0, ih1⟩ := ih
    exact ⟨laws_toTmplS.step N d ih1, laws_toTmpl.step N d ih0⟩
noncomputable def laws_toTmplS.sm (N : Nat) : Sm D := (⟨laws_toTmplS.sg, fun (x : (List (LawsTmpl)) × Unit) => laws_toTmplS.R N N x.1⟩ : Sm D)
theorem laws_toTmplS.sound (N : Nat) : Sound cx Try.prog gam 56 (laws_toTmplS.sm N) := (laws_toTmplS.scc N N).1
noncomputable def laws_toTmpl.sm (N : Nat) : Sm D := (⟨laws_toTmpl.sg, fun (x : LawsTmpl × Unit) => laws_toTmpl.R N N x.1⟩ : Sm D)
theorem laws_toTmpl.sound (N : Nat) : Sound cx Try.prog gam 30 (laws_toTmpl.sm N) := (laws_toTmplS.scc N N).2
@[reducible] def laws_toComp.sg : Sg := { ms := [{ k := (.st 40) }], keep := [false], rs := [{ k := (.st 50) }], hold := true }
noncomputable def laws_toComp.A : Ann := { dp := fun d => isIn [] d, lp := look [], jn := look [], pins := [], nt := 20 }
noncomputable def laws_toComp.phis (N : Nat) : List (Nat × Sm D) := [(28, laws_toValueS.sm N), (29, laws_toSetSS.sm N), (30, laws_toTmpl.sm N)]
theorem laws_toComp.run (N : Nat) (x : LawsComp × Unit) : runF cx (look (laws_toComp.phis N)) laws_toComp.A N (bodyOf Try.f14) Try.f14.results.toList laws_toComp.sg x = laws_toComp N x.1 := by
  have h : runF cx (look (laws_toComp.phis N)) laws_toComp.A N (bodyOf Try.f14) Try.f14.results.toList laws_toComp.sg x = laws_toComp.B N x.1 := by kernel_rfl
  rw [h]
  try rfl
noncomputable def laws_toComp.sm (N : Nat) : Sm D := (⟨laws_toComp.sg, fun (x : LawsComp × Unit) => laws_toComp N x.1⟩ : Sm D)
theorem laws_toComp.sound (N : Nat) : Sound cx Try.prog gam 14 (laws_toComp.sm N) := fn_sound (A := laws_toComp.A) (Φ := (look (laws_toComp.phis N))) pok (G := gam) (ΦOk.cons (laws_toValueS.sound N) (fnOk_of (f := 28) (by kernel_rfl)) (ΦOk.cons (laws_toSetSS.sound N) (fnOk_of (f := 29) (by kernel_rfl)) (ΦOk.cons (laws_toTmpl.sound N) (fnOk_of (f := 30) (by kernel_rfl)) ΦOk.nil))) mixed N Try.func14 (c := (bodyOf Try.f14)) (by kernel_rfl) laws_toComp.sg (by kernel_rfl) (by kernel_rfl) (by kernel_rfl) (laws_toComp.run N)

@[reducible] def laws_toCompS.sg : Sg := { ms := [{ k := (.sl (.st 40)), fl := [none] }], keep := [false], rs := [{ k := (.sl (.st 50)), fl := [none] }], hold := true }
@[reducible] def laws_toCompS.lvL0 : Lv := { id := 0, slots := [0, 3, 4], ms := [{ k := (.sl (.st 40)), fl := [none] }, { k := (.sl (.st 50)), fl := [some (false, 620)] }, { k := (.int .i64) }] }
noncomputable def laws_toCompS.A : Ann := { dp := fun d => isIn [] d, lp := look [(0, laws_toCompS.lvL0)], jn := look [], pins := [], nt := 23 }
noncomputable def laws_toCompS.phis (N : Nat) : List (Nat × Sm D) := [(14, laws_toComp.sm N)]
noncomputable def laws_toCompS.a0 (N : Nat) (n : Nat) (y : (List (LawsComp)) × (List (ImplComp)) × Int × Unit) : Option ((List (ImplComp)) × Unit) := loopAt cx (look (laws_toCompS.phis N)) laws_toCompS.A N n (encL cx laws_toCompS.lvL0.ms y).1 (encL cx laws_toCompS.lvL0.ms y).2 (bodyOf Try.f7) 0 (Kfin cx laws_toCompS.A laws_toCompS.sg Try.f7.results.toList) [1, 1, 0, 1, 1] []
theorem laws_toCompS.r0 (N : Nat) : ∀ (n : Nat) (y : (List (LawsComp)) × (List (ImplComp)) × Int × Unit), laws_toCompS.a0 N n y = laws_toCompS.L0 N n y
  | 0, y => by kernel_rfl
  | n + 1, y => by
    have h : laws_toCompS.a0 N (n + 1) y = laws_toCompS.B0 N (fun z => laws_toCompS.a0 N n z) y := by kernel_rfl
    have e : (fun z => laws_toCompS.a0 N n z) = laws_toCompS.L0 N n := funext fun z => laws_toCompS.r0 N n z
    rw [h]
    try rw [e]
    first | done | rfl
theorem laws_toCompS.run (N : Nat) (x : (List (LawsComp)) × Unit) : runF cx (look (laws_toCompS.phis N)) laws_toCompS.A N (bodyOf Try.f7) Try.f7.results.toList laws_toCompS.sg x = laws_toCompS N x.1 := by
  have h : runF cx (look (laws_toCompS.phis N)) laws_toCompS.A N (bodyOf Try.f7) Try.f7.results.toList laws_toCompS.sg x = laws_toCompS.B N (fun z => laws_toCompS.a0 N N z) x.1 := by kernel_rfl
  have e0 : (fun z => laws_toCompS.a0 N N z) = laws_toCompS.L0 N N := funext fun z => laws_toCompS.r0 N N z
  rw [h, e0]
  try rfl
noncomputable def laws_toCompS.sm (N : Nat) : Sm D := (⟨laws_toCompS.sg, fun (x : (List (LawsComp)) × Unit) => laws_toCompS N x.1⟩ : Sm D)
theorem laws_toCompS.sound (N : Nat) : Sound cx Try.prog gam 7 (laws_toCompS.sm N) := fn_sound (A := laws_toCompS.A) (Φ := (look (laws_toCompS.phis N))) pok (G := gam) (ΦOk.cons (laws_toComp.sound N) (fnOk_of (f := 14) (by kernel_rfl)) ΦOk.nil) mixed N Try.func7 (c := (bodyOf Try.f7)) (by kernel_rfl) laws_toCompS.sg (by kernel_rfl) (by kernel_rfl) (by kernel_rfl) (laws_toCompS.run N)

@[reducible] def spec_inRange.sg : Sg := { ms := [{ k := (.int .i64) }, { k := (.int .i64) }, { k := (.int .i64) }], keep := [false, false, false], rs := [{ k := .bool }] }
noncomputable def spec_inRange.A : Ann := { dp := fun d => isIn [] d, lp := look [], jn := look [], pins := [], nt := 15 }
noncomputable def spec_inRange.phis (N : Nat) : List (Nat × Sm D) := []
theorem spec_inRange.run (N : Nat) (x : Int × Int × Int × Unit) : runF cx (look (spec_inRange.phis N)) spec_inRange.A N (bodyOf Try.f24) Try.f24.results.toList spec_inRange.sg x = spec_inRange N x.1 x.2.1 x.2.2.1 := by
  have h : runF cx (look (spec_inRange.phis N)) spec_inRange.A N (bodyOf Try.f24) Try.f24.results.toList spec_inRange.sg x = spec_inRange.B N x.1 x.2.1 x.2.2.1 := by kernel_rfl
  rw [h]
  try rfl
noncomputable def spec_inRange.sm (N : Nat) : Sm D := (⟨spec_inRange.sg, fun (x : Int × Int × Int × Unit) => spec_inRange N x.1 x.2.1 x.2.2.1⟩ : Sm D)
theorem spec_inRange.sound (N : Nat) : Sound cx Try.prog gam 24 (spec_inRange.sm N) := fn_sound (A := spec_inRange.A) (Φ := (look (spec_inRange.phis N))) pok (G := gam) ΦOk.nil mixed N Try.func24 (c := (bodyOf Try.f24)) (by kernel_rfl) spec_inRange.sg (by kernel_rfl) (by kernel_rfl) (by kernel_rfl) (spec_inRange.run N)

@[reducible] def spec_plainByte.sg : Sg := { ms := [{ k := (.int .u8) }], keep := [false], rs := [{ k := .bool }] }
noncomputable def spec_plainByte.A : Ann := { dp := fun d => isIn [] d, lp := look [], jn := look [], pins := [], nt := 21 }
noncomputable def spec_plainByte.phis (N : Nat) : List (Nat × Sm D) := []
theorem spec_plainByte.run (N : Nat) (x : Int × Unit) : runF cx (look (spec_plainByte.phis N)) spec_plainByte.A N (bodyOf Try.f80) Try.f80.results.toList spec_plainByte.sg x = spec_plainByte N x.1 := by
  have h : runF cx (look (spec_plainByte.phis N)) spec_plainByte.A N (bodyOf Try.f80) Try.f80.results.toList spec_plainByte.sg x = spec_plainByte.B N x.1 := by kernel_rfl
  rw [h]
  try rfl
noncomputable def spec_plainByte.sm (N : Nat) : Sm D := (⟨spec_plainByte.sg, fun (x : Int × Unit) => spec_plainByte N x.1⟩ : Sm D)
theorem spec_plainByte.sound (N : Nat) : Sound cx Try.prog gam 80 (spec_plainByte.sm N) := fn_sound (A := spec_plainByte.A) (Φ := (look (spec_plainByte.phis N))) pok (G := gam) ΦOk.nil mixed N Try.func80 (c := (bodyOf Try.f80)) (by kernel_rfl) spec_plainByte.sg (by kernel_rfl) (by kernel_rfl) (by kernel_rfl) (spec_plainByte.run N)

@[reducible] def spec_validWord.sg : Sg := { ms := [{ k := .str }], keep := [false], rs := [{ k := .bool }] }
@[reducible] def spec_validWord.lvL0 : Lv := { id := 0, slots := [0, 3], ms := [{ k := .str }, { k := (.int .i64) }] }
noncomputable def spec_validWord.A : Ann := { dp := fun d => isIn [] d, lp := look [(0, spec_validWord.lvL0)], jn := look [], pins := [], nt := 18 }
noncomputable def spec_validWord.phis (N : Nat) : List (Nat × Sm D) := [(80, spec_plainByte.sm N)]
noncomputable def spec_validWord.a0 (N : Nat) (n : Nat) (y : (List UInt8) × Int × Unit) : Option (Bool × Unit) := loopAt cx (look (spec_validWord.phis N)) spec_validWord.A N n (encL cx spec_validWord.lvL0.ms y).1 (encL cx spec_validWord.lvL0.ms y).2 (bodyOf Try.f68) 0 (Kfin cx spec_validWord.A spec_validWord.sg Try.f68.results.toList) [1, 1, 0, 1, 1] []
theorem spec_validWord.r0 (N : Nat) : ∀ (n : Nat) (y : (List UInt8) × Int × Unit), spec_validWord.a0 N n y = spec_validWord.L0 N n y
  | 0, y => by kernel_rfl
  | n + 1, y => by
    have h : spec_validWord.a0 N (n + 1) y = spec_validWord.B0 N (fun z => spec_validWord.a0 N n z) y := by kernel_rfl
    have e : (fun z => spec_validWord.a0 N n z) = spec_validWord.L0 N n := funext fun z => spec_validWord.r0 N n z
    rw [h]
    try rw [e]
    first | done | rfl
theorem spec_validWord.run (N : Nat) (x : (List UInt8) × Unit) : runF cx (look (spec_validWord.phis N)) spec_validWord.A N (bodyOf Try.f68) Try.f68.results.toList spec_validWord.sg x = spec_validWord N x.1 := by
  have h : runF cx (look (spec_validWord.phis N)) spec_validWord.A N (bodyOf Try.f68) Try.f68.results.toList spec_validWord.sg x = spec_validWord.B N (fun z => spec_validWord.a0 N N z) x.1 := by kernel_rfl
  have e0 : (fun z => spec_validWord.a0 N N z) = spec_validWord.L0 N N := funext fun z => spec_validWord.r0 N N z
  rw [h, e0]
  try rfl
noncomputable def spec_validWord.sm (N : Nat) : Sm D := (⟨spec_validWord.sg, fun (x : (List UInt8) × Unit) => spec_validWord N x.1⟩ : Sm D)
theorem spec_validWord.sound (N : Nat) : Sound cx Try.prog gam 68 (spec_validWord.sm N) := fn_sound (A := spec_validWord.A) (Φ := (look (spec_validWord.phis N))) pok (G := gam) (ΦOk.cons (spec_plainByte.sound N) (fnOk_of (f := 80) (by kernel_rfl)) ΦOk.nil) mixed N Try.func68 (c := (bodyOf Try.f68)) (by kernel_rfl) spec_validWord.sg (by kernel_rfl) (by kernel_rfl) (by kernel_rfl) (spec_validWord.run N)

@[reducible] def spec_validValue.sg : Sg := { ms := [{ k := (.st 79) }], keep := [false], rs := [{ k := .bool }] }
noncomputable def spec_validValue.A : Ann := { dp := fun d => isIn [] d, lp := look [], jn := look [], pins := [], nt := 35 }
noncomputable def spec_validValue.phis (N : Nat) : List (Nat × Sm D) := [(24, spec_inRange.sm N), (68, spec_validWord.sm N)]
theorem spec_validValue.run (N : Nat) (x : ImplValue × Unit) : runF cx (look (spec_validValue.phis N)) spec_validValue.A N (bodyOf Try.f45) Try.f45.results.toList spec_validValue.sg x = spec_validValue N x.1 := by
  have h : runF cx (look (spec_validValue.phis N)) spec_validValue.A N (bodyOf Try.f45) Try.f45.results.toList spec_validValue.sg x = spec_validValue.B N x.1 := by kernel_rfl
  rw [h]
  try rfl
noncomputable def spec_validValue.sm (N : Nat) : Sm D := (⟨spec_validValue.sg, fun (x : ImplValue × Unit) => spec_validValue N x.1⟩ : Sm D)
theorem spec_validValue.sound (N : Nat) : Sound cx Try.prog gam 45 (spec_validValue.sm N) := fn_sound (A := spec_validValue.A) (Φ := (look (spec_validValue.phis N))) pok (G := gam) (ΦOk.cons (spec_inRange.sound N) (fnOk_of (f := 24) (by kernel_rfl)) (ΦOk.cons (spec_validWord.sound N) (fnOk_of (f := 68) (by kernel_rfl)) ΦOk.nil)) mixed N Try.func45 (c := (bodyOf Try.f45)) (by kernel_rfl) spec_validValue.sg (by kernel_rfl) (by kernel_rfl) (by kernel_rfl) (spec_validValue.run N)

@[reducible] def spec_validValues.sg : Sg := { ms := [{ k := (.sl (.st 79)), fl := [none] }], keep := [false], rs := [{ k := .bool }] }
@[reducible] def spec_validValues.lvL0 : Lv := { id := 0, slots := [0, 3], ms := [{ k := (.sl (.st 79)), fl := [none] }, { k := (.int .i64) }] }
noncomputable def spec_validValues.A : Ann := { dp := fun d => isIn [] d, lp := look [(0, spec_validValues.lvL0)], jn := look [], pins := [], nt := 16 }
noncomputable def spec_validValues.phis (N : Nat) : List (Nat × Sm D) := [(45, spec_validValue.sm N)]
noncomputable def spec_validValues.a0 (N : Nat) (n : Nat) (y : (List (ImplValue)) × Int × Unit) : Option (Bool × Unit) := loopAt cx (look (spec_validValues.phis N)) spec_validValues.A N n (encL cx spec_validValues.lvL0.ms y).1 (encL cx spec_validValues.lvL0.ms y).2 (bodyOf Try.f25) 0 (Kfin cx spec_validValues.A spec_validValues.sg Try.f25.results.toList) [1, 0, 1, 1] []
theorem spec_validValues.r0 (N : Nat) : ∀ (n : Nat) (y : (List (ImplValue)) × Int × Unit), spec_validValues.a0 N n y = spec_validValues.L0 N n y
  | 0, y => by kernel_rfl
  | n + 1, y => by
    have h : spec_validValues.a0 N (n + 1) y = spec_validValues.B0 N (fun z => spec_validValues.a0 N n z) y := by kernel_rfl
    have e : (fun z => spec_validValues.a0 N n z) = spec_validValues.L0 N n := funext fun z => spec_validValues.r0 N n z
    rw [h]
    try rw [e]
    first | done | rfl
theorem spec_validValues.run (N : Nat) (x : (List (ImplValue)) × Unit) : runF cx (look (spec_validValues.phis N)) spec_validValues.A N (bodyOf Try.f25) Try.f25.results.toList spec_validValues.sg x = spec_validValues N x.1 := by
  have h : runF cx (look (spec_validValues.phis N)) spec_validValues.A N (bodyOf Try.f25) Try.f25.results.toList spec_validValues.sg x = spec_validValues.B N (fun z => spec_validValues.a0 N N z) x.1 := by kernel_rfl
  have e0 : (fun z => spec_validValues.a0 N N z) = spec_validValues.L0 N N := funext fun z => spec_validValues.r0 N N z
  rw [h, e0]
  try rfl
noncomputable def spec_validValues.sm (N : Nat) : Sm D := (⟨spec_validValues.sg, fun (x : (List (ImplValue)) × Unit) => spec_validValues N x.1⟩ : Sm D)
theorem spec_validValues.sound (N : Nat) : Sound cx Try.prog gam 25 (spec_validValues.sm N) := fn_sound (A := spec_validValues.A) (Φ := (look (spec_validValues.phis N))) pok (G := gam) (ΦOk.cons (spec_validValue.sound N) (fnOk_of (f := 45) (by kernel_rfl)) ΦOk.nil) mixed N Try.func25 (c := (bodyOf Try.f25)) (by kernel_rfl) spec_validValues.sg (by kernel_rfl) (by kernel_rfl) (by kernel_rfl) (spec_validValues.run N)

@[reducible] def spec_validStep.sg : Sg := { ms := [{ k := (.st 116) }, { k := (.int .i64) }, { k := (.int .i64) }, { k := (.int .i64) }], keep := [false, false, false, false], rs := [{ k := .bool }] }
noncomputable def spec_validStep.A : Ann := { dp := fun d => isIn [] d, lp := look [], jn := look [], pins := [], nt := 93 }
noncomputable def spec_validStep.phis (N : Nat) : List (Nat × Sm D) := [(45, spec_validValue.sm N), (24, spec_inRange.sm N)]
theorem spec_validStep.run (N : Nat) (x : ImplStep × Int × Int × Int × Unit) : runF cx (look (spec_validStep.phis N)) spec_validStep.A N (bodyOf Try.f69) Try.f69.results.toList spec_validStep.sg x = spec_validStep N x.1 x.2.1 x.2.2.1 x.2.2.2.1 := by
  have h : runF cx (look (spec_validStep.phis N)) spec_validStep.A N (bodyOf Try.f69) Try.f69.results.toList spec_validStep.sg x = spec_validStep.B N x.1 x.2.1 x.2.2.1 x.2.2.2.1 := by kernel_rfl
  rw [h]
  try rfl
noncomputable def spec_validStep.sm (N : Nat) : Sm D := (⟨spec_validStep.sg, fun (x : ImplStep × Int × Int × Int × Unit) => spec_validStep N x.1 x.2.1 x.2.2.1 x.2.2.2.1⟩ : Sm D)
theorem spec_validStep.sound (N : Nat) : Sound cx Try.prog gam 69 (spec_validStep.sm N) := fn_sound (A := spec_validStep.A) (Φ := (look (spec_validStep.phis N))) pok (G := gam) (ΦOk.cons (spec_validValue.sound N) (fnOk_of (f := 45) (by kernel_rfl)) (ΦOk.cons (spec_inRange.sound N) (fnOk_of (f := 24) (by kernel_rfl)) ΦOk.nil)) mixed N Try.func69 (c := (bodyOf Try.f69)) (by kernel_rfl) spec_validStep.sg (by kernel_rfl) (by kernel_rfl) (by kernel_rfl) (spec_validStep.run N)

@[reducible] def spec_takes.sg : Sg := { ms := [{ k := (.st 116) }], keep := [false], rs := [{ k := (.int .i64) }] }
noncomputable def spec_takes.A : Ann := { dp := fun d => isIn [] d, lp := look [], jn := look [], pins := [], nt := 9 }
noncomputable def spec_takes.phis (N : Nat) : List (Nat × Sm D) := []
theorem spec_takes.run (N : Nat) (x : ImplStep × Unit) : runF cx (look (spec_takes.phis N)) spec_takes.A N (bodyOf Try.f70) Try.f70.results.toList spec_takes.sg x = spec_takes N x.1 := by
  have h : runF cx (look (spec_takes.phis N)) spec_takes.A N (bodyOf Try.f70) Try.f70.results.toList spec_takes.sg x = spec_takes.B N x.1 := by kernel_rfl
  rw [h]
  try rfl
noncomputable def spec_takes.sm (N : Nat) : Sm D := (⟨spec_takes.sg, fun (x : ImplStep × Unit) => spec_takes N x.1⟩ : Sm D)
theorem spec_takes.sound (N : Nat) : Sound cx Try.prog gam 70 (spec_takes.sm N) := fn_sound (A := spec_takes.A) (Φ := (look (spec_takes.phis N))) pok (G := gam) ΦOk.nil mixed N Try.func70 (c := (bodyOf Try.f70)) (by kernel_rfl) spec_takes.sg (by kernel_rfl) (by kernel_rfl) (by kernel_rfl) (spec_takes.run N)

@[reducible] def spec_validForm.sg : Sg := { ms := [{ k := (.sl (.st 116)), fl := [none] }, { k := (.int .i64) }, { k := (.int .i64) }, { k := (.int .i64) }], keep := [false, false, false, false], rs := [{ k := .bool }] }
@[reducible] def spec_validForm.lvL0 : Lv := { id := 0, slots := [0, 1, 2, 3, 9, 10], ms := [{ k := (.sl (.st 116)), fl := [none] }, { k := (.int .i64) }, { k := (.int .i64) }, { k := (.int .i64) }, { k := (.int .i64) }, { k := (.int .i64) }] }
noncomputable def spec_validForm.A : Ann := { dp := fun d => isIn [] d, lp := look [(0, spec_validForm.lvL0)], jn := look [], pins := [], nt := 48 }
noncomputable def spec_validForm.phis (N : Nat) : List (Nat × Sm D) := [(69, spec_validStep.sm N), (70, spec_takes.sm N)]
noncomputable def spec_validForm.a0 (N : Nat) (n : Nat) (y : (List (ImplStep)) × Int × Int × Int × Int × Int × Unit) : Option (Bool × Unit) := loopAt cx (look (spec_validForm.phis N)) spec_validForm.A N n (encL cx spec_validForm.lvL0.ms y).1 (encL cx spec_validForm.lvL0.ms y).2 (bodyOf Try.f46) 0 (Kfin cx spec_validForm.A spec_validForm.sg Try.f46.results.toList) [1, 1, 1, 0, 1, 1] []
theorem spec_validForm.r0 (N : Nat) : ∀ (n : Nat) (y : (List (ImplStep)) × Int × Int × Int × Int × Int × Unit), spec_validForm.a0 N n y = spec_validForm.L0 N n y
  | 0, y => by kernel_rfl
  | n + 1, y => by
    have h : spec_validForm.a0 N (n + 1) y = spec_validForm.B0 N (fun z => spec_validForm.a0 N n z) y := by kernel_rfl
    have e : (fun z => spec_validForm.a0 N n z) = spec_validForm.L0 N n := funext fun z => spec_validForm.r0 N n z
    rw [h]
    try rw [e]
    first | done | rfl
theorem spec_validForm.run (N : Nat) (x : (List (ImplStep)) × Int × Int × Int × Unit) : runF cx (look (spec_validForm.phis N)) spec_validForm.A N (bodyOf Try.f46) Try.f46.results.toList spec_validForm.sg x = spec_validForm N x.1 x.2.1 x.2.2.1 x.2.2.2.1 := by
  have h : runF cx (look (spec_validForm.phis N)) spec_validForm.A N (bodyOf Try.f46) Try.f46.results.toList spec_validForm.sg x = spec_validForm.B N (fun z => spec_validForm.a0 N N z) x.1 x.2.1 x.2.2.1 x.2.2.2.1 := by kernel_rfl
  have e0 : (fun z => spec_validForm.a0 N N z) = spec_validForm.L0 N N := funext fun z => spec_validForm.r0 N N z
  rw [h, e0]
  try rfl
noncomputable def spec_validForm.sm (N : Nat) : Sm D := (⟨spec_validForm.sg, fun (x : (List (ImplStep)) × Int × Int × Int × Unit) => spec_validForm N x.1 x.2.1 x.2.2.1 x.2.2.2.1⟩ : Sm D)
theorem spec_validForm.sound (N : Nat) : Sound cx Try.prog gam 46 (spec_validForm.sm N) := fn_sound (A := spec_validForm.A) (Φ := (look (spec_validForm.phis N))) pok (G := gam) (ΦOk.cons (spec_validStep.sound N) (fnOk_of (f := 69) (by kernel_rfl)) (ΦOk.cons (spec_takes.sound N) (fnOk_of (f := 70) (by kernel_rfl)) ΦOk.nil)) mixed N Try.func46 (c := (bodyOf Try.f46)) (by kernel_rfl) spec_validForm.sg (by kernel_rfl) (by kernel_rfl) (by kernel_rfl) (spec_validForm.run N)

@[reducible] def spec_validActs.sg : Sg := { ms := [{ k := (.st 50) }], keep := [false], rs := [{ k := .bool }] }
@[reducible] def spec_validActs.lvL2 : Lv := { id := 2, slots := [1, 3, 4], ms := [{ ptr := true, id := 600, t := 51, k := (.st 50), fl := [none, none, none, none, none, none, none, none, none, none] }, { k := (.int .i64) }, { k := (.int .i64) }] }
@[reducible] def spec_validActs.lvL0 : Lv := { id := 0, slots := [1, 3], ms := [{ ptr := true, id := 600, t := 51, k := (.st 50), fl := [none, none, none, none, none, none, none, none, none, none] }, { k := (.int .i64) }] }
noncomputable def spec_validActs.A : Ann := { dp := fun d => isIn [] d, lp := look [(2, spec_validActs.lvL2), (0, spec_validActs.lvL0)], jn := look [], pins := [], nt := 59 }
noncomputable def spec_validActs.phis (N : Nat) : List (Nat × Sm D) := [(24, spec_inRange.sm N), (46, spec_validForm.sm N)]
noncomputable def spec_validActs.a2 (N : Nat) (m0 : Nat) (n : Nat) (y : ImplComp × Int × Int × Unit) : Option (Bool × Unit) := loopAt cx (look (spec_validActs.phis N)) spec_validActs.A N n (encL cx spec_validActs.lvL2.ms y).1 (encL cx spec_validActs.lvL2.ms y).2 (bodyOf Try.f26) 0 (Kfin cx spec_validActs.A spec_validActs.sg Try.f26.results.toList) [1, 1, 0, 1, 1, 1, 1, 0, 1, 1, 1, 1] [m0]
noncomputable def spec_validActs.a0 (N : Nat) (n : Nat) (y : ImplComp × Int × Unit) : Option (Bool × Unit) := loopAt cx (look (spec_validActs.phis N)) spec_validActs.A N n (encL cx spec_validActs.lvL0.ms y).1 (encL cx spec_validActs.lvL0.ms y).2 (bodyOf Try.f26) 0 (Kfin cx spec_validActs.A spec_validActs.sg Try.f26.results.toList) [1, 1, 0, 1, 1] []
theorem spec_validActs.r2 (N : Nat) (m0 : Nat) : ∀ (n : Nat) (y : ImplComp × Int × Int × Unit), spec_validActs.a2 N m0 n y = spec_validActs.L2 N (fun z => spec_validActs.a0 N m0 z) n y
  | 0, y => by kernel_rfl
  | n + 1, y => by
    have h : spec_validActs.a2 N m0 (n + 1) y = spec_validActs.B2 N (fun z => spec_validActs.a0 N m0 z) (fun z => spec_validActs.a2 N m0 n z) y := by kernel_rfl
    have e : (fun z => spec_validActs.a2 N m0 n z) = spec_validActs.L2 N (fun z => spec_validActs.a0 N m0 z) n := funext fun z => spec_validActs.r2 N m0 n z
    rw [h]
    try rw [e]
    first | done | rfl
theorem spec_validActs.r0 (N : Nat) : ∀ (n : Nat) (y : ImplComp × Int × Unit), spec_validActs.a0 N n y = spec_validActs.L0 N n y
  | 0, y => by kernel_rfl
  | n + 1, y => by
    have h : spec_validActs.a0 N (n + 1) y = spec_validActs.B0 N (fun z => spec_validActs.a2 N n N z) y := by kernel_rfl
    have e : (fun z => spec_validActs.a0 N n z) = spec_validActs.L0 N n := funext fun z => spec_validActs.r0 N n z
    have e2 : (fun z => spec_validActs.a2 N n N z) = spec_validActs.L2 N (fun z => spec_validActs.a0 N n z) N := funext fun z => spec_validActs.r2 N n N z
    rw [h, e2]
    try rw [e]
    first | done | rfl
theorem spec_validActs.run (N : Nat) (x : ImplComp × Unit) : runF cx (look (spec_validActs.phis N)) spec_validActs.A N (bodyOf Try.f26) Try.f26.results.toList spec_validActs.sg x = spec_validActs N x.1 := by
  have h : runF cx (look (spec_validActs.phis N)) spec_validActs.A N (bodyOf Try.f26) Try.f26.results.toList spec_validActs.sg x = spec_validActs.B N (fun z => spec_validActs.a0 N N z) x.1 := by kernel_rfl
  have e0 : (fun z => spec_validActs.a0 N N z) = spec_validActs.L0 N N := funext fun z => spec_validActs.r0 N N z
  rw [h, e0]
  try rfl
noncomputable def spec_validActs.sm (N : Nat) : Sm D := (⟨spec_validActs.sg, fun (x : ImplComp × Unit) => spec_validActs N x.1⟩ : Sm D)
theorem spec_validActs.sound (N : Nat) : Sound cx Try.prog gam 26 (spec_validActs.sm N) := fn_sound (A := spec_validActs.A) (Φ := (look (spec_validActs.phis N))) pok (G := gam) (ΦOk.cons (spec_inRange.sound N) (fnOk_of (f := 24) (by kernel_rfl)) (ΦOk.cons (spec_validForm.sound N) (fnOk_of (f := 46) (by kernel_rfl)) ΦOk.nil)) mixed N Try.func26 (c := (bodyOf Try.f26)) (by kernel_rfl) spec_validActs.sg (by kernel_rfl) (by kernel_rfl) (by kernel_rfl) (spec_validActs.run N)

@[reducible] def spec_tmpls.sg : Sg := { ms := [{ k := (.int .i64) }], keep := [false], rs := [{ k := (.int .i64) }, { k := (.int .i64) }] }
noncomputable def spec_tmpls.A : Ann := { dp := fun d => isIn [] d, lp := look [], jn := look [], pins := [], nt := 12 }
noncomputable def spec_tmpls.phis (N : Nat) : List (Nat × Sm D) := []
theorem spec_tmpls.run (N : Nat) (x : Int × Unit) : runF cx (look (spec_tmpls.phis N)) spec_tmpls.A N (bodyOf Try.f47) Try.f47.results.toList spec_tmpls.sg x = spec_tmpls N x.1 := by
  have h : runF cx (look (spec_tmpls.phis N)) spec_tmpls.A N (bodyOf Try.f47) Try.f47.results.toList spec_tmpls.sg x = spec_tmpls.B N x.1 := by kernel_rfl
  rw [h]
  try rfl
noncomputable def spec_tmpls.sm (N : Nat) : Sm D := (⟨spec_tmpls.sg, fun (x : Int × Unit) => spec_tmpls N x.1⟩ : Sm D)
theorem spec_tmpls.sound (N : Nat) : Sound cx Try.prog gam 47 (spec_tmpls.sm N) := fn_sound (A := spec_tmpls.A) (Φ := (look (spec_tmpls.phis N))) pok (G := gam) ΦOk.nil mixed N Try.func47 (c := (bodyOf Try.f47)) (by kernel_rfl) spec_tmpls.sg (by kernel_rfl) (by kernel_rfl) (by kernel_rfl) (spec_tmpls.run N)

@[reducible] def spec_validNames.sg : Sg := { ms := [{ k := (.sl (.int .i64)), fl := [none] }], keep := [false], rs := [{ k := .bool }] }
@[reducible] def spec_validNames.lvL0 : Lv := { id := 0, slots := [0, 3], ms := [{ k := (.sl (.int .i64)), fl := [none] }, { k := (.int .i64) }] }
noncomputable def spec_validNames.A : Ann := { dp := fun d => isIn [] d, lp := look [(0, spec_validNames.lvL0)], jn := look [], pins := [], nt := 32 }
noncomputable def spec_validNames.phis (N : Nat) : List (Nat × Sm D) := [(24, spec_inRange.sm N)]
noncomputable def spec_validNames.a0 (N : Nat) (n : Nat) (y : (List (Int)) × Int × Unit) : Option (Bool × Unit) := loopAt cx (look (spec_validNames.phis N)) spec_validNames.A N n (encL cx spec_validNames.lvL0.ms y).1 (encL cx spec_validNames.lvL0.ms y).2 (bodyOf Try.f71) 0 (Kfin cx spec_validNames.A spec_validNames.sg Try.f71.results.toList) [1, 0, 1, 1] []
theorem spec_validNames.r0 (N : Nat) : ∀ (n : Nat) (y : (List (Int)) × Int × Unit), spec_validNames.a0 N n y = spec_validNames.L0 N n y
  | 0, y => by kernel_rfl
  | n + 1, y => by
    have h : spec_validNames.a0 N (n + 1) y = spec_validNames.B0 N (fun z => spec_validNames.a0 N n z) y := by kernel_rfl
    have e : (fun z => spec_validNames.a0 N n z) = spec_validNames.L0 N n := funext fun z => spec_validNames.r0 N n z
    rw [h]
    try rw [e]
    first | done | rfl
theorem spec_validNames.run (N : Nat) (x : (List (Int)) × Unit) : runF cx (look (spec_validNames.phis N)) spec_validNames.A N (bodyOf Try.f71) Try.f71.results.toList spec_validNames.sg x = spec_validNames N x.1 := by
  have h : runF cx (look (spec_validNames.phis N)) spec_validNames.A N (bodyOf Try.f71) Try.f71.results.toList spec_validNames.sg x = spec_validNames.B N (fun z => spec_validNames.a0 N N z) x.1 := by kernel_rfl
  have e0 : (fun z => spec_validNames.a0 N N z) = spec_validNames.L0 N N := funext fun z => spec_validNames.r0 N N z
  rw [h, e0]
  try rfl
noncomputable def spec_validNames.sm (N : Nat) : Sm D := (⟨spec_validNames.sg, fun (x : (List (Int)) × Unit) => spec_validNames N x.1⟩ : Sm D)
theorem spec_validNames.sound (N : Nat) : Sound cx Try.prog gam 71 (spec_validNames.sm N) := fn_sound (A := spec_validNames.A) (Φ := (look (spec_validNames.phis N))) pok (G := gam) (ΦOk.cons (spec_inRange.sound N) (fnOk_of (f := 24) (by kernel_rfl)) ΦOk.nil) mixed N Try.func71 (c := (bodyOf Try.f71)) (by kernel_rfl) spec_validNames.sg (by kernel_rfl) (by kernel_rfl) (by kernel_rfl) (spec_validNames.run N)

@[reducible] def spec_validOns.sg : Sg := { ms := [{ k := (.sl (.st 71)), fl := [none] }, { k := (.int .i64) }], keep := [false, false], rs := [{ k := .bool }] }
@[reducible] def spec_validOns.lvL0 : Lv := { id := 0, slots := [0, 1, 5], ms := [{ k := (.sl (.st 71)), fl := [none] }, { k := (.int .i64) }, { k := (.int .i64) }] }
noncomputable def spec_validOns.A : Ann := { dp := fun d => isIn [] d, lp := look [(0, spec_validOns.lvL0)], jn := look [], pins := [], nt := 48 }
noncomputable def spec_validOns.phis (N : Nat) : List (Nat × Sm D) := [(24, spec_inRange.sm N)]
noncomputable def spec_validOns.a0 (N : Nat) (n : Nat) (y : (List (ImplOn)) × Int × Int × Unit) : Option (Bool × Unit) := loopAt cx (look (spec_validOns.phis N)) spec_validOns.A N n (encL cx spec_validOns.lvL0.ms y).1 (encL cx spec_validOns.lvL0.ms y).2 (bodyOf Try.f72) 0 (Kfin cx spec_validOns.A spec_validOns.sg Try.f72.results.toList) [1, 0, 1, 1] []
theorem spec_validOns.r0 (N : Nat) : ∀ (n : Nat) (y : (List (ImplOn)) × Int × Int × Unit), spec_validOns.a0 N n y = spec_validOns.L0 N n y
  | 0, y => by kernel_rfl
  | n + 1, y => by
    have h : spec_validOns.a0 N (n + 1) y = spec_validOns.B0 N (fun z => spec_validOns.a0 N n z) y := by kernel_rfl
    have e : (fun z => spec_validOns.a0 N n z) = spec_validOns.L0 N n := funext fun z => spec_validOns.r0 N n z
    rw [h]
    try rw [e]
    first | done | rfl
theorem spec_validOns.run (N : Nat) (x : (List (ImplOn)) × Int × Unit) : runF cx (look (spec_validOns.phis N)) spec_validOns.A N (bodyOf Try.f72) Try.f72.results.toList spec_validOns.sg x = spec_validOns N x.1 x.2.1 := by
  have h : runF cx (look (spec_validOns.phis N)) spec_validOns.A N (bodyOf Try.f72) Try.f72.results.toList spec_validOns.sg x = spec_validOns.B N (fun z => spec_validOns.a0 N N z) x.1 x.2.1 := by kernel_rfl
  have e0 : (fun z => spec_validOns.a0 N N z) = spec_validOns.L0 N N := funext fun z => spec_validOns.r0 N N z
  rw [h, e0]
  try rfl
noncomputable def spec_validOns.sm (N : Nat) : Sm D := (⟨spec_validOns.sg, fun (x : (List (ImplOn)) × Int × Unit) => spec_validOns N x.1 x.2.1⟩ : Sm D)
theorem spec_validOns.sound (N : Nat) : Sound cx Try.prog gam 72 (spec_validOns.sm N) := fn_sound (A := spec_validOns.A) (Φ := (look (spec_validOns.phis N))) pok (G := gam) (ΦOk.cons (spec_inRange.sound N) (fnOk_of (f := 24) (by kernel_rfl)) ΦOk.nil) mixed N Try.func72 (c := (bodyOf Try.f72)) (by kernel_rfl) spec_validOns.sg (by kernel_rfl) (by kernel_rfl) (by kernel_rfl) (spec_validOns.run N)

@[reducible] def spec_validHead.sg : Sg := { ms := [{ k := (.sl (.st 50)), fl := [none] }, { k := (.int .i64) }, { k := (.st 48) }], keep := [false, false, false], rs := [{ k := .bool }] }
noncomputable def spec_validHead.A : Ann := { dp := fun d => isIn [] d, lp := look [], jn := look [], pins := [], nt := 111 }
noncomputable def spec_validHead.phis (N : Nat) : List (Nat × Sm D) := [(24, spec_inRange.sm N), (71, spec_validNames.sm N), (72, spec_validOns.sm N)]
theorem spec_validHead.run (N : Nat) (x : (List (ImplComp)) × Int × ImplTmpl × Unit) : runF cx (look (spec_validHead.phis N)) spec_validHead.A N (bodyOf Try.f48) Try.f48.results.toList spec_validHead.sg x = spec_validHead N x.1 x.2.1 x.2.2.1 := by
  have h : runF cx (look (spec_validHead.phis N)) spec_validHead.A N (bodyOf Try.f48) Try.f48.results.toList spec_validHead.sg x = spec_validHead.B N x.1 x.2.1 x.2.2.1 := by kernel_rfl
  rw [h]
  try rfl
noncomputable def spec_validHead.sm (N : Nat) : Sm D := (⟨spec_validHead.sg, fun (x : (List (ImplComp)) × Int × ImplTmpl × Unit) => spec_validHead N x.1 x.2.1 x.2.2.1⟩ : Sm D)
theorem spec_validHead.sound (N : Nat) : Sound cx Try.prog gam 48 (spec_validHead.sm N) := fn_sound (A := spec_validHead.A) (Φ := (look (spec_validHead.phis N))) pok (G := gam) (ΦOk.cons (spec_inRange.sound N) (fnOk_of (f := 24) (by kernel_rfl)) (ΦOk.cons (spec_validNames.sound N) (fnOk_of (f := 71) (by kernel_rfl)) (ΦOk.cons (spec_validOns.sound N) (fnOk_of (f := 72) (by kernel_rfl)) ΦOk.nil))) mixed N Try.func48 (c := (bodyOf Try.f48)) (by kernel_rfl) spec_validHead.sg (by kernel_rfl) (by kernel_rfl) (by kernel_rfl) (spec_validHead.run N)

@[reducible] def spec_validForms.sg : Sg := { ms := [{ k := (.sl (.sl (.st 116))), fl := [none] }, { k := (.int .i64) }, { k := (.int .i64) }, { k := (.int .i64) }], keep := [false, false, false, false], rs := [{ k := .bool }] }
@[reducible] def spec_validForms.lvL0 : Lv := { id := 0, slots := [0, 1, 2, 3, 9], ms := [{ k := (.sl (.sl (.st 116))), fl := [none] }, { k := (.int .i64) }, { k := (.int .i64) }, { k := (.int .i64) }, { k := (.int .i64) }] }
noncomputable def spec_validForms.A : Ann := { dp := fun d => isIn [] d, lp := look [(0, spec_validForms.lvL0)], jn := look [], pins := [], nt := 25 }
noncomputable def spec_validForms.phis (N : Nat) : List (Nat × Sm D) := [(46, spec_validForm.sm N)]
noncomputable def spec_validForms.a0 (N : Nat) (n : Nat) (y : (List (List (ImplStep))) × Int × Int × Int × Int × Unit) : Option (Bool × Unit) := loopAt cx (look (spec_validForms.phis N)) spec_validForms.A N n (encL cx spec_validForms.lvL0.ms y).1 (encL cx spec_validForms.lvL0.ms y).2 (bodyOf Try.f49) 0 (Kfin cx spec_validForms.A spec_validForms.sg Try.f49.results.toList) [1, 0, 1, 1] []
theorem spec_validForms.r0 (N : Nat) : ∀ (n : Nat) (y : (List (List (ImplStep))) × Int × Int × Int × Int × Unit), spec_validForms.a0 N n y = spec_validForms.L0 N n y
  | 0, y => by kernel_rfl
  | n + 1, y => by
    have h : spec_validForms.a0 N (n + 1) y = spec_validForms.B0 N (fun z => spec_validForms.a0 N n z) y := by kernel_rfl
    have e : (fun z => spec_validForms.a0 N n z) = spec_validForms.L0 N n := funext fun z => spec_validForms.r0 N n z
    rw [h]
    try rw [e]
    first | done | rfl
theorem spec_validForms.run (N : Nat) (x : (List (List (ImplStep))) × Int × Int × Int × Unit) : runF cx (look (spec_validForms.phis N)) spec_validForms.A N (bodyOf Try.f49) Try.f49.results.toList spec_validForms.sg x = spec_validForms N x.1 x.2.1 x.2.2.1 x.2.2.2.1 := by
  have h : runF cx (look (spec_validForms.phis N)) spec_validForms.A N (bodyOf Try.f49) Try.f49.results.toList spec_validForms.sg x = spec_validForms.B N (fun z => spec_validForms.a0 N N z) x.1 x.2.1 x.2.2.1 x.2.2.2.1 := by kernel_rfl
  have e0 : (fun z => spec_validForms.a0 N N z) = spec_validForms.L0 N N := funext fun z => spec_validForms.r0 N N z
  rw [h, e0]
  try rfl
noncomputable def spec_validForms.sm (N : Nat) : Sm D := (⟨spec_validForms.sg, fun (x : (List (List (ImplStep))) × Int × Int × Int × Unit) => spec_validForms N x.1 x.2.1 x.2.2.1 x.2.2.2.1⟩ : Sm D)
theorem spec_validForms.sound (N : Nat) : Sound cx Try.prog gam 49 (spec_validForms.sm N) := fn_sound (A := spec_validForms.A) (Φ := (look (spec_validForms.phis N))) pok (G := gam) (ΦOk.cons (spec_validForm.sound N) (fnOk_of (f := 46) (by kernel_rfl)) ΦOk.nil) mixed N Try.func49 (c := (bodyOf Try.f49)) (by kernel_rfl) spec_validForms.sg (by kernel_rfl) (by kernel_rfl) (by kernel_rfl) (spec_validForms.run N)

end
end Go.Ev
