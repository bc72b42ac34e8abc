/- Each function that the law reaches does what its plain form says; no condition beyond the table of the library. -/
import Derived.Test.YtmaghpkolkkncaaEvT1
set_option linter.all false
set_option linter.unusedVariables false
set_option linter.unusedSimpArgs false
set_option maxRecDepth 100000
set_option maxHeartbeats 0
namespace Go.Ev
noncomputable section
open Go.Proofs
@[reducible] def spec_validTmpl.sg : Sg := { ms := [{ k := (.sl (.st 50)), fl := [none] }, { k := (.int .i64) }, { k := (.st 48) }, { k := (.int .i64) }, { k := (.int .i64) }], keep := [false, false, false, false, false], rs := [{ k := .bool }] }
@[reducible] def spec_validTmpl.lvL0 : Lv := { id := 0, slots := [0, 1, 3, 4, 7, 14], ms := [{ k := (.sl (.st 50)), fl := [none] }, { k := (.int .i64) }, { k := (.int .i64) }, { k := (.int .i64) }, { ptr := true, id := 680, t := 49, k := (.st 48), fl := [none, none, none, none, none, none, none] }, { k := (.int .i64) }] }
@[reducible] def spec_validTmpl.lvJ11 : Lv := { id := 11, slots := [0, 1, 3, 4, 7], ms := [{ k := (.sl (.st 50)), fl := [none] }, { k := (.int .i64) }, { k := (.int .i64) }, { k := (.int .i64) }, { ptr := true, id := 680, t := 49, k := (.st 48), fl := [none, none, none, none, none, none, none] }] }
noncomputable def spec_validTmpl.A : Ann := { dp := fun d => isIn [] d, lp := look [(0, spec_validTmpl.lvL0)], jn := look [(11, spec_validTmpl.lvJ11)], pins := [], nt := 93 }
noncomputable def spec_validTmpl.phis (N : Nat) (d : Nat) : List (Nat × Sm D) := [(47, spec_tmpls.sm N), (48, spec_validHead.sm N), (24, spec_inRange.sm N), (49, spec_validForms.sm N), (46, spec_validForm.sm N), (27, (⟨spec_validTmpl.sg, fun (x : (List (ImplComp)) × Int × ImplTmpl × Int × Int × Unit) => spec_validTmpl.R N d x.1 x.2.1 x.2.2.1 x.2.2.2.1 x.2.2.2.2.1⟩ : Sm D))]
noncomputable def spec_validTmpl.a0 (N : Nat) (d : Nat) (n : Nat) (y : (List (ImplComp)) × Int × Int × Int × ImplTmpl × Int × Unit) : Option (Bool × Unit) := loopAt cx (look (spec_validTmpl.phis N d)) spec_validTmpl.A N n (encL cx spec_validTmpl.lvL0.ms y).1 (encL cx spec_validTmpl.lvL0.ms y).2 (bodyOf Try.f27) 0 (Kfin cx spec_validTmpl.A spec_validTmpl.sg Try.f27.results.toList) [1, 1, 1, 1, 1, 1, 0, 1, 1] []
theorem spec_validTmpl.r0 (N : Nat) (d : Nat) : ∀ (n : Nat) (y : (List (ImplComp)) × Int × Int × Int × ImplTmpl × Int × Unit), spec_validTmpl.a0 N d n y = spec_validTmpl.L0 N (spec_validTmpl.R N d) n y
  | 0, y => by kernel_rfl
  | n + 1, y => by
    have h : spec_validTmpl.a0 N d (n + 1) y = spec_validTmpl.B0 N (spec_validTmpl.R N d) (fun z => spec_validTmpl.a0 N d n z) y := by kernel_rfl
    have e : (fun z => spec_validTmpl.a0 N d n z) = spec_validTmpl.L0 N (spec_validTmpl.R N d) n := funext fun z => spec_validTmpl.r0 N d n z
    rw [h]
    try rw [e]
    first | done | rfl
theorem spec_validTmpl.run (N : Nat) (d : Nat) (x : (List (ImplComp)) × Int × ImplTmpl × Int × Int × Unit) : runF cx (look (spec_validTmpl.phis N d)) spec_validTmpl.A N (bodyOf Try.f27) Try.f27.results.toList spec_validTmpl.sg x = spec_validTmpl.R N (d + 1) x.1 x.2.1 x.2.2.1 x.2.2.2.1 x.2.2.2.2.1 := by
  have h : runF cx (look (spec_validTmpl.phis N d)) spec_validTmpl.A N (bodyOf Try.f27) Try.f27.results.toList spec_validTmpl.sg x = spec_validTmpl.B N (spec_validTmpl.R N d) (fun z => spec_validTmpl.a0 N d N z) x.1 x.2.1 x.2.2.1 x.2.2.2.1 x.2.2.2.2.1 := by kernel_rfl
  have e0 : (fun z => spec_validTmpl.a0 N d N z) = spec_validTmpl.L0 N (spec_validTmpl.R N d) N := funext fun z => spec_validTmpl.r0 N d N z
  rw [h, e0]
  try rfl
theorem spec_validTmpl.step (N : Nat) (d : Nat) (h_spec_validTmpl : Sound cx Try.prog gam 27 (⟨spec_validTmpl.sg, fun (x : (List (ImplComp)) × Int × ImplTmpl × Int × Int × Unit) => spec_validTmpl.R N d x.1 x.2.1 x.2.2.1 x.2.2.2.1 x.2.2.2.2.1⟩ : Sm D)) : Sound cx Try.prog gam 27 (⟨spec_validTmpl.sg, fun (x : (List (ImplComp)) × Int × ImplTmpl × Int × Int × Unit) => spec_validTmpl.R N (d + 1) x.1 x.2.1 x.2.2.1 x.2.2.2.1 x.2.2.2.2.1⟩ : Sm D) := fn_sound (A := spec_validTmpl.A) (Φ := (look (spec_validTmpl.phis N d))) pok (G := gam) (ΦOk.cons (spec_tmpls.sound N) (fnOk_of (f := 47) (by kernel_rfl)) (ΦOk.cons (spec_validHead.sound N) (fnOk_of (f := 48) (by kernel_rfl)) (ΦOk.cons (spec_inRange.sound N) (fnOk_of (f := 24) (by kernel_rfl)) (ΦOk.cons (spec_validForms.sound N) (fnOk_of (f := 49) (by kernel_rfl)) (ΦOk.cons (spec_validForm.sound N) (fnOk_of (f := 46) (by kernel_rfl)) (ΦOk.cons h_spec_validTmpl (fnOk_of (f := 27) (by kernel_rfl)) ΦOk.nil)))))) mixed N Try.func27 (c := (bodyOf Try.f27)) (by kernel_rfl) spec_validTmpl.sg (by kernel_rfl) (by kernel_rfl) (by kernel_rfl) (spec_validTmpl.run N d)

theorem spec_validTmpl.scc (N : Nat) : ∀ d, Sound cx Try.prog gam 27 (⟨spec_validTmpl.sg, fun (x : (List (ImplComp)) × Int × ImplTmpl × Int × Int × Unit) => spec_validTmpl.R N d x.1 x.2.1 x.2.2.1 x.2.2.2.1 x.2.2.2.2.1⟩ : Sm D)
  | 0 => none_sound 27 spec_validTmpl.sg
  | d + 1 => by
    have ih := spec_validTmpl.scc N d
    exact spec_validTmpl.step N d ih
noncomputable def spec_validTmpl.sm (N : Nat) : Sm D := (⟨spec_validTmpl.sg, fun (x : (List (ImplComp)) × Int × ImplTmpl × Int × Int × Unit) => spec_validTmpl.R N N x.1 x.2.1 x.2.2.1 x.2.2.2.1 x.2.2.2.2.1⟩ : Sm D)
theorem spec_validTmpl.sound (N : Nat) : Sound cx Try.prog gam 27 (spec_validTmpl.sm N) := (spec_validTmpl.scc N N)
@[reducible] def spec_sizeOf.sg : Sg := { ms := [{ k := (.st 48) }, { k := (.sl (.int .i64)), fl := [none] }], keep := [false, false], rs := [{ k := (.int .i64) }] }
@[reducible] def spec_sizeOf.lvL0 : Lv := { id := 0, slots := [1, 2, 5, 6], ms := [{ k := (.sl (.int .i64)), fl := [none] }, { ptr := true, id := 620, t := 49, k := (.st 48), fl := [none, none, none, none, none, none, none] }, { k := (.int .i64) }, { k := (.int .i64) }] }
noncomputable def spec_sizeOf.A : Ann := { dp := fun d => isIn [] d, lp := look [(0, spec_sizeOf.lvL0)], jn := look [], pins := [], nt := 50 }
noncomputable def spec_sizeOf.phis (N : Nat) (d : Nat) : List (Nat × Sm D) := [(37, (⟨spec_sizeOf.sg, fun (x : ImplTmpl × (List (Int)) × Unit) => spec_sizeOf.R N d x.1 x.2.1⟩ : Sm D)), (24, spec_inRange.sm N)]
noncomputable def spec_sizeOf.a0 (N : Nat) (d : Nat) (n : Nat) (y : (List (Int)) × ImplTmpl × Int × Int × Unit) : Option (Int × Unit) := loopAt cx (look (spec_sizeOf.phis N d)) spec_sizeOf.A N n (encL cx spec_sizeOf.lvL0.ms y).1 (encL cx spec_sizeOf.lvL0.ms y).2 (bodyOf Try.f37) 0 (Kfin cx spec_sizeOf.A spec_sizeOf.sg Try.f37.results.toList) [1, 1, 0, 1, 1] []
theorem spec_sizeOf.r0 (N : Nat) (d : Nat) : ∀ (n : Nat) (y : (List (Int)) × ImplTmpl × Int × Int × Unit), spec_sizeOf.a0 N d n y = spec_sizeOf.L0 N (spec_sizeOf.R N d) n y
  | 0, y => by kernel_rfl
  | n + 1, y => by
    have h : spec_sizeOf.a0 N d (n + 1) y = spec_sizeOf.B0 N (spec_sizeOf.R N d) (fun z => spec_sizeOf.a0 N d n z) y := by kernel_rfl
    have e : (fun z => spec_sizeOf.a0 N d n z) = spec_sizeOf.L0 N (spec_sizeOf.R N d) n := funext fun z => spec_sizeOf.r0 N d n z
    rw [h]
    try rw [e]
    first | done | rfl
theorem spec_sizeOf.run (N : Nat) (d : Nat) (x : ImplTmpl × (List (Int)) × Unit) : runF cx (look (spec_sizeOf.phis N d)) spec_sizeOf.A N (bodyOf Try.f37) Try.f37.results.toList spec_sizeOf.sg x = spec_sizeOf.R N (d + 1) x.1 x.2.1 := by
  have h : runF cx (look (spec_sizeOf.phis N d)) spec_sizeOf.A N (bodyOf Try.f37) Try.f37.results.toList spec_sizeOf.sg x = spec_sizeOf.B N (spec_sizeOf.R N d) (fun z => spec_sizeOf.a0 N d N z) x.1 x.2.1 := by kernel_rfl
  have e0 : (fun z => spec_sizeOf.a0 N d N z) = spec_sizeOf.L0 N (spec_sizeOf.R N d) N := funext fun z => spec_sizeOf.r0 N d N z
  rw [h, e0]
  try rfl
theorem spec_sizeOf.step (N : Nat) (d : Nat) (h_spec_sizeOf : Sound cx Try.prog gam 37 (⟨spec_sizeOf.sg, fun (x : ImplTmpl × (List (Int)) × Unit) => spec_sizeOf.R N d x.1 x.2.1⟩ : Sm D)) : Sound cx Try.prog gam 37 (⟨spec_sizeOf.sg, fun (x : ImplTmpl × (List (Int)) × Unit) => spec_sizeOf.R N (d + 1) x.1 x.2.1⟩ : Sm D) := fn_sound (A := spec_sizeOf.A) (Φ := (look (spec_sizeOf.phis N d))) pok (G := gam) (ΦOk.cons h_spec_sizeOf (fnOk_of (f := 37) (by kernel_rfl)) (ΦOk.cons (spec_inRange.sound N) (fnOk_of (f := 24) (by kernel_rfl)) ΦOk.nil)) mixed N Try.func37 (c := (bodyOf Try.f37)) (by kernel_rfl) spec_sizeOf.sg (by kernel_rfl) (by kernel_rfl) (by kernel_rfl) (spec_sizeOf.run N d)

theorem spec_sizeOf.scc (N : Nat) : ∀ d, Sound cx Try.prog gam 37 (⟨spec_sizeOf.sg, fun (x : ImplTmpl × (List (Int)) × Unit) => spec_sizeOf.R N d x.1 x.2.1⟩ : Sm D)
  | 0 => none_sound 37 spec_sizeOf.sg
  | d + 1 => by
    have ih := spec_sizeOf.scc N d
    exact spec_sizeOf.step N d ih
noncomputable def spec_sizeOf.sm (N : Nat) : Sm D := (⟨spec_sizeOf.sg, fun (x : ImplTmpl × (List (Int)) × Unit) => spec_sizeOf.R N N x.1 x.2.1⟩ : Sm D)
theorem spec_sizeOf.sound (N : Nat) : Sound cx Try.prog gam 37 (spec_sizeOf.sm N) := (spec_sizeOf.scc N N)
@[reducible] def spec_sizes.sg : Sg := { ms := [{ k := (.sl (.st 50)), fl := [none] }], keep := [false], rs := [{ k := (.sl (.int .i64)), fl := [none] }], hold := true }
@[reducible] def spec_sizes.lvL0 : Lv := { id := 0, slots := [0, 3, 4], ms := [{ k := (.sl (.st 50)), fl := [none] }, { k := (.sl (.int .i64)), fl := [some (false, 620)] }, { k := (.int .i64) }] }
noncomputable def spec_sizes.A : Ann := { dp := fun d => isIn [] d, lp := look [(0, spec_sizes.lvL0)], jn := look [], pins := [], nt := 26 }
noncomputable def spec_sizes.phis (N : Nat) : List (Nat × Sm D) := [(37, spec_sizeOf.sm N)]
noncomputable def spec_sizes.a0 (N : Nat) (n : Nat) (y : (List (ImplComp)) × (List (Int)) × Int × Unit) : Option ((List (Int)) × Unit) := loopAt cx (look (spec_sizes.phis N)) spec_sizes.A N n (encL cx spec_sizes.lvL0.ms y).1 (encL cx spec_sizes.lvL0.ms y).2 (bodyOf Try.f20) 0 (Kfin cx spec_sizes.A spec_sizes.sg Try.f20.results.toList) [1, 1, 0, 1, 1] []
theorem spec_sizes.r0 (N : Nat) : ∀ (n : Nat) (y : (List (ImplComp)) × (List (Int)) × Int × Unit), spec_sizes.a0 N n y = spec_sizes.L0 N n y
  | 0, y => by kernel_rfl
  | n + 1, y => by
    have h : spec_sizes.a0 N (n + 1) y = spec_sizes.B0 N (fun z => spec_sizes.a0 N n z) y := by kernel_rfl
    have e : (fun z => spec_sizes.a0 N n z) = spec_sizes.L0 N n := funext fun z => spec_sizes.r0 N n z
    rw [h]
    try rw [e]
    first | done | rfl
theorem spec_sizes.run (N : Nat) (x : (List (ImplComp)) × Unit) : runF cx (look (spec_sizes.phis N)) spec_sizes.A N (bodyOf Try.f20) Try.f20.results.toList spec_sizes.sg x = spec_sizes N x.1 := by
  have h : runF cx (look (spec_sizes.phis N)) spec_sizes.A N (bodyOf Try.f20) Try.f20.results.toList spec_sizes.sg x = spec_sizes.B N (fun z => spec_sizes.a0 N N z) x.1 := by kernel_rfl
  have e0 : (fun z => spec_sizes.a0 N N z) = spec_sizes.L0 N N := funext fun z => spec_sizes.r0 N N z
  rw [h, e0]
  try rfl
noncomputable def spec_sizes.sm (N : Nat) : Sm D := (⟨spec_sizes.sg, fun (x : (List (ImplComp)) × Unit) => spec_sizes N x.1⟩ : Sm D)
theorem spec_sizes.sound (N : Nat) : Sound cx Try.prog gam 20 (spec_sizes.sm N) := fn_sound (A := spec_sizes.A) (Φ := (look (spec_sizes.phis N))) pok (G := gam) (ΦOk.cons (spec_sizeOf.sound N) (fnOk_of (f := 37) (by kernel_rfl)) ΦOk.nil) mixed N Try.func20 (c := (bodyOf Try.f20)) (by kernel_rfl) spec_sizes.sg (by kernel_rfl) (by kernel_rfl) (by kernel_rfl) (spec_sizes.run N)

@[reducible] def spec_validProg.sg : Sg := { ms := [{ k := (.sl (.st 50)), fl := [none] }], keep := [false], rs := [{ k := .bool }] }
@[reducible] def spec_validProg.lvL2 : Lv := { id := 2, slots := [0, 5], ms := [{ k := (.sl (.st 50)), fl := [none] }, { k := (.int .i64) }] }
@[reducible] def spec_validProg.lvL0 : Lv := { id := 0, slots := [0, 3], ms := [{ k := (.sl (.st 50)), fl := [none] }, { k := (.int .i64) }] }
noncomputable def spec_validProg.A : Ann := { dp := fun d => isIn [] d, lp := look [(2, spec_validProg.lvL2), (0, spec_validProg.lvL0)], jn := look [], pins := [], nt := 71 }
noncomputable def spec_validProg.phis (N : Nat) : List (Nat × Sm D) := [(24, spec_inRange.sm N), (25, spec_validValues.sm N), (26, spec_validActs.sm N), (27, spec_validTmpl.sm N), (20, spec_sizes.sm N)]
noncomputable def spec_validProg.a2 (N : Nat) (n : Nat) (y : (List (ImplComp)) × Int × Unit) : Option (Bool × Unit) := loopAt cx (look (spec_validProg.phis N)) spec_validProg.A N n (encL cx spec_validProg.lvL2.ms y).1 (encL cx spec_validProg.lvL2.ms y).2 (bodyOf Try.f13) 0 (Kfin cx spec_validProg.A spec_validProg.sg Try.f13.results.toList) [1, 1, 1, 0, 1, 1] []
noncomputable def spec_validProg.a0 (N : Nat) (n : Nat) (y : (List (ImplComp)) × Int × Unit) : Option (Bool × Unit) := loopAt cx (look (spec_validProg.phis N)) spec_validProg.A N n (encL cx spec_validProg.lvL0.ms y).1 (encL cx spec_validProg.lvL0.ms y).2 (bodyOf Try.f13) 0 (Kfin cx spec_validProg.A spec_validProg.sg Try.f13.results.toList) [1, 1, 0, 1, 1] []
theorem spec_validProg.r2 (N : Nat) : ∀ (n : Nat) (y : (List (ImplComp)) × Int × Unit), spec_validProg.a2 N n y = spec_validProg.L2 N n y
  | 0, y => by kernel_rfl
  | n + 1, y => by
    have h : spec_validProg.a2 N (n + 1) y = spec_validProg.B2 N (fun z => spec_validProg.a2 N n z) y := by kernel_rfl
    have e : (fun z => spec_validProg.a2 N n z) = spec_validProg.L2 N n := funext fun z => spec_validProg.r2 N n z
    rw [h]
    try rw [e]
    first | done | rfl
theorem spec_validProg.r0 (N : Nat) : ∀ (n : Nat) (y : (List (ImplComp)) × Int × Unit), spec_validProg.a0 N n y = spec_validProg.L0 N n y
  | 0, y => by kernel_rfl
  | n + 1, y => by
    have h : spec_validProg.a0 N (n + 1) y = spec_validProg.B0 N (fun z => spec_validProg.a0 N n z) (fun z => spec_validProg.a2 N N z) y := by kernel_rfl
    have e : (fun z => spec_validProg.a0 N n z) = spec_validProg.L0 N n := funext fun z => spec_validProg.r0 N n z
    have e2 : (fun z => spec_validProg.a2 N N z) = spec_validProg.L2 N N := funext fun z => spec_validProg.r2 N N z
    rw [h, e2]
    try rw [e]
    first | done | rfl
theorem spec_validProg.run (N : Nat) (x : (List (ImplComp)) × Unit) : runF cx (look (spec_validProg.phis N)) spec_validProg.A N (bodyOf Try.f13) Try.f13.results.toList spec_validProg.sg x = spec_validProg N x.1 := by
  have h : runF cx (look (spec_validProg.phis N)) spec_validProg.A N (bodyOf Try.f13) Try.f13.results.toList spec_validProg.sg x = spec_validProg.B N (fun z => spec_validProg.a0 N N z) x.1 := by kernel_rfl
  have e0 : (fun z => spec_validProg.a0 N N z) = spec_validProg.L0 N N := funext fun z => spec_validProg.r0 N N z
  rw [h, e0]
  try rfl
noncomputable def spec_validProg.sm (N : Nat) : Sm D := (⟨spec_validProg.sg, fun (x : (List (ImplComp)) × Unit) => spec_validProg N x.1⟩ : Sm D)
theorem spec_validProg.sound (N : Nat) : Sound cx Try.prog gam 13 (spec_validProg.sm N) := fn_sound (A := spec_validProg.A) (Φ := (look (spec_validProg.phis N))) pok (G := gam) (ΦOk.cons (spec_inRange.sound N) (fnOk_of (f := 24) (by kernel_rfl)) (ΦOk.cons (spec_validValues.sound N) (fnOk_of (f := 25) (by kernel_rfl)) (ΦOk.cons (spec_validActs.sound N) (fnOk_of (f := 26) (by kernel_rfl)) (ΦOk.cons (spec_validTmpl.sound N) (fnOk_of (f := 27) (by kernel_rfl)) (ΦOk.cons (spec_sizes.sound N) (fnOk_of (f := 20) (by kernel_rfl)) ΦOk.nil))))) mixed N Try.func13 (c := (bodyOf Try.f13)) (by kernel_rfl) spec_validProg.sg (by kernel_rfl) (by kernel_rfl) (by kernel_rfl) (spec_validProg.run N)

@[reducible] def spec_ProgOk.sg : Sg := { ms := [{ k := (.sl (.st 50)), fl := [none] }], keep := [false], rs := [{ k := .bool }] }
noncomputable def spec_ProgOk.A : Ann := { dp := fun d => isIn [] d, lp := look [], jn := look [], pins := [], nt := 5 }
noncomputable def spec_ProgOk.phis (N : Nat) : List (Nat × Sm D) := [(13, spec_validProg.sm N)]
theorem spec_ProgOk.run (N : Nat) (x : (List (ImplComp)) × Unit) : runF cx (look (spec_ProgOk.phis N)) spec_ProgOk.A N (bodyOf Try.f6) Try.f6.results.toList spec_ProgOk.sg x = spec_ProgOk N x.1 := by
  have h : runF cx (look (spec_ProgOk.phis N)) spec_ProgOk.A N (bodyOf Try.f6) Try.f6.results.toList spec_ProgOk.sg x = spec_ProgOk.B N x.1 := by kernel_rfl
  rw [h]
  try rfl
noncomputable def spec_ProgOk.sm (N : Nat) : Sm D := (⟨spec_ProgOk.sg, fun (x : (List (ImplComp)) × Unit) => spec_ProgOk N x.1⟩ : Sm D)
theorem spec_ProgOk.sound (N : Nat) : Sound cx Try.prog gam 6 (spec_ProgOk.sm N) := fn_sound (A := spec_ProgOk.A) (Φ := (look (spec_ProgOk.phis N))) pok (G := gam) (ΦOk.cons (spec_validProg.sound N) (fnOk_of (f := 13) (by kernel_rfl)) ΦOk.nil) mixed N Try.func6 (c := (bodyOf Try.f6)) (by kernel_rfl) spec_ProgOk.sg (by kernel_rfl) (by kernel_rfl) (by kernel_rfl) (spec_ProgOk.run N)

@[reducible] def impl_within.sg : Sg := { ms := [{ k := (.int .i64) }, { k := (.int .i64) }, { k := (.int .i64) }], keep := [false, false, false], rs := [{ k := .bool }] }
noncomputable def impl_within.A : Ann := { dp := fun d => isIn [] d, lp := look [], jn := look [], pins := [], nt := 15 }
noncomputable def impl_within.phis (N : Nat) : List (Nat × Sm D) := []
theorem impl_within.run (N : Nat) (x : Int × Int × Int × Unit) : runF cx (look (impl_within.phis N)) impl_within.A N (bodyOf Try.f15) Try.f15.results.toList impl_within.sg x = impl_within N x.1 x.2.1 x.2.2.1 := by
  have h : runF cx (look (impl_within.phis N)) impl_within.A N (bodyOf Try.f15) Try.f15.results.toList impl_within.sg x = impl_within.B N x.1 x.2.1 x.2.2.1 := by kernel_rfl
  rw [h]
  try rfl
noncomputable def impl_within.sm (N : Nat) : Sm D := (⟨impl_within.sg, fun (x : Int × Int × Int × Unit) => impl_within N x.1 x.2.1 x.2.2.1⟩ : Sm D)
theorem impl_within.sound (N : Nat) : Sound cx Try.prog gam 15 (impl_within.sm N) := fn_sound (A := impl_within.A) (Φ := (look (impl_within.phis N))) pok (G := gam) ΦOk.nil mixed N Try.func15 (c := (bodyOf Try.f15)) (by kernel_rfl) impl_within.sg (by kernel_rfl) (by kernel_rfl) (by kernel_rfl) (impl_within.run N)

@[reducible] def impl_word.sg : Sg := { ms := [{ k := .str }], keep := [false], rs := [{ k := .bool }] }
@[reducible] def impl_word.lvL0 : Lv := { id := 0, slots := [0, 3], ms := [{ k := .str }, { k := (.int .i64) }] }
noncomputable def impl_word.A : Ann := { dp := fun d => isIn [] d, lp := look [(0, impl_word.lvL0)], jn := look [], pins := [], nt := 36 }
noncomputable def impl_word.phis (N : Nat) : List (Nat × Sm D) := []
noncomputable def impl_word.a0 (N : Nat) (n : Nat) (y : (List UInt8) × Int × Unit) : Option (Bool × Unit) := loopAt cx (look (impl_word.phis N)) impl_word.A N n (encL cx impl_word.lvL0.ms y).1 (encL cx impl_word.lvL0.ms y).2 (bodyOf Try.f76) 0 (Kfin cx impl_word.A impl_word.sg Try.f76.results.toList) [1, 0, 1, 1] []
theorem impl_word.r0 (N : Nat) : ∀ (n : Nat) (y : (List UInt8) × Int × Unit), impl_word.a0 N n y = impl_word.L0 N n y
  | 0, y => by kernel_rfl
  | n + 1, y => by
    have h : impl_word.a0 N (n + 1) y = impl_word.B0 N (fun z => impl_word.a0 N n z) y := by kernel_rfl
    have e : (fun z => impl_word.a0 N n z) = impl_word.L0 N n := funext fun z => impl_word.r0 N n z
    rw [h]
    try rw [e]
    first | done | rfl
theorem impl_word.run (N : Nat) (x : (List UInt8) × Unit) : runF cx (look (impl_word.phis N)) impl_word.A N (bodyOf Try.f76) Try.f76.results.toList impl_word.sg x = impl_word N x.1 := by
  have h : runF cx (look (impl_word.phis N)) impl_word.A N (bodyOf Try.f76) Try.f76.results.toList impl_word.sg x = impl_word.B N (fun z => impl_word.a0 N N z) x.1 := by kernel_rfl
  have e0 : (fun z => impl_word.a0 N N z) = impl_word.L0 N N := funext fun z => impl_word.r0 N N z
  rw [h, e0]
  try rfl
noncomputable def impl_word.sm (N : Nat) : Sm D := (⟨impl_word.sg, fun (x : (List UInt8) × Unit) => impl_word N x.1⟩ : Sm D)
theorem impl_word.sound (N : Nat) : Sound cx Try.prog gam 76 (impl_word.sm N) := fn_sound (A := impl_word.A) (Φ := (look (impl_word.phis N))) pok (G := gam) ΦOk.nil mixed N Try.func76 (c := (bodyOf Try.f76)) (by kernel_rfl) impl_word.sg (by kernel_rfl) (by kernel_rfl) (by kernel_rfl) (impl_word.run N)

@[reducible] def impl_ValOk.sg : Sg := { ms := [{ k := (.st 79) }], keep := [false], rs := [{ k := .bool }] }
noncomputable def impl_ValOk.A : Ann := { dp := fun d => isIn [] d, lp := look [], jn := look [], pins := [], nt := 35 }
noncomputable def impl_ValOk.phis (N : Nat) : List (Nat × Sm D) := [(15, impl_within.sm N), (76, impl_word.sm N)]
theorem impl_ValOk.run (N : Nat) (x : ImplValue × Unit) : runF cx (look (impl_ValOk.phis N)) impl_ValOk.A N (bodyOf Try.f57) Try.f57.results.toList impl_ValOk.sg x = impl_ValOk N x.1 := by
  have h : runF cx (look (impl_ValOk.phis N)) impl_ValOk.A N (bodyOf Try.f57) Try.f57.results.toList impl_ValOk.sg x = impl_ValOk.B N x.1 := by kernel_rfl
  rw [h]
  try rfl
noncomputable def impl_ValOk.sm (N : Nat) : Sm D := (⟨impl_ValOk.sg, fun (x : ImplValue × Unit) => impl_ValOk N x.1⟩ : Sm D)
theorem impl_ValOk.sound (N : Nat) : Sound cx Try.prog gam 57 (impl_ValOk.sm N) := fn_sound (A := impl_ValOk.A) (Φ := (look (impl_ValOk.phis N))) pok (G := gam) (ΦOk.cons (impl_within.sound N) (fnOk_of (f := 15) (by kernel_rfl)) (ΦOk.cons (impl_word.sound N) (fnOk_of (f := 76) (by kernel_rfl)) ΦOk.nil)) mixed N Try.func57 (c := (bodyOf Try.f57)) (by kernel_rfl) impl_ValOk.sg (by kernel_rfl) (by kernel_rfl) (by kernel_rfl) (impl_ValOk.run N)

@[reducible] def impl_valsOk.sg : Sg := { ms := [{ k := (.sl (.st 79)), fl := [none] }], keep := [false], rs := [{ k := .bool }] }
@[reducible] def impl_valsOk.lvL0 : Lv := { id := 0, slots := [5, 6, 7], ms := [{ k := (.sl (.st 79)), fl := [none] }, { k := (.int .i64) }, { k := (.int .i64) }] }
noncomputable def impl_valsOk.A : Ann := { dp := fun d => isIn [] d, lp := look [(0, impl_valsOk.lvL0)], jn := look [], pins := [], nt := 15 }
noncomputable def impl_valsOk.phis (N : Nat) : List (Nat × Sm D) := [(57, impl_ValOk.sm N)]
noncomputable def impl_valsOk.a0 (N : Nat) (n : Nat) (y : (List (ImplValue)) × Int × Int × Unit) : Option (Bool × Unit) := loopAt cx (look (impl_valsOk.phis N)) impl_valsOk.A N n (encL cx impl_valsOk.lvL0.ms y).1 (encL cx impl_valsOk.lvL0.ms y).2 (bodyOf Try.f31) 0 (Kfin cx impl_valsOk.A impl_valsOk.sg Try.f31.results.toList) [1, 0, 1, 1] []
theorem impl_valsOk.r0 (N : Nat) : ∀ (n : Nat) (y : (List (ImplValue)) × Int × Int × Unit), impl_valsOk.a0 N n y = impl_valsOk.L0 N n y
  | 0, y => by kernel_rfl
  | n + 1, y => by
    have h : impl_valsOk.a0 N (n + 1) y = impl_valsOk.B0 N (fun z => impl_valsOk.a0 N n z) y := by kernel_rfl
    have e : (fun z => impl_valsOk.a0 N n z) = impl_valsOk.L0 N n := funext fun z => impl_valsOk.r0 N n z
    rw [h]
    try rw [e]
    first | done | rfl
theorem impl_valsOk.run (N : Nat) (x : (List (ImplValue)) × Unit) : runF cx (look (impl_valsOk.phis N)) impl_valsOk.A N (bodyOf Try.f31) Try.f31.results.toList impl_valsOk.sg x = impl_valsOk N x.1 := by
  have h : runF cx (look (impl_valsOk.phis N)) impl_valsOk.A N (bodyOf Try.f31) Try.f31.results.toList impl_valsOk.sg x = impl_valsOk.B N (fun z => impl_valsOk.a0 N N z) x.1 := by kernel_rfl
  have e0 : (fun z => impl_valsOk.a0 N N z) = impl_valsOk.L0 N N := funext fun z => impl_valsOk.r0 N N z
  rw [h, e0]
  try rfl
noncomputable def impl_valsOk.sm (N : Nat) : Sm D := (⟨impl_valsOk.sg, fun (x : (List (ImplValue)) × Unit) => impl_valsOk N x.1⟩ : Sm D)
theorem impl_valsOk.sound (N : Nat) : Sound cx Try.prog gam 31 (impl_valsOk.sm N) := fn_sound (A := impl_valsOk.A) (Φ := (look (impl_valsOk.phis N))) pok (G := gam) (ΦOk.cons (impl_ValOk.sound N) (fnOk_of (f := 57) (by kernel_rfl)) ΦOk.nil) mixed N Try.func31 (c := (bodyOf Try.f31)) (by kernel_rfl) impl_valsOk.sg (by kernel_rfl) (by kernel_rfl) (by kernel_rfl) (impl_valsOk.run N)

@[reducible] def impl_formFits.sg : Sg := { ms := [{ k := (.sl (.st 116)), fl := [none] }, { k := (.int .i64) }, { k := (.int .i64) }, { k := (.int .i64) }], keep := [false, false, false, false], rs := [{ k := .bool }] }
@[reducible] def impl_formFits.lvJ27 : Lv := { id := 27, slots := [0, 1, 2, 3, 9, 12, 13, 14, 15, 16], ms := [{ k := (.sl (.st 116)), fl := [none] }, { k := (.int .i64) }, { k := (.int .i64) }, { k := (.int .i64) }, { k := (.int .i64) }, { k := (.int .i64) }, { k := .bool }, { k := (.sl (.st 116)), fl := [none] }, { k := (.int .i64) }, { k := (.int .i64) }] }
@[reducible] def impl_formFits.lvL0 : Lv := { id := 0, slots := [0, 1, 2, 3, 9, 14, 15, 16], ms := [{ k := (.sl (.st 116)), fl := [none] }, { k := (.int .i64) }, { k := (.int .i64) }, { k := (.int .i64) }, { k := (.int .i64) }, { k := (.sl (.st 116)), fl := [none] }, { k := (.int .i64) }, { k := (.int .i64) }] }
noncomputable def impl_formFits.A : Ann := { dp := fun d => isIn [] d, lp := look [(0, impl_formFits.lvL0)], jn := look [(27, impl_formFits.lvJ27)], pins := [], nt := 96 }
noncomputable def impl_formFits.phis (N : Nat) : List (Nat × Sm D) := [(57, impl_ValOk.sm N), (15, impl_within.sm N)]
noncomputable def impl_formFits.a0 (N : Nat) (n : Nat) (y : (List (ImplStep)) × Int × Int × Int × Int × (List (ImplStep)) × Int × Int × Unit) : Option (Bool × Unit) := loopAt cx (look (impl_formFits.phis N)) impl_formFits.A N n (encL cx impl_formFits.lvL0.ms y).1 (encL cx impl_formFits.lvL0.ms y).2 (bodyOf Try.f58) 0 (Kfin cx impl_formFits.A impl_formFits.sg Try.f58.results.toList) [1, 1, 0, 1, 1] []
theorem impl_formFits.r0 (N : Nat) : ∀ (n : Nat) (y : (List (ImplStep)) × Int × Int × Int × Int × (List (ImplStep)) × Int × Int × Unit), impl_formFits.a0 N n y = impl_formFits.L0 N n y
  | 0, y => by kernel_rfl
  | n + 1, y => by
    have h : impl_formFits.a0 N (n + 1) y = impl_formFits.B0 N (fun z => impl_formFits.a0 N n z) y := by kernel_rfl
    have e : (fun z => impl_formFits.a0 N n z) = impl_formFits.L0 N n := funext fun z => impl_formFits.r0 N n z
    rw [h]
    try rw [e]
    first | done | rfl
theorem impl_formFits.run (N : Nat) (x : (List (ImplStep)) × Int × Int × Int × Unit) : runF cx (look (impl_formFits.phis N)) impl_formFits.A N (bodyOf Try.f58) Try.f58.results.toList impl_formFits.sg x = impl_formFits N x.1 x.2.1 x.2.2.1 x.2.2.2.1 := by
  have h : runF cx (look (impl_formFits.phis N)) impl_formFits.A N (bodyOf Try.f58) Try.f58.results.toList impl_formFits.sg x = impl_formFits.B N (fun z => impl_formFits.a0 N N z) x.1 x.2.1 x.2.2.1 x.2.2.2.1 := by kernel_rfl
  have e0 : (fun z => impl_formFits.a0 N N z) = impl_formFits.L0 N N := funext fun z => impl_formFits.r0 N N z
  rw [h, e0]
  try rfl
noncomputable def impl_formFits.sm (N : Nat) : Sm D := (⟨impl_formFits.sg, fun (x : (List (ImplStep)) × Int × Int × Int × Unit) => impl_formFits N x.1 x.2.1 x.2.2.1 x.2.2.2.1⟩ : Sm D)
theorem impl_formFits.sound (N : Nat) : Sound cx Try.prog gam 58 (impl_formFits.sm N) := fn_sound (A := impl_formFits.A) (Φ := (look (impl_formFits.phis N))) pok (G := gam) (ΦOk.cons (impl_ValOk.sound N) (fnOk_of (f := 57) (by kernel_rfl)) (ΦOk.cons (impl_within.sound N) (fnOk_of (f := 15) (by kernel_rfl)) ΦOk.nil)) mixed N Try.func58 (c := (bodyOf Try.f58)) (by kernel_rfl) impl_formFits.sg (by kernel_rfl) (by kernel_rfl) (by kernel_rfl) (impl_formFits.run N)

@[reducible] def impl_FormOk.sg : Sg := { ms := [{ k := (.sl (.st 116)), fl := [none] }, { k := (.int .i64) }, { k := (.int .i64) }, { k := (.int .i64) }], keep := [false, false, false, false], rs := [{ k := .bool }] }
noncomputable def impl_FormOk.A : Ann := { dp := fun d => isIn [] d, lp := look [], jn := look [], pins := [], nt := 26 }
noncomputable def impl_FormOk.phis (N : Nat) : List (Nat × Sm D) := [(15, impl_within.sm N), (58, impl_formFits.sm N)]
theorem impl_FormOk.run (N : Nat) (x : (List (ImplStep)) × Int × Int × Int × Unit) : runF cx (look (impl_FormOk.phis N)) impl_FormOk.A N (bodyOf Try.f32) Try.f32.results.toList impl_FormOk.sg x = impl_FormOk N x.1 x.2.1 x.2.2.1 x.2.2.2.1 := by
  have h : runF cx (look (impl_FormOk.phis N)) impl_FormOk.A N (bodyOf Try.f32) Try.f32.results.toList impl_FormOk.sg x = impl_FormOk.B N x.1 x.2.1 x.2.2.1 x.2.2.2.1 := by kernel_rfl
  rw [h]
  try rfl
noncomputable def impl_FormOk.sm (N : Nat) : Sm D := (⟨impl_FormOk.sg, fun (x : (List (ImplStep)) × Int × Int × Int × Unit) => impl_FormOk N x.1 x.2.1 x.2.2.1 x.2.2.2.1⟩ : Sm D)
theorem impl_FormOk.sound (N : Nat) : Sound cx Try.prog gam 32 (impl_FormOk.sm N) := fn_sound (A := impl_FormOk.A) (Φ := (look (impl_FormOk.phis N))) pok (G := gam) (ΦOk.cons (impl_within.sound N) (fnOk_of (f := 15) (by kernel_rfl)) (ΦOk.cons (impl_formFits.sound N) (fnOk_of (f := 58) (by kernel_rfl)) ΦOk.nil)) mixed N Try.func32 (c := (bodyOf Try.f32)) (by kernel_rfl) impl_FormOk.sg (by kernel_rfl) (by kernel_rfl) (by kernel_rfl) (impl_FormOk.run N)

@[reducible] def impl_compOk.sg : Sg := { ms := [{ k := (.sl (.st 50)), fl := [none] }, { k := (.int .i64) }], keep := [false, false], rs := [{ k := .bool }] }
@[reducible] def impl_compOk.lvL2 : Lv := { id := 2, slots := [5, 37, 38, 39, 46, 47, 48], ms := [{ ptr := true, id := 600, t := 51, k := (.st 50), fl := [none, none, none, none, none, none, none, none, none, none] }, { k := (.sl (.sl (.st 68))), fl := [none] }, { k := (.int .i64) }, { k := (.int .i64) }, { k := (.sl (.st 68)), fl := [none] }, { k := (.int .i64) }, { k := (.int .i64) }] }
@[reducible] def impl_compOk.lvL0 : Lv := { id := 0, slots := [5, 37, 38, 39], ms := [{ ptr := true, id := 600, t := 51, k := (.st 50), fl := [none, none, none, none, none, none, none, none, none, none] }, { k := (.sl (.sl (.st 68))), fl := [none] }, { k := (.int .i64) }, { k := (.int .i64) }] }
noncomputable def impl_compOk.A : Ann := { dp := fun d => isIn [] d, lp := look [(2, impl_compOk.lvL2), (0, impl_compOk.lvL0)], jn := look [], pins := [], nt := 71 }
noncomputable def impl_compOk.phis (N : Nat) : List (Nat × Sm D) := [(15, impl_within.sm N), (31, impl_valsOk.sm N), (32, impl_FormOk.sm N)]
noncomputable def impl_compOk.a2 (N : Nat) (m0 : Nat) (n : Nat) (y : ImplComp × (List (List (ImplSet))) × Int × Int × (List (ImplSet)) × Int × Int × Unit) : Option (Bool × Unit) := loopAt cx (look (impl_compOk.phis N)) impl_compOk.A N n (encL cx impl_compOk.lvL2.ms y).1 (encL cx impl_compOk.lvL2.ms y).2 (bodyOf Try.f16) 0 (Kfin cx impl_compOk.A impl_compOk.sg Try.f16.results.toList) [1, 1, 1, 0, 1, 1, 1, 1, 1, 0, 1, 1, 1, 1, 1] [m0]
noncomputable def impl_compOk.a0 (N : Nat) (n : Nat) (y : ImplComp × (List (List (ImplSet))) × Int × Int × Unit) : Option (Bool × Unit) := loopAt cx (look (impl_compOk.phis N)) impl_compOk.A N n (encL cx impl_compOk.lvL0.ms y).1 (encL cx impl_compOk.lvL0.ms y).2 (bodyOf Try.f16) 0 (Kfin cx impl_compOk.A impl_compOk.sg Try.f16.results.toList) [1, 1, 1, 0, 1, 1] []
theorem impl_compOk.r2 (N : Nat) (m0 : Nat) : ∀ (n : Nat) (y : ImplComp × (List (List (ImplSet))) × Int × Int × (List (ImplSet)) × Int × Int × Unit), impl_compOk.a2 N m0 n y = impl_compOk.L2 N (fun z => impl_compOk.a0 N m0 z) n y
  | 0, y => by kernel_rfl
  | n + 1, y => by
    have h : impl_compOk.a2 N m0 (n + 1) y = impl_compOk.B2 N (fun z => impl_compOk.a0 N m0 z) (fun z => impl_compOk.a2 N m0 n z) y := by kernel_rfl
    have e : (fun z => impl_compOk.a2 N m0 n z) = impl_compOk.L2 N (fun z => impl_compOk.a0 N m0 z) n := funext fun z => impl_compOk.r2 N m0 n z
    rw [h]
    try rw [e]
    first | done | rfl
theorem impl_compOk.r0 (N : Nat) : ∀ (n : Nat) (y : ImplComp × (List (List (ImplSet))) × Int × Int × Unit), impl_compOk.a0 N n y = impl_compOk.L0 N n y
  | 0, y => by kernel_rfl
  | n + 1, y => by
    have h : impl_compOk.a0 N (n + 1) y = impl_compOk.B0 N (fun z => impl_compOk.a2 N n N z) y := by kernel_rfl
    have e : (fun z => impl_compOk.a0 N n z) = impl_compOk.L0 N n := funext fun z => impl_compOk.r0 N n z
    have e2 : (fun z => impl_compOk.a2 N n N z) = impl_compOk.L2 N (fun z => impl_compOk.a0 N n z) N := funext fun z => impl_compOk.r2 N n N z
    rw [h, e2]
    try rw [e]
    first | done | rfl
theorem impl_compOk.run (N : Nat) (x : (List (ImplComp)) × Int × Unit) : runF cx (look (impl_compOk.phis N)) impl_compOk.A N (bodyOf Try.f16) Try.f16.results.toList impl_compOk.sg x = impl_compOk N x.1 x.2.1 := by
  have h : runF cx (look (impl_compOk.phis N)) impl_compOk.A N (bodyOf Try.f16) Try.f16.results.toList impl_compOk.sg x = impl_compOk.B N (fun z => impl_compOk.a0 N N z) x.1 x.2.1 := by kernel_rfl
  have e0 : (fun z => impl_compOk.a0 N N z) = impl_compOk.L0 N N := funext fun z => impl_compOk.r0 N N z
  rw [h, e0]
  try rfl
noncomputable def impl_compOk.sm (N : Nat) : Sm D := (⟨impl_compOk.sg, fun (x : (List (ImplComp)) × Int × Unit) => impl_compOk N x.1 x.2.1⟩ : Sm D)
theorem impl_compOk.sound (N : Nat) : Sound cx Try.prog gam 16 (impl_compOk.sm N) := fn_sound (A := impl_compOk.A) (Φ := (look (impl_compOk.phis N))) pok (G := gam) (ΦOk.cons (impl_within.sound N) (fnOk_of (f := 15) (by kernel_rfl)) (ΦOk.cons (impl_valsOk.sound N) (fnOk_of (f := 31) (by kernel_rfl)) (ΦOk.cons (impl_FormOk.sound N) (fnOk_of (f := 32) (by kernel_rfl)) ΦOk.nil))) mixed N Try.func16 (c := (bodyOf Try.f16)) (by kernel_rfl) impl_compOk.sg (by kernel_rfl) (by kernel_rfl) (by kernel_rfl) (impl_compOk.run N)

@[reducible] def impl_formsOk.sg : Sg := { ms := [{ k := (.st 50) }, { k := (.sl (.sl (.st 116))), fl := [none] }, { k := (.int .i64) }], keep := [false, false, false], rs := [{ k := .bool }] }
@[reducible] def impl_formsOk.lvL0 : Lv := { id := 0, slots := [2, 3, 9, 10, 11], ms := [{ k := (.int .i64) }, { ptr := true, id := 620, t := 51, k := (.st 50), fl := [none, none, none, none, none, none, none, none, none, none] }, { k := (.sl (.sl (.st 116))), fl := [none] }, { k := (.int .i64) }, { k := (.int .i64) }] }
noncomputable def impl_formsOk.A : Ann := { dp := fun d => isIn [] d, lp := look [(0, impl_formsOk.lvL0)], jn := look [], pins := [], nt := 25 }
noncomputable def impl_formsOk.phis (N : Nat) : List (Nat × Sm D) := [(32, impl_FormOk.sm N)]
noncomputable def impl_formsOk.a0 (N : Nat) (n : Nat) (y : Int × ImplComp × (List (List (ImplStep))) × Int × Int × Unit) : Option (Bool × Unit) := loopAt cx (look (impl_formsOk.phis N)) impl_formsOk.A N n (encL cx impl_formsOk.lvL0.ms y).1 (encL cx impl_formsOk.lvL0.ms y).2 (bodyOf Try.f33) 0 (Kfin cx impl_formsOk.A impl_formsOk.sg Try.f33.results.toList) [1, 0, 1, 1] []
theorem impl_formsOk.r0 (N : Nat) : ∀ (n : Nat) (y : Int × ImplComp × (List (List (ImplStep))) × Int × Int × Unit), impl_formsOk.a0 N n y = impl_formsOk.L0 N n y
  | 0, y => by kernel_rfl
  | n + 1, y => by
    have h : impl_formsOk.a0 N (n + 1) y = impl_formsOk.B0 N (fun z => impl_formsOk.a0 N n z) y := by kernel_rfl
    have e : (fun z => impl_formsOk.a0 N n z) = impl_formsOk.L0 N n := funext fun z => impl_formsOk.r0 N n z
    rw [h]
    try rw [e]
    first | done | rfl
theorem impl_formsOk.run (N : Nat) (x : ImplComp × (List (List (ImplStep))) × Int × Unit) : runF cx (look (impl_formsOk.phis N)) impl_formsOk.A N (bodyOf Try.f33) Try.f33.results.toList impl_formsOk.sg x = impl_formsOk N x.1 x.2.1 x.2.2.1 := by
  have h : runF cx (look (impl_formsOk.phis N)) impl_formsOk.A N (bodyOf Try.f33) Try.f33.results.toList impl_formsOk.sg x = impl_formsOk.B N (fun z => impl_formsOk.a0 N N z) x.1 x.2.1 x.2.2.1 := by kernel_rfl
  have e0 : (fun z => impl_formsOk.a0 N N z) = impl_formsOk.L0 N N := funext fun z => impl_formsOk.r0 N N z
  rw [h, e0]
  try rfl
noncomputable def impl_formsOk.sm (N : Nat) : Sm D := (⟨impl_formsOk.sg, fun (x : ImplComp × (List (List (ImplStep))) × Int × Unit) => impl_formsOk N x.1 x.2.1 x.2.2.1⟩ : Sm D)
theorem impl_formsOk.sound (N : Nat) : Sound cx Try.prog gam 33 (impl_formsOk.sm N) := fn_sound (A := impl_formsOk.A) (Φ := (look (impl_formsOk.phis N))) pok (G := gam) (ΦOk.cons (impl_FormOk.sound N) (fnOk_of (f := 32) (by kernel_rfl)) ΦOk.nil) mixed N Try.func33 (c := (bodyOf Try.f33)) (by kernel_rfl) impl_formsOk.sg (by kernel_rfl) (by kernel_rfl) (by kernel_rfl) (impl_formsOk.run N)

@[reducible] def impl_tmplOk.sg : Sg := { ms := [{ k := (.sl (.st 50)), fl := [none] }, { k := (.int .i64) }, { k := (.st 48) }, { k := (.int .i64) }, { k := (.int .i64) }], keep := [false, false, false, false, false], rs := [{ k := .bool }] }
@[reducible] def impl_tmplOk.lvL1 : Lv := { id := 1, slots := [0, 1, 3, 4, 7, 11, 12, 13, 14, 85, 86, 87], ms := [{ k := (.sl (.st 50)), fl := [none] }, { k := (.int .i64) }, { k := (.int .i64) }, { k := (.int .i64) }, { ptr := true, id := 680, t := 49, k := (.st 48), fl := [none, none, none, none, none, none, none] }, { ptr := true, id := 700, t := 51, k := (.st 50), fl := [none, none, none, none, none, none, none, none, none, none] }, { k := (.int .i64) }, { k := (.int .i64) }, { k := (.int .i64) }, { k := (.sl (.int .i64)), fl := [none] }, { k := (.int .i64) }, { k := (.int .i64) }] }
@[reducible] def impl_tmplOk.lvJ46 : Lv := { id := 46, slots := [0, 1, 3, 4, 7], ms := [{ k := (.sl (.st 50)), fl := [none] }, { k := (.int .i64) }, { k := (.int .i64) }, { k := (.int .i64) }, { ptr := true, id := 680, t := 49, k := (.st 48), fl := [none, none, none, none, none, none, none] }] }
@[reducible] def impl_tmplOk.lvJ42 : Lv := { id := 42, slots := [0, 1, 3, 4, 7, 11, 12, 13, 14], ms := [{ k := (.sl (.st 50)), fl := [none] }, { k := (.int .i64) }, { k := (.int .i64) }, { k := (.int .i64) }, { ptr := true, id := 680, t := 49, k := (.st 48), fl := [none, none, none, none, none, none, none] }, { ptr := true, id := 700, t := 51, k := (.st 50), fl := [none, none, none, none, none, none, none, none, none, none] }, { k := (.int .i64) }, { k := (.int .i64) }, { k := (.int .i64) }] }
@[reducible] def impl_tmplOk.lvL3 : Lv := { id := 3, slots := [0, 1, 3, 4, 7, 11, 12, 13, 14, 111, 112, 113], ms := [{ k := (.sl (.st 50)), fl := [none] }, { k := (.int .i64) }, { k := (.int .i64) }, { k := (.int .i64) }, { ptr := true, id := 680, t := 49, k := (.st 48), fl := [none, none, none, none, none, none, none] }, { ptr := true, id := 700, t := 51, k := (.st 50), fl := [none, none, none, none, none, none, none, none, none, none] }, { k := (.int .i64) }, { k := (.int .i64) }, { k := (.int .i64) }, { k := (.sl (.st 71)), fl := [none] }, { k := (.int .i64) }, { k := (.int .i64) }] }
@[reducible] def impl_tmplOk.lvL5 : Lv := { id := 5, slots := [0, 1, 3, 4, 221, 222, 223], ms := [{ k := (.sl (.st 50)), fl := [none] }, { k := (.int .i64) }, { k := (.int .i64) }, { k := (.int .i64) }, { k := (.sl (.st 48)), fl := [none] }, { k := (.int .i64) }, { k := (.int .i64) }] }
noncomputable def impl_tmplOk.A : Ann := { dp := fun d => isIn [] d, lp := look [(1, impl_tmplOk.lvL1), (3, impl_tmplOk.lvL3), (5, impl_tmplOk.lvL5)], jn := look [(46, impl_tmplOk.lvJ46), (42, impl_tmplOk.lvJ42)], pins := [], nt := 236 }
noncomputable def impl_tmplOk.phis (N : Nat) (d : Nat) : List (Nat × Sm D) := [(15, impl_within.sm N), (32, impl_FormOk.sm N), (33, impl_formsOk.sm N), (17, (⟨impl_tmplOk.sg, fun (x : (List (ImplComp)) × Int × ImplTmpl × Int × Int × Unit) => impl_tmplOk.R N d x.1 x.2.1 x.2.2.1 x.2.2.2.1 x.2.2.2.2.1⟩ : Sm D))]
noncomputable def impl_tmplOk.a5 (N : Nat) (d : Nat) (n : Nat) (y : (List (ImplComp)) × Int × Int × Int × (List (ImplTmpl)) × Int × Int × Unit) : Option (Bool × Unit) := loopAt cx (look (impl_tmplOk.phis N d)) impl_tmplOk.A N n (encL cx impl_tmplOk.lvL5.ms y).1 (encL cx impl_tmplOk.lvL5.ms y).2 (bodyOf Try.f17) 0 (Kfin cx impl_tmplOk.A impl_tmplOk.sg Try.f17.results.toList) [1, 1, 1, 1, 1, 1, 1, 1, 1, 0, 1, 1] []
noncomputable def impl_tmplOk.a3 (N : Nat) (d : Nat) (n : Nat) (y : (List (ImplComp)) × Int × Int × Int × ImplTmpl × ImplComp × Int × Int × Int × (List (ImplOn)) × Int × Int × Unit) : Option (Bool × Unit) := loopAt cx (look (impl_tmplOk.phis N d)) impl_tmplOk.A N n (encL cx impl_tmplOk.lvL3.ms y).1 (encL cx impl_tmplOk.lvL3.ms y).2 (bodyOf Try.f17) 0 (Kfin cx impl_tmplOk.A impl_tmplOk.sg Try.f17.results.toList) [1, 1, 1, 1, 1, 1, 0, 1, 1, 1, 1, 1, 0, 1, 1, 1, 1, 1] []
noncomputable def impl_tmplOk.a1 (N : Nat) (d : Nat) (n : Nat) (y : (List (ImplComp)) × Int × Int × Int × ImplTmpl × ImplComp × Int × Int × Int × (List (Int)) × Int × Int × Unit) : Option (Bool × Unit) := loopAt cx (look (impl_tmplOk.phis N d)) impl_tmplOk.A N n (encL cx impl_tmplOk.lvL1.ms y).1 (encL cx impl_tmplOk.lvL1.ms y).2 (bodyOf Try.f17) 0 (Kfin cx impl_tmplOk.A impl_tmplOk.sg Try.f17.results.toList) [1, 1, 1, 1, 1, 1, 0, 1, 1, 1, 1, 1, 0, 1, 1, 0, 1, 1] []
theorem impl_tmplOk.r5 (N : Nat) (d : Nat) : ∀ (n : Nat) (y : (List (ImplComp)) × Int × Int × Int × (List (ImplTmpl)) × Int × Int × Unit), impl_tmplOk.a5 N d n y = impl_tmplOk.L5 N (impl_tmplOk.R N d) n y
  | 0, y => by kernel_rfl
  | n + 1, y => by
    have h : impl_tmplOk.a5 N d (n + 1) y = impl_tmplOk.B5 N (impl_tmplOk.R N d) (fun z => impl_tmplOk.a5 N d n z) y := by kernel_rfl
    have e : (fun z => impl_tmplOk.a5 N d n z) = impl_tmplOk.L5 N (impl_tmplOk.R N d) n := funext fun z => impl_tmplOk.r5 N d n z
    rw [h]
    try rw [e]
    first | done | rfl
theorem impl_tmplOk.r3 (N : Nat) (d : Nat) : ∀ (n : Nat) (y : (List (ImplComp)) × Int × Int × Int × ImplTmpl × ImplComp × Int × Int × Int × (List (ImplOn)) × Int × Int × Unit), impl_tmplOk.a3 N d n y = impl_tmplOk.L3 N (impl_tmplOk.R N d) n y
  | 0, y => by kernel_rfl
  | n + 1, y => by
    have h : impl_tmplOk.a3 N d (n + 1) y = impl_tmplOk.B3 N (impl_tmplOk.R N d) (fun z => impl_tmplOk.a3 N d n z) (fun z => impl_tmplOk.a5 N d N z) y := by kernel_rfl
    have e : (fun z => impl_tmplOk.a3 N d n z) = impl_tmplOk.L3 N (impl_tmplOk.R N d) n := funext fun z => impl_tmplOk.r3 N d n z
    have e5 : (fun z => impl_tmplOk.a5 N d N z) = impl_tmplOk.L5 N (impl_tmplOk.R N d) N := funext fun z => impl_tmplOk.r5 N d N z
    rw [h, e5]
    try rw [e]
    first | done | rfl
theorem impl_tmplOk.r1 (N : Nat) (d : Nat) : ∀ (n : Nat) (y : (List (ImplComp)) × Int × Int × Int × ImplTmpl × ImplComp × Int × Int × Int × (List (Int)) × Int × Int × Unit), impl_tmplOk.a1 N d n y = impl_tmplOk.L1 N (impl_tmplOk.R N d) n y
  | 0, y => by kernel_rfl
  | n + 1, y => by
    have h : impl_tmplOk.a1 N d (n + 1) y = impl_tmplOk.B1 N (impl_tmplOk.R N d) (fun z => impl_tmplOk.a1 N d n z) (fun z => impl_tmplOk.a3 N d N z) y := by kernel_rfl
    have e : (fun z => impl_tmplOk.a1 N d n z) = impl_tmplOk.L1 N (impl_tmplOk.R N d) n := funext fun z => impl_tmplOk.r1 N d n z
    have e3 : (fun z => impl_tmplOk.a3 N d N z) = impl_tmplOk.L3 N (impl_tmplOk.R N d) N := funext fun z => impl_tmplOk.r3 N d N z
    rw [h, e3]
    try rw [e]
    first | done | rfl
theorem impl_tmplOk.run (N : Nat) (d : Nat) (x : (List (ImplComp)) × Int × ImplTmpl × Int × Int × Unit) : runF cx (look (impl_tmplOk.phis N d)) impl_tmplOk.A N (bodyOf Try.f17) Try.f17.results.toList impl_tmplOk.sg x = impl_tmplOk.R N (d + 1) x.1 x.2.1 x.2.2.1 x.2.2.2.1 x.2.2.2.2.1 := by
  have h : runF cx (look (impl_tmplOk.phis N d)) impl_tmplOk.A N (bodyOf Try.f17) Try.f17.results.toList impl_tmplOk.sg x = impl_tmplOk.B N (impl_tmplOk.R N d) (fun z => impl_tmplOk.a1 N d N z) (fun z => impl_tmplOk.a5 N d N z) x.1 x.2.1 x.2.2.1 x.2.2.2.1 x.2.2.2.2.1 := by kernel_rfl
  have e1 : (fun z => impl_tmplOk.a1 N d N z) = impl_tmplOk.L1 N (impl_tmplOk.R N d) N := funext fun z => impl_tmplOk.r1 N d N z
  have e5 : (fun z => impl_tmplOk.a5 N d N z) = impl_tmplOk.L5 N (impl_tmplOk.R N d) N := funext fun z => impl_tmplOk.r5 N d N z
  rw [h, e1, e5]
  try rfl
theorem impl_tmplOk.step (N : Nat) (d : Nat) (h_impl_tmplOk : Sound cx Try.prog gam 17 (⟨impl_tmplOk.sg, fun (x : (List (ImplComp)) × Int × ImplTmpl × Int × Int × Unit) => impl_tmplOk.R N d x.1 x.2.1 x.2.2.1 x.2.2.2.1 x.2.2.2.2.1⟩ : Sm D)) : Sound cx Try.prog gam 17 (⟨impl_tmplOk.sg, fun (x : (List (ImplComp)) × Int × ImplTmpl × Int × Int × Unit) => impl_tmplOk.R N (d + 1) x.1 x.2.1 x.2.2.1 x.2.2.2.1 x.2.2.2.2.1⟩ : Sm D) := fn_sound (A := impl_tmplOk.A) (Φ := (look (impl_tmplOk.phis N d))) pok (G := gam) (ΦOk.cons (impl_within.sound N) (fnOk_of (f := 15) (by kernel_rfl)) (ΦOk.cons (impl_FormOk.sound N) (fnOk_of (f := 32) (by kernel_rfl)) (ΦOk.cons (impl_formsOk.sound N) (fnOk_of (f := 33) (by kernel_rfl)) (ΦOk.cons h_impl_tmplOk (fnOk_of (f := 17) (by kernel_rfl)) ΦOk.nil)))) mixed N Try.func17 (c := (bodyOf Try.f17)) (by kernel_rfl) impl_tmplOk.sg (by kernel_rfl) (by kernel_rfl) (by kernel_rfl) (impl_tmplOk.run N d)

theorem impl_tmplOk.scc (N : Nat) : ∀ d, Sound cx Try.prog gam 17 (⟨impl_tmplOk.sg, fun (x : (List (ImplComp)) × Int × ImplTmpl × Int × Int × Unit) => impl_tmplOk.R N d x.1 x.2.1 x.2.2.1 x.2.2.2.1 x.2.2.2.2.1⟩ : Sm D)
  | 0 => none_sound 17 impl_tmplOk.sg
  | d + 1 => by
    have ih := impl_tmplOk.scc N d
    exact impl_tmplOk.step N d ih
noncomputable def impl_tmplOk.sm (N : Nat) : Sm D := (⟨impl_tmplOk.sg, fun (x : (List (ImplComp)) × Int × ImplTmpl × Int × Int × Unit) => impl_tmplOk.R N N x.1 x.2.1 x.2.2.1 x.2.2.2.1 x.2.2.2.2.1⟩ : Sm D)
theorem impl_tmplOk.sound (N : Nat) : Sound cx Try.prog gam 17 (impl_tmplOk.sm N) := (impl_tmplOk.scc N N)
end
end Go.Ev
