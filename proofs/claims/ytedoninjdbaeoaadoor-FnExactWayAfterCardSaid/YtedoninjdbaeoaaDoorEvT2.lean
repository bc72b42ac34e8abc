/- Each function that the law reaches does what its plain form says; no condition beyond the table of the library. -/
import Derived.Test.YtedoninjdbaeoaaDoorEvT1
set_option linter.all false
set_option linter.unusedVariables false
set_option linter.unusedSimpArgs false
set_option maxRecDepth 100000
set_option maxHeartbeats 0
namespace Go.Ev
noncomputable section
open Go.Proofs
@[reducible] def laws_heldIntS.sg : Sg := { ms := [{ k := (.sl (.int .i64)), fl := [none] }, { k := (.int .i64) }], keep := [false, false], rs := [{ k := (.int .i64) }] }
@[reducible] def laws_heldIntS.lvL0 : Lv := { id := 0, slots := [0, 1, 5], ms := [{ k := (.sl (.int .i64)), fl := [none] }, { k := (.int .i64) }, { k := (.int .i64) }] }
noncomputable def laws_heldIntS.A : Ann := { dp := fun d => isIn [] d, lp := look [(0, laws_heldIntS.lvL0)], jn := look [], pins := [], nt := 21 }
noncomputable def laws_heldIntS.phis (N : Nat) : List (Nat × Sm D) := []
noncomputable def laws_heldIntS.a0 (N : Nat) (n : Nat) (y : (List (Int)) × Int × Int × Unit) : Option (Int × Unit) := loopAt cx (look (laws_heldIntS.phis N)) laws_heldIntS.A N n (encL cx laws_heldIntS.lvL0.ms y).1 (encL cx laws_heldIntS.lvL0.ms y).2 (bodyOf Tryd.f14) 0 (Kfin cx laws_heldIntS.A laws_heldIntS.sg Tryd.f14.results.toList) [1, 0, 1, 1] []
theorem laws_heldIntS.r0 (N : Nat) : ∀ (n : Nat) (y : (List (Int)) × Int × Int × Unit), laws_heldIntS.a0 N n y = laws_heldIntS.L0 N n y
  | 0, y => by kernel_rfl
  | n + 1, y => by
    have h : laws_heldIntS.a0 N (n + 1) y = laws_heldIntS.B0 N (fun z => laws_heldIntS.a0 N n z) y := by kernel_rfl
    have e : (fun z => laws_heldIntS.a0 N n z) = laws_heldIntS.L0 N n := funext fun z => laws_heldIntS.r0 N n z
    rw [h]
    try rw [e]
    first | done | rfl
theorem laws_heldIntS.run (N : Nat) (x : (List (Int)) × Int × Unit) : runF cx (look (laws_heldIntS.phis N)) laws_heldIntS.A N (bodyOf Tryd.f14) Tryd.f14.results.toList laws_heldIntS.sg x = laws_heldIntS N x.1 x.2.1 := by
  have h : runF cx (look (laws_heldIntS.phis N)) laws_heldIntS.A N (bodyOf Tryd.f14) Tryd.f14.results.toList laws_heldIntS.sg x = laws_heldIntS.B N (fun z => laws_heldIntS.a0 N N z) x.1 x.2.1 := by kernel_rfl
  have e0 : (fun z => laws_heldIntS.a0 N N z) = laws_heldIntS.L0 N N := funext fun z => laws_heldIntS.r0 N N z
  rw [h, e0]
  try rfl
noncomputable def laws_heldIntS.sm (N : Nat) : Sm D := (⟨laws_heldIntS.sg, fun (x : (List (Int)) × Int × Unit) => laws_heldIntS N x.1 x.2.1⟩ : Sm D)
theorem laws_heldIntS.sound (N : Nat) : Sound cx Tryd.prog gam 14 (laws_heldIntS.sm N) := fn_sound (A := laws_heldIntS.A) (Φ := (look (laws_heldIntS.phis N))) pok (G := gam) ΦOk.nil mixed N Tryd.func14 (c := (bodyOf Tryd.f14)) (by kernel_rfl) laws_heldIntS.sg (by kernel_rfl) (by kernel_rfl) (by kernel_rfl) (laws_heldIntS.run N)

@[reducible] def laws_toIntS.sg : Sg := { ms := [{ k := (.sl (.int .i64)), fl := [none] }], keep := [false], rs := [{ k := (.sl (.int .i64)), fl := [some (false, 411)] }] }
@[reducible] def laws_toIntS.lvL0 : Lv := { id := 0, slots := [0, 3, 4], ms := [{ k := (.sl (.int .i64)), fl := [none] }, { k := (.sl (.int .i64)), fl := [some (false, 620)] }, { k := (.int .i64) }] }
noncomputable def laws_toIntS.A : Ann := { dp := fun d => isIn [] d, lp := look [(0, laws_toIntS.lvL0)], jn := look [], pins := [], nt := 22 }
noncomputable def laws_toIntS.phis (N : Nat) : List (Nat × Sm D) := []
noncomputable def laws_toIntS.a0 (N : Nat) (n : Nat) (y : (List (Int)) × (List (Int)) × Int × Unit) : Option ((List (Int)) × Unit) := loopAt cx (look (laws_toIntS.phis N)) laws_toIntS.A N n (encL cx laws_toIntS.lvL0.ms y).1 (encL cx laws_toIntS.lvL0.ms y).2 (bodyOf Tryd.f16) 0 (Kfin cx laws_toIntS.A laws_toIntS.sg Tryd.f16.results.toList) [1, 1, 0, 1, 1] []
theorem laws_toIntS.r0 (N : Nat) : ∀ (n : Nat) (y : (List (Int)) × (List (Int)) × Int × Unit), laws_toIntS.a0 N n y = laws_toIntS.L0 N n y
  | 0, y => by kernel_rfl
  | n + 1, y => by
    have h : laws_toIntS.a0 N (n + 1) y = laws_toIntS.B0 N (fun z => laws_toIntS.a0 N n z) y := by kernel_rfl
    have e : (fun z => laws_toIntS.a0 N n z) = laws_toIntS.L0 N n := funext fun z => laws_toIntS.r0 N n z
    rw [h]
    try rw [e]
    first | done | rfl
theorem laws_toIntS.run (N : Nat) (x : (List (Int)) × Unit) : runF cx (look (laws_toIntS.phis N)) laws_toIntS.A N (bodyOf Tryd.f16) Tryd.f16.results.toList laws_toIntS.sg x = laws_toIntS N x.1 := by
  have h : runF cx (look (laws_toIntS.phis N)) laws_toIntS.A N (bodyOf Tryd.f16) Tryd.f16.results.toList laws_toIntS.sg x = laws_toIntS.B N (fun z => laws_toIntS.a0 N N z) x.1 := by kernel_rfl
  have e0 : (fun z => laws_toIntS.a0 N N z) = laws_toIntS.L0 N N := funext fun z => laws_toIntS.r0 N N z
  rw [h, e0]
  try rfl
noncomputable def laws_toIntS.sm (N : Nat) : Sm D := (⟨laws_toIntS.sg, fun (x : (List (Int)) × Unit) => laws_toIntS N x.1⟩ : Sm D)
theorem laws_toIntS.sound (N : Nat) : Sound cx Tryd.prog gam 16 (laws_toIntS.sm N) := fn_sound (A := laws_toIntS.A) (Φ := (look (laws_toIntS.phis N))) pok (G := gam) ΦOk.nil mixed N Tryd.func16 (c := (bodyOf Tryd.f16)) (by kernel_rfl) laws_toIntS.sg (by kernel_rfl) (by kernel_rfl) (by kernel_rfl) (laws_toIntS.run N)

@[reducible] def spec_partAt.sg : Sg := { ms := [{ k := (.st 32) }, { k := (.sl (.int .i64)), fl := [none] }], keep := [false, false], rs := [{ k := (.st 32) }, { k := .bool }], hold := true }
@[reducible] def spec_partAt.lvL0 : Lv := { id := 0, slots := [1, 2, 4, 6], ms := [{ k := (.sl (.int .i64)), fl := [none] }, { ptr := true, id := 620, t := 33, k := (.st 32), fl := [none, none, none, none, none] }, { ptr := true, id := 640, t := 33, k := (.st 32), fl := [none, none, none, some (false, 644), some (false, 645)] }, { k := (.int .i64) }] }
noncomputable def spec_partAt.A : Ann := { dp := fun d => isIn [] d, lp := look [(0, spec_partAt.lvL0)], jn := look [], pins := [], nt := 33 }
noncomputable def spec_partAt.phis (N : Nat) : List (Nat × Sm D) := [(24, spec_inRange.sm N)]
noncomputable def spec_partAt.a0 (N : Nat) (n : Nat) (y : (List (Int)) × ImplTree × ImplTree × Int × Unit) : Option (ImplTree × Bool × Unit) := loopAt cx (look (spec_partAt.phis N)) spec_partAt.A N n (encL cx spec_partAt.lvL0.ms y).1 (encL cx spec_partAt.lvL0.ms y).2 (bodyOf Tryd.f35) 0 (Kfin cx spec_partAt.A spec_partAt.sg Tryd.f35.results.toList) [1, 0, 1, 1] []
theorem spec_partAt.r0 (N : Nat) : ∀ (n : Nat) (y : (List (Int)) × ImplTree × ImplTree × Int × Unit), spec_partAt.a0 N n y = spec_partAt.L0 N n y
  | 0, y => by kernel_rfl
  | n + 1, y => by
    have h : spec_partAt.a0 N (n + 1) y = spec_partAt.B0 N (fun z => spec_partAt.a0 N n z) y := by kernel_rfl
    have e : (fun z => spec_partAt.a0 N n z) = spec_partAt.L0 N n := funext fun z => spec_partAt.r0 N n z
    rw [h]
    try rw [e]
    first | done | rfl
theorem spec_partAt.run (N : Nat) (x : ImplTree × (List (Int)) × Unit) : runF cx (look (spec_partAt.phis N)) spec_partAt.A N (bodyOf Tryd.f35) Tryd.f35.results.toList spec_partAt.sg x = spec_partAt N x.1 x.2.1 := by
  have h : runF cx (look (spec_partAt.phis N)) spec_partAt.A N (bodyOf Tryd.f35) Tryd.f35.results.toList spec_partAt.sg x = spec_partAt.B N (fun z => spec_partAt.a0 N N z) x.1 x.2.1 := by kernel_rfl
  have e0 : (fun z => spec_partAt.a0 N N z) = spec_partAt.L0 N N := funext fun z => spec_partAt.r0 N N z
  rw [h, e0]
  try rfl
noncomputable def spec_partAt.sm (N : Nat) : Sm D := (⟨spec_partAt.sg, fun (x : ImplTree × (List (Int)) × Unit) => spec_partAt N x.1 x.2.1⟩ : Sm D)
theorem spec_partAt.sound (N : Nat) : Sound cx Tryd.prog gam 35 (spec_partAt.sm N) := fn_sound (A := spec_partAt.A) (Φ := (look (spec_partAt.phis N))) pok (G := gam) (ΦOk.cons (spec_inRange.sound N) (fnOk_of (f := 24) (by kernel_rfl)) ΦOk.nil) mixed N Tryd.func35 (c := (bodyOf Tryd.f35)) (by kernel_rfl) spec_partAt.sg (by kernel_rfl) (by kernel_rfl) (by kernel_rfl) (spec_partAt.run N)

@[reducible] def spec_partners.sg : Sg := { ms := [{ k := (.sl (.st 32)), fl := [none] }, { k := (.sl (.st 32)), fl := [none] }], keep := [false, false], rs := [{ k := (.sl (.int .i64)), fl := [none] }], hold := true }
@[reducible] def spec_partners.lvL2 : Lv := { id := 2, slots := [0, 1, 5, 6, 7, 8, 9], ms := [{ k := (.sl (.st 32)), fl := [none] }, { k := (.sl (.st 32)), fl := [none] }, { k := (.sl (.int .i64)), fl := [some (false, 640)] }, { k := (.sl .bool), fl := [some (false, 660)] }, { k := (.int .i64) }, { k := (.int .i64) }, { k := (.int .i64) }] }
@[reducible] def spec_partners.lvL0 : Lv := { id := 0, slots := [0, 1, 5, 6, 7], ms := [{ k := (.sl (.st 32)), fl := [none] }, { k := (.sl (.st 32)), fl := [none] }, { k := (.sl (.int .i64)), fl := [some (false, 640)] }, { k := (.sl .bool), fl := [some (false, 660)] }, { k := (.int .i64) }] }
@[reducible] def spec_partners.lvJ14 : Lv := { id := 14, slots := [0, 1, 5, 6, 7, 8], ms := [{ k := (.sl (.st 32)), fl := [none] }, { k := (.sl (.st 32)), fl := [none] }, { k := (.sl (.int .i64)), fl := [some (false, 640)] }, { k := (.sl .bool), fl := [some (false, 660)] }, { k := (.int .i64) }, { k := (.int .i64) }] }
noncomputable def spec_partners.A : Ann := { dp := fun d => isIn [] d, lp := look [(2, spec_partners.lvL2), (0, spec_partners.lvL0)], jn := look [(14, spec_partners.lvJ14)], pins := [], nt := 72 }
noncomputable def spec_partners.phis (N : Nat) : List (Nat × Sm D) := []
noncomputable def spec_partners.a2 (N : Nat) (m0 : Nat) (n : Nat) (y : (List (ImplTree)) × (List (ImplTree)) × (List (Int)) × (List (Bool)) × Int × Int × Int × Unit) : Option ((List (Int)) × Unit) := loopAt cx (look (spec_partners.phis N)) spec_partners.A N n (encL cx spec_partners.lvL2.ms y).1 (encL cx spec_partners.lvL2.ms y).2 (bodyOf Tryd.f52) 0 (Kfin cx spec_partners.A spec_partners.sg Tryd.f52.results.toList) [1, 1, 1, 0, 1, 1, 1, 1, 0, 1, 1, 0, 1, 1] [m0]
noncomputable def spec_partners.a0 (N : Nat) (n : Nat) (y : (List (ImplTree)) × (List (ImplTree)) × (List (Int)) × (List (Bool)) × Int × Unit) : Option ((List (Int)) × Unit) := loopAt cx (look (spec_partners.phis N)) spec_partners.A N n (encL cx spec_partners.lvL0.ms y).1 (encL cx spec_partners.lvL0.ms y).2 (bodyOf Tryd.f52) 0 (Kfin cx spec_partners.A spec_partners.sg Tryd.f52.results.toList) [1, 1, 1, 0, 1, 1] []
theorem spec_partners.r2 (N : Nat) (m0 : Nat) : ∀ (n : Nat) (y : (List (ImplTree)) × (List (ImplTree)) × (List (Int)) × (List (Bool)) × Int × Int × Int × Unit), spec_partners.a2 N m0 n y = spec_partners.L2 N (fun z => spec_partners.a0 N m0 z) n y
  | 0, y => by kernel_rfl
  | n + 1, y => by
    have h : spec_partners.a2 N m0 (n + 1) y = spec_partners.B2 N (fun z => spec_partners.a0 N m0 z) (fun z => spec_partners.a2 N m0 n z) y := by kernel_rfl
    have e : (fun z => spec_partners.a2 N m0 n z) = spec_partners.L2 N (fun z => spec_partners.a0 N m0 z) n := funext fun z => spec_partners.r2 N m0 n z
    rw [h]
    try rw [e]
    first | done | rfl
theorem spec_partners.r0 (N : Nat) : ∀ (n : Nat) (y : (List (ImplTree)) × (List (ImplTree)) × (List (Int)) × (List (Bool)) × Int × Unit), spec_partners.a0 N n y = spec_partners.L0 N n y
  | 0, y => by kernel_rfl
  | n + 1, y => by
    have h : spec_partners.a0 N (n + 1) y = spec_partners.B0 N (fun z => spec_partners.a2 N n N z) y := by kernel_rfl
    have e : (fun z => spec_partners.a0 N n z) = spec_partners.L0 N n := funext fun z => spec_partners.r0 N n z
    have e2 : (fun z => spec_partners.a2 N n N z) = spec_partners.L2 N (fun z => spec_partners.a0 N n z) N := funext fun z => spec_partners.r2 N n N z
    rw [h, e2]
    try rw [e]
    first | done | rfl
theorem spec_partners.run (N : Nat) (x : (List (ImplTree)) × (List (ImplTree)) × Unit) : runF cx (look (spec_partners.phis N)) spec_partners.A N (bodyOf Tryd.f52) Tryd.f52.results.toList spec_partners.sg x = spec_partners N x.1 x.2.1 := by
  have h : runF cx (look (spec_partners.phis N)) spec_partners.A N (bodyOf Tryd.f52) Tryd.f52.results.toList spec_partners.sg x = spec_partners.B N (fun z => spec_partners.a0 N N z) x.1 x.2.1 := by kernel_rfl
  have e0 : (fun z => spec_partners.a0 N N z) = spec_partners.L0 N N := funext fun z => spec_partners.r0 N N z
  rw [h, e0]
  try rfl
noncomputable def spec_partners.sm (N : Nat) : Sm D := (⟨spec_partners.sg, fun (x : (List (ImplTree)) × (List (ImplTree)) × Unit) => spec_partners N x.1 x.2.1⟩ : Sm D)
theorem spec_partners.sound (N : Nat) : Sound cx Tryd.prog gam 52 (spec_partners.sm N) := fn_sound (A := spec_partners.A) (Φ := (look (spec_partners.phis N))) pok (G := gam) ΦOk.nil mixed N Tryd.func52 (c := (bodyOf Tryd.f52)) (by kernel_rfl) spec_partners.sg (by kernel_rfl) (by kernel_rfl) (by kernel_rfl) (spec_partners.run N)

@[reducible] def spec_indexOf.sg : Sg := { ms := [{ k := (.sl (.int .i64)), fl := [none] }, { k := (.int .i64) }], keep := [false, false], rs := [{ k := (.int .i64) }] }
@[reducible] def spec_indexOf.lvL0 : Lv := { id := 0, slots := [0, 1, 5], ms := [{ k := (.sl (.int .i64)), fl := [none] }, { k := (.int .i64) }, { k := (.int .i64) }] }
noncomputable def spec_indexOf.A : Ann := { dp := fun d => isIn [] d, lp := look [(0, spec_indexOf.lvL0)], jn := look [], pins := [], nt := 19 }
noncomputable def spec_indexOf.phis (N : Nat) : List (Nat × Sm D) := []
noncomputable def spec_indexOf.a0 (N : Nat) (n : Nat) (y : (List (Int)) × Int × Int × Unit) : Option (Int × Unit) := loopAt cx (look (spec_indexOf.phis N)) spec_indexOf.A N n (encL cx spec_indexOf.lvL0.ms y).1 (encL cx spec_indexOf.lvL0.ms y).2 (bodyOf Tryd.f51) 0 (Kfin cx spec_indexOf.A spec_indexOf.sg Tryd.f51.results.toList) [1, 0, 1, 1] []
theorem spec_indexOf.r0 (N : Nat) : ∀ (n : Nat) (y : (List (Int)) × Int × Int × Unit), spec_indexOf.a0 N n y = spec_indexOf.L0 N n y
  | 0, y => by kernel_rfl
  | n + 1, y => by
    have h : spec_indexOf.a0 N (n + 1) y = spec_indexOf.B0 N (fun z => spec_indexOf.a0 N n z) y := by kernel_rfl
    have e : (fun z => spec_indexOf.a0 N n z) = spec_indexOf.L0 N n := funext fun z => spec_indexOf.r0 N n z
    rw [h]
    try rw [e]
    first | done | rfl
theorem spec_indexOf.run (N : Nat) (x : (List (Int)) × Int × Unit) : runF cx (look (spec_indexOf.phis N)) spec_indexOf.A N (bodyOf Tryd.f51) Tryd.f51.results.toList spec_indexOf.sg x = spec_indexOf N x.1 x.2.1 := by
  have h : runF cx (look (spec_indexOf.phis N)) spec_indexOf.A N (bodyOf Tryd.f51) Tryd.f51.results.toList spec_indexOf.sg x = spec_indexOf.B N (fun z => spec_indexOf.a0 N N z) x.1 x.2.1 := by kernel_rfl
  have e0 : (fun z => spec_indexOf.a0 N N z) = spec_indexOf.L0 N N := funext fun z => spec_indexOf.r0 N N z
  rw [h, e0]
  try rfl
noncomputable def spec_indexOf.sm (N : Nat) : Sm D := (⟨spec_indexOf.sg, fun (x : (List (Int)) × Int × Unit) => spec_indexOf N x.1 x.2.1⟩ : Sm D)
theorem spec_indexOf.sound (N : Nat) : Sound cx Tryd.prog gam 51 (spec_indexOf.sm N) := fn_sound (A := spec_indexOf.A) (Φ := (look (spec_indexOf.phis N))) pok (G := gam) ΦOk.nil mixed N Tryd.func51 (c := (bodyOf Tryd.f51)) (by kernel_rfl) spec_indexOf.sg (by kernel_rfl) (by kernel_rfl) (by kernel_rfl) (spec_indexOf.run N)

@[reducible] def spec_wayAfter.sg : Sg := { ms := [{ k := (.st 32) }, { k := (.st 32) }, { k := (.sl (.int .i64)), fl := [none] }], keep := [false, false, false], rs := [{ k := (.sl (.int .i64)), fl := [none] }, { k := .bool }], hold := true }
@[reducible] def spec_wayAfter.lvL0 : Lv := { id := 0, slots := [2, 3, 4, 8, 9], ms := [{ k := (.sl (.int .i64)), fl := [none] }, { ptr := true, id := 620, t := 33, k := (.st 32), fl := [none, none, none, none, none] }, { ptr := true, id := 640, t := 33, k := (.st 32), fl := [none, none, none, none, none] }, { k := (.sl (.int .i64)), fl := [some (false, 660)] }, { k := (.int .i64) }] }
noncomputable def spec_wayAfter.A : Ann := { dp := fun d => isIn [] d, lp := look [(0, spec_wayAfter.lvL0)], jn := look [], pins := [], nt := 60 }
noncomputable def spec_wayAfter.phis (N : Nat) : List (Nat × Sm D) := [(52, spec_partners.sm N), (51, spec_indexOf.sm N)]
noncomputable def spec_wayAfter.a0 (N : Nat) (n : Nat) (y : (List (Int)) × ImplTree × ImplTree × (List (Int)) × Int × Unit) : Option ((List (Int)) × Bool × Unit) := loopAt cx (look (spec_wayAfter.phis N)) spec_wayAfter.A N n (encL cx spec_wayAfter.lvL0.ms y).1 (encL cx spec_wayAfter.lvL0.ms y).2 (bodyOf Tryd.f41) 0 (Kfin cx spec_wayAfter.A spec_wayAfter.sg Tryd.f41.results.toList) [1, 1, 1, 0, 1, 1] []
theorem spec_wayAfter.r0 (N : Nat) : ∀ (n : Nat) (y : (List (Int)) × ImplTree × ImplTree × (List (Int)) × Int × Unit), spec_wayAfter.a0 N n y = spec_wayAfter.L0 N n y
  | 0, y => by kernel_rfl
  | n + 1, y => by
    have h : spec_wayAfter.a0 N (n + 1) y = spec_wayAfter.B0 N (fun z => spec_wayAfter.a0 N n z) y := by kernel_rfl
    have e : (fun z => spec_wayAfter.a0 N n z) = spec_wayAfter.L0 N n := funext fun z => spec_wayAfter.r0 N n z
    rw [h]
    try rw [e]
    first | done | rfl
theorem spec_wayAfter.run (N : Nat) (x : ImplTree × ImplTree × (List (Int)) × Unit) : runF cx (look (spec_wayAfter.phis N)) spec_wayAfter.A N (bodyOf Tryd.f41) Tryd.f41.results.toList spec_wayAfter.sg x = spec_wayAfter N x.1 x.2.1 x.2.2.1 := by
  have h : runF cx (look (spec_wayAfter.phis N)) spec_wayAfter.A N (bodyOf Tryd.f41) Tryd.f41.results.toList spec_wayAfter.sg x = spec_wayAfter.B N (fun z => spec_wayAfter.a0 N N z) x.1 x.2.1 x.2.2.1 := by kernel_rfl
  have e0 : (fun z => spec_wayAfter.a0 N N z) = spec_wayAfter.L0 N N := funext fun z => spec_wayAfter.r0 N N z
  rw [h, e0]
  try rfl
noncomputable def spec_wayAfter.sm (N : Nat) : Sm D := (⟨spec_wayAfter.sg, fun (x : ImplTree × ImplTree × (List (Int)) × Unit) => spec_wayAfter N x.1 x.2.1 x.2.2.1⟩ : Sm D)
theorem spec_wayAfter.sound (N : Nat) : Sound cx Tryd.prog gam 41 (spec_wayAfter.sm N) := fn_sound (A := spec_wayAfter.A) (Φ := (look (spec_wayAfter.phis N))) pok (G := gam) (ΦOk.cons (spec_partners.sound N) (fnOk_of (f := 52) (by kernel_rfl)) (ΦOk.cons (spec_indexOf.sound N) (fnOk_of (f := 51) (by kernel_rfl)) ΦOk.nil)) mixed N Tryd.func41 (c := (bodyOf Tryd.f41)) (by kernel_rfl) spec_wayAfter.sg (by kernel_rfl) (by kernel_rfl) (by kernel_rfl) (spec_wayAfter.run N)

@[reducible] def spec_WayAfter.sg : Sg := { ms := [{ k := (.st 32) }, { k := (.st 32) }, { k := (.sl (.int .i64)), fl := [none] }], keep := [false, false, false], rs := [{ k := (.sl (.int .i64)), fl := [none] }, { k := .bool }], hold := true }
noncomputable def spec_WayAfter.A : Ann := { dp := fun d => isIn [] d, lp := look [], jn := look [], pins := [], nt := 32 }
noncomputable def spec_WayAfter.phis (N : Nat) : List (Nat × Sm D) := [(23, spec_validTree.sm N), (35, spec_partAt.sm N), (41, spec_wayAfter.sm N)]
theorem spec_WayAfter.run (N : Nat) (x : ImplTree × ImplTree × (List (Int)) × Unit) : runF cx (look (spec_WayAfter.phis N)) spec_WayAfter.A N (bodyOf Tryd.f19) Tryd.f19.results.toList spec_WayAfter.sg x = spec_WayAfter N x.1 x.2.1 x.2.2.1 := by
  have h : runF cx (look (spec_WayAfter.phis N)) spec_WayAfter.A N (bodyOf Tryd.f19) Tryd.f19.results.toList spec_WayAfter.sg x = spec_WayAfter.B N x.1 x.2.1 x.2.2.1 := by kernel_rfl
  rw [h]
  try rfl
noncomputable def spec_WayAfter.sm (N : Nat) : Sm D := (⟨spec_WayAfter.sg, fun (x : ImplTree × ImplTree × (List (Int)) × Unit) => spec_WayAfter N x.1 x.2.1 x.2.2.1⟩ : Sm D)
theorem spec_WayAfter.sound (N : Nat) : Sound cx Tryd.prog gam 19 (spec_WayAfter.sm N) := fn_sound (A := spec_WayAfter.A) (Φ := (look (spec_WayAfter.phis N))) pok (G := gam) (ΦOk.cons (spec_validTree.sound N) (fnOk_of (f := 23) (by kernel_rfl)) (ΦOk.cons (spec_partAt.sound N) (fnOk_of (f := 35) (by kernel_rfl)) (ΦOk.cons (spec_wayAfter.sound N) (fnOk_of (f := 41) (by kernel_rfl)) ΦOk.nil))) mixed N Tryd.func19 (c := (bodyOf Tryd.f19)) (by kernel_rfl) spec_WayAfter.sg (by kernel_rfl) (by kernel_rfl) (by kernel_rfl) (spec_WayAfter.run N)

@[reducible] def impl_partners.sg : Sg := { ms := [{ k := (.st 32) }, { k := (.st 32) }], keep := [false, false], rs := [{ k := (.sl (.int .i64)), fl := [none] }], hold := true }
@[reducible] def impl_partners.lvL2 : Lv := { id := 2, slots := [2, 5, 6, 8, 9, 17, 18, 19, 24, 25, 26], ms := [{ ptr := true, id := 600, t := 33, k := (.st 32), fl := [none, none, none, none, none] }, { k := (.sl (.int .i64)), fl := [some (false, 620)] }, { k := (.sl .bool), fl := [some (false, 640)] }, { ptr := true, id := 660, t := 33, k := (.st 32), fl := [none, none, none, none, none] }, { k := (.int .i64) }, { k := (.sl (.st 32)), fl := [none] }, { k := (.int .i64) }, { k := (.int .i64) }, { k := (.sl (.st 32)), fl := [none] }, { k := (.int .i64) }, { k := (.int .i64) }] }
@[reducible] def impl_partners.lvL0 : Lv := { id := 0, slots := [2, 5, 6, 17, 18, 19], ms := [{ ptr := true, id := 600, t := 33, k := (.st 32), fl := [none, none, none, none, none] }, { k := (.sl (.int .i64)), fl := [some (false, 620)] }, { k := (.sl .bool), fl := [some (false, 640)] }, { k := (.sl (.st 32)), fl := [none] }, { k := (.int .i64) }, { k := (.int .i64) }] }
@[reducible] def impl_partners.lvJ14 : Lv := { id := 14, slots := [2, 5, 6, 9, 17, 18, 19], ms := [{ ptr := true, id := 600, t := 33, k := (.st 32), fl := [none, none, none, none, none] }, { k := (.sl (.int .i64)), fl := [some (false, 620)] }, { k := (.sl .bool), fl := [some (false, 640)] }, { k := (.int .i64) }, { k := (.sl (.st 32)), fl := [none] }, { k := (.int .i64) }, { k := (.int .i64) }] }
noncomputable def impl_partners.A : Ann := { dp := fun d => isIn [] d, lp := look [(2, impl_partners.lvL2), (0, impl_partners.lvL0)], jn := look [(14, impl_partners.lvJ14)], pins := [], nt := 61 }
noncomputable def impl_partners.phis (N : Nat) : List (Nat × Sm D) := []
noncomputable def impl_partners.a2 (N : Nat) (m0 : Nat) (n : Nat) (y : ImplTree × (List (Int)) × (List (Bool)) × ImplTree × Int × (List (ImplTree)) × Int × Int × (List (ImplTree)) × Int × Int × Unit) : Option ((List (Int)) × Unit) := loopAt cx (look (impl_partners.phis N)) impl_partners.A N n (encL cx impl_partners.lvL2.ms y).1 (encL cx impl_partners.lvL2.ms y).2 (bodyOf Tryd.f54) 0 (Kfin cx impl_partners.A impl_partners.sg Tryd.f54.results.toList) [1, 1, 1, 0, 1, 1, 1, 1, 1, 0, 1, 1, 1, 0, 1, 1] [m0]
noncomputable def impl_partners.a0 (N : Nat) (n : Nat) (y : ImplTree × (List (Int)) × (List (Bool)) × (List (ImplTree)) × Int × Int × Unit) : Option ((List (Int)) × Unit) := loopAt cx (look (impl_partners.phis N)) impl_partners.A N n (encL cx impl_partners.lvL0.ms y).1 (encL cx impl_partners.lvL0.ms y).2 (bodyOf Tryd.f54) 0 (Kfin cx impl_partners.A impl_partners.sg Tryd.f54.results.toList) [1, 1, 1, 0, 1, 1] []
theorem impl_partners.r2 (N : Nat) (m0 : Nat) : ∀ (n : Nat) (y : ImplTree × (List (Int)) × (List (Bool)) × ImplTree × Int × (List (ImplTree)) × Int × Int × (List (ImplTree)) × Int × Int × Unit), impl_partners.a2 N m0 n y = impl_partners.L2 N (fun z => impl_partners.a0 N m0 z) n y
  | 0, y => by kernel_rfl
  | n + 1, y => by
    have h : impl_partners.a2 N m0 (n + 1) y = impl_partners.B2 N (fun z => impl_partners.a0 N m0 z) (fun z => impl_partners.a2 N m0 n z) y := by kernel_rfl
    have e : (fun z => impl_partners.a2 N m0 n z) = impl_partners.L2 N (fun z => impl_partners.a0 N m0 z) n := funext fun z => impl_partners.r2 N m0 n z
    rw [h]
    try rw [e]
    first | done | rfl
theorem impl_partners.r0 (N : Nat) : ∀ (n : Nat) (y : ImplTree × (List (Int)) × (List (Bool)) × (List (ImplTree)) × Int × Int × Unit), impl_partners.a0 N n y = impl_partners.L0 N n y
  | 0, y => by kernel_rfl
  | n + 1, y => by
    have h : impl_partners.a0 N (n + 1) y = impl_partners.B0 N (fun z => impl_partners.a2 N n N z) y := by kernel_rfl
    have e : (fun z => impl_partners.a0 N n z) = impl_partners.L0 N n := funext fun z => impl_partners.r0 N n z
    have e2 : (fun z => impl_partners.a2 N n N z) = impl_partners.L2 N (fun z => impl_partners.a0 N n z) N := funext fun z => impl_partners.r2 N n N z
    rw [h, e2]
    try rw [e]
    first | done | rfl
theorem impl_partners.run (N : Nat) (x : ImplTree × ImplTree × Unit) : runF cx (look (impl_partners.phis N)) impl_partners.A N (bodyOf Tryd.f54) Tryd.f54.results.toList impl_partners.sg x = impl_partners N x.1 x.2.1 := by
  have h : runF cx (look (impl_partners.phis N)) impl_partners.A N (bodyOf Tryd.f54) Tryd.f54.results.toList impl_partners.sg x = impl_partners.B N (fun z => impl_partners.a0 N N z) x.1 x.2.1 := by kernel_rfl
  have e0 : (fun z => impl_partners.a0 N N z) = impl_partners.L0 N N := funext fun z => impl_partners.r0 N N z
  rw [h, e0]
  try rfl
noncomputable def impl_partners.sm (N : Nat) : Sm D := (⟨impl_partners.sg, fun (x : ImplTree × ImplTree × Unit) => impl_partners N x.1 x.2.1⟩ : Sm D)
theorem impl_partners.sound (N : Nat) : Sound cx Tryd.prog gam 54 (impl_partners.sm N) := fn_sound (A := impl_partners.A) (Φ := (look (impl_partners.phis N))) pok (G := gam) ΦOk.nil mixed N Tryd.func54 (c := (bodyOf Tryd.f54)) (by kernel_rfl) impl_partners.sg (by kernel_rfl) (by kernel_rfl) (by kernel_rfl) (impl_partners.run N)

@[reducible] def impl_wayAfter.sg : Sg := { ms := [{ k := (.st 32) }, { k := (.st 32) }, { k := (.sl (.int .i64)), fl := [none] }], keep := [false, false, false], rs := [{ k := (.sl (.int .i64)), fl := [some (false, 411)] }, { k := .bool }] }
@[reducible] def impl_wayAfter.lvL0 : Lv := { id := 0, slots := [3, 4, 8, 24, 25, 26], ms := [{ ptr := true, id := 600, t := 33, k := (.st 32), fl := [none, none, none, none, none] }, { ptr := true, id := 620, t := 33, k := (.st 32), fl := [none, none, none, none, none] }, { k := (.sl (.int .i64)), fl := [some (false, 640)] }, { k := (.sl (.int .i64)), fl := [none] }, { k := (.int .i64) }, { k := (.int .i64) }] }
noncomputable def impl_wayAfter.A : Ann := { dp := fun d => isIn [] d, lp := look [(0, impl_wayAfter.lvL0)], jn := look [], pins := [], nt := 60 }
noncomputable def impl_wayAfter.phis (N : Nat) : List (Nat × Sm D) := [(37, impl_within.sm N), (54, impl_partners.sm N), (53, LibIndex.sm N)]
noncomputable def impl_wayAfter.a0 (N : Nat) (n : Nat) (y : ImplTree × ImplTree × (List (Int)) × (List (Int)) × Int × Int × Unit) : Option ((List (Int)) × Bool × Unit) := loopAt cx (look (impl_wayAfter.phis N)) impl_wayAfter.A N n (encL cx impl_wayAfter.lvL0.ms y).1 (encL cx impl_wayAfter.lvL0.ms y).2 (bodyOf Tryd.f42) 0 (Kfin cx impl_wayAfter.A impl_wayAfter.sg Tryd.f42.results.toList) [1, 1, 1, 0, 1, 1] []
theorem impl_wayAfter.r0 (N : Nat) : ∀ (n : Nat) (y : ImplTree × ImplTree × (List (Int)) × (List (Int)) × Int × Int × Unit), impl_wayAfter.a0 N n y = impl_wayAfter.L0 N n y
  | 0, y => by kernel_rfl
  | n + 1, y => by
    have h : impl_wayAfter.a0 N (n + 1) y = impl_wayAfter.B0 N (fun z => impl_wayAfter.a0 N n z) y := by kernel_rfl
    have e : (fun z => impl_wayAfter.a0 N n z) = impl_wayAfter.L0 N n := funext fun z => impl_wayAfter.r0 N n z
    rw [h]
    try rw [e]
    first | done | rfl
theorem impl_wayAfter.run (N : Nat) (x : ImplTree × ImplTree × (List (Int)) × Unit) : runF cx (look (impl_wayAfter.phis N)) impl_wayAfter.A N (bodyOf Tryd.f42) Tryd.f42.results.toList impl_wayAfter.sg x = impl_wayAfter N x.1 x.2.1 x.2.2.1 := by
  have h : runF cx (look (impl_wayAfter.phis N)) impl_wayAfter.A N (bodyOf Tryd.f42) Tryd.f42.results.toList impl_wayAfter.sg x = impl_wayAfter.B N (fun z => impl_wayAfter.a0 N N z) x.1 x.2.1 x.2.2.1 := by kernel_rfl
  have e0 : (fun z => impl_wayAfter.a0 N N z) = impl_wayAfter.L0 N N := funext fun z => impl_wayAfter.r0 N N z
  rw [h, e0]
  try rfl
noncomputable def impl_wayAfter.sm (N : Nat) : Sm D := (⟨impl_wayAfter.sg, fun (x : ImplTree × ImplTree × (List (Int)) × Unit) => impl_wayAfter N x.1 x.2.1 x.2.2.1⟩ : Sm D)
theorem impl_wayAfter.sound (N : Nat) : Sound cx Tryd.prog gam 42 (impl_wayAfter.sm N) := fn_sound (A := impl_wayAfter.A) (Φ := (look (impl_wayAfter.phis N))) pok (G := gam) (ΦOk.cons (impl_within.sound N) (fnOk_of (f := 37) (by kernel_rfl)) (ΦOk.cons (impl_partners.sound N) (fnOk_of (f := 54) (by kernel_rfl)) (ΦOk.cons (LibIndex.sound N) (fnOk_of (f := 53) (by kernel_rfl)) ΦOk.nil))) mixed N Tryd.func42 (c := (bodyOf Tryd.f42)) (by kernel_rfl) impl_wayAfter.sg (by kernel_rfl) (by kernel_rfl) (by kernel_rfl) (impl_wayAfter.run N)

@[reducible] def impl_WayAfter.sg : Sg := { ms := [{ k := (.st 32) }, { k := (.st 32) }, { k := (.sl (.int .i64)), fl := [none] }], keep := [false, false, false], rs := [{ k := (.sl (.int .i64)), fl := [some (false, 411)] }, { k := .bool }] }
noncomputable def impl_WayAfter.A : Ann := { dp := fun d => isIn [] d, lp := look [], jn := look [], pins := [], nt := 22 }
noncomputable def impl_WayAfter.phis (N : Nat) : List (Nat × Sm D) := [(29, impl_TreeOk.sm N), (42, impl_wayAfter.sm N)]
theorem impl_WayAfter.run (N : Nat) (x : ImplTree × ImplTree × (List (Int)) × Unit) : runF cx (look (impl_WayAfter.phis N)) impl_WayAfter.A N (bodyOf Tryd.f20) Tryd.f20.results.toList impl_WayAfter.sg x = impl_WayAfter N x.1 x.2.1 x.2.2.1 := by
  have h : runF cx (look (impl_WayAfter.phis N)) impl_WayAfter.A N (bodyOf Tryd.f20) Tryd.f20.results.toList impl_WayAfter.sg x = impl_WayAfter.B N x.1 x.2.1 x.2.2.1 := by kernel_rfl
  rw [h]
  try rfl
noncomputable def impl_WayAfter.sm (N : Nat) : Sm D := (⟨impl_WayAfter.sg, fun (x : ImplTree × ImplTree × (List (Int)) × Unit) => impl_WayAfter N x.1 x.2.1 x.2.2.1⟩ : Sm D)
theorem impl_WayAfter.sound (N : Nat) : Sound cx Tryd.prog gam 20 (impl_WayAfter.sm N) := fn_sound (A := impl_WayAfter.A) (Φ := (look (impl_WayAfter.phis N))) pok (G := gam) (ΦOk.cons (impl_TreeOk.sound N) (fnOk_of (f := 29) (by kernel_rfl)) (ΦOk.cons (impl_wayAfter.sound N) (fnOk_of (f := 42) (by kernel_rfl)) ΦOk.nil)) mixed N Tryd.func20 (c := (bodyOf Tryd.f20)) (by kernel_rfl) impl_WayAfter.sg (by kernel_rfl) (by kernel_rfl) (by kernel_rfl) (impl_WayAfter.run N)

@[reducible] def laws_FnExactWayAfter.sg : Sg := { ms := [{ k := (.st 24) }, { k := (.st 24) }, { k := (.sl (.int .i64)), fl := [none] }], keep := [false, false, false], rs := [{ k := .bool }] }
noncomputable def laws_FnExactWayAfter.A : Ann := { dp := fun d => isIn [] d, lp := look [], jn := look [], pins := [], nt := 140 }
noncomputable def laws_FnExactWayAfter.phis (N : Nat) : List (Nat × Sm D) := [(6, laws_szTree.sm N), (8, laws_toTree.sm N), (16, laws_toIntS.sm N), (19, spec_WayAfter.sm N), (20, impl_WayAfter.sm N), (10, laws_eqIntS.sm N), (11, laws_eqTree.sm N), (12, laws_markTree.sm N), (13, laws_markIntS.sm N), (14, laws_heldIntS.sm N)]
theorem laws_FnExactWayAfter.run (N : Nat) (x : LawsTree × LawsTree × (List (Int)) × Unit) : runF cx (look (laws_FnExactWayAfter.phis N)) laws_FnExactWayAfter.A N (bodyOf Tryd.f5) Tryd.f5.results.toList laws_FnExactWayAfter.sg x = laws_FnExactWayAfter N x.1 x.2.1 x.2.2.1 := by
  have h : runF cx (look (laws_FnExactWayAfter.phis N)) laws_FnExactWayAfter.A N (bodyOf Tryd.f5) Tryd.f5.results.toList laws_FnExactWayAfter.sg x = laws_FnExactWayAfter.B N x.1 x.2.1 x.2.2.1 := by kernel_rfl
  rw [h]
  try rfl
noncomputable def laws_FnExactWayAfter.sm (N : Nat) : Sm D := (⟨laws_FnExactWayAfter.sg, fun (x : LawsTree × LawsTree × (List (Int)) × Unit) => laws_FnExactWayAfter N x.1 x.2.1 x.2.2.1⟩ : Sm D)
theorem laws_FnExactWayAfter.sound (N : Nat) : Sound cx Tryd.prog gam 5 (laws_FnExactWayAfter.sm N) := fn_sound (A := laws_FnExactWayAfter.A) (Φ := (look (laws_FnExactWayAfter.phis N))) pok (G := gam) (ΦOk.cons (laws_szTree.sound N) (fnOk_of (f := 6) (by kernel_rfl)) (ΦOk.cons (laws_toTree.sound N) (fnOk_of (f := 8) (by kernel_rfl)) (ΦOk.cons (laws_toIntS.sound N) (fnOk_of (f := 16) (by kernel_rfl)) (ΦOk.cons (spec_WayAfter.sound N) (fnOk_of (f := 19) (by kernel_rfl)) (ΦOk.cons (impl_WayAfter.sound N) (fnOk_of (f := 20) (by kernel_rfl)) (ΦOk.cons (laws_eqIntS.sound N) (fnOk_of (f := 10) (by kernel_rfl)) (ΦOk.cons (laws_eqTree.sound N) (fnOk_of (f := 11) (by kernel_rfl)) (ΦOk.cons (laws_markTree.sound N) (fnOk_of (f := 12) (by kernel_rfl)) (ΦOk.cons (laws_markIntS.sound N) (fnOk_of (f := 13) (by kernel_rfl)) (ΦOk.cons (laws_heldIntS.sound N) (fnOk_of (f := 14) (by kernel_rfl)) ΦOk.nil)))))))))) mixed N Tryd.func5 (c := (bodyOf Tryd.f5)) (by kernel_rfl) laws_FnExactWayAfter.sg (by kernel_rfl) (by kernel_rfl) (by kernel_rfl) (laws_FnExactWayAfter.run N)

end
end Go.Ev
