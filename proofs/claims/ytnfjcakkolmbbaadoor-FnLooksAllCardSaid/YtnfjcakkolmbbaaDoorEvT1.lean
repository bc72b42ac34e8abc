/- Each function that the law reaches does what its plain form says; no condition beyond the table of the library. -/
import Derived.Test.YtnfjcakkolmbbaaDoorEvT0
set_option linter.all false
set_option linter.unusedVariables false
set_option linter.unusedSimpArgs false
set_option maxRecDepth 100000
set_option maxHeartbeats 0
namespace Go.Ev
noncomputable section
open Go.Proofs
@[reducible] def impl_treeFits.sg : Sg := { ms := [{ k := (.st 25) }, { k := (.int .i64) }, { ptr := true, id := 50, t := 3, k := (.int .i64) }], keep := [false, false, true], rs := [{ k := .bool }] }
@[reducible] def impl_treeFits.lvL2 : Lv := { id := 2, slots := [1, 2, 9, 100, 101, 102], ms := [{ k := (.int .i64) }, { ptr := true, id := 50, t := 3, k := (.int .i64), fl := [none] }, { ptr := true, id := 640, t := 777777, k := (.sl (.int .i64)), fl := [none] }, { k := (.sl (.st 25)), fl := [none] }, { k := (.int .i64) }, { k := (.int .i64) }] }
@[reducible] def impl_treeFits.lvL0 : Lv := { id := 0, slots := [1, 2, 3, 64, 65, 66], ms := [{ k := (.int .i64) }, { ptr := true, id := 50, t := 3, k := (.int .i64), fl := [none] }, { ptr := true, id := 640, t := 26, k := (.st 25), fl := [none, none, none, none, none] }, { k := (.sl (.st 67)), fl := [none] }, { k := (.int .i64) }, { k := (.int .i64) }] }
noncomputable def impl_treeFits.A : Ann := { dp := fun d => isIn [] d, lp := look [(2, impl_treeFits.lvL2), (0, impl_treeFits.lvL0)], jn := look [], pins := [50], nt := 125 }
noncomputable def impl_treeFits.phis (N : Nat) (d : Nat) : List (Nat × Sm D) := [(36, impl_shown.sm N), (21, impl_within.sm N), (22, impl_ValOk.sm N), (20, (⟨impl_treeFits.sg, fun (x : ImplTree × Int × Int × Unit) => impl_treeFits.R N d x.1 x.2.1 x.2.2.1⟩ : Sm D))]
noncomputable def impl_treeFits.a2 (N : Nat) (d : Nat) (n : Nat) (y : Int × Int × (List (Int)) × (List (ImplTree)) × Int × Int × Unit) : Option (Int × Bool × Unit) := loopAt cx (look (impl_treeFits.phis N d)) impl_treeFits.A N n (encL cx impl_treeFits.lvL2.ms y).1 (encL cx impl_treeFits.lvL2.ms y).2 (bodyOf Tryd.f20) 0 (Kfin cx impl_treeFits.A impl_treeFits.sg Tryd.f20.results.toList) [1, 1, 1, 1, 1, 1, 1, 0, 1, 1] []
noncomputable def impl_treeFits.a0 (N : Nat) (d : Nat) (n : Nat) (y : Int × Int × ImplTree × (List (ImplProp)) × Int × Int × Unit) : Option (Int × Bool × Unit) := loopAt cx (look (impl_treeFits.phis N d)) impl_treeFits.A N n (encL cx impl_treeFits.lvL0.ms y).1 (encL cx impl_treeFits.lvL0.ms y).2 (bodyOf Tryd.f20) 0 (Kfin cx impl_treeFits.A impl_treeFits.sg Tryd.f20.results.toList) [1, 1, 1, 1, 1, 0, 1, 1] []
theorem impl_treeFits.r2 (N : Nat) (d : Nat) : ∀ (n : Nat) (y : Int × Int × (List (Int)) × (List (ImplTree)) × Int × Int × Unit), impl_treeFits.a2 N d n y = impl_treeFits.L2 N (impl_treeFits.R N d) n y
  | 0, y => by kernel_rfl
  | n + 1, y => by
    have h : impl_treeFits.a2 N d (n + 1) y = impl_treeFits.B2 N (impl_treeFits.R N d) (fun z => impl_treeFits.a2 N d n z) y := by kernel_rfl
    have e : (fun z => impl_treeFits.a2 N d n z) = impl_treeFits.L2 N (impl_treeFits.R N d) n := funext fun z => impl_treeFits.r2 N d n z
    rw [h]
    try rw [e]
    first | done | rfl
theorem impl_treeFits.r0 (N : Nat) (d : Nat) : ∀ (n : Nat) (y : Int × Int × ImplTree × (List (ImplProp)) × Int × Int × Unit), impl_treeFits.a0 N d n y = impl_treeFits.L0 N (impl_treeFits.R N d) n y
  | 0, y => by kernel_rfl
  | n + 1, y => by
    have h : impl_treeFits.a0 N d (n + 1) y = impl_treeFits.B0 N (impl_treeFits.R N d) (fun z => impl_treeFits.a0 N d n z) (fun z => impl_treeFits.a2 N d N z) y := by kernel_rfl
    have e : (fun z => impl_treeFits.a0 N d n z) = impl_treeFits.L0 N (impl_treeFits.R N d) n := funext fun z => impl_treeFits.r0 N d n z
    have e2 : (fun z => impl_treeFits.a2 N d N z) = impl_treeFits.L2 N (impl_treeFits.R N d) N := funext fun z => impl_treeFits.r2 N d N z
    rw [h, e2]
    try rw [e]
    first | done | rfl
theorem impl_treeFits.run (N : Nat) (d : Nat) (x : ImplTree × Int × Int × Unit) : runF cx (look (impl_treeFits.phis N d)) impl_treeFits.A N (bodyOf Tryd.f20) Tryd.f20.results.toList impl_treeFits.sg x = impl_treeFits.R N (d + 1) x.1 x.2.1 x.2.2.1 := by
  have h : runF cx (look (impl_treeFits.phis N d)) impl_treeFits.A N (bodyOf Tryd.f20) Tryd.f20.results.toList impl_treeFits.sg x = impl_treeFits.B N (impl_treeFits.R N d) (fun z => impl_treeFits.a0 N d N z) x.1 x.2.1 x.2.2.1 := by kernel_rfl
  have e0 : (fun z => impl_treeFits.a0 N d N z) = impl_treeFits.L0 N (impl_treeFits.R N d) N := funext fun z => impl_treeFits.r0 N d N z
  rw [h, e0]
  try rfl
theorem impl_treeFits.step (N : Nat) (d : Nat) (h_impl_treeFits : Sound cx Tryd.prog gam 20 (⟨impl_treeFits.sg, fun (x : ImplTree × Int × Int × Unit) => impl_treeFits.R N d x.1 x.2.1 x.2.2.1⟩ : Sm D)) : Sound cx Tryd.prog gam 20 (⟨impl_treeFits.sg, fun (x : ImplTree × Int × Int × Unit) => impl_treeFits.R N (d + 1) x.1 x.2.1 x.2.2.1⟩ : Sm D) := fn_sound (A := impl_treeFits.A) (Φ := (look (impl_treeFits.phis N d))) pok (G := gam) (ΦOk.cons (impl_shown.sound N) (fnOk_of (f := 36) (by kernel_rfl)) (ΦOk.cons (impl_within.sound N) (fnOk_of (f := 21) (by kernel_rfl)) (ΦOk.cons (impl_ValOk.sound N) (fnOk_of (f := 22) (by kernel_rfl)) (ΦOk.cons h_impl_treeFits (fnOk_of (f := 20) (by kernel_rfl)) ΦOk.nil)))) mixed N Tryd.func20 (c := (bodyOf Tryd.f20)) (by kernel_rfl) impl_treeFits.sg (by kernel_rfl) (by kernel_rfl) (by kernel_rfl) (impl_treeFits.run N d)

theorem impl_treeFits.scc (N : Nat) : ∀ d, Sound cx Tryd.prog gam 20 (⟨impl_treeFits.sg, fun (x : ImplTree × Int × Int × Unit) => impl_treeFits.R N d x.1 x.2.1 x.2.2.1⟩ : Sm D)
  | 0 => none_sound 20 impl_treeFits.sg
  | d + 1 => by
    have ih := impl_treeFits.scc N d
    exact impl_treeFits.step N d ih
noncomputable def impl_treeFits.sm (N : Nat) : Sm D := (⟨impl_treeFits.sg, fun (x : ImplTree × Int × Int × Unit) => impl_treeFits.R N N x.1 x.2.1 x.2.2.1⟩ : Sm D)
theorem impl_treeFits.sound (N : Nat) : Sound cx Tryd.prog gam 20 (impl_treeFits.sm N) := (impl_treeFits.scc N N)
@[reducible] def impl_TreeOk.sg : Sg := { ms := [{ k := (.st 25) }], keep := [false], rs := [{ k := .bool }] }
noncomputable def impl_TreeOk.A : Ann := { dp := fun d => isIn [] d, lp := look [], jn := look [], pins := [], nt := 6 }
noncomputable def impl_TreeOk.phis (N : Nat) : List (Nat × Sm D) := [(20, impl_treeFits.sm N)]
theorem impl_TreeOk.run (N : Nat) (x : ImplTree × Unit) : runF cx (look (impl_TreeOk.phis N)) impl_TreeOk.A N (bodyOf Tryd.f8) Tryd.f8.results.toList impl_TreeOk.sg x = impl_TreeOk N x.1 := by
  have h : runF cx (look (impl_TreeOk.phis N)) impl_TreeOk.A N (bodyOf Tryd.f8) Tryd.f8.results.toList impl_TreeOk.sg x = impl_TreeOk.B N x.1 := by kernel_rfl
  rw [h]
  try rfl
noncomputable def impl_TreeOk.sm (N : Nat) : Sm D := (⟨impl_TreeOk.sg, fun (x : ImplTree × Unit) => impl_TreeOk N x.1⟩ : Sm D)
theorem impl_TreeOk.sound (N : Nat) : Sound cx Tryd.prog gam 8 (impl_TreeOk.sm N) := fn_sound (A := impl_TreeOk.A) (Φ := (look (impl_TreeOk.phis N))) pok (G := gam) (ΦOk.cons (impl_treeFits.sound N) (fnOk_of (f := 20) (by kernel_rfl)) ΦOk.nil) mixed N Tryd.func8 (c := (bodyOf Tryd.f8)) (by kernel_rfl) impl_TreeOk.sg (by kernel_rfl) (by kernel_rfl) (by kernel_rfl) (impl_TreeOk.run N)

@[reducible] def impl_RulesOk.sg : Sg := { ms := [{ k := (.sl (.st 50)), fl := [none] }], keep := [false], rs := [{ k := .bool }] }
@[reducible] def impl_RulesOk.lvL0 : Lv := { id := 0, slots := [0, 5, 6, 7], ms := [{ k := (.sl (.st 50)), fl := [none] }, { k := (.sl (.st 50)), fl := [none] }, { k := (.int .i64) }, { k := (.int .i64) }] }
noncomputable def impl_RulesOk.A : Ann := { dp := fun d => isIn [] d, lp := look [(0, impl_RulesOk.lvL0)], jn := look [], pins := [], nt := 58 }
noncomputable def impl_RulesOk.phis (N : Nat) : List (Nat × Sm D) := [(21, impl_within.sm N), (22, impl_ValOk.sm N)]
noncomputable def impl_RulesOk.a0 (N : Nat) (n : Nat) (y : (List (ImplRule)) × (List (ImplRule)) × Int × Int × Unit) : Option (Bool × Unit) := loopAt cx (look (impl_RulesOk.phis N)) impl_RulesOk.A N n (encL cx impl_RulesOk.lvL0.ms y).1 (encL cx impl_RulesOk.lvL0.ms y).2 (bodyOf Tryd.f9) 0 (Kfin cx impl_RulesOk.A impl_RulesOk.sg Tryd.f9.results.toList) [1, 0, 1, 1] []
theorem impl_RulesOk.r0 (N : Nat) : ∀ (n : Nat) (y : (List (ImplRule)) × (List (ImplRule)) × Int × Int × Unit), impl_RulesOk.a0 N n y = impl_RulesOk.L0 N n y
  | 0, y => by kernel_rfl
  | n + 1, y => by
    have h : impl_RulesOk.a0 N (n + 1) y = impl_RulesOk.B0 N (fun z => impl_RulesOk.a0 N n z) y := by kernel_rfl
    have e : (fun z => impl_RulesOk.a0 N n z) = impl_RulesOk.L0 N n := funext fun z => impl_RulesOk.r0 N n z
    rw [h]
    try rw [e]
    first | done | rfl
theorem impl_RulesOk.run (N : Nat) (x : (List (ImplRule)) × Unit) : runF cx (look (impl_RulesOk.phis N)) impl_RulesOk.A N (bodyOf Tryd.f9) Tryd.f9.results.toList impl_RulesOk.sg x = impl_RulesOk N x.1 := by
  have h : runF cx (look (impl_RulesOk.phis N)) impl_RulesOk.A N (bodyOf Tryd.f9) Tryd.f9.results.toList impl_RulesOk.sg x = impl_RulesOk.B N (fun z => impl_RulesOk.a0 N N z) x.1 := by kernel_rfl
  have e0 : (fun z => impl_RulesOk.a0 N N z) = impl_RulesOk.L0 N N := funext fun z => impl_RulesOk.r0 N N z
  rw [h, e0]
  try rfl
noncomputable def impl_RulesOk.sm (N : Nat) : Sm D := (⟨impl_RulesOk.sg, fun (x : (List (ImplRule)) × Unit) => impl_RulesOk N x.1⟩ : Sm D)
theorem impl_RulesOk.sound (N : Nat) : Sound cx Tryd.prog gam 9 (impl_RulesOk.sm N) := fn_sound (A := impl_RulesOk.A) (Φ := (look (impl_RulesOk.phis N))) pok (G := gam) (ΦOk.cons (impl_within.sound N) (fnOk_of (f := 21) (by kernel_rfl)) (ΦOk.cons (impl_ValOk.sound N) (fnOk_of (f := 22) (by kernel_rfl)) ΦOk.nil)) mixed N Tryd.func9 (c := (bodyOf Tryd.f9)) (by kernel_rfl) impl_RulesOk.sg (by kernel_rfl) (by kernel_rfl) (by kernel_rfl) (impl_RulesOk.run N)

@[reducible] def impl_weight.sg : Sg := { ms := [{ k := (.st 50) }], keep := [false], rs := [{ k := (.int .i64) }] }
@[reducible] def impl_weight.lvJ6 : Lv := { id := 6, slots := [1, 3], ms := [{ ptr := true, id := 600, t := 51, k := (.st 50), fl := [none, none, none, none, none, none, none, none] }, { k := (.int .i64) }] }
@[reducible] def impl_weight.lvJ4 : Lv := { id := 4, slots := [1, 3], ms := [{ ptr := true, id := 600, t := 51, k := (.st 50), fl := [none, none, none, none, none, none, none, none] }, { k := (.int .i64) }] }
noncomputable def impl_weight.A : Ann := { dp := fun d => isIn [] d, lp := look [], jn := look [(6, impl_weight.lvJ6), (4, impl_weight.lvJ4)], pins := [], nt := 20 }
noncomputable def impl_weight.phis (N : Nat) : List (Nat × Sm D) := []
theorem impl_weight.run (N : Nat) (x : ImplRule × Unit) : runF cx (look (impl_weight.phis N)) impl_weight.A N (bodyOf Tryd.f30) Tryd.f30.results.toList impl_weight.sg x = impl_weight N x.1 := by
  have h : runF cx (look (impl_weight.phis N)) impl_weight.A N (bodyOf Tryd.f30) Tryd.f30.results.toList impl_weight.sg x = impl_weight.B N x.1 := by kernel_rfl
  rw [h]
  try rfl
noncomputable def impl_weight.sm (N : Nat) : Sm D := (⟨impl_weight.sg, fun (x : ImplRule × Unit) => impl_weight N x.1⟩ : Sm D)
theorem impl_weight.sound (N : Nat) : Sound cx Tryd.prog gam 30 (impl_weight.sm N) := fn_sound (A := impl_weight.A) (Φ := (look (impl_weight.phis N))) pok (G := gam) ΦOk.nil mixed N Tryd.func30 (c := (bodyOf Tryd.f30)) (by kernel_rfl) impl_weight.sg (by kernel_rfl) (by kernel_rfl) (by kernel_rfl) (impl_weight.run N)

@[reducible] def impl_meets.sg : Sg := { ms := [{ k := (.st 50) }, { k := (.st 25) }, { k := (.sl (.int .i64)), fl := [none] }], keep := [false, false, false], rs := [{ k := .bool }] }
@[reducible] def impl_meets.lvL2 : Lv := { id := 2, slots := [3, 45, 46, 47], ms := [{ ptr := true, id := 600, t := 51, k := (.st 50), fl := [none, none, none, none, none, none, none, none] }, { k := (.sl (.st 67)), fl := [none] }, { k := (.int .i64) }, { k := (.int .i64) }] }
@[reducible] def impl_meets.lvJ12 : Lv := { id := 12, slots := [3, 4], ms := [{ ptr := true, id := 600, t := 51, k := (.st 50), fl := [none, none, none, none, none, none, none, none] }, { ptr := true, id := 620, t := 26, k := (.st 25), fl := [none, none, none, none, none] }] }
@[reducible] def impl_meets.lvL0 : Lv := { id := 0, slots := [3, 4, 7, 25, 26, 27], ms := [{ ptr := true, id := 600, t := 51, k := (.st 50), fl := [none, none, none, none, none, none, none, none] }, { ptr := true, id := 620, t := 26, k := (.st 25), fl := [none, none, none, none, none] }, { k := .bool }, { k := (.sl (.int .i64)), fl := [none] }, { k := (.int .i64) }, { k := (.int .i64) }] }
noncomputable def impl_meets.A : Ann := { dp := fun d => isIn [] d, lp := look [(2, impl_meets.lvL2), (0, impl_meets.lvL0)], jn := look [(12, impl_meets.lvJ12)], pins := [], nt := 64 }
noncomputable def impl_meets.phis (N : Nat) : List (Nat × Sm D) := []
noncomputable def impl_meets.a2 (N : Nat) (n : Nat) (y : ImplRule × (List (ImplProp)) × Int × Int × Unit) : Option (Bool × Unit) := loopAt cx (look (impl_meets.phis N)) impl_meets.A N n (encL cx impl_meets.lvL2.ms y).1 (encL cx impl_meets.lvL2.ms y).2 (bodyOf Tryd.f31) 0 (Kfin cx impl_meets.A impl_meets.sg Tryd.f31.results.toList) [1, 1, 1, 1, 0, 1, 1] []
noncomputable def impl_meets.a0 (N : Nat) (n : Nat) (y : ImplRule × ImplTree × Bool × (List (Int)) × Int × Int × Unit) : Option (Bool × Unit) := loopAt cx (look (impl_meets.phis N)) impl_meets.A N n (encL cx impl_meets.lvL0.ms y).1 (encL cx impl_meets.lvL0.ms y).2 (bodyOf Tryd.f31) 0 (Kfin cx impl_meets.A impl_meets.sg Tryd.f31.results.toList) [1, 1, 0, 1, 0, 1, 0, 1, 1] []
theorem impl_meets.r2 (N : Nat) : ∀ (n : Nat) (y : ImplRule × (List (ImplProp)) × Int × Int × Unit), impl_meets.a2 N n y = impl_meets.L2 N n y
  | 0, y => by kernel_rfl
  | n + 1, y => by
    have h : impl_meets.a2 N (n + 1) y = impl_meets.B2 N (fun z => impl_meets.a2 N n z) y := by kernel_rfl
    have e : (fun z => impl_meets.a2 N n z) = impl_meets.L2 N n := funext fun z => impl_meets.r2 N n z
    rw [h]
    try rw [e]
    first | done | rfl
theorem impl_meets.r0 (N : Nat) : ∀ (n : Nat) (y : ImplRule × ImplTree × Bool × (List (Int)) × Int × Int × Unit), impl_meets.a0 N n y = impl_meets.L0 N n y
  | 0, y => by kernel_rfl
  | n + 1, y => by
    have h : impl_meets.a0 N (n + 1) y = impl_meets.B0 N (fun z => impl_meets.a0 N n z) (fun z => impl_meets.a2 N N z) y := by kernel_rfl
    have e : (fun z => impl_meets.a0 N n z) = impl_meets.L0 N n := funext fun z => impl_meets.r0 N n z
    have e2 : (fun z => impl_meets.a2 N N z) = impl_meets.L2 N N := funext fun z => impl_meets.r2 N N z
    rw [h, e2]
    try rw [e]
    first | done | rfl
theorem impl_meets.run (N : Nat) (x : ImplRule × ImplTree × (List (Int)) × Unit) : runF cx (look (impl_meets.phis N)) impl_meets.A N (bodyOf Tryd.f31) Tryd.f31.results.toList impl_meets.sg x = impl_meets N x.1 x.2.1 x.2.2.1 := by
  have h : runF cx (look (impl_meets.phis N)) impl_meets.A N (bodyOf Tryd.f31) Tryd.f31.results.toList impl_meets.sg x = impl_meets.B N (fun z => impl_meets.a0 N N z) (fun z => impl_meets.a2 N N z) x.1 x.2.1 x.2.2.1 := by kernel_rfl
  have e0 : (fun z => impl_meets.a0 N N z) = impl_meets.L0 N N := funext fun z => impl_meets.r0 N N z
  have e2 : (fun z => impl_meets.a2 N N z) = impl_meets.L2 N N := funext fun z => impl_meets.r2 N N z
  rw [h, e0, e2]
  try rfl
noncomputable def impl_meets.sm (N : Nat) : Sm D := (⟨impl_meets.sg, fun (x : ImplRule × ImplTree × (List (Int)) × Unit) => impl_meets N x.1 x.2.1 x.2.2.1⟩ : Sm D)
theorem impl_meets.sound (N : Nat) : Sound cx Tryd.prog gam 31 (impl_meets.sm N) := fn_sound (A := impl_meets.A) (Φ := (look (impl_meets.phis N))) pok (G := gam) ΦOk.nil mixed N Tryd.func31 (c := (bodyOf Tryd.f31)) (by kernel_rfl) impl_meets.sg (by kernel_rfl) (by kernel_rfl) (by kernel_rfl) (impl_meets.run N)

@[reducible] def impl_looks.sg : Sg := { ms := [{ k := (.st 25) }, { k := (.sl (.st 50)), fl := [none] }, { k := (.sl (.int .i64)), fl := [none] }, { k := (.int .i64) }], keep := [false, false, false, false], rs := [{ k := (.sl (.sl (.int .i64))), fl := [some (false, 411)] }], hold := true }
@[reducible] def impl_looks.lvL4 : Lv := { id := 4, slots := [10, 1, 9, 15, 70, 71, 72], ms := [{ k := (.sl (.sl (.int .i64))), fl := [some (false, 600)] }, { k := (.sl (.st 50)), fl := [none] }, { k := (.sl (.int .i64)), fl := [none] }, { k := (.sl (.int .i64)), fl := [none] }, { k := (.sl (.st 25)), fl := [none] }, { k := (.int .i64) }, { k := (.int .i64) }] }
@[reducible] def impl_looks.lvL2 : Lv := { id := 2, slots := [10, 1, 2, 4, 11, 12, 28, 31, 32, 33], ms := [{ ptr := true, id := 600, t := 888888, k := (.sl (.int .i64)), fl := [some (false, 601)] }, { k := (.sl (.st 50)), fl := [none] }, { k := (.sl (.int .i64)), fl := [none] }, { ptr := true, id := 660, t := 26, k := (.st 25), fl := [none, none, none, none, none] }, { k := (.int .i64) }, { k := (.int .i64) }, { k := (.int .i64) }, { k := (.sl (.st 50)), fl := [none] }, { k := (.int .i64) }, { k := (.int .i64) }], al := [(9, 601, false)] }
@[reducible] def impl_looks.lvL0 : Lv := { id := 0, slots := [10, 1, 2, 4, 28], ms := [{ ptr := true, id := 600, t := 888888, k := (.sl (.int .i64)), fl := [some (false, 601)] }, { k := (.sl (.st 50)), fl := [none] }, { k := (.sl (.int .i64)), fl := [none] }, { ptr := true, id := 660, t := 26, k := (.st 25), fl := [none, none, none, none, none] }, { k := (.int .i64) }], al := [(9, 601, false)] }
noncomputable def impl_looks.A : Ann := { dp := fun d => isIn [1000023] d, lp := look [(4, impl_looks.lvL4), (2, impl_looks.lvL2), (0, impl_looks.lvL0)], jn := look [], pins := [], nt := 87 }
noncomputable def impl_looks.phis (N : Nat) (d : Nat) : List (Nat × Sm D) := [(30, impl_weight.sm N), (31, impl_meets.sm N), (15, (⟨impl_looks.sg, fun (x : ImplTree × (List (ImplRule)) × (List (Int)) × Int × Unit) => impl_looks.R N d x.1 x.2.1 x.2.2.1 x.2.2.2.1⟩ : Sm D))]
noncomputable def impl_looks.a2 (N : Nat) (d : Nat) (m0 : Nat) (n : Nat) (y : (List (Int)) × (List (ImplRule)) × (List (Int)) × ImplTree × Int × Int × Int × (List (ImplRule)) × Int × Int × Unit) : Option ((List (List (Int))) × Unit) := loopAt cx (look (impl_looks.phis N d)) impl_looks.A N n (encL cx impl_looks.lvL2.ms y).1 (encL cx impl_looks.lvL2.ms y).2 (bodyOf Tryd.f15) 0 (Kfin cx impl_looks.A impl_looks.sg Tryd.f15.results.toList) [1, 1, 1, 1, 1, 0, 1, 1, 1, 1, 1, 0, 1, 1, 1, 1, 1] [m0]
noncomputable def impl_looks.a4 (N : Nat) (d : Nat) (n : Nat) (y : (List (List (Int))) × (List (ImplRule)) × (List (Int)) × (List (Int)) × (List (ImplTree)) × Int × Int × Unit) : Option ((List (List (Int))) × Unit) := loopAt cx (look (impl_looks.phis N d)) impl_looks.A N n (encL cx impl_looks.lvL4.ms y).1 (encL cx impl_looks.lvL4.ms y).2 (bodyOf Tryd.f15) 0 (Kfin cx impl_looks.A impl_looks.sg Tryd.f15.results.toList) [1, 1, 1, 1, 1, 1, 1, 0, 1, 1] []
noncomputable def impl_looks.a0 (N : Nat) (d : Nat) (n : Nat) (y : (List (Int)) × (List (ImplRule)) × (List (Int)) × ImplTree × Int × Unit) : Option ((List (List (Int))) × Unit) := loopAt cx (look (impl_looks.phis N d)) impl_looks.A N n (encL cx impl_looks.lvL0.ms y).1 (encL cx impl_looks.lvL0.ms y).2 (bodyOf Tryd.f15) 0 (Kfin cx impl_looks.A impl_looks.sg Tryd.f15.results.toList) [1, 1, 1, 1, 1, 0, 1, 1] []
theorem impl_looks.r2 (N : Nat) (d : Nat) (m0 : Nat) : ∀ (n : Nat) (y : (List (Int)) × (List (ImplRule)) × (List (Int)) × ImplTree × Int × Int × Int × (List (ImplRule)) × Int × Int × Unit), impl_looks.a2 N d m0 n y = impl_looks.L2 N (impl_looks.R N d) (fun z => impl_looks.a0 N d m0 z) n y
  | 0, y => by kernel_rfl
  | n + 1, y => by
    have h : impl_looks.a2 N d m0 (n + 1) y = impl_looks.B2 N (impl_looks.R N d) (fun z => impl_looks.a0 N d m0 z) (fun z => impl_looks.a2 N d m0 n z) y := by kernel_rfl
    have e : (fun z => impl_looks.a2 N d m0 n z) = impl_looks.L2 N (impl_looks.R N d) (fun z => impl_looks.a0 N d m0 z) n := funext fun z => impl_looks.r2 N d m0 n z
    rw [h]
    try rw [e]
    first | done | rfl
theorem impl_looks.r4 (N : Nat) (d : Nat) : ∀ (n : Nat) (y : (List (List (Int))) × (List (ImplRule)) × (List (Int)) × (List (Int)) × (List (ImplTree)) × Int × Int × Unit), impl_looks.a4 N d n y = impl_looks.L4 N (impl_looks.R N d) n y
  | 0, y => by kernel_rfl
  | n + 1, y => by
    have h : impl_looks.a4 N d (n + 1) y = impl_looks.B4 N (impl_looks.R N d) (fun z => impl_looks.a4 N d n z) y := by kernel_rfl
    have e : (fun z => impl_looks.a4 N d n z) = impl_looks.L4 N (impl_looks.R N d) n := funext fun z => impl_looks.r4 N d n z
    rw [h]
    try rw [e]
    first | done | rfl
theorem impl_looks.r0 (N : Nat) (d : Nat) : ∀ (n : Nat) (y : (List (Int)) × (List (ImplRule)) × (List (Int)) × ImplTree × Int × Unit), impl_looks.a0 N d n y = impl_looks.L0 N (impl_looks.R N d) n y
  | 0, y => by kernel_rfl
  | n + 1, y => by
    have h : impl_looks.a0 N d (n + 1) y = impl_looks.B0 N (impl_looks.R N d) (fun z => impl_looks.a2 N d n N z) (fun z => impl_looks.a4 N d N z) y := by kernel_rfl
    have e : (fun z => impl_looks.a0 N d n z) = impl_looks.L0 N (impl_looks.R N d) n := funext fun z => impl_looks.r0 N d n z
    have e2 : (fun z => impl_looks.a2 N d n N z) = impl_looks.L2 N (impl_looks.R N d) (fun z => impl_looks.a0 N d n z) N := funext fun z => impl_looks.r2 N d n N z
    have e4 : (fun z => impl_looks.a4 N d N z) = impl_looks.L4 N (impl_looks.R N d) N := funext fun z => impl_looks.r4 N d N z
    rw [h, e2, e4]
    try rw [e]
    first | done | rfl
theorem impl_looks.run (N : Nat) (d : Nat) (x : ImplTree × (List (ImplRule)) × (List (Int)) × Int × Unit) : runF cx (look (impl_looks.phis N d)) impl_looks.A N (bodyOf Tryd.f15) Tryd.f15.results.toList impl_looks.sg x = impl_looks.R N (d + 1) x.1 x.2.1 x.2.2.1 x.2.2.2.1 := by
  have h : runF cx (look (impl_looks.phis N d)) impl_looks.A N (bodyOf Tryd.f15) Tryd.f15.results.toList impl_looks.sg x = impl_looks.B N (impl_looks.R N d) (fun z => impl_looks.a0 N d N z) x.1 x.2.1 x.2.2.1 x.2.2.2.1 := by kernel_rfl
  have e0 : (fun z => impl_looks.a0 N d N z) = impl_looks.L0 N (impl_looks.R N d) N := funext fun z => impl_looks.r0 N d N z
  rw [h, e0]
  try rfl
theorem impl_looks.step (N : Nat) (d : Nat) (h_impl_looks : Sound cx Tryd.prog gam 15 (⟨impl_looks.sg, fun (x : ImplTree × (List (ImplRule)) × (List (Int)) × Int × Unit) => impl_looks.R N d x.1 x.2.1 x.2.2.1 x.2.2.2.1⟩ : Sm D)) : Sound cx Tryd.prog gam 15 (⟨impl_looks.sg, fun (x : ImplTree × (List (ImplRule)) × (List (Int)) × Int × Unit) => impl_looks.R N (d + 1) x.1 x.2.1 x.2.2.1 x.2.2.2.1⟩ : Sm D) := fn_sound (A := impl_looks.A) (Φ := (look (impl_looks.phis N d))) pok (G := gam) (ΦOk.cons (impl_weight.sound N) (fnOk_of (f := 30) (by kernel_rfl)) (ΦOk.cons (impl_meets.sound N) (fnOk_of (f := 31) (by kernel_rfl)) (ΦOk.cons h_impl_looks (fnOk_of (f := 15) (by kernel_rfl)) ΦOk.nil))) mixed N Tryd.func15 (c := (bodyOf Tryd.f15)) (by kernel_rfl) impl_looks.sg (by kernel_rfl) (by kernel_rfl) (by kernel_rfl) (impl_looks.run N d)

theorem impl_looks.scc (N : Nat) : ∀ d, Sound cx Tryd.prog gam 15 (⟨impl_looks.sg, fun (x : ImplTree × (List (ImplRule)) × (List (Int)) × Int × Unit) => impl_looks.R N d x.1 x.2.1 x.2.2.1 x.2.2.2.1⟩ : Sm D)
  | 0 => none_sound 15 impl_looks.sg
  | d + 1 => by
    have ih := impl_looks.scc N d
    exact impl_looks.step N d ih
noncomputable def impl_looks.sm (N : Nat) : Sm D := (⟨impl_looks.sg, fun (x : ImplTree × (List (ImplRule)) × (List (Int)) × Int × Unit) => impl_looks.R N N x.1 x.2.1 x.2.2.1 x.2.2.2.1⟩ : Sm D)
theorem impl_looks.sound (N : Nat) : Sound cx Tryd.prog gam 15 (impl_looks.sm N) := (impl_looks.scc N N)
@[reducible] def impl_LooksAll.sg : Sg := { ms := [{ k := (.st 25) }, { k := (.sl (.st 50)), fl := [none] }], keep := [false, false], rs := [{ k := (.sl (.sl (.int .i64))), fl := [none] }], hold := true }
noncomputable def impl_LooksAll.A : Ann := { dp := fun d => isIn [] d, lp := look [], jn := look [], pins := [], nt := 16 }
noncomputable def impl_LooksAll.phis (N : Nat) : List (Nat × Sm D) := [(8, impl_TreeOk.sm N), (9, impl_RulesOk.sm N), (15, impl_looks.sm N)]
theorem impl_LooksAll.run (N : Nat) (x : ImplTree × (List (ImplRule)) × Unit) : runF cx (look (impl_LooksAll.phis N)) impl_LooksAll.A N (bodyOf Tryd.f5) Tryd.f5.results.toList impl_LooksAll.sg x = impl_LooksAll N x.1 x.2.1 := by
  have h : runF cx (look (impl_LooksAll.phis N)) impl_LooksAll.A N (bodyOf Tryd.f5) Tryd.f5.results.toList impl_LooksAll.sg x = impl_LooksAll.B N x.1 x.2.1 := by kernel_rfl
  rw [h]
  try rfl
noncomputable def impl_LooksAll.sm (N : Nat) : Sm D := (⟨impl_LooksAll.sg, fun (x : ImplTree × (List (ImplRule)) × Unit) => impl_LooksAll N x.1 x.2.1⟩ : Sm D)
theorem impl_LooksAll.sound (N : Nat) : Sound cx Tryd.prog gam 5 (impl_LooksAll.sm N) := fn_sound (A := impl_LooksAll.A) (Φ := (look (impl_LooksAll.phis N))) pok (G := gam) (ΦOk.cons (impl_TreeOk.sound N) (fnOk_of (f := 8) (by kernel_rfl)) (ΦOk.cons (impl_RulesOk.sound N) (fnOk_of (f := 9) (by kernel_rfl)) (ΦOk.cons (impl_looks.sound N) (fnOk_of (f := 15) (by kernel_rfl)) ΦOk.nil))) mixed N Tryd.func5 (c := (bodyOf Tryd.f5)) (by kernel_rfl) impl_LooksAll.sg (by kernel_rfl) (by kernel_rfl) (by kernel_rfl) (impl_LooksAll.run N)

@[reducible] def spec_treeSize.sg : Sg := { ms := [{ k := (.st 25) }, { k := (.int .i64) }], keep := [false, false], rs := [{ k := (.int .i64) }] }
@[reducible] def spec_treeSize.lvL0 : Lv := { id := 0, slots := [1, 2, 5, 6], ms := [{ k := (.int .i64) }, { ptr := true, id := 620, t := 26, k := (.st 25), fl := [none, none, none, none, none] }, { k := (.int .i64) }, { k := (.int .i64) }] }
noncomputable def spec_treeSize.A : Ann := { dp := fun d => isIn [] d, lp := look [(0, spec_treeSize.lvL0)], jn := look [], pins := [], nt := 32 }
noncomputable def spec_treeSize.phis (N : Nat) (d : Nat) : List (Nat × Sm D) := [(32, (⟨spec_treeSize.sg, fun (x : ImplTree × Int × Unit) => spec_treeSize.R N d x.1 x.2.1⟩ : Sm D))]
noncomputable def spec_treeSize.a0 (N : Nat) (d : Nat) (n : Nat) (y : Int × ImplTree × Int × Int × Unit) : Option (Int × Unit) := loopAt cx (look (spec_treeSize.phis N d)) spec_treeSize.A N n (encL cx spec_treeSize.lvL0.ms y).1 (encL cx spec_treeSize.lvL0.ms y).2 (bodyOf Tryd.f32) 0 (Kfin cx spec_treeSize.A spec_treeSize.sg Tryd.f32.results.toList) [1, 1, 1, 0, 1, 1] []
theorem spec_treeSize.r0 (N : Nat) (d : Nat) : ∀ (n : Nat) (y : Int × ImplTree × Int × Int × Unit), spec_treeSize.a0 N d n y = spec_treeSize.L0 N (spec_treeSize.R N d) n y
  | 0, y => by kernel_rfl
  | n + 1, y => by
    have h : spec_treeSize.a0 N d (n + 1) y = spec_treeSize.B0 N (spec_treeSize.R N d) (fun z => spec_treeSize.a0 N d n z) y := by kernel_rfl
    have e : (fun z => spec_treeSize.a0 N d n z) = spec_treeSize.L0 N (spec_treeSize.R N d) n := funext fun z => spec_treeSize.r0 N d n z
    rw [h]
    try rw [e]
    first | done | rfl
theorem spec_treeSize.run (N : Nat) (d : Nat) (x : ImplTree × Int × Unit) : runF cx (look (spec_treeSize.phis N d)) spec_treeSize.A N (bodyOf Tryd.f32) Tryd.f32.results.toList spec_treeSize.sg x = spec_treeSize.R N (d + 1) x.1 x.2.1 := by
  have h : runF cx (look (spec_treeSize.phis N d)) spec_treeSize.A N (bodyOf Tryd.f32) Tryd.f32.results.toList spec_treeSize.sg x = spec_treeSize.B N (spec_treeSize.R N d) (fun z => spec_treeSize.a0 N d N z) x.1 x.2.1 := by kernel_rfl
  have e0 : (fun z => spec_treeSize.a0 N d N z) = spec_treeSize.L0 N (spec_treeSize.R N d) N := funext fun z => spec_treeSize.r0 N d N z
  rw [h, e0]
  try rfl
theorem spec_treeSize.step (N : Nat) (d : Nat) (h_spec_treeSize : Sound cx Tryd.prog gam 32 (⟨spec_treeSize.sg, fun (x : ImplTree × Int × Unit) => spec_treeSize.R N d x.1 x.2.1⟩ : Sm D)) : Sound cx Tryd.prog gam 32 (⟨spec_treeSize.sg, fun (x : ImplTree × Int × Unit) => spec_treeSize.R N (d + 1) x.1 x.2.1⟩ : Sm D) := fn_sound (A := spec_treeSize.A) (Φ := (look (spec_treeSize.phis N d))) pok (G := gam) (ΦOk.cons h_spec_treeSize (fnOk_of (f := 32) (by kernel_rfl)) ΦOk.nil) mixed N Tryd.func32 (c := (bodyOf Tryd.f32)) (by kernel_rfl) spec_treeSize.sg (by kernel_rfl) (by kernel_rfl) (by kernel_rfl) (spec_treeSize.run N d)

theorem spec_treeSize.scc (N : Nat) : ∀ d, Sound cx Tryd.prog gam 32 (⟨spec_treeSize.sg, fun (x : ImplTree × Int × Unit) => spec_treeSize.R N d x.1 x.2.1⟩ : Sm D)
  | 0 => none_sound 32 spec_treeSize.sg
  | d + 1 => by
    have ih := spec_treeSize.scc N d
    exact spec_treeSize.step N d ih
noncomputable def spec_treeSize.sm (N : Nat) : Sm D := (⟨spec_treeSize.sg, fun (x : ImplTree × Int × Unit) => spec_treeSize.R N N x.1 x.2.1⟩ : Sm D)
theorem spec_treeSize.sound (N : Nat) : Sound cx Tryd.prog gam 32 (spec_treeSize.sm N) := (spec_treeSize.scc N N)
@[reducible] def spec_decimal.sg : Sg := { ms := [{ k := (.int .i64) }], keep := [false], rs := [{ k := .str }] }
noncomputable def spec_decimal.A : Ann := { dp := fun d => isIn [] d, lp := look [], jn := look [], pins := [], nt := 22 }
noncomputable def spec_decimal.phis (N : Nat) (d : Nat) : List (Nat × Sm D) := [(50, (⟨spec_decimal.sg, fun (x : Int × Unit) => spec_decimal.R N d x.1⟩ : Sm D))]
theorem spec_decimal.run (N : Nat) (d : Nat) (x : Int × Unit) : runF cx (look (spec_decimal.phis N d)) spec_decimal.A N (bodyOf Tryd.f50) Tryd.f50.results.toList spec_decimal.sg x = spec_decimal.R N (d + 1) x.1 := by
  have h : runF cx (look (spec_decimal.phis N d)) spec_decimal.A N (bodyOf Tryd.f50) Tryd.f50.results.toList spec_decimal.sg x = spec_decimal.B N (spec_decimal.R N d) x.1 := by kernel_rfl
  rw [h]
  try rfl
theorem spec_decimal.step (N : Nat) (d : Nat) (h_spec_decimal : Sound cx Tryd.prog gam 50 (⟨spec_decimal.sg, fun (x : Int × Unit) => spec_decimal.R N d x.1⟩ : Sm D)) : Sound cx Tryd.prog gam 50 (⟨spec_decimal.sg, fun (x : Int × Unit) => spec_decimal.R N (d + 1) x.1⟩ : Sm D) := fn_sound (A := spec_decimal.A) (Φ := (look (spec_decimal.phis N d))) pok (G := gam) (ΦOk.cons h_spec_decimal (fnOk_of (f := 50) (by kernel_rfl)) ΦOk.nil) mixed N Tryd.func50 (c := (bodyOf Tryd.f50)) (by kernel_rfl) spec_decimal.sg (by kernel_rfl) (by kernel_rfl) (by kernel_rfl) (spec_decimal.run N d)

theorem spec_decimal.scc (N : Nat) : ∀ d, Sound cx Tryd.prog gam 50 (⟨spec_decimal.sg, fun (x : Int × Unit) => spec_decimal.R N d x.1⟩ : Sm D)
  | 0 => none_sound 50 spec_decimal.sg
  | d + 1 => by
    have ih := spec_decimal.scc N d
    exact spec_decimal.step N d ih
noncomputable def spec_decimal.sm (N : Nat) : Sm D := (⟨spec_decimal.sg, fun (x : Int × Unit) => spec_decimal.R N N x.1⟩ : Sm D)
theorem spec_decimal.sound (N : Nat) : Sound cx Tryd.prog gam 50 (spec_decimal.sm N) := (spec_decimal.scc N N)
@[reducible] def spec_validShown.sg : Sg := { ms := [{ k := .str }], keep := [false], rs := [{ k := .bool }] }
@[reducible] def spec_validShown.lvL0 : Lv := { id := 0, slots := [0, 3], ms := [{ k := .str }, { k := (.int .i64) }] }
noncomputable def spec_validShown.A : Ann := { dp := fun d => isIn [] d, lp := look [(0, spec_validShown.lvL0)], jn := look [], pins := [], nt := 23 }
noncomputable def spec_validShown.phis (N : Nat) : List (Nat × Sm D) := [(49, spec_validWord.sm N), (50, spec_decimal.sm N)]
noncomputable def spec_validShown.a0 (N : Nat) (n : Nat) (y : (List UInt8) × Int × Unit) : Option (Bool × Unit) := loopAt cx (look (spec_validShown.phis N)) spec_validShown.A N n (encL cx spec_validShown.lvL0.ms y).1 (encL cx spec_validShown.lvL0.ms y).2 (bodyOf Tryd.f41) 0 (Kfin cx spec_validShown.A spec_validShown.sg Tryd.f41.results.toList) [1, 1, 0, 1, 1] []
theorem spec_validShown.r0 (N : Nat) : ∀ (n : Nat) (y : (List UInt8) × Int × Unit), spec_validShown.a0 N n y = spec_validShown.L0 N n y
  | 0, y => by kernel_rfl
  | n + 1, y => by
    have h : spec_validShown.a0 N (n + 1) y = spec_validShown.B0 N (fun z => spec_validShown.a0 N n z) y := by kernel_rfl
    have e : (fun z => spec_validShown.a0 N n z) = spec_validShown.L0 N n := funext fun z => spec_validShown.r0 N n z
    rw [h]
    try rw [e]
    first | done | rfl
theorem spec_validShown.run (N : Nat) (x : (List UInt8) × Unit) : runF cx (look (spec_validShown.phis N)) spec_validShown.A N (bodyOf Tryd.f41) Tryd.f41.results.toList spec_validShown.sg x = spec_validShown N x.1 := by
  have h : runF cx (look (spec_validShown.phis N)) spec_validShown.A N (bodyOf Tryd.f41) Tryd.f41.results.toList spec_validShown.sg x = spec_validShown.B N (fun z => spec_validShown.a0 N N z) x.1 := by kernel_rfl
  have e0 : (fun z => spec_validShown.a0 N N z) = spec_validShown.L0 N N := funext fun z => spec_validShown.r0 N N z
  rw [h, e0]
  try rfl
noncomputable def spec_validShown.sm (N : Nat) : Sm D := (⟨spec_validShown.sg, fun (x : (List UInt8) × Unit) => spec_validShown N x.1⟩ : Sm D)
theorem spec_validShown.sound (N : Nat) : Sound cx Tryd.prog gam 41 (spec_validShown.sm N) := fn_sound (A := spec_validShown.A) (Φ := (look (spec_validShown.phis N))) pok (G := gam) (ΦOk.cons (spec_validWord.sound N) (fnOk_of (f := 49) (by kernel_rfl)) (ΦOk.cons (spec_decimal.sound N) (fnOk_of (f := 50) (by kernel_rfl)) ΦOk.nil)) mixed N Tryd.func41 (c := (bodyOf Tryd.f41)) (by kernel_rfl) spec_validShown.sg (by kernel_rfl) (by kernel_rfl) (by kernel_rfl) (spec_validShown.run N)

@[reducible] def spec_validPropList.sg : Sg := { ms := [{ k := (.sl (.st 67)), fl := [none] }], keep := [false], rs := [{ k := .bool }] }
@[reducible] def spec_validPropList.lvL0 : Lv := { id := 0, slots := [0, 3], ms := [{ k := (.sl (.st 67)), fl := [none] }, { k := (.int .i64) }] }
noncomputable def spec_validPropList.A : Ann := { dp := fun d => isIn [] d, lp := look [(0, spec_validPropList.lvL0)], jn := look [], pins := [], nt := 44 }
noncomputable def spec_validPropList.phis (N : Nat) : List (Nat × Sm D) := [(24, spec_inRange.sm N), (40, spec_validValue.sm N)]
noncomputable def spec_validPropList.a0 (N : Nat) (n : Nat) (y : (List (ImplProp)) × Int × Unit) : Option (Bool × Unit) := loopAt cx (look (spec_validPropList.phis N)) spec_validPropList.A N n (encL cx spec_validPropList.lvL0.ms y).1 (encL cx spec_validPropList.lvL0.ms y).2 (bodyOf Tryd.f42) 0 (Kfin cx spec_validPropList.A spec_validPropList.sg Tryd.f42.results.toList) [1, 0, 1, 1] []
theorem spec_validPropList.r0 (N : Nat) : ∀ (n : Nat) (y : (List (ImplProp)) × Int × Unit), spec_validPropList.a0 N n y = spec_validPropList.L0 N n y
  | 0, y => by kernel_rfl
  | n + 1, y => by
    have h : spec_validPropList.a0 N (n + 1) y = spec_validPropList.B0 N (fun z => spec_validPropList.a0 N n z) y := by kernel_rfl
    have e : (fun z => spec_validPropList.a0 N n z) = spec_validPropList.L0 N n := funext fun z => spec_validPropList.r0 N n z
    rw [h]
    try rw [e]
    first | done | rfl
theorem spec_validPropList.run (N : Nat) (x : (List (ImplProp)) × Unit) : runF cx (look (spec_validPropList.phis N)) spec_validPropList.A N (bodyOf Tryd.f42) Tryd.f42.results.toList spec_validPropList.sg x = spec_validPropList N x.1 := by
  have h : runF cx (look (spec_validPropList.phis N)) spec_validPropList.A N (bodyOf Tryd.f42) Tryd.f42.results.toList spec_validPropList.sg x = spec_validPropList.B N (fun z => spec_validPropList.a0 N N z) x.1 := by kernel_rfl
  have e0 : (fun z => spec_validPropList.a0 N N z) = spec_validPropList.L0 N N := funext fun z => spec_validPropList.r0 N N z
  rw [h, e0]
  try rfl
noncomputable def spec_validPropList.sm (N : Nat) : Sm D := (⟨spec_validPropList.sg, fun (x : (List (ImplProp)) × Unit) => spec_validPropList N x.1⟩ : Sm D)
theorem spec_validPropList.sound (N : Nat) : Sound cx Tryd.prog gam 42 (spec_validPropList.sm N) := fn_sound (A := spec_validPropList.A) (Φ := (look (spec_validPropList.phis N))) pok (G := gam) (ΦOk.cons (spec_inRange.sound N) (fnOk_of (f := 24) (by kernel_rfl)) (ΦOk.cons (spec_validValue.sound N) (fnOk_of (f := 40) (by kernel_rfl)) ΦOk.nil)) mixed N Tryd.func42 (c := (bodyOf Tryd.f42)) (by kernel_rfl) spec_validPropList.sg (by kernel_rfl) (by kernel_rfl) (by kernel_rfl) (spec_validPropList.run N)

@[reducible] def spec_keysApart.sg : Sg := { ms := [{ k := (.sl (.st 25)), fl := [none] }], keep := [false], rs := [{ k := .bool }] }
@[reducible] def spec_keysApart.lvL2 : Lv := { id := 2, slots := [0, 3, 4], ms := [{ k := (.sl (.st 25)), fl := [none] }, { k := (.int .i64) }, { k := (.int .i64) }] }
@[reducible] def spec_keysApart.lvL0 : Lv := { id := 0, slots := [0, 3], ms := [{ k := (.sl (.st 25)), fl := [none] }, { k := (.int .i64) }] }
noncomputable def spec_keysApart.A : Ann := { dp := fun d => isIn [] d, lp := look [(2, spec_keysApart.lvL2), (0, spec_keysApart.lvL0)], jn := look [], pins := [], nt := 35 }
noncomputable def spec_keysApart.phis (N : Nat) : List (Nat × Sm D) := []
noncomputable def spec_keysApart.a2 (N : Nat) (m0 : Nat) (n : Nat) (y : (List (ImplTree)) × Int × Int × Unit) : Option (Bool × Unit) := loopAt cx (look (spec_keysApart.phis N)) spec_keysApart.A N n (encL cx spec_keysApart.lvL2.ms y).1 (encL cx spec_keysApart.lvL2.ms y).2 (bodyOf Tryd.f43) 0 (Kfin cx spec_keysApart.A spec_keysApart.sg Tryd.f43.results.toList) [1, 0, 1, 1, 1, 1, 0, 1, 1, 1] [m0]
noncomputable def spec_keysApart.a0 (N : Nat) (n : Nat) (y : (List (ImplTree)) × Int × Unit) : Option (Bool × Unit) := loopAt cx (look (spec_keysApart.phis N)) spec_keysApart.A N n (encL cx spec_keysApart.lvL0.ms y).1 (encL cx spec_keysApart.lvL0.ms y).2 (bodyOf Tryd.f43) 0 (Kfin cx spec_keysApart.A spec_keysApart.sg Tryd.f43.results.toList) [1, 0, 1, 1] []
theorem spec_keysApart.r2 (N : Nat) (m0 : Nat) : ∀ (n : Nat) (y : (List (ImplTree)) × Int × Int × Unit), spec_keysApart.a2 N m0 n y = spec_keysApart.L2 N (fun z => spec_keysApart.a0 N m0 z) n y
  | 0, y => by kernel_rfl
  | n + 1, y => by
    have h : spec_keysApart.a2 N m0 (n + 1) y = spec_keysApart.B2 N (fun z => spec_keysApart.a0 N m0 z) (fun z => spec_keysApart.a2 N m0 n z) y := by kernel_rfl
    have e : (fun z => spec_keysApart.a2 N m0 n z) = spec_keysApart.L2 N (fun z => spec_keysApart.a0 N m0 z) n := funext fun z => spec_keysApart.r2 N m0 n z
    rw [h]
    try rw [e]
    first | done | rfl
theorem spec_keysApart.r0 (N : Nat) : ∀ (n : Nat) (y : (List (ImplTree)) × Int × Unit), spec_keysApart.a0 N n y = spec_keysApart.L0 N n y
  | 0, y => by kernel_rfl
  | n + 1, y => by
    have h : spec_keysApart.a0 N (n + 1) y = spec_keysApart.B0 N (fun z => spec_keysApart.a2 N n N z) y := by kernel_rfl
    have e : (fun z => spec_keysApart.a0 N n z) = spec_keysApart.L0 N n := funext fun z => spec_keysApart.r0 N n z
    have e2 : (fun z => spec_keysApart.a2 N n N z) = spec_keysApart.L2 N (fun z => spec_keysApart.a0 N n z) N := funext fun z => spec_keysApart.r2 N n N z
    rw [h, e2]
    try rw [e]
    first | done | rfl
theorem spec_keysApart.run (N : Nat) (x : (List (ImplTree)) × Unit) : runF cx (look (spec_keysApart.phis N)) spec_keysApart.A N (bodyOf Tryd.f43) Tryd.f43.results.toList spec_keysApart.sg x = spec_keysApart N x.1 := by
  have h : runF cx (look (spec_keysApart.phis N)) spec_keysApart.A N (bodyOf Tryd.f43) Tryd.f43.results.toList spec_keysApart.sg x = spec_keysApart.B N (fun z => spec_keysApart.a0 N N z) x.1 := by kernel_rfl
  have e0 : (fun z => spec_keysApart.a0 N N z) = spec_keysApart.L0 N N := funext fun z => spec_keysApart.r0 N N z
  rw [h, e0]
  try rfl
noncomputable def spec_keysApart.sm (N : Nat) : Sm D := (⟨spec_keysApart.sg, fun (x : (List (ImplTree)) × Unit) => spec_keysApart N x.1⟩ : Sm D)
theorem spec_keysApart.sound (N : Nat) : Sound cx Tryd.prog gam 43 (spec_keysApart.sm N) := fn_sound (A := spec_keysApart.A) (Φ := (look (spec_keysApart.phis N))) pok (G := gam) ΦOk.nil mixed N Tryd.func43 (c := (bodyOf Tryd.f43)) (by kernel_rfl) spec_keysApart.sg (by kernel_rfl) (by kernel_rfl) (by kernel_rfl) (spec_keysApart.run N)

@[reducible] def spec_validPart.sg : Sg := { ms := [{ k := (.st 25) }], keep := [false], rs := [{ k := .bool }] }
@[reducible] def spec_validPart.lvL0 : Lv := { id := 0, slots := [1, 3], ms := [{ ptr := true, id := 600, t := 26, k := (.st 25), fl := [none, none, none, none, none] }, { k := (.int .i64) }] }
noncomputable def spec_validPart.A : Ann := { dp := fun d => isIn [] d, lp := look [(0, spec_validPart.lvL0)], jn := look [], pins := [], nt := 65 }
noncomputable def spec_validPart.phis (N : Nat) (d : Nat) : List (Nat × Sm D) := [(41, spec_validShown.sm N), (24, spec_inRange.sm N), (42, spec_validPropList.sm N), (33, (⟨spec_validPart.sg, fun (x : ImplTree × Unit) => spec_validPart.R N d x.1⟩ : Sm D)), (43, spec_keysApart.sm N)]
noncomputable def spec_validPart.a0 (N : Nat) (d : Nat) (n : Nat) (y : ImplTree × Int × Unit) : Option (Bool × Unit) := loopAt cx (look (spec_validPart.phis N d)) spec_validPart.A N n (encL cx spec_validPart.lvL0.ms y).1 (encL cx spec_validPart.lvL0.ms y).2 (bodyOf Tryd.f33) 0 (Kfin cx spec_validPart.A spec_validPart.sg Tryd.f33.results.toList) [1, 1, 1, 0, 1, 1] []
theorem spec_validPart.r0 (N : Nat) (d : Nat) : ∀ (n : Nat) (y : ImplTree × Int × Unit), spec_validPart.a0 N d n y = spec_validPart.L0 N (spec_validPart.R N d) n y
  | 0, y => by kernel_rfl
  | n + 1, y => by
    have h : spec_validPart.a0 N d (n + 1) y = spec_validPart.B0 N (spec_validPart.R N d) (fun z => spec_validPart.a0 N d n z) y := by kernel_rfl
    have e : (fun z => spec_validPart.a0 N d n z) = spec_validPart.L0 N (spec_validPart.R N d) n := funext fun z => spec_validPart.r0 N d n z
    rw [h]
    try rw [e]
    first | done | rfl
theorem spec_validPart.run (N : Nat) (d : Nat) (x : ImplTree × Unit) : runF cx (look (spec_validPart.phis N d)) spec_validPart.A N (bodyOf Tryd.f33) Tryd.f33.results.toList spec_validPart.sg x = spec_validPart.R N (d + 1) x.1 := by
  have h : runF cx (look (spec_validPart.phis N d)) spec_validPart.A N (bodyOf Tryd.f33) Tryd.f33.results.toList spec_validPart.sg x = spec_validPart.B N (spec_validPart.R N d) (fun z => spec_validPart.a0 N d N z) x.1 := by kernel_rfl
  have e0 : (fun z => spec_validPart.a0 N d N z) = spec_validPart.L0 N (spec_validPart.R N d) N := funext fun z => spec_validPart.r0 N d N z
  rw [h, e0]
  try rfl
theorem spec_validPart.step (N : Nat) (d : Nat) (h_spec_validPart : Sound cx Tryd.prog gam 33 (⟨spec_validPart.sg, fun (x : ImplTree × Unit) => spec_validPart.R N d x.1⟩ : Sm D)) : Sound cx Tryd.prog gam 33 (⟨spec_validPart.sg, fun (x : ImplTree × Unit) => spec_validPart.R N (d + 1) x.1⟩ : Sm D) := fn_sound (A := spec_validPart.A) (Φ := (look (spec_validPart.phis N d))) pok (G := gam) (ΦOk.cons (spec_validShown.sound N) (fnOk_of (f := 41) (by kernel_rfl)) (ΦOk.cons (spec_inRange.sound N) (fnOk_of (f := 24) (by kernel_rfl)) (ΦOk.cons (spec_validPropList.sound N) (fnOk_of (f := 42) (by kernel_rfl)) (ΦOk.cons h_spec_validPart (fnOk_of (f := 33) (by kernel_rfl)) (ΦOk.cons (spec_keysApart.sound N) (fnOk_of (f := 43) (by kernel_rfl)) ΦOk.nil))))) mixed N Tryd.func33 (c := (bodyOf Tryd.f33)) (by kernel_rfl) spec_validPart.sg (by kernel_rfl) (by kernel_rfl) (by kernel_rfl) (spec_validPart.run N d)

theorem spec_validPart.scc (N : Nat) : ∀ d, Sound cx Tryd.prog gam 33 (⟨spec_validPart.sg, fun (x : ImplTree × Unit) => spec_validPart.R N d x.1⟩ : Sm D)
  | 0 => none_sound 33 spec_validPart.sg
  | d + 1 => by
    have ih := spec_validPart.scc N d
    exact spec_validPart.step N d ih
noncomputable def spec_validPart.sm (N : Nat) : Sm D := (⟨spec_validPart.sg, fun (x : ImplTree × Unit) => spec_validPart.R N N x.1⟩ : Sm D)
theorem spec_validPart.sound (N : Nat) : Sound cx Tryd.prog gam 33 (spec_validPart.sm N) := (spec_validPart.scc N N)
@[reducible] def spec_validTree.sg : Sg := { ms := [{ k := (.st 25) }], keep := [false], rs := [{ k := .bool }] }
noncomputable def spec_validTree.A : Ann := { dp := fun d => isIn [] d, lp := look [], jn := look [], pins := [], nt := 10 }
noncomputable def spec_validTree.phis (N : Nat) : List (Nat × Sm D) := [(32, spec_treeSize.sm N), (33, spec_validPart.sm N)]
theorem spec_validTree.run (N : Nat) (x : ImplTree × Unit) : runF cx (look (spec_validTree.phis N)) spec_validTree.A N (bodyOf Tryd.f16) Tryd.f16.results.toList spec_validTree.sg x = spec_validTree N x.1 := by
  have h : runF cx (look (spec_validTree.phis N)) spec_validTree.A N (bodyOf Tryd.f16) Tryd.f16.results.toList spec_validTree.sg x = spec_validTree.B N x.1 := by kernel_rfl
  rw [h]
  try rfl
noncomputable def spec_validTree.sm (N : Nat) : Sm D := (⟨spec_validTree.sg, fun (x : ImplTree × Unit) => spec_validTree N x.1⟩ : Sm D)
theorem spec_validTree.sound (N : Nat) : Sound cx Tryd.prog gam 16 (spec_validTree.sm N) := fn_sound (A := spec_validTree.A) (Φ := (look (spec_validTree.phis N))) pok (G := gam) (ΦOk.cons (spec_treeSize.sound N) (fnOk_of (f := 32) (by kernel_rfl)) (ΦOk.cons (spec_validPart.sound N) (fnOk_of (f := 33) (by kernel_rfl)) ΦOk.nil)) mixed N Tryd.func16 (c := (bodyOf Tryd.f16)) (by kernel_rfl) spec_validTree.sg (by kernel_rfl) (by kernel_rfl) (by kernel_rfl) (spec_validTree.run N)

end
end Go.Ev
