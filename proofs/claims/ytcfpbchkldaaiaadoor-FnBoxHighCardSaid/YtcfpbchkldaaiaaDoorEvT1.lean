/- Each function that the law reaches does what its plain form says; no condition beyond the table of the library. -/
import Derived.Test.YtcfpbchkldaaiaaDoorEvT0
set_option linter.all false
set_option linter.unusedVariables false
set_option linter.unusedSimpArgs false
set_option maxRecDepth 100000
set_option maxHeartbeats 0
namespace Go.Ev
noncomputable section
open Go.Proofs
@[reducible] def impl_treeFits.sg : Sg := { ms := [{ k := (.st 25) }, { k := (.int .i64) }, { ptr := true, id := 50, t := 3, k := (.int .i64) }], keep := [false, false, true], rs := [{ k := .bool }] }
@[reducible] def impl_treeFits.lvL2 : Lv := { id := 2, slots := [1, 2, 9, 100, 101, 102], ms := [{ k := (.int .i64) }, { ptr := true, id := 50, t := 3, k := (.int .i64), fl := [none] }, { ptr := true, id := 640, t := 777777, k := (.sl (.int .i64)), fl := [none] }, { k := (.sl (.st 25)), fl := [none] }, { k := (.int .i64) }, { k := (.int .i64) }] }
@[reducible] def impl_treeFits.lvL0 : Lv := { id := 0, slots := [1, 2, 3, 64, 65, 66], ms := [{ k := (.int .i64) }, { ptr := true, id := 50, t := 3, k := (.int .i64), fl := [none] }, { ptr := true, id := 640, t := 26, k := (.st 25), fl := [none, none, none, none, none] }, { k := (.sl (.st 63)), fl := [none] }, { k := (.int .i64) }, { k := (.int .i64) }] }
noncomputable def impl_treeFits.A : Ann := { dp := fun d => isIn [] d, lp := look [(2, impl_treeFits.lvL2), (0, impl_treeFits.lvL0)], jn := look [], pins := [50], nt := 125 }
noncomputable def impl_treeFits.phis (N : Nat) (d : Nat) : List (Nat × Sm D) := [(45, impl_shown.sm N), (23, impl_within.sm N), (33, impl_ValOk.sm N), (32, (⟨impl_treeFits.sg, fun (x : ImplTree × Int × Int × Unit) => impl_treeFits.R N d x.1 x.2.1 x.2.2.1⟩ : Sm D))]
noncomputable def impl_treeFits.a2 (N : Nat) (d : Nat) (n : Nat) (y : Int × Int × (List (Int)) × (List (ImplTree)) × Int × Int × Unit) : Option (Int × Bool × Unit) := loopAt cx (look (impl_treeFits.phis N d)) impl_treeFits.A N n (encL cx impl_treeFits.lvL2.ms y).1 (encL cx impl_treeFits.lvL2.ms y).2 (bodyOf Tryd.f32) 0 (Kfin cx impl_treeFits.A impl_treeFits.sg Tryd.f32.results.toList) [1, 1, 1, 1, 1, 1, 1, 0, 1, 1] []
noncomputable def impl_treeFits.a0 (N : Nat) (d : Nat) (n : Nat) (y : Int × Int × ImplTree × (List (ImplProp)) × Int × Int × Unit) : Option (Int × Bool × Unit) := loopAt cx (look (impl_treeFits.phis N d)) impl_treeFits.A N n (encL cx impl_treeFits.lvL0.ms y).1 (encL cx impl_treeFits.lvL0.ms y).2 (bodyOf Tryd.f32) 0 (Kfin cx impl_treeFits.A impl_treeFits.sg Tryd.f32.results.toList) [1, 1, 1, 1, 1, 0, 1, 1] []
theorem impl_treeFits.r2 (N : Nat) (d : Nat) : ∀ (n : Nat) (y : Int × Int × (List (Int)) × (List (ImplTree)) × Int × Int × Unit), impl_treeFits.a2 N d n y = impl_treeFits.L2 N (impl_treeFits.R N d) n y
  | 0, y => by kernel_rfl
  | n + 1, y => by
    have h : impl_treeFits.a2 N d (n + 1) y = impl_treeFits.B2 N (impl_treeFits.R N d) (fun z => impl_treeFits.a2 N d n z) y := by kernel_rfl
    have e : (fun z => impl_treeFits.a2 N d n z) = impl_treeFits.L2 N (impl_treeFits.R N d) n := funext fun z => impl_treeFits.r2 N d n z
    rw [h]
    try rw [e]
    first | done | rfl
theorem impl_treeFits.r0 (N : Nat) (d : Nat) : ∀ (n : Nat) (y : Int × Int × ImplTree × (List (ImplProp)) × Int × Int × Unit), impl_treeFits.a0 N d n y = impl_treeFits.L0 N (impl_treeFits.R N d) n y
  | 0, y => by kernel_rfl
  | n + 1, y => by
    have h : impl_treeFits.a0 N d (n + 1) y = impl_treeFits.B0 N (impl_treeFits.R N d) (fun z => impl_treeFits.a0 N d n z) (fun z => impl_treeFits.a2 N d N z) y := by kernel_rfl
    have e : (fun z => impl_treeFits.a0 N d n z) = impl_treeFits.L0 N (impl_treeFits.R N d) n := funext fun z => impl_treeFits.r0 N d n z
    have e2 : (fun z => impl_treeFits.a2 N d N z) = impl_treeFits.L2 N (impl_treeFits.R N d) N := funext fun z => impl_treeFits.r2 N d N z
    rw [h, e2]
    try rw [e]
    first | done | rfl
theorem impl_treeFits.run (N : Nat) (d : Nat) (x : ImplTree × Int × Int × Unit) : runF cx (look (impl_treeFits.phis N d)) impl_treeFits.A N (bodyOf Tryd.f32) Tryd.f32.results.toList impl_treeFits.sg x = impl_treeFits.R N (d + 1) x.1 x.2.1 x.2.2.1 := by
  have h : runF cx (look (impl_treeFits.phis N d)) impl_treeFits.A N (bodyOf Tryd.f32) Tryd.f32.results.toList impl_treeFits.sg x = impl_treeFits.B N (impl_treeFits.R N d) (fun z => impl_treeFits.a0 N d N z) x.1 x.2.1 x.2.2.1 := by kernel_rfl
  have e0 : (fun z => impl_treeFits.a0 N d N z) = impl_treeFits.L0 N (impl_treeFits.R N d) N := funext fun z => impl_treeFits.r0 N d N z
  rw [h, e0]
  try rfl
theorem impl_treeFits.step (N : Nat) (d : Nat) (h_impl_treeFits : Sound cx Tryd.prog gam 32 (⟨impl_treeFits.sg, fun (x : ImplTree × Int × Int × Unit) => impl_treeFits.R N d x.1 x.2.1 x.2.2.1⟩ : Sm D)) : Sound cx Tryd.prog gam 32 (⟨impl_treeFits.sg, fun (x : ImplTree × Int × Int × Unit) => impl_treeFits.R N (d + 1) x.1 x.2.1 x.2.2.1⟩ : Sm D) := fn_sound (A := impl_treeFits.A) (Φ := (look (impl_treeFits.phis N d))) pok (G := gam) (ΦOk.cons (impl_shown.sound N) (fnOk_of (f := 45) (by kernel_rfl)) (ΦOk.cons (impl_within.sound N) (fnOk_of (f := 23) (by kernel_rfl)) (ΦOk.cons (impl_ValOk.sound N) (fnOk_of (f := 33) (by kernel_rfl)) (ΦOk.cons h_impl_treeFits (fnOk_of (f := 32) (by kernel_rfl)) ΦOk.nil)))) mixed N Tryd.func32 (c := (bodyOf Tryd.f32)) (by kernel_rfl) impl_treeFits.sg (by kernel_rfl) (by kernel_rfl) (by kernel_rfl) (impl_treeFits.run N d)

theorem impl_treeFits.scc (N : Nat) : ∀ d, Sound cx Tryd.prog gam 32 (⟨impl_treeFits.sg, fun (x : ImplTree × Int × Int × Unit) => impl_treeFits.R N d x.1 x.2.1 x.2.2.1⟩ : Sm D)
  | 0 => none_sound 32 impl_treeFits.sg
  | d + 1 => by
    have ih := impl_treeFits.scc N d
    exact impl_treeFits.step N d ih
noncomputable def impl_treeFits.sm (N : Nat) : Sm D := (⟨impl_treeFits.sg, fun (x : ImplTree × Int × Int × Unit) => impl_treeFits.R N N x.1 x.2.1 x.2.2.1⟩ : Sm D)
theorem impl_treeFits.sound (N : Nat) : Sound cx Tryd.prog gam 32 (impl_treeFits.sm N) := (impl_treeFits.scc N N)
@[reducible] def impl_TreeOk.sg : Sg := { ms := [{ k := (.st 25) }], keep := [false], rs := [{ k := .bool }] }
noncomputable def impl_TreeOk.A : Ann := { dp := fun d => isIn [] d, lp := look [], jn := look [], pins := [], nt := 6 }
noncomputable def impl_TreeOk.phis (N : Nat) : List (Nat × Sm D) := [(32, impl_treeFits.sm N)]
theorem impl_TreeOk.run (N : Nat) (x : ImplTree × Unit) : runF cx (look (impl_TreeOk.phis N)) impl_TreeOk.A N (bodyOf Tryd.f21) Tryd.f21.results.toList impl_TreeOk.sg x = impl_TreeOk N x.1 := by
  have h : runF cx (look (impl_TreeOk.phis N)) impl_TreeOk.A N (bodyOf Tryd.f21) Tryd.f21.results.toList impl_TreeOk.sg x = impl_TreeOk.B N x.1 := by kernel_rfl
  rw [h]
  try rfl
noncomputable def impl_TreeOk.sm (N : Nat) : Sm D := (⟨impl_TreeOk.sg, fun (x : ImplTree × Unit) => impl_TreeOk N x.1⟩ : Sm D)
theorem impl_TreeOk.sound (N : Nat) : Sound cx Tryd.prog gam 21 (impl_TreeOk.sm N) := fn_sound (A := impl_TreeOk.A) (Φ := (look (impl_TreeOk.phis N))) pok (G := gam) (ΦOk.cons (impl_treeFits.sound N) (fnOk_of (f := 32) (by kernel_rfl)) ΦOk.nil) mixed N Tryd.func21 (c := (bodyOf Tryd.f21)) (by kernel_rfl) impl_TreeOk.sg (by kernel_rfl) (by kernel_rfl) (by kernel_rfl) (impl_TreeOk.run N)

@[reducible] def impl_RulesOk.sg : Sg := { ms := [{ k := (.sl (.st 51)), fl := [none] }], keep := [false], rs := [{ k := .bool }] }
@[reducible] def impl_RulesOk.lvL0 : Lv := { id := 0, slots := [0, 5, 6, 7], ms := [{ k := (.sl (.st 51)), fl := [none] }, { k := (.sl (.st 51)), fl := [none] }, { k := (.int .i64) }, { k := (.int .i64) }] }
noncomputable def impl_RulesOk.A : Ann := { dp := fun d => isIn [] d, lp := look [(0, impl_RulesOk.lvL0)], jn := look [], pins := [], nt := 58 }
noncomputable def impl_RulesOk.phis (N : Nat) : List (Nat × Sm D) := [(23, impl_within.sm N), (33, impl_ValOk.sm N)]
noncomputable def impl_RulesOk.a0 (N : Nat) (n : Nat) (y : (List (ImplRule)) × (List (ImplRule)) × Int × Int × Unit) : Option (Bool × Unit) := loopAt cx (look (impl_RulesOk.phis N)) impl_RulesOk.A N n (encL cx impl_RulesOk.lvL0.ms y).1 (encL cx impl_RulesOk.lvL0.ms y).2 (bodyOf Tryd.f22) 0 (Kfin cx impl_RulesOk.A impl_RulesOk.sg Tryd.f22.results.toList) [1, 0, 1, 1] []
theorem impl_RulesOk.r0 (N : Nat) : ∀ (n : Nat) (y : (List (ImplRule)) × (List (ImplRule)) × Int × Int × Unit), impl_RulesOk.a0 N n y = impl_RulesOk.L0 N n y
  | 0, y => by kernel_rfl
  | n + 1, y => by
    have h : impl_RulesOk.a0 N (n + 1) y = impl_RulesOk.B0 N (fun z => impl_RulesOk.a0 N n z) y := by kernel_rfl
    have e : (fun z => impl_RulesOk.a0 N n z) = impl_RulesOk.L0 N n := funext fun z => impl_RulesOk.r0 N n z
    rw [h]
    try rw [e]
    first | done | rfl
theorem impl_RulesOk.run (N : Nat) (x : (List (ImplRule)) × Unit) : runF cx (look (impl_RulesOk.phis N)) impl_RulesOk.A N (bodyOf Tryd.f22) Tryd.f22.results.toList impl_RulesOk.sg x = impl_RulesOk N x.1 := by
  have h : runF cx (look (impl_RulesOk.phis N)) impl_RulesOk.A N (bodyOf Tryd.f22) Tryd.f22.results.toList impl_RulesOk.sg x = impl_RulesOk.B N (fun z => impl_RulesOk.a0 N N z) x.1 := by kernel_rfl
  have e0 : (fun z => impl_RulesOk.a0 N N z) = impl_RulesOk.L0 N N := funext fun z => impl_RulesOk.r0 N N z
  rw [h, e0]
  try rfl
noncomputable def impl_RulesOk.sm (N : Nat) : Sm D := (⟨impl_RulesOk.sg, fun (x : (List (ImplRule)) × Unit) => impl_RulesOk N x.1⟩ : Sm D)
theorem impl_RulesOk.sound (N : Nat) : Sound cx Tryd.prog gam 22 (impl_RulesOk.sm N) := fn_sound (A := impl_RulesOk.A) (Φ := (look (impl_RulesOk.phis N))) pok (G := gam) (ΦOk.cons (impl_within.sound N) (fnOk_of (f := 23) (by kernel_rfl)) (ΦOk.cons (impl_ValOk.sound N) (fnOk_of (f := 33) (by kernel_rfl)) ΦOk.nil)) mixed N Tryd.func22 (c := (bodyOf Tryd.f22)) (by kernel_rfl) impl_RulesOk.sg (by kernel_rfl) (by kernel_rfl) (by kernel_rfl) (impl_RulesOk.run N)

@[reducible] def impl_weight.sg : Sg := { ms := [{ k := (.st 51) }], keep := [false], rs := [{ k := (.int .i64) }] }
@[reducible] def impl_weight.lvJ6 : Lv := { id := 6, slots := [1, 3], ms := [{ ptr := true, id := 600, t := 52, k := (.st 51), fl := [none, none, none, none, none, none, none, none] }, { k := (.int .i64) }] }
@[reducible] def impl_weight.lvJ4 : Lv := { id := 4, slots := [1, 3], ms := [{ ptr := true, id := 600, t := 52, k := (.st 51), fl := [none, none, none, none, none, none, none, none] }, { k := (.int .i64) }] }
noncomputable def impl_weight.A : Ann := { dp := fun d => isIn [] d, lp := look [], jn := look [(6, impl_weight.lvJ6), (4, impl_weight.lvJ4)], pins := [], nt := 20 }
noncomputable def impl_weight.phis (N : Nat) : List (Nat × Sm D) := []
theorem impl_weight.run (N : Nat) (x : ImplRule × Unit) : runF cx (look (impl_weight.phis N)) impl_weight.A N (bodyOf Tryd.f47) Tryd.f47.results.toList impl_weight.sg x = impl_weight N x.1 := by
  have h : runF cx (look (impl_weight.phis N)) impl_weight.A N (bodyOf Tryd.f47) Tryd.f47.results.toList impl_weight.sg x = impl_weight.B N x.1 := by kernel_rfl
  rw [h]
  try rfl
noncomputable def impl_weight.sm (N : Nat) : Sm D := (⟨impl_weight.sg, fun (x : ImplRule × Unit) => impl_weight N x.1⟩ : Sm D)
theorem impl_weight.sound (N : Nat) : Sound cx Tryd.prog gam 47 (impl_weight.sm N) := fn_sound (A := impl_weight.A) (Φ := (look (impl_weight.phis N))) pok (G := gam) ΦOk.nil mixed N Tryd.func47 (c := (bodyOf Tryd.f47)) (by kernel_rfl) impl_weight.sg (by kernel_rfl) (by kernel_rfl) (by kernel_rfl) (impl_weight.run N)

@[reducible] def impl_meets.sg : Sg := { ms := [{ k := (.st 51) }, { k := (.st 25) }, { k := (.sl (.int .i64)), fl := [none] }], keep := [false, false, false], rs := [{ k := .bool }] }
@[reducible] def impl_meets.lvL2 : Lv := { id := 2, slots := [3, 45, 46, 47], ms := [{ ptr := true, id := 600, t := 52, k := (.st 51), fl := [none, none, none, none, none, none, none, none] }, { k := (.sl (.st 63)), fl := [none] }, { k := (.int .i64) }, { k := (.int .i64) }] }
@[reducible] def impl_meets.lvJ12 : Lv := { id := 12, slots := [3, 4], ms := [{ ptr := true, id := 600, t := 52, k := (.st 51), fl := [none, none, none, none, none, none, none, none] }, { ptr := true, id := 620, t := 26, k := (.st 25), fl := [none, none, none, none, none] }] }
@[reducible] def impl_meets.lvL0 : Lv := { id := 0, slots := [3, 4, 7, 25, 26, 27], ms := [{ ptr := true, id := 600, t := 52, k := (.st 51), fl := [none, none, none, none, none, none, none, none] }, { ptr := true, id := 620, t := 26, k := (.st 25), fl := [none, none, none, none, none] }, { k := .bool }, { k := (.sl (.int .i64)), fl := [none] }, { k := (.int .i64) }, { k := (.int .i64) }] }
noncomputable def impl_meets.A : Ann := { dp := fun d => isIn [] d, lp := look [(2, impl_meets.lvL2), (0, impl_meets.lvL0)], jn := look [(12, impl_meets.lvJ12)], pins := [], nt := 64 }
noncomputable def impl_meets.phis (N : Nat) : List (Nat × Sm D) := []
noncomputable def impl_meets.a2 (N : Nat) (n : Nat) (y : ImplRule × (List (ImplProp)) × Int × Int × Unit) : Option (Bool × Unit) := loopAt cx (look (impl_meets.phis N)) impl_meets.A N n (encL cx impl_meets.lvL2.ms y).1 (encL cx impl_meets.lvL2.ms y).2 (bodyOf Tryd.f48) 0 (Kfin cx impl_meets.A impl_meets.sg Tryd.f48.results.toList) [1, 1, 1, 1, 0, 1, 1] []
noncomputable def impl_meets.a0 (N : Nat) (n : Nat) (y : ImplRule × ImplTree × Bool × (List (Int)) × Int × Int × Unit) : Option (Bool × Unit) := loopAt cx (look (impl_meets.phis N)) impl_meets.A N n (encL cx impl_meets.lvL0.ms y).1 (encL cx impl_meets.lvL0.ms y).2 (bodyOf Tryd.f48) 0 (Kfin cx impl_meets.A impl_meets.sg Tryd.f48.results.toList) [1, 1, 0, 1, 0, 1, 0, 1, 1] []
theorem impl_meets.r2 (N : Nat) : ∀ (n : Nat) (y : ImplRule × (List (ImplProp)) × Int × Int × Unit), impl_meets.a2 N n y = impl_meets.L2 N n y
  | 0, y => by kernel_rfl
  | n + 1, y => by
    have h : impl_meets.a2 N (n + 1) y = impl_meets.B2 N (fun z => impl_meets.a2 N n z) y := by kernel_rfl
    have e : (fun z => impl_meets.a2 N n z) = impl_meets.L2 N n := funext fun z => impl_meets.r2 N n z
    rw [h]
    try rw [e]
    first | done | rfl
theorem impl_meets.r0 (N : Nat) : ∀ (n : Nat) (y : ImplRule × ImplTree × Bool × (List (Int)) × Int × Int × Unit), impl_meets.a0 N n y = impl_meets.L0 N n y
  | 0, y => by kernel_rfl
  | n + 1, y => by
    have h : impl_meets.a0 N (n + 1) y = impl_meets.B0 N (fun z => impl_meets.a0 N n z) (fun z => impl_meets.a2 N N z) y := by kernel_rfl
    have e : (fun z => impl_meets.a0 N n z) = impl_meets.L0 N n := funext fun z => impl_meets.r0 N n z
    have e2 : (fun z => impl_meets.a2 N N z) = impl_meets.L2 N N := funext fun z => impl_meets.r2 N N z
    rw [h, e2]
    try rw [e]
    first | done | rfl
theorem impl_meets.run (N : Nat) (x : ImplRule × ImplTree × (List (Int)) × Unit) : runF cx (look (impl_meets.phis N)) impl_meets.A N (bodyOf Tryd.f48) Tryd.f48.results.toList impl_meets.sg x = impl_meets N x.1 x.2.1 x.2.2.1 := by
  have h : runF cx (look (impl_meets.phis N)) impl_meets.A N (bodyOf Tryd.f48) Tryd.f48.results.toList impl_meets.sg x = impl_meets.B N (fun z => impl_meets.a0 N N z) (fun z => impl_meets.a2 N N z) x.1 x.2.1 x.2.2.1 := by kernel_rfl
  have e0 : (fun z => impl_meets.a0 N N z) = impl_meets.L0 N N := funext fun z => impl_meets.r0 N N z
  have e2 : (fun z => impl_meets.a2 N N z) = impl_meets.L2 N N := funext fun z => impl_meets.r2 N N z
  rw [h, e0, e2]
  try rfl
noncomputable def impl_meets.sm (N : Nat) : Sm D := (⟨impl_meets.sg, fun (x : ImplRule × ImplTree × (List (Int)) × Unit) => impl_meets N x.1 x.2.1 x.2.2.1⟩ : Sm D)
theorem impl_meets.sound (N : Nat) : Sound cx Tryd.prog gam 48 (impl_meets.sm N) := fn_sound (A := impl_meets.A) (Φ := (look (impl_meets.phis N))) pok (G := gam) ΦOk.nil mixed N Tryd.func48 (c := (bodyOf Tryd.f48)) (by kernel_rfl) impl_meets.sg (by kernel_rfl) (by kernel_rfl) (by kernel_rfl) (impl_meets.run N)

@[reducible] def impl_looks.sg : Sg := { ms := [{ k := (.st 25) }, { k := (.sl (.st 51)), fl := [none] }, { k := (.sl (.int .i64)), fl := [none] }, { k := (.int .i64) }], keep := [false, false, false, false], rs := [{ k := (.sl (.sl (.int .i64))), fl := [some (false, 411)] }], hold := true }
@[reducible] def impl_looks.lvL4 : Lv := { id := 4, slots := [10, 1, 9, 15, 70, 71, 72], ms := [{ k := (.sl (.sl (.int .i64))), fl := [some (false, 600)] }, { k := (.sl (.st 51)), fl := [none] }, { k := (.sl (.int .i64)), fl := [none] }, { k := (.sl (.int .i64)), fl := [none] }, { k := (.sl (.st 25)), fl := [none] }, { k := (.int .i64) }, { k := (.int .i64) }] }
@[reducible] def impl_looks.lvL2 : Lv := { id := 2, slots := [10, 1, 2, 4, 11, 12, 28, 31, 32, 33], ms := [{ ptr := true, id := 600, t := 888888, k := (.sl (.int .i64)), fl := [some (false, 601)] }, { k := (.sl (.st 51)), fl := [none] }, { k := (.sl (.int .i64)), fl := [none] }, { ptr := true, id := 660, t := 26, k := (.st 25), fl := [none, none, none, none, none] }, { k := (.int .i64) }, { k := (.int .i64) }, { k := (.int .i64) }, { k := (.sl (.st 51)), fl := [none] }, { k := (.int .i64) }, { k := (.int .i64) }], al := [(9, 601, false)] }
@[reducible] def impl_looks.lvL0 : Lv := { id := 0, slots := [10, 1, 2, 4, 28], ms := [{ ptr := true, id := 600, t := 888888, k := (.sl (.int .i64)), fl := [some (false, 601)] }, { k := (.sl (.st 51)), fl := [none] }, { k := (.sl (.int .i64)), fl := [none] }, { ptr := true, id := 660, t := 26, k := (.st 25), fl := [none, none, none, none, none] }, { k := (.int .i64) }], al := [(9, 601, false)] }
noncomputable def impl_looks.A : Ann := { dp := fun d => isIn [1000023] d, lp := look [(4, impl_looks.lvL4), (2, impl_looks.lvL2), (0, impl_looks.lvL0)], jn := look [], pins := [], nt := 87 }
noncomputable def impl_looks.phis (N : Nat) (d : Nat) : List (Nat × Sm D) := [(47, impl_weight.sm N), (48, impl_meets.sm N), (34, (⟨impl_looks.sg, fun (x : ImplTree × (List (ImplRule)) × (List (Int)) × Int × Unit) => impl_looks.R N d x.1 x.2.1 x.2.2.1 x.2.2.2.1⟩ : Sm D))]
noncomputable def impl_looks.a2 (N : Nat) (d : Nat) (m0 : Nat) (n : Nat) (y : (List (Int)) × (List (ImplRule)) × (List (Int)) × ImplTree × Int × Int × Int × (List (ImplRule)) × Int × Int × Unit) : Option ((List (List (Int))) × Unit) := loopAt cx (look (impl_looks.phis N d)) impl_looks.A N n (encL cx impl_looks.lvL2.ms y).1 (encL cx impl_looks.lvL2.ms y).2 (bodyOf Tryd.f34) 0 (Kfin cx impl_looks.A impl_looks.sg Tryd.f34.results.toList) [1, 1, 1, 1, 1, 0, 1, 1, 1, 1, 1, 0, 1, 1, 1, 1, 1] [m0]
noncomputable def impl_looks.a4 (N : Nat) (d : Nat) (n : Nat) (y : (List (List (Int))) × (List (ImplRule)) × (List (Int)) × (List (Int)) × (List (ImplTree)) × Int × Int × Unit) : Option ((List (List (Int))) × Unit) := loopAt cx (look (impl_looks.phis N d)) impl_looks.A N n (encL cx impl_looks.lvL4.ms y).1 (encL cx impl_looks.lvL4.ms y).2 (bodyOf Tryd.f34) 0 (Kfin cx impl_looks.A impl_looks.sg Tryd.f34.results.toList) [1, 1, 1, 1, 1, 1, 1, 0, 1, 1] []
noncomputable def impl_looks.a0 (N : Nat) (d : Nat) (n : Nat) (y : (List (Int)) × (List (ImplRule)) × (List (Int)) × ImplTree × Int × Unit) : Option ((List (List (Int))) × Unit) := loopAt cx (look (impl_looks.phis N d)) impl_looks.A N n (encL cx impl_looks.lvL0.ms y).1 (encL cx impl_looks.lvL0.ms y).2 (bodyOf Tryd.f34) 0 (Kfin cx impl_looks.A impl_looks.sg Tryd.f34.results.toList) [1, 1, 1, 1, 1, 0, 1, 1] []
theorem impl_looks.r2 (N : Nat) (d : Nat) (m0 : Nat) : ∀ (n : Nat) (y : (List (Int)) × (List (ImplRule)) × (List (Int)) × ImplTree × Int × Int × Int × (List (ImplRule)) × Int × Int × Unit), impl_looks.a2 N d m0 n y = impl_looks.L2 N (impl_looks.R N d) (fun z => impl_looks.a0 N d m0 z) n y
  | 0, y => by kernel_rfl
  | n + 1, y => by
    have h : impl_looks.a2 N d m0 (n + 1) y = impl_looks.B2 N (impl_looks.R N d) (fun z => impl_looks.a0 N d m0 z) (fun z => impl_looks.a2 N d m0 n z) y := by kernel_rfl
    have e : (fun z => impl_looks.a2 N d m0 n z) = impl_looks.L2 N (impl_looks.R N d) (fun z => impl_looks.a0 N d m0 z) n := funext fun z => impl_looks.r2 N d m0 n z
    rw [h]
    try rw [e]
    first | done | rfl
theorem impl_looks.r4 (N : Nat) (d : Nat) : ∀ (n : Nat) (y : (List (List (Int))) × (List (ImplRule)) × (List (Int)) × (List (Int)) × (List (ImplTree)) × Int × Int × Unit), impl_looks.a4 N d n y = impl_looks.L4 N (impl_looks.R N d) n y
  | 0, y => by kernel_rfl
  | n + 1, y => by
    have h : impl_looks.a4 N d (n + 1) y = impl_looks.B4 N (impl_looks.R N d) (fun z => impl_looks.a4 N d n z) y := by kernel_rfl
    have e : (fun z => impl_looks.a4 N d n z) = impl_looks.L4 N (impl_looks.R N d) n := funext fun z => impl_looks.r4 N d n z
    rw [h]
    try rw [e]
    first | done | rfl
theorem impl_looks.r0 (N : Nat) (d : Nat) : ∀ (n : Nat) (y : (List (Int)) × (List (ImplRule)) × (List (Int)) × ImplTree × Int × Unit), impl_looks.a0 N d n y = impl_looks.L0 N (impl_looks.R N d) n y
  | 0, y => by kernel_rfl
  | n + 1, y => by
    have h : impl_looks.a0 N d (n + 1) y = impl_looks.B0 N (impl_looks.R N d) (fun z => impl_looks.a2 N d n N z) (fun z => impl_looks.a4 N d N z) y := by kernel_rfl
    have e : (fun z => impl_looks.a0 N d n z) = impl_looks.L0 N (impl_looks.R N d) n := funext fun z => impl_looks.r0 N d n z
    have e2 : (fun z => impl_looks.a2 N d n N z) = impl_looks.L2 N (impl_looks.R N d) (fun z => impl_looks.a0 N d n z) N := funext fun z => impl_looks.r2 N d n N z
    have e4 : (fun z => impl_looks.a4 N d N z) = impl_looks.L4 N (impl_looks.R N d) N := funext fun z => impl_looks.r4 N d N z
    rw [h, e2, e4]
    try rw [e]
    first | done | rfl
theorem impl_looks.run (N : Nat) (d : Nat) (x : ImplTree × (List (ImplRule)) × (List (Int)) × Int × Unit) : runF cx (look (impl_looks.phis N d)) impl_looks.A N (bodyOf Tryd.f34) Tryd.f34.results.toList impl_looks.sg x = impl_looks.R N (d + 1) x.1 x.2.1 x.2.2.1 x.2.2.2.1 := by
  have h : runF cx (look (impl_looks.phis N d)) impl_looks.A N (bodyOf Tryd.f34) Tryd.f34.results.toList impl_looks.sg x = impl_looks.B N (impl_looks.R N d) (fun z => impl_looks.a0 N d N z) x.1 x.2.1 x.2.2.1 x.2.2.2.1 := by kernel_rfl
  have e0 : (fun z => impl_looks.a0 N d N z) = impl_looks.L0 N (impl_looks.R N d) N := funext fun z => impl_looks.r0 N d N z
  rw [h, e0]
  try rfl
theorem impl_looks.step (N : Nat) (d : Nat) (h_impl_looks : Sound cx Tryd.prog gam 34 (⟨impl_looks.sg, fun (x : ImplTree × (List (ImplRule)) × (List (Int)) × Int × Unit) => impl_looks.R N d x.1 x.2.1 x.2.2.1 x.2.2.2.1⟩ : Sm D)) : Sound cx Tryd.prog gam 34 (⟨impl_looks.sg, fun (x : ImplTree × (List (ImplRule)) × (List (Int)) × Int × Unit) => impl_looks.R N (d + 1) x.1 x.2.1 x.2.2.1 x.2.2.2.1⟩ : Sm D) := fn_sound (A := impl_looks.A) (Φ := (look (impl_looks.phis N d))) pok (G := gam) (ΦOk.cons (impl_weight.sound N) (fnOk_of (f := 47) (by kernel_rfl)) (ΦOk.cons (impl_meets.sound N) (fnOk_of (f := 48) (by kernel_rfl)) (ΦOk.cons h_impl_looks (fnOk_of (f := 34) (by kernel_rfl)) ΦOk.nil))) mixed N Tryd.func34 (c := (bodyOf Tryd.f34)) (by kernel_rfl) impl_looks.sg (by kernel_rfl) (by kernel_rfl) (by kernel_rfl) (impl_looks.run N d)

theorem impl_looks.scc (N : Nat) : ∀ d, Sound cx Tryd.prog gam 34 (⟨impl_looks.sg, fun (x : ImplTree × (List (ImplRule)) × (List (Int)) × Int × Unit) => impl_looks.R N d x.1 x.2.1 x.2.2.1 x.2.2.2.1⟩ : Sm D)
  | 0 => none_sound 34 impl_looks.sg
  | d + 1 => by
    have ih := impl_looks.scc N d
    exact impl_looks.step N d ih
noncomputable def impl_looks.sm (N : Nat) : Sm D := (⟨impl_looks.sg, fun (x : ImplTree × (List (ImplRule)) × (List (Int)) × Int × Unit) => impl_looks.R N N x.1 x.2.1 x.2.2.1 x.2.2.2.1⟩ : Sm D)
theorem impl_looks.sound (N : Nat) : Sound cx Tryd.prog gam 34 (impl_looks.sm N) := (impl_looks.scc N N)
@[reducible] def impl_treeCount.sg : Sg := { ms := [{ k := (.st 25) }], keep := [false], rs := [{ k := (.int .i64) }] }
@[reducible] def impl_treeCount.lvL0 : Lv := { id := 0, slots := [3, 7, 8, 9], ms := [{ k := (.int .i64) }, { k := (.sl (.st 25)), fl := [none] }, { k := (.int .i64) }, { k := (.int .i64) }] }
noncomputable def impl_treeCount.A : Ann := { dp := fun d => isIn [] d, lp := look [(0, impl_treeCount.lvL0)], jn := look [], pins := [], nt := 19 }
noncomputable def impl_treeCount.phis (N : Nat) (d : Nat) : List (Nat × Sm D) := [(49, (⟨impl_treeCount.sg, fun (x : ImplTree × Unit) => impl_treeCount.R N d x.1⟩ : Sm D))]
noncomputable def impl_treeCount.a0 (N : Nat) (d : Nat) (n : Nat) (y : Int × (List (ImplTree)) × Int × Int × Unit) : Option (Int × Unit) := loopAt cx (look (impl_treeCount.phis N d)) impl_treeCount.A N n (encL cx impl_treeCount.lvL0.ms y).1 (encL cx impl_treeCount.lvL0.ms y).2 (bodyOf Tryd.f49) 0 (Kfin cx impl_treeCount.A impl_treeCount.sg Tryd.f49.results.toList) [1, 1, 0, 1, 1] []
theorem impl_treeCount.r0 (N : Nat) (d : Nat) : ∀ (n : Nat) (y : Int × (List (ImplTree)) × Int × Int × Unit), impl_treeCount.a0 N d n y = impl_treeCount.L0 N (impl_treeCount.R N d) n y
  | 0, y => by kernel_rfl
  | n + 1, y => by
    have h : impl_treeCount.a0 N d (n + 1) y = impl_treeCount.B0 N (impl_treeCount.R N d) (fun z => impl_treeCount.a0 N d n z) y := by kernel_rfl
    have e : (fun z => impl_treeCount.a0 N d n z) = impl_treeCount.L0 N (impl_treeCount.R N d) n := funext fun z => impl_treeCount.r0 N d n z
    rw [h]
    try rw [e]
    first | done | rfl
theorem impl_treeCount.run (N : Nat) (d : Nat) (x : ImplTree × Unit) : runF cx (look (impl_treeCount.phis N d)) impl_treeCount.A N (bodyOf Tryd.f49) Tryd.f49.results.toList impl_treeCount.sg x = impl_treeCount.R N (d + 1) x.1 := by
  have h : runF cx (look (impl_treeCount.phis N d)) impl_treeCount.A N (bodyOf Tryd.f49) Tryd.f49.results.toList impl_treeCount.sg x = impl_treeCount.B N (impl_treeCount.R N d) (fun z => impl_treeCount.a0 N d N z) x.1 := by kernel_rfl
  have e0 : (fun z => impl_treeCount.a0 N d N z) = impl_treeCount.L0 N (impl_treeCount.R N d) N := funext fun z => impl_treeCount.r0 N d N z
  rw [h, e0]
  try rfl
theorem impl_treeCount.step (N : Nat) (d : Nat) (h_impl_treeCount : Sound cx Tryd.prog gam 49 (⟨impl_treeCount.sg, fun (x : ImplTree × Unit) => impl_treeCount.R N d x.1⟩ : Sm D)) : Sound cx Tryd.prog gam 49 (⟨impl_treeCount.sg, fun (x : ImplTree × Unit) => impl_treeCount.R N (d + 1) x.1⟩ : Sm D) := fn_sound (A := impl_treeCount.A) (Φ := (look (impl_treeCount.phis N d))) pok (G := gam) (ΦOk.cons h_impl_treeCount (fnOk_of (f := 49) (by kernel_rfl)) ΦOk.nil) mixed N Tryd.func49 (c := (bodyOf Tryd.f49)) (by kernel_rfl) impl_treeCount.sg (by kernel_rfl) (by kernel_rfl) (by kernel_rfl) (impl_treeCount.run N d)

theorem impl_treeCount.scc (N : Nat) : ∀ d, Sound cx Tryd.prog gam 49 (⟨impl_treeCount.sg, fun (x : ImplTree × Unit) => impl_treeCount.R N d x.1⟩ : Sm D)
  | 0 => none_sound 49 impl_treeCount.sg
  | d + 1 => by
    have ih := impl_treeCount.scc N d
    exact impl_treeCount.step N d ih
noncomputable def impl_treeCount.sm (N : Nat) : Sm D := (⟨impl_treeCount.sg, fun (x : ImplTree × Unit) => impl_treeCount.R N N x.1⟩ : Sm D)
theorem impl_treeCount.sound (N : Nat) : Sound cx Tryd.prog gam 49 (impl_treeCount.sm N) := (impl_treeCount.scc N N)
@[reducible] def impl_boxer_lay.sg : Sg := { ms := [{ ptr := true, id := 10, t := 73, k := (.st 72), fl := [none, none, some (false, 13)] }, { k := (.st 25) }, { k := (.int .i64) }, { k := (.int .i64) }, { k := (.int .i64) }], keep := [true, false, false, false, false], rs := [{ k := (.st 41) }], hold := true }
@[reducible] def impl_boxer_lay.lvJ47 : Lv := { id := 47, slots := [0, 3, 10, 11, 12, 13, 15, 17, 20, 21, 22, 27, 28, 29, 203, 204, 205], ms := [{ ptr := true, id := 10, t := 73, k := (.st 72), fl := [none, none, some (false, 603)] }, { k := (.int .i64) }, { ptr := true, id := 640, t := 42, k := (.st 41), fl := [none, none, none, none] }, { k := (.sl (.int .i64)), fl := [none] }, { k := (.int .i64) }, { ptr := true, id := 700, t := 42, k := (.st 41), fl := [none, none, none, none] }, { k := (.int .i64) }, { k := (.int .i64) }, { k := (.int .i64) }, { k := (.sl (.int .i64)), fl := [some (false, 780)] }, { k := (.int .i64) }, { k := (.int .i64) }, { k := (.int .i64) }, { ptr := true, id := 860, t := 26, k := (.st 25), fl := [none, none, none, none, none] }, { k := (.sl (.st 25)), fl := [none] }, { k := (.int .i64) }, { k := (.int .i64) }] }
@[reducible] def impl_boxer_lay.lvJ37 : Lv := { id := 37, slots := [0, 2, 3, 6, 10, 11, 12, 13, 15, 17, 20, 21, 22, 23, 25, 154, 155, 156], ms := [{ ptr := true, id := 10, t := 73, k := (.st 72), fl := [none, none, some (false, 603)] }, { k := (.int .i64) }, { k := (.int .i64) }, { ptr := true, id := 660, t := 26, k := (.st 25), fl := [none, none, none, none, none] }, { ptr := true, id := 680, t := 42, k := (.st 41), fl := [none, none, none, none] }, { k := (.sl (.int .i64)), fl := [none] }, { k := (.int .i64) }, { ptr := true, id := 740, t := 42, k := (.st 41), fl := [none, none, none, none] }, { k := (.int .i64) }, { k := (.int .i64) }, { k := (.int .i64) }, { k := (.sl (.int .i64)), fl := [some (false, 820)] }, { k := (.int .i64) }, { k := (.int .i64) }, { ptr := true, id := 880, t := 26, k := (.st 25), fl := [none, none, none, none, none] }, { k := (.sl (.st 25)), fl := [none] }, { k := (.int .i64) }, { k := (.int .i64) }] }
@[reducible] def impl_boxer_lay.lvJ50 : Lv := { id := 50, slots := [0, 10, 11, 12, 13, 15, 17], ms := [{ ptr := true, id := 10, t := 73, k := (.st 72), fl := [none, none, some (false, 603)] }, { ptr := true, id := 620, t := 42, k := (.st 41), fl := [none, none, none, none] }, { k := (.sl (.int .i64)), fl := [none] }, { k := (.int .i64) }, { ptr := true, id := 680, t := 42, k := (.st 41), fl := [none, none, none, none] }, { k := (.int .i64) }, { k := (.int .i64) }] }
@[reducible] def impl_boxer_lay.lvJ15 : Lv := { id := 15, slots := [0, 2, 3, 6, 10, 11, 12, 13], ms := [{ ptr := true, id := 10, t := 73, k := (.st 72), fl := [none, none, some (false, 603)] }, { k := (.int .i64) }, { k := (.int .i64) }, { ptr := true, id := 660, t := 26, k := (.st 25), fl := [none, none, none, none, none] }, { ptr := true, id := 680, t := 42, k := (.st 41), fl := [none, none, none, none] }, { k := (.sl (.int .i64)), fl := [none] }, { k := (.int .i64) }, { ptr := true, id := 740, t := 42, k := (.st 41), fl := [none, none, none, none] }] }
@[reducible] def impl_boxer_lay.lvL4 : Lv := { id := 4, slots := [0, 3, 10, 11, 12, 13, 15, 17, 20, 21, 22, 27, 203, 204, 205], ms := [{ ptr := true, id := 10, t := 73, k := (.st 72), fl := [none, none, some (false, 603)] }, { k := (.int .i64) }, { ptr := true, id := 640, t := 42, k := (.st 41), fl := [none, none, none, none] }, { k := (.sl (.int .i64)), fl := [none] }, { k := (.int .i64) }, { ptr := true, id := 700, t := 42, k := (.st 41), fl := [none, none, none, none] }, { k := (.int .i64) }, { k := (.int .i64) }, { k := (.int .i64) }, { k := (.sl (.int .i64)), fl := [some (false, 780)] }, { k := (.int .i64) }, { k := (.int .i64) }, { k := (.sl (.st 25)), fl := [none] }, { k := (.int .i64) }, { k := (.int .i64) }] }
@[reducible] def impl_boxer_lay.lvJ10 : Lv := { id := 10, slots := [0, 10, 12, 13], ms := [{ ptr := true, id := 10, t := 73, k := (.st 72), fl := [none, none, some (false, 603)] }, { ptr := true, id := 620, t := 42, k := (.st 41), fl := [none, none, none, none] }, { k := (.int .i64) }, { ptr := true, id := 660, t := 42, k := (.st 41), fl := [none, none, none, none] }] }
@[reducible] def impl_boxer_lay.lvL2 : Lv := { id := 2, slots := [0, 2, 3, 6, 10, 11, 12, 13, 15, 17, 20, 21, 22, 23, 154, 155, 156], ms := [{ ptr := true, id := 10, t := 73, k := (.st 72), fl := [none, none, some (false, 603)] }, { k := (.int .i64) }, { k := (.int .i64) }, { ptr := true, id := 660, t := 26, k := (.st 25), fl := [none, none, none, none, none] }, { ptr := true, id := 680, t := 42, k := (.st 41), fl := [none, none, none, none] }, { k := (.sl (.int .i64)), fl := [none] }, { k := (.int .i64) }, { ptr := true, id := 740, t := 42, k := (.st 41), fl := [none, none, none, none] }, { k := (.int .i64) }, { k := (.int .i64) }, { k := (.int .i64) }, { k := (.sl (.int .i64)), fl := [some (false, 820)] }, { k := (.int .i64) }, { k := (.int .i64) }, { k := (.sl (.st 25)), fl := [none] }, { k := (.int .i64) }, { k := (.int .i64) }] }
@[reducible] def impl_boxer_lay.lvL0 : Lv := { id := 0, slots := [0, 2, 3, 10, 11, 12, 13, 15, 16, 17, 122, 123, 124], ms := [{ ptr := true, id := 10, t := 73, k := (.st 72), fl := [none, none, some (false, 603)] }, { k := (.int .i64) }, { k := (.int .i64) }, { ptr := true, id := 660, t := 42, k := (.st 41), fl := [none, none, none, none] }, { k := (.sl (.int .i64)), fl := [none] }, { k := (.int .i64) }, { ptr := true, id := 720, t := 42, k := (.st 41), fl := [none, none, none, none] }, { k := (.int .i64) }, { k := (.int .i64) }, { k := (.int .i64) }, { k := (.sl (.st 25)), fl := [none] }, { k := (.int .i64) }, { k := (.int .i64) }] }
@[reducible] def impl_boxer_lay.lvJ53 : Lv := { id := 53, slots := [0, 10, 12, 13], ms := [{ ptr := true, id := 10, t := 73, k := (.st 72), fl := [none, none, some (false, 603)] }, { ptr := true, id := 620, t := 42, k := (.st 41), fl := [none, none, none, none] }, { k := (.int .i64) }, { ptr := true, id := 660, t := 42, k := (.st 41), fl := [none, none, none, none] }] }
noncomputable def impl_boxer_lay.A : Ann := { dp := fun d => isIn [] d, lp := look [(4, impl_boxer_lay.lvL4), (2, impl_boxer_lay.lvL2), (0, impl_boxer_lay.lvL0)], jn := look [(47, impl_boxer_lay.lvJ47), (37, impl_boxer_lay.lvJ37), (50, impl_boxer_lay.lvJ50), (15, impl_boxer_lay.lvJ15), (10, impl_boxer_lay.lvJ10), (53, impl_boxer_lay.lvJ53)], pins := [10], nt := 274 }
noncomputable def impl_boxer_lay.phis (N : Nat) (d : Nat) : List (Nat × Sm D) := [(35, (⟨impl_boxer_lay.sg, fun (x : ImplBoxer × ImplTree × Int × Int × Int × Unit) => impl_boxer_lay.R N d x.1 x.2.1 x.2.2.1 x.2.2.2.1 x.2.2.2.2.1⟩ : Sm D)), (49, impl_treeCount.sm N)]
noncomputable def impl_boxer_lay.a0 (N : Nat) (d : Nat) (n : Nat) (y : ImplBoxer × Int × Int × ImplBox × (List (Int)) × Int × ImplBox × Int × Int × Int × (List (ImplTree)) × Int × Int × Unit) : Option (ImplBoxer × ImplBox × Unit) := loopAt cx (look (impl_boxer_lay.phis N d)) impl_boxer_lay.A N n (encL cx impl_boxer_lay.lvL0.ms y).1 (encL cx impl_boxer_lay.lvL0.ms y).2 (bodyOf Tryd.f35) 0 (Kfin cx impl_boxer_lay.A impl_boxer_lay.sg Tryd.f35.results.toList) [1, 1, 1, 1, 1, 1, 1, 1, 1, 1, 1, 1, 0, 1, 0, 1, 1] []
noncomputable def impl_boxer_lay.a4 (N : Nat) (d : Nat) (n : Nat) (y : ImplBoxer × Int × ImplBox × (List (Int)) × Int × ImplBox × Int × Int × Int × (List (Int)) × Int × Int × (List (ImplTree)) × Int × Int × Unit) : Option (ImplBoxer × ImplBox × Unit) := loopAt cx (look (impl_boxer_lay.phis N d)) impl_boxer_lay.A N n (encL cx impl_boxer_lay.lvL4.ms y).1 (encL cx impl_boxer_lay.lvL4.ms y).2 (bodyOf Tryd.f35) 0 (Kfin cx impl_boxer_lay.A impl_boxer_lay.sg Tryd.f35.results.toList) [1, 1, 1, 1, 1, 1, 1, 1, 1, 1, 1, 1, 0, 1, 1, 1, 1, 1, 1, 1, 1, 1, 1] []
noncomputable def impl_boxer_lay.a2 (N : Nat) (d : Nat) (n : Nat) (y : ImplBoxer × Int × Int × ImplTree × ImplBox × (List (Int)) × Int × ImplBox × Int × Int × Int × (List (Int)) × Int × Int × (List (ImplTree)) × Int × Int × Unit) : Option (ImplBoxer × ImplBox × Unit) := loopAt cx (look (impl_boxer_lay.phis N d)) impl_boxer_lay.A N n (encL cx impl_boxer_lay.lvL2.ms y).1 (encL cx impl_boxer_lay.lvL2.ms y).2 (bodyOf Tryd.f35) 0 (Kfin cx impl_boxer_lay.A impl_boxer_lay.sg Tryd.f35.results.toList) [1, 1, 1, 1, 1, 1, 1, 1, 1, 1, 1, 1, 0, 1, 1, 1, 1, 1, 1, 0, 1, 1] []
theorem impl_boxer_lay.r0 (N : Nat) (d : Nat) : ∀ (n : Nat) (y : ImplBoxer × Int × Int × ImplBox × (List (Int)) × Int × ImplBox × Int × Int × Int × (List (ImplTree)) × Int × Int × Unit), impl_boxer_lay.a0 N d n y = impl_boxer_lay.L0 N (impl_boxer_lay.R N d) n y
  | 0, y => by kernel_rfl
  | n + 1, y => by
    have h : impl_boxer_lay.a0 N d (n + 1) y = impl_boxer_lay.B0 N (impl_boxer_lay.R N d) (fun z => impl_boxer_lay.a0 N d n z) y := by kernel_rfl
    have e : (fun z => impl_boxer_lay.a0 N d n z) = impl_boxer_lay.L0 N (impl_boxer_lay.R N d) n := funext fun z => impl_boxer_lay.r0 N d n z
    rw [h]
    try rw [e]
    first | done | rfl
theorem impl_boxer_lay.r4 (N : Nat) (d : Nat) : ∀ (n : Nat) (y : ImplBoxer × Int × ImplBox × (List (Int)) × Int × ImplBox × Int × Int × Int × (List (Int)) × Int × Int × (List (ImplTree)) × Int × Int × Unit), impl_boxer_lay.a4 N d n y = impl_boxer_lay.L4 N (impl_boxer_lay.R N d) n y
  | 0, y => by kernel_rfl
  | n + 1, y => by
    have h : impl_boxer_lay.a4 N d (n + 1) y = impl_boxer_lay.B4 N (impl_boxer_lay.R N d) (fun z => impl_boxer_lay.a4 N d n z) y := by kernel_rfl
    have e : (fun z => impl_boxer_lay.a4 N d n z) = impl_boxer_lay.L4 N (impl_boxer_lay.R N d) n := funext fun z => impl_boxer_lay.r4 N d n z
    rw [h]
    try rw [e]
    first | done | rfl
theorem impl_boxer_lay.r2 (N : Nat) (d : Nat) : ∀ (n : Nat) (y : ImplBoxer × Int × Int × ImplTree × ImplBox × (List (Int)) × Int × ImplBox × Int × Int × Int × (List (Int)) × Int × Int × (List (ImplTree)) × Int × Int × Unit), impl_boxer_lay.a2 N d n y = impl_boxer_lay.L2 N (impl_boxer_lay.R N d) n y
  | 0, y => by kernel_rfl
  | n + 1, y => by
    have h : impl_boxer_lay.a2 N d (n + 1) y = impl_boxer_lay.B2 N (impl_boxer_lay.R N d) (fun z => impl_boxer_lay.a2 N d n z) (fun z => impl_boxer_lay.a4 N d N z) y := by kernel_rfl
    have e : (fun z => impl_boxer_lay.a2 N d n z) = impl_boxer_lay.L2 N (impl_boxer_lay.R N d) n := funext fun z => impl_boxer_lay.r2 N d n z
    have e4 : (fun z => impl_boxer_lay.a4 N d N z) = impl_boxer_lay.L4 N (impl_boxer_lay.R N d) N := funext fun z => impl_boxer_lay.r4 N d N z
    rw [h, e4]
    try rw [e]
    first | done | rfl
theorem impl_boxer_lay.run (N : Nat) (d : Nat) (x : ImplBoxer × ImplTree × Int × Int × Int × Unit) : runF cx (look (impl_boxer_lay.phis N d)) impl_boxer_lay.A N (bodyOf Tryd.f35) Tryd.f35.results.toList impl_boxer_lay.sg x = impl_boxer_lay.R N (d + 1) x.1 x.2.1 x.2.2.1 x.2.2.2.1 x.2.2.2.2.1 := by
  have h : runF cx (look (impl_boxer_lay.phis N d)) impl_boxer_lay.A N (bodyOf Tryd.f35) Tryd.f35.results.toList impl_boxer_lay.sg x = impl_boxer_lay.B N (impl_boxer_lay.R N d) (fun z => impl_boxer_lay.a0 N d N z) (fun z => impl_boxer_lay.a2 N d N z) x.1 x.2.1 x.2.2.1 x.2.2.2.1 x.2.2.2.2.1 := by kernel_rfl
  have e0 : (fun z => impl_boxer_lay.a0 N d N z) = impl_boxer_lay.L0 N (impl_boxer_lay.R N d) N := funext fun z => impl_boxer_lay.r0 N d N z
  have e2 : (fun z => impl_boxer_lay.a2 N d N z) = impl_boxer_lay.L2 N (impl_boxer_lay.R N d) N := funext fun z => impl_boxer_lay.r2 N d N z
  rw [h, e0, e2]
  try rfl
theorem impl_boxer_lay.step (N : Nat) (d : Nat) (h_impl_boxer_lay : Sound cx Tryd.prog gam 35 (⟨impl_boxer_lay.sg, fun (x : ImplBoxer × ImplTree × Int × Int × Int × Unit) => impl_boxer_lay.R N d x.1 x.2.1 x.2.2.1 x.2.2.2.1 x.2.2.2.2.1⟩ : Sm D)) : Sound cx Tryd.prog gam 35 (⟨impl_boxer_lay.sg, fun (x : ImplBoxer × ImplTree × Int × Int × Int × Unit) => impl_boxer_lay.R N (d + 1) x.1 x.2.1 x.2.2.1 x.2.2.2.1 x.2.2.2.2.1⟩ : Sm D) := fn_sound (A := impl_boxer_lay.A) (Φ := (look (impl_boxer_lay.phis N d))) pok (G := gam) (ΦOk.cons h_impl_boxer_lay (fnOk_of (f := 35) (by kernel_rfl)) (ΦOk.cons (impl_treeCount.sound N) (fnOk_of (f := 49) (by kernel_rfl)) ΦOk.nil)) mixed N Tryd.func35 (c := (bodyOf Tryd.f35)) (by kernel_rfl) impl_boxer_lay.sg (by kernel_rfl) (by kernel_rfl) (by kernel_rfl) (impl_boxer_lay.run N d)

theorem impl_boxer_lay.scc (N : Nat) : ∀ d, Sound cx Tryd.prog gam 35 (⟨impl_boxer_lay.sg, fun (x : ImplBoxer × ImplTree × Int × Int × Int × Unit) => impl_boxer_lay.R N d x.1 x.2.1 x.2.2.1 x.2.2.2.1 x.2.2.2.2.1⟩ : Sm D)
  | 0 => none_sound 35 impl_boxer_lay.sg
  | d + 1 => by
    have ih := impl_boxer_lay.scc N d
    exact impl_boxer_lay.step N d ih
noncomputable def impl_boxer_lay.sm (N : Nat) : Sm D := (⟨impl_boxer_lay.sg, fun (x : ImplBoxer × ImplTree × Int × Int × Int × Unit) => impl_boxer_lay.R N N x.1 x.2.1 x.2.2.1 x.2.2.2.1 x.2.2.2.2.1⟩ : Sm D)
theorem impl_boxer_lay.sound (N : Nat) : Sound cx Tryd.prog gam 35 (impl_boxer_lay.sm N) := (impl_boxer_lay.scc N N)
@[reducible] def impl_boxes.sg : Sg := { ms := [{ k := (.st 25) }, { k := (.sl (.st 51)), fl := [none] }, { k := (.int .i64) }], keep := [false, false, false], rs := [{ k := (.sl (.st 41)), fl := [none] }], hold := true }
noncomputable def impl_boxes.A : Ann := { dp := fun d => isIn [] d, lp := look [], jn := look [], pins := [], nt := 21 }
noncomputable def impl_boxes.phis (N : Nat) : List (Nat × Sm D) := [(34, impl_looks.sm N), (35, impl_boxer_lay.sm N)]
theorem impl_boxes.run (N : Nat) (x : ImplTree × (List (ImplRule)) × Int × Unit) : runF cx (look (impl_boxes.phis N)) impl_boxes.A N (bodyOf Tryd.f24) Tryd.f24.results.toList impl_boxes.sg x = impl_boxes N x.1 x.2.1 x.2.2.1 := by
  have h : runF cx (look (impl_boxes.phis N)) impl_boxes.A N (bodyOf Tryd.f24) Tryd.f24.results.toList impl_boxes.sg x = impl_boxes.B N x.1 x.2.1 x.2.2.1 := by kernel_rfl
  rw [h]
  try rfl
noncomputable def impl_boxes.sm (N : Nat) : Sm D := (⟨impl_boxes.sg, fun (x : ImplTree × (List (ImplRule)) × Int × Unit) => impl_boxes N x.1 x.2.1 x.2.2.1⟩ : Sm D)
theorem impl_boxes.sound (N : Nat) : Sound cx Tryd.prog gam 24 (impl_boxes.sm N) := fn_sound (A := impl_boxes.A) (Φ := (look (impl_boxes.phis N))) pok (G := gam) (ΦOk.cons (impl_looks.sound N) (fnOk_of (f := 34) (by kernel_rfl)) (ΦOk.cons (impl_boxer_lay.sound N) (fnOk_of (f := 35) (by kernel_rfl)) ΦOk.nil)) mixed N Tryd.func24 (c := (bodyOf Tryd.f24)) (by kernel_rfl) impl_boxes.sg (by kernel_rfl) (by kernel_rfl) (by kernel_rfl) (impl_boxes.run N)

@[reducible] def impl_BoxesOf.sg : Sg := { ms := [{ k := (.st 25) }, { k := (.sl (.st 51)), fl := [none] }, { k := (.int .i64) }], keep := [false, false, false], rs := [{ k := (.sl (.st 41)), fl := [none] }], hold := true }
noncomputable def impl_BoxesOf.A : Ann := { dp := fun d => isIn [] d, lp := look [], jn := look [], pins := [], nt := 24 }
noncomputable def impl_BoxesOf.phis (N : Nat) : List (Nat × Sm D) := [(21, impl_TreeOk.sm N), (22, impl_RulesOk.sm N), (23, impl_within.sm N), (24, impl_boxes.sm N)]
theorem impl_BoxesOf.run (N : Nat) (x : ImplTree × (List (ImplRule)) × Int × Unit) : runF cx (look (impl_BoxesOf.phis N)) impl_BoxesOf.A N (bodyOf Tryd.f13) Tryd.f13.results.toList impl_BoxesOf.sg x = impl_BoxesOf N x.1 x.2.1 x.2.2.1 := by
  have h : runF cx (look (impl_BoxesOf.phis N)) impl_BoxesOf.A N (bodyOf Tryd.f13) Tryd.f13.results.toList impl_BoxesOf.sg x = impl_BoxesOf.B N x.1 x.2.1 x.2.2.1 := by kernel_rfl
  rw [h]
  try rfl
noncomputable def impl_BoxesOf.sm (N : Nat) : Sm D := (⟨impl_BoxesOf.sg, fun (x : ImplTree × (List (ImplRule)) × Int × Unit) => impl_BoxesOf N x.1 x.2.1 x.2.2.1⟩ : Sm D)
theorem impl_BoxesOf.sound (N : Nat) : Sound cx Tryd.prog gam 13 (impl_BoxesOf.sm N) := fn_sound (A := impl_BoxesOf.A) (Φ := (look (impl_BoxesOf.phis N))) pok (G := gam) (ΦOk.cons (impl_TreeOk.sound N) (fnOk_of (f := 21) (by kernel_rfl)) (ΦOk.cons (impl_RulesOk.sound N) (fnOk_of (f := 22) (by kernel_rfl)) (ΦOk.cons (impl_within.sound N) (fnOk_of (f := 23) (by kernel_rfl)) (ΦOk.cons (impl_boxes.sound N) (fnOk_of (f := 24) (by kernel_rfl)) ΦOk.nil)))) mixed N Tryd.func13 (c := (bodyOf Tryd.f13)) (by kernel_rfl) impl_BoxesOf.sg (by kernel_rfl) (by kernel_rfl) (by kernel_rfl) (impl_BoxesOf.run N)

@[reducible] def impl_BoxHigh.sg : Sg := { ms := [{ k := (.st 25) }, { k := (.sl (.st 51)), fl := [none] }, { k := (.int .i64) }], keep := [false, false, false], rs := [{ k := (.int .i64) }] }
noncomputable def impl_BoxHigh.A : Ann := { dp := fun d => isIn [] d, lp := look [], jn := look [], pins := [], nt := 19 }
noncomputable def impl_BoxHigh.phis (N : Nat) : List (Nat × Sm D) := [(13, impl_BoxesOf.sm N)]
theorem impl_BoxHigh.run (N : Nat) (x : ImplTree × (List (ImplRule)) × Int × Unit) : runF cx (look (impl_BoxHigh.phis N)) impl_BoxHigh.A N (bodyOf Tryd.f5) Tryd.f5.results.toList impl_BoxHigh.sg x = impl_BoxHigh N x.1 x.2.1 x.2.2.1 := by
  have h : runF cx (look (impl_BoxHigh.phis N)) impl_BoxHigh.A N (bodyOf Tryd.f5) Tryd.f5.results.toList impl_BoxHigh.sg x = impl_BoxHigh.B N x.1 x.2.1 x.2.2.1 := by kernel_rfl
  rw [h]
  try rfl
noncomputable def impl_BoxHigh.sm (N : Nat) : Sm D := (⟨impl_BoxHigh.sg, fun (x : ImplTree × (List (ImplRule)) × Int × Unit) => impl_BoxHigh N x.1 x.2.1 x.2.2.1⟩ : Sm D)
theorem impl_BoxHigh.sound (N : Nat) : Sound cx Tryd.prog gam 5 (impl_BoxHigh.sm N) := fn_sound (A := impl_BoxHigh.A) (Φ := (look (impl_BoxHigh.phis N))) pok (G := gam) (ΦOk.cons (impl_BoxesOf.sound N) (fnOk_of (f := 13) (by kernel_rfl)) ΦOk.nil) mixed N Tryd.func5 (c := (bodyOf Tryd.f5)) (by kernel_rfl) impl_BoxHigh.sg (by kernel_rfl) (by kernel_rfl) (by kernel_rfl) (impl_BoxHigh.run N)

end
end Go.Ev
