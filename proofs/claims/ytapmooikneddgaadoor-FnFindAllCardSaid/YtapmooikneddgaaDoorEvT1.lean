/- Each function that the law reaches does what its plain form says; no condition beyond the table of the library. -/
import Derived.Test.YtapmooikneddgaaDoorEvT0
set_option linter.all false
set_option linter.unusedVariables false
set_option linter.unusedSimpArgs false
set_option maxRecDepth 100000
set_option maxHeartbeats 0
namespace Go.Ev
noncomputable section
open Go.Proofs
@[reducible] def impl_treeFits.sg : Sg := { ms := [{ k := (.st 25) }, { k := (.int .i64) }, { ptr := true, id := 50, t := 3, k := (.int .i64) }], keep := [false, false, true], rs := [{ k := .bool }] }
@[reducible] def impl_treeFits.lvL2 : Lv := { id := 2, slots := [1, 2, 9, 100, 101, 102], ms := [{ k := (.int .i64) }, { ptr := true, id := 50, t := 3, k := (.int .i64), fl := [none] }, { ptr := true, id := 640, t := 777777, k := (.sl (.int .i64)), fl := [none] }, { k := (.sl (.st 25)), fl := [none] }, { k := (.int .i64) }, { k := (.int .i64) }] }
@[reducible] def impl_treeFits.lvL0 : Lv := { id := 0, slots := [1, 2, 3, 64, 65, 66], ms := [{ k := (.int .i64) }, { ptr := true, id := 50, t := 3, k := (.int .i64), fl := [none] }, { ptr := true, id := 640, t := 26, k := (.st 25), fl := [none, none, none, none, none] }, { k := (.sl (.st 68)), fl := [none] }, { k := (.int .i64) }, { k := (.int .i64) }] }
noncomputable def impl_treeFits.A : Ann := { dp := fun d => isIn [] d, lp := look [(2, impl_treeFits.lvL2), (0, impl_treeFits.lvL0)], jn := look [], pins := [50], nt := 125 }
noncomputable def impl_treeFits.phis (N : Nat) (d : Nat) : List (Nat × Sm D) := [(37, impl_shown.sm N), (22, impl_within.sm N), (23, impl_ValOk.sm N), (21, (⟨impl_treeFits.sg, fun (x : ImplTree × Int × Int × Unit) => impl_treeFits.R N d x.1 x.2.1 x.2.2.1⟩ : Sm D))]
noncomputable def impl_treeFits.a2 (N : Nat) (d : Nat) (n : Nat) (y : Int × Int × (List (Int)) × (List (ImplTree)) × Int × Int × Unit) : Option (Int × Bool × Unit) := loopAt cx (look (impl_treeFits.phis N d)) impl_treeFits.A N n (encL cx impl_treeFits.lvL2.ms y).1 (encL cx impl_treeFits.lvL2.ms y).2 (bodyOf Tryd.f21) 0 (Kfin cx impl_treeFits.A impl_treeFits.sg Tryd.f21.results.toList) [1, 1, 1, 1, 1, 1, 1, 0, 1, 1] []
noncomputable def impl_treeFits.a0 (N : Nat) (d : Nat) (n : Nat) (y : Int × Int × ImplTree × (List (ImplProp)) × Int × Int × Unit) : Option (Int × Bool × Unit) := loopAt cx (look (impl_treeFits.phis N d)) impl_treeFits.A N n (encL cx impl_treeFits.lvL0.ms y).1 (encL cx impl_treeFits.lvL0.ms y).2 (bodyOf Tryd.f21) 0 (Kfin cx impl_treeFits.A impl_treeFits.sg Tryd.f21.results.toList) [1, 1, 1, 1, 1, 0, 1, 1] []
theorem impl_treeFits.r2 (N : Nat) (d : Nat) : ∀ (n : Nat) (y : Int × Int × (List (Int)) × (List (ImplTree)) × Int × Int × Unit), impl_treeFits.a2 N d n y = impl_treeFits.L2 N (impl_treeFits.R N d) n y
  | 0, y => by kernel_rfl
  | n + 1, y => by
    have h : impl_treeFits.a2 N d (n + 1) y = impl_treeFits.B2 N (impl_treeFits.R N d) (fun z => impl_treeFits.a2 N d n z) y := by kernel_rfl
    have e : (fun z => impl_treeFits.a2 N d n z) = impl_treeFits.L2 N (impl_treeFits.R N d) n := funext fun z => impl_treeFits.r2 N d n z
    rw [h]
    try rw [e]
    first | done | rfl
theorem impl_treeFits.r0 (N : Nat) (d : Nat) : ∀ (n : Nat) (y : Int × Int × ImplTree × (List (ImplProp)) × Int × Int × Unit), impl_treeFits.a0 N d n y = impl_treeFits.L0 N (impl_treeFits.R N d) n y
  | 0, y => by kernel_rfl
  | n + 1, y => by
    have h : impl_treeFits.a0 N d (n + 1) y = impl_treeFits.B0 N (impl_treeFits.R N d) (fun z => impl_treeFits.a0 N d n z) (fun z => impl_treeFits.a2 N d N z) y := by kernel_rfl
    have e : (fun z => impl_treeFits.a0 N d n z) = impl_treeFits.L0 N (impl_treeFits.R N d) n := funext fun z => impl_treeFits.r0 N d n z
    have e2 : (fun z => impl_treeFits.a2 N d N z) = impl_treeFits.L2 N (impl_treeFits.R N d) N := funext fun z => impl_treeFits.r2 N d N z
    rw [h, e2]
    try rw [e]
    first | done | rfl
theorem impl_treeFits.run (N : Nat) (d : Nat) (x : ImplTree × Int × Int × Unit) : runF cx (look (impl_treeFits.phis N d)) impl_treeFits.A N (bodyOf Tryd.f21) Tryd.f21.results.toList impl_treeFits.sg x = impl_treeFits.R N (d + 1) x.1 x.2.1 x.2.2.1 := by
  have h : runF cx (look (impl_treeFits.phis N d)) impl_treeFits.A N (bodyOf Tryd.f21) Tryd.f21.results.toList impl_treeFits.sg x = impl_treeFits.B N (impl_treeFits.R N d) (fun z => impl_treeFits.a0 N d N z) x.1 x.2.1 x.2.2.1 := by kernel_rfl
  have e0 : (fun z => impl_treeFits.a0 N d N z) = impl_treeFits.L0 N (impl_treeFits.R N d) N := funext fun z => impl_treeFits.r0 N d N z
  rw [h, e0]
  try rfl
theorem impl_treeFits.step (N : Nat) (d : Nat) (h_impl_treeFits : Sound cx Tryd.prog gam 21 (⟨impl_treeFits.sg, fun (x : ImplTree × Int × Int × Unit) => impl_treeFits.R N d x.1 x.2.1 x.2.2.1⟩ : Sm D)) : Sound cx Tryd.prog gam 21 (⟨impl_treeFits.sg, fun (x : ImplTree × Int × Int × Unit) => impl_treeFits.R N (d + 1) x.1 x.2.1 x.2.2.1⟩ : Sm D) := fn_sound (A := impl_treeFits.A) (Φ := (look (impl_treeFits.phis N d))) pok (G := gam) (ΦOk.cons (impl_shown.sound N) (fnOk_of (f := 37) (by kernel_rfl)) (ΦOk.cons (impl_within.sound N) (fnOk_of (f := 22) (by kernel_rfl)) (ΦOk.cons (impl_ValOk.sound N) (fnOk_of (f := 23) (by kernel_rfl)) (ΦOk.cons h_impl_treeFits (fnOk_of (f := 21) (by kernel_rfl)) ΦOk.nil)))) mixed N Tryd.func21 (c := (bodyOf Tryd.f21)) (by kernel_rfl) impl_treeFits.sg (by kernel_rfl) (by kernel_rfl) (by kernel_rfl) (impl_treeFits.run N d)

theorem impl_treeFits.scc (N : Nat) : ∀ d, Sound cx Tryd.prog gam 21 (⟨impl_treeFits.sg, fun (x : ImplTree × Int × Int × Unit) => impl_treeFits.R N d x.1 x.2.1 x.2.2.1⟩ : Sm D)
  | 0 => none_sound 21 impl_treeFits.sg
  | d + 1 => by
    have ih := impl_treeFits.scc N d
    exact impl_treeFits.step N d ih
noncomputable def impl_treeFits.sm (N : Nat) : Sm D := (⟨impl_treeFits.sg, fun (x : ImplTree × Int × Int × Unit) => impl_treeFits.R N N x.1 x.2.1 x.2.2.1⟩ : Sm D)
theorem impl_treeFits.sound (N : Nat) : Sound cx Tryd.prog gam 21 (impl_treeFits.sm N) := (impl_treeFits.scc N N)
@[reducible] def impl_TreeOk.sg : Sg := { ms := [{ k := (.st 25) }], keep := [false], rs := [{ k := .bool }] }
noncomputable def impl_TreeOk.A : Ann := { dp := fun d => isIn [] d, lp := look [], jn := look [], pins := [], nt := 6 }
noncomputable def impl_TreeOk.phis (N : Nat) : List (Nat × Sm D) := [(21, impl_treeFits.sm N)]
theorem impl_TreeOk.run (N : Nat) (x : ImplTree × Unit) : runF cx (look (impl_TreeOk.phis N)) impl_TreeOk.A N (bodyOf Tryd.f8) Tryd.f8.results.toList impl_TreeOk.sg x = impl_TreeOk N x.1 := by
  have h : runF cx (look (impl_TreeOk.phis N)) impl_TreeOk.A N (bodyOf Tryd.f8) Tryd.f8.results.toList impl_TreeOk.sg x = impl_TreeOk.B N x.1 := by kernel_rfl
  rw [h]
  try rfl
noncomputable def impl_TreeOk.sm (N : Nat) : Sm D := (⟨impl_TreeOk.sg, fun (x : ImplTree × Unit) => impl_TreeOk N x.1⟩ : Sm D)
theorem impl_TreeOk.sound (N : Nat) : Sound cx Tryd.prog gam 8 (impl_TreeOk.sm N) := fn_sound (A := impl_TreeOk.A) (Φ := (look (impl_TreeOk.phis N))) pok (G := gam) (ΦOk.cons (impl_treeFits.sound N) (fnOk_of (f := 21) (by kernel_rfl)) ΦOk.nil) mixed N Tryd.func8 (c := (bodyOf Tryd.f8)) (by kernel_rfl) impl_TreeOk.sg (by kernel_rfl) (by kernel_rfl) (by kernel_rfl) (impl_TreeOk.run N)

@[reducible] def impl_RulesOk.sg : Sg := { ms := [{ k := (.sl (.st 29)), fl := [none] }], keep := [false], rs := [{ k := .bool }] }
@[reducible] def impl_RulesOk.lvL0 : Lv := { id := 0, slots := [0, 5, 6, 7], ms := [{ k := (.sl (.st 29)), fl := [none] }, { k := (.sl (.st 29)), fl := [none] }, { k := (.int .i64) }, { k := (.int .i64) }] }
noncomputable def impl_RulesOk.A : Ann := { dp := fun d => isIn [] d, lp := look [(0, impl_RulesOk.lvL0)], jn := look [], pins := [], nt := 58 }
noncomputable def impl_RulesOk.phis (N : Nat) : List (Nat × Sm D) := [(22, impl_within.sm N), (23, impl_ValOk.sm N)]
noncomputable def impl_RulesOk.a0 (N : Nat) (n : Nat) (y : (List (ImplRule)) × (List (ImplRule)) × Int × Int × Unit) : Option (Bool × Unit) := loopAt cx (look (impl_RulesOk.phis N)) impl_RulesOk.A N n (encL cx impl_RulesOk.lvL0.ms y).1 (encL cx impl_RulesOk.lvL0.ms y).2 (bodyOf Tryd.f9) 0 (Kfin cx impl_RulesOk.A impl_RulesOk.sg Tryd.f9.results.toList) [1, 0, 1, 1] []
theorem impl_RulesOk.r0 (N : Nat) : ∀ (n : Nat) (y : (List (ImplRule)) × (List (ImplRule)) × Int × Int × Unit), impl_RulesOk.a0 N n y = impl_RulesOk.L0 N n y
  | 0, y => by kernel_rfl
  | n + 1, y => by
    have h : impl_RulesOk.a0 N (n + 1) y = impl_RulesOk.B0 N (fun z => impl_RulesOk.a0 N n z) y := by kernel_rfl
    have e : (fun z => impl_RulesOk.a0 N n z) = impl_RulesOk.L0 N n := funext fun z => impl_RulesOk.r0 N n z
    rw [h]
    try rw [e]
    first | done | rfl
theorem impl_RulesOk.run (N : Nat) (x : (List (ImplRule)) × Unit) : runF cx (look (impl_RulesOk.phis N)) impl_RulesOk.A N (bodyOf Tryd.f9) Tryd.f9.results.toList impl_RulesOk.sg x = impl_RulesOk N x.1 := by
  have h : runF cx (look (impl_RulesOk.phis N)) impl_RulesOk.A N (bodyOf Tryd.f9) Tryd.f9.results.toList impl_RulesOk.sg x = impl_RulesOk.B N (fun z => impl_RulesOk.a0 N N z) x.1 := by kernel_rfl
  have e0 : (fun z => impl_RulesOk.a0 N N z) = impl_RulesOk.L0 N N := funext fun z => impl_RulesOk.r0 N N z
  rw [h, e0]
  try rfl
noncomputable def impl_RulesOk.sm (N : Nat) : Sm D := (⟨impl_RulesOk.sg, fun (x : (List (ImplRule)) × Unit) => impl_RulesOk N x.1⟩ : Sm D)
theorem impl_RulesOk.sound (N : Nat) : Sound cx Tryd.prog gam 9 (impl_RulesOk.sm N) := fn_sound (A := impl_RulesOk.A) (Φ := (look (impl_RulesOk.phis N))) pok (G := gam) (ΦOk.cons (impl_within.sound N) (fnOk_of (f := 22) (by kernel_rfl)) (ΦOk.cons (impl_ValOk.sound N) (fnOk_of (f := 23) (by kernel_rfl)) ΦOk.nil)) mixed N Tryd.func9 (c := (bodyOf Tryd.f9)) (by kernel_rfl) impl_RulesOk.sg (by kernel_rfl) (by kernel_rfl) (by kernel_rfl) (impl_RulesOk.run N)

@[reducible] def impl_meets.sg : Sg := { ms := [{ k := (.st 29) }, { k := (.st 25) }, { k := (.sl (.int .i64)), fl := [none] }], keep := [false, false, false], rs := [{ k := .bool }] }
@[reducible] def impl_meets.lvL2 : Lv := { id := 2, slots := [3, 45, 46, 47], ms := [{ ptr := true, id := 600, t := 30, k := (.st 29), fl := [none, none, none, none, none, none, none, none] }, { k := (.sl (.st 68)), fl := [none] }, { k := (.int .i64) }, { k := (.int .i64) }] }
@[reducible] def impl_meets.lvJ12 : Lv := { id := 12, slots := [3, 4], ms := [{ ptr := true, id := 600, t := 30, k := (.st 29), fl := [none, none, none, none, none, none, none, none] }, { ptr := true, id := 620, t := 26, k := (.st 25), fl := [none, none, none, none, none] }] }
@[reducible] def impl_meets.lvL0 : Lv := { id := 0, slots := [3, 4, 7, 25, 26, 27], ms := [{ ptr := true, id := 600, t := 30, k := (.st 29), fl := [none, none, none, none, none, none, none, none] }, { ptr := true, id := 620, t := 26, k := (.st 25), fl := [none, none, none, none, none] }, { k := .bool }, { k := (.sl (.int .i64)), fl := [none] }, { k := (.int .i64) }, { k := (.int .i64) }] }
noncomputable def impl_meets.A : Ann := { dp := fun d => isIn [] d, lp := look [(2, impl_meets.lvL2), (0, impl_meets.lvL0)], jn := look [(12, impl_meets.lvJ12)], pins := [], nt := 64 }
noncomputable def impl_meets.phis (N : Nat) : List (Nat × Sm D) := []
noncomputable def impl_meets.a2 (N : Nat) (n : Nat) (y : ImplRule × (List (ImplProp)) × Int × Int × Unit) : Option (Bool × Unit) := loopAt cx (look (impl_meets.phis N)) impl_meets.A N n (encL cx impl_meets.lvL2.ms y).1 (encL cx impl_meets.lvL2.ms y).2 (bodyOf Tryd.f29) 0 (Kfin cx impl_meets.A impl_meets.sg Tryd.f29.results.toList) [1, 1, 1, 1, 0, 1, 1] []
noncomputable def impl_meets.a0 (N : Nat) (n : Nat) (y : ImplRule × ImplTree × Bool × (List (Int)) × Int × Int × Unit) : Option (Bool × Unit) := loopAt cx (look (impl_meets.phis N)) impl_meets.A N n (encL cx impl_meets.lvL0.ms y).1 (encL cx impl_meets.lvL0.ms y).2 (bodyOf Tryd.f29) 0 (Kfin cx impl_meets.A impl_meets.sg Tryd.f29.results.toList) [1, 1, 0, 1, 0, 1, 0, 1, 1] []
theorem impl_meets.r2 (N : Nat) : ∀ (n : Nat) (y : ImplRule × (List (ImplProp)) × Int × Int × Unit), impl_meets.a2 N n y = impl_meets.L2 N n y
  | 0, y => by kernel_rfl
  | n + 1, y => by
    have h : impl_meets.a2 N (n + 1) y = impl_meets.B2 N (fun z => impl_meets.a2 N n z) y := by kernel_rfl
    have e : (fun z => impl_meets.a2 N n z) = impl_meets.L2 N n := funext fun z => impl_meets.r2 N n z
    rw [h]
    try rw [e]
    first | done | rfl
theorem impl_meets.r0 (N : Nat) : ∀ (n : Nat) (y : ImplRule × ImplTree × Bool × (List (Int)) × Int × Int × Unit), impl_meets.a0 N n y = impl_meets.L0 N n y
  | 0, y => by kernel_rfl
  | n + 1, y => by
    have h : impl_meets.a0 N (n + 1) y = impl_meets.B0 N (fun z => impl_meets.a0 N n z) (fun z => impl_meets.a2 N N z) y := by kernel_rfl
    have e : (fun z => impl_meets.a0 N n z) = impl_meets.L0 N n := funext fun z => impl_meets.r0 N n z
    have e2 : (fun z => impl_meets.a2 N N z) = impl_meets.L2 N N := funext fun z => impl_meets.r2 N N z
    rw [h, e2]
    try rw [e]
    first | done | rfl
theorem impl_meets.run (N : Nat) (x : ImplRule × ImplTree × (List (Int)) × Unit) : runF cx (look (impl_meets.phis N)) impl_meets.A N (bodyOf Tryd.f29) Tryd.f29.results.toList impl_meets.sg x = impl_meets N x.1 x.2.1 x.2.2.1 := by
  have h : runF cx (look (impl_meets.phis N)) impl_meets.A N (bodyOf Tryd.f29) Tryd.f29.results.toList impl_meets.sg x = impl_meets.B N (fun z => impl_meets.a0 N N z) (fun z => impl_meets.a2 N N z) x.1 x.2.1 x.2.2.1 := by kernel_rfl
  have e0 : (fun z => impl_meets.a0 N N z) = impl_meets.L0 N N := funext fun z => impl_meets.r0 N N z
  have e2 : (fun z => impl_meets.a2 N N z) = impl_meets.L2 N N := funext fun z => impl_meets.r2 N N z
  rw [h, e0, e2]
  try rfl
noncomputable def impl_meets.sm (N : Nat) : Sm D := (⟨impl_meets.sg, fun (x : ImplRule × ImplTree × (List (Int)) × Unit) => impl_meets N x.1 x.2.1 x.2.2.1⟩ : Sm D)
theorem impl_meets.sound (N : Nat) : Sound cx Tryd.prog gam 29 (impl_meets.sm N) := fn_sound (A := impl_meets.A) (Φ := (look (impl_meets.phis N))) pok (G := gam) ΦOk.nil mixed N Tryd.func29 (c := (bodyOf Tryd.f29)) (by kernel_rfl) impl_meets.sg (by kernel_rfl) (by kernel_rfl) (by kernel_rfl) (impl_meets.run N)

@[reducible] def impl_wayCopy.sg : Sg := { ms := [{ k := (.sl (.int .i64)), fl := [none] }], keep := [false], rs := [{ k := (.sl (.int .i64)), fl := [some (false, 411)] }] }
noncomputable def impl_wayCopy.A : Ann := { dp := fun d => isIn [] d, lp := look [], jn := look [], pins := [], nt := 5 }
noncomputable def impl_wayCopy.phis (N : Nat) : List (Nat × Sm D) := []
theorem impl_wayCopy.run (N : Nat) (x : (List (Int)) × Unit) : runF cx (look (impl_wayCopy.phis N)) impl_wayCopy.A N (bodyOf Tryd.f30) Tryd.f30.results.toList impl_wayCopy.sg x = impl_wayCopy N x.1 := by
  have h : runF cx (look (impl_wayCopy.phis N)) impl_wayCopy.A N (bodyOf Tryd.f30) Tryd.f30.results.toList impl_wayCopy.sg x = impl_wayCopy.B N x.1 := by kernel_rfl
  rw [h]
  try rfl
noncomputable def impl_wayCopy.sm (N : Nat) : Sm D := (⟨impl_wayCopy.sg, fun (x : (List (Int)) × Unit) => impl_wayCopy N x.1⟩ : Sm D)
theorem impl_wayCopy.sound (N : Nat) : Sound cx Tryd.prog gam 30 (impl_wayCopy.sm N) := fn_sound (A := impl_wayCopy.A) (Φ := (look (impl_wayCopy.phis N))) pok (G := gam) ΦOk.nil mixed N Tryd.func30 (c := (bodyOf Tryd.f30)) (by kernel_rfl) impl_wayCopy.sg (by kernel_rfl) (by kernel_rfl) (by kernel_rfl) (impl_wayCopy.run N)

@[reducible] def impl_wayMore.sg : Sg := { ms := [{ k := (.sl (.int .i64)), fl := [none] }, { k := (.int .i64) }], keep := [false, false], rs := [{ k := (.sl (.int .i64)), fl := [none] }], hold := true }
noncomputable def impl_wayMore.A : Ann := { dp := fun d => isIn [] d, lp := look [], jn := look [], pins := [], nt := 11 }
noncomputable def impl_wayMore.phis (N : Nat) : List (Nat × Sm D) := []
theorem impl_wayMore.run (N : Nat) (x : (List (Int)) × Int × Unit) : runF cx (look (impl_wayMore.phis N)) impl_wayMore.A N (bodyOf Tryd.f31) Tryd.f31.results.toList impl_wayMore.sg x = impl_wayMore N x.1 x.2.1 := by
  have h : runF cx (look (impl_wayMore.phis N)) impl_wayMore.A N (bodyOf Tryd.f31) Tryd.f31.results.toList impl_wayMore.sg x = impl_wayMore.B N x.1 x.2.1 := by kernel_rfl
  rw [h]
  try rfl
noncomputable def impl_wayMore.sm (N : Nat) : Sm D := (⟨impl_wayMore.sg, fun (x : (List (Int)) × Int × Unit) => impl_wayMore N x.1 x.2.1⟩ : Sm D)
theorem impl_wayMore.sound (N : Nat) : Sound cx Tryd.prog gam 31 (impl_wayMore.sm N) := fn_sound (A := impl_wayMore.A) (Φ := (look (impl_wayMore.phis N))) pok (G := gam) ΦOk.nil mixed N Tryd.func31 (c := (bodyOf Tryd.f31)) (by kernel_rfl) impl_wayMore.sg (by kernel_rfl) (by kernel_rfl) (by kernel_rfl) (impl_wayMore.run N)

@[reducible] def impl_findAll.sg : Sg := { ms := [{ k := (.st 25) }, { k := (.st 29) }, { k := (.sl (.int .i64)), fl := [none] }, { k := (.sl (.int .i64)), fl := [none] }], keep := [false, false, false, false], rs := [{ k := (.sl (.sl (.int .i64))), fl := [some (true, 411)] }] }
@[reducible] def impl_findAll.lvL0 : Lv := { id := 0, slots := [3, 5, 9, 10, 33, 34, 35], ms := [{ k := (.sl (.int .i64)), fl := [none] }, { ptr := true, id := 620, t := 30, k := (.st 29), fl := [none, none, none, none, none, none, none, none] }, { k := (.sl (.sl (.int .i64))), fl := [some (true, 640)] }, { k := (.sl (.int .i64)), fl := [some (true, 660)] }, { k := (.sl (.st 25)), fl := [none] }, { k := (.int .i64) }, { k := (.int .i64) }] }
@[reducible] def impl_findAll.lvJ6 : Lv := { id := 6, slots := [2, 3, 4, 5, 9], ms := [{ k := (.sl (.int .i64)), fl := [none] }, { k := (.sl (.int .i64)), fl := [none] }, { ptr := true, id := 640, t := 26, k := (.st 25), fl := [none, none, none, none, none] }, { ptr := true, id := 660, t := 30, k := (.st 29), fl := [none, none, none, none, none, none, none, none] }, { k := (.sl (.sl (.int .i64))), fl := [some (true, 680)] }] }
noncomputable def impl_findAll.A : Ann := { dp := fun d => Nat.blt d 1000000, lp := look [(0, impl_findAll.lvL0)], jn := look [(6, impl_findAll.lvJ6)], pins := [], nt := 51 }
noncomputable def impl_findAll.phis (N : Nat) (d : Nat) : List (Nat × Sm D) := [(29, impl_meets.sm N), (30, impl_wayCopy.sm N), (31, impl_wayMore.sm N), (16, (⟨impl_findAll.sg, fun (x : ImplTree × ImplRule × (List (Int)) × (List (Int)) × Unit) => impl_findAll.R N d x.1 x.2.1 x.2.2.1 x.2.2.2.1⟩ : Sm D))]
noncomputable def impl_findAll.a0 (N : Nat) (d : Nat) (n : Nat) (y : (List (Int)) × ImplRule × (List (List (Int))) × (List (Int)) × (List (ImplTree)) × Int × Int × Unit) : Option ((List (List (Int))) × Unit) := loopAt cx (look (impl_findAll.phis N d)) impl_findAll.A N n (encL cx impl_findAll.lvL0.ms y).1 (encL cx impl_findAll.lvL0.ms y).2 (bodyOf Tryd.f16) 0 (Kfin cx impl_findAll.A impl_findAll.sg Tryd.f16.results.toList) [1, 1, 1, 1, 1, 0, 1, 1] []
theorem impl_findAll.r0 (N : Nat) (d : Nat) : ∀ (n : Nat) (y : (List (Int)) × ImplRule × (List (List (Int))) × (List (Int)) × (List (ImplTree)) × Int × Int × Unit), impl_findAll.a0 N d n y = impl_findAll.L0 N (impl_findAll.R N d) n y
  | 0, y => by kernel_rfl
  | n + 1, y => by
    have h : impl_findAll.a0 N d (n + 1) y = impl_findAll.B0 N (impl_findAll.R N d) (fun z => impl_findAll.a0 N d n z) y := by kernel_rfl
    have e : (fun z => impl_findAll.a0 N d n z) = impl_findAll.L0 N (impl_findAll.R N d) n := funext fun z => impl_findAll.r0 N d n z
    rw [h]
    try rw [e]
    first | done | rfl
theorem impl_findAll.run (N : Nat) (d : Nat) (x : ImplTree × ImplRule × (List (Int)) × (List (Int)) × Unit) : runF cx (look (impl_findAll.phis N d)) impl_findAll.A N (bodyOf Tryd.f16) Tryd.f16.results.toList impl_findAll.sg x = impl_findAll.R N (d + 1) x.1 x.2.1 x.2.2.1 x.2.2.2.1 := by
  have h : runF cx (look (impl_findAll.phis N d)) impl_findAll.A N (bodyOf Tryd.f16) Tryd.f16.results.toList impl_findAll.sg x = impl_findAll.B N (impl_findAll.R N d) (fun z => impl_findAll.a0 N d N z) x.1 x.2.1 x.2.2.1 x.2.2.2.1 := by kernel_rfl
  have e0 : (fun z => impl_findAll.a0 N d N z) = impl_findAll.L0 N (impl_findAll.R N d) N := funext fun z => impl_findAll.r0 N d N z
  rw [h, e0]
  try rfl
theorem impl_findAll.step (N : Nat) (d : Nat) (h_impl_findAll : Sound cx Tryd.prog gam 16 (⟨impl_findAll.sg, fun (x : ImplTree × ImplRule × (List (Int)) × (List (Int)) × Unit) => impl_findAll.R N d x.1 x.2.1 x.2.2.1 x.2.2.2.1⟩ : Sm D)) : Sound cx Tryd.prog gam 16 (⟨impl_findAll.sg, fun (x : ImplTree × ImplRule × (List (Int)) × (List (Int)) × Unit) => impl_findAll.R N (d + 1) x.1 x.2.1 x.2.2.1 x.2.2.2.1⟩ : Sm D) := fn_sound (A := impl_findAll.A) (Φ := (look (impl_findAll.phis N d))) pok (G := gam) (ΦOk.cons (impl_meets.sound N) (fnOk_of (f := 29) (by kernel_rfl)) (ΦOk.cons (impl_wayCopy.sound N) (fnOk_of (f := 30) (by kernel_rfl)) (ΦOk.cons (impl_wayMore.sound N) (fnOk_of (f := 31) (by kernel_rfl)) (ΦOk.cons h_impl_findAll (fnOk_of (f := 16) (by kernel_rfl)) ΦOk.nil)))) mixed N Tryd.func16 (c := (bodyOf Tryd.f16)) (by kernel_rfl) impl_findAll.sg (by kernel_rfl) (by kernel_rfl) (by kernel_rfl) (impl_findAll.run N d)

theorem impl_findAll.scc (N : Nat) : ∀ d, Sound cx Tryd.prog gam 16 (⟨impl_findAll.sg, fun (x : ImplTree × ImplRule × (List (Int)) × (List (Int)) × Unit) => impl_findAll.R N d x.1 x.2.1 x.2.2.1 x.2.2.2.1⟩ : Sm D)
  | 0 => none_sound 16 impl_findAll.sg
  | d + 1 => by
    have ih := impl_findAll.scc N d
    exact impl_findAll.step N d ih
noncomputable def impl_findAll.sm (N : Nat) : Sm D := (⟨impl_findAll.sg, fun (x : ImplTree × ImplRule × (List (Int)) × (List (Int)) × Unit) => impl_findAll.R N N x.1 x.2.1 x.2.2.1 x.2.2.2.1⟩ : Sm D)
theorem impl_findAll.sound (N : Nat) : Sound cx Tryd.prog gam 16 (impl_findAll.sm N) := (impl_findAll.scc N N)
@[reducible] def impl_FindAll.sg : Sg := { ms := [{ k := (.st 25) }, { k := (.st 29) }], keep := [false, false], rs := [{ k := (.sl (.sl (.int .i64))), fl := [some (true, 411)] }] }
noncomputable def impl_FindAll.A : Ann := { dp := fun d => Nat.blt d 1000000, lp := look [], jn := look [], pins := [], nt := 17 }
noncomputable def impl_FindAll.phis (N : Nat) : List (Nat × Sm D) := [(8, impl_TreeOk.sm N), (9, impl_RulesOk.sm N), (16, impl_findAll.sm N)]
theorem impl_FindAll.run (N : Nat) (x : ImplTree × ImplRule × Unit) : runF cx (look (impl_FindAll.phis N)) impl_FindAll.A N (bodyOf Tryd.f5) Tryd.f5.results.toList impl_FindAll.sg x = impl_FindAll N x.1 x.2.1 := by
  have h : runF cx (look (impl_FindAll.phis N)) impl_FindAll.A N (bodyOf Tryd.f5) Tryd.f5.results.toList impl_FindAll.sg x = impl_FindAll.B N x.1 x.2.1 := by kernel_rfl
  rw [h]
  try rfl
noncomputable def impl_FindAll.sm (N : Nat) : Sm D := (⟨impl_FindAll.sg, fun (x : ImplTree × ImplRule × Unit) => impl_FindAll N x.1 x.2.1⟩ : Sm D)
theorem impl_FindAll.sound (N : Nat) : Sound cx Tryd.prog gam 5 (impl_FindAll.sm N) := fn_sound (A := impl_FindAll.A) (Φ := (look (impl_FindAll.phis N))) pok (G := gam) (ΦOk.cons (impl_TreeOk.sound N) (fnOk_of (f := 8) (by kernel_rfl)) (ΦOk.cons (impl_RulesOk.sound N) (fnOk_of (f := 9) (by kernel_rfl)) (ΦOk.cons (impl_findAll.sound N) (fnOk_of (f := 16) (by kernel_rfl)) ΦOk.nil))) mixed N Tryd.func5 (c := (bodyOf Tryd.f5)) (by kernel_rfl) impl_FindAll.sg (by kernel_rfl) (by kernel_rfl) (by kernel_rfl) (impl_FindAll.run N)

@[reducible] def spec_treeSize.sg : Sg := { ms := [{ k := (.st 25) }, { k := (.int .i64) }], keep := [false, false], rs := [{ k := (.int .i64) }] }
@[reducible] def spec_treeSize.lvL0 : Lv := { id := 0, slots := [1, 2, 5, 6], ms := [{ k := (.int .i64) }, { ptr := true, id := 620, t := 26, k := (.st 25), fl := [none, none, none, none, none] }, { k := (.int .i64) }, { k := (.int .i64) }] }
noncomputable def spec_treeSize.A : Ann := { dp := fun d => isIn [] d, lp := look [(0, spec_treeSize.lvL0)], jn := look [], pins := [], nt := 32 }
noncomputable def spec_treeSize.phis (N : Nat) (d : Nat) : List (Nat × Sm D) := [(32, (⟨spec_treeSize.sg, fun (x : ImplTree × Int × Unit) => spec_treeSize.R N d x.1 x.2.1⟩ : Sm D))]
noncomputable def spec_treeSize.a0 (N : Nat) (d : Nat) (n : Nat) (y : Int × ImplTree × Int × Int × Unit) : Option (Int × Unit) := loopAt cx (look (spec_treeSize.phis N d)) spec_treeSize.A N n (encL cx spec_treeSize.lvL0.ms y).1 (encL cx spec_treeSize.lvL0.ms y).2 (bodyOf Tryd.f32) 0 (Kfin cx spec_treeSize.A spec_treeSize.sg Tryd.f32.results.toList) [1, 1, 1, 0, 1, 1] []
theorem spec_treeSize.r0 (N : Nat) (d : Nat) : ∀ (n : Nat) (y : Int × ImplTree × Int × Int × Unit), spec_treeSize.a0 N d n y = spec_treeSize.L0 N (spec_treeSize.R N d) n y
  | 0, y => by kernel_rfl
  | n + 1, y => by
    have h : spec_treeSize.a0 N d (n + 1) y = spec_treeSize.B0 N (spec_treeSize.R N d) (fun z => spec_treeSize.a0 N d n z) y := by kernel_rfl
    have e : (fun z => spec_treeSize.a0 N d n z) = spec_treeSize.L0 N (spec_treeSize.R N d) n := funext fun z => spec_treeSize.r0 N d n z
    rw [h]
    try rw [e]
    first | done | rfl
theorem spec_treeSize.run (N : Nat) (d : Nat) (x : ImplTree × Int × Unit) : runF cx (look (spec_treeSize.phis N d)) spec_treeSize.A N (bodyOf Tryd.f32) Tryd.f32.results.toList spec_treeSize.sg x = spec_treeSize.R N (d + 1) x.1 x.2.1 := by
  have h : runF cx (look (spec_treeSize.phis N d)) spec_treeSize.A N (bodyOf Tryd.f32) Tryd.f32.results.toList spec_treeSize.sg x = spec_treeSize.B N (spec_treeSize.R N d) (fun z => spec_treeSize.a0 N d N z) x.1 x.2.1 := by kernel_rfl
  have e0 : (fun z => spec_treeSize.a0 N d N z) = spec_treeSize.L0 N (spec_treeSize.R N d) N := funext fun z => spec_treeSize.r0 N d N z
  rw [h, e0]
  try rfl
theorem spec_treeSize.step (N : Nat) (d : Nat) (h_spec_treeSize : Sound cx Tryd.prog gam 32 (⟨spec_treeSize.sg, fun (x : ImplTree × Int × Unit) => spec_treeSize.R N d x.1 x.2.1⟩ : Sm D)) : Sound cx Tryd.prog gam 32 (⟨spec_treeSize.sg, fun (x : ImplTree × Int × Unit) => spec_treeSize.R N (d + 1) x.1 x.2.1⟩ : Sm D) := fn_sound (A := spec_treeSize.A) (Φ := (look (spec_treeSize.phis N d))) pok (G := gam) (ΦOk.cons h_spec_treeSize (fnOk_of (f := 32) (by kernel_rfl)) ΦOk.nil) mixed N Tryd.func32 (c := (bodyOf Tryd.f32)) (by kernel_rfl) spec_treeSize.sg (by kernel_rfl) (by kernel_rfl) (by kernel_rfl) (spec_treeSize.run N d)

theorem spec_treeSize.scc (N : Nat) : ∀ d, Sound cx Tryd.prog gam 32 (⟨spec_treeSize.sg, fun (x : ImplTree × Int × Unit) => spec_treeSize.R N d x.1 x.2.1⟩ : Sm D)
  | 0 => none_sound 32 spec_treeSize.sg
  | d + 1 => by
    have ih := spec_treeSize.scc N d
    exact spec_treeSize.step N d ih
noncomputable def spec_treeSize.sm (N : Nat) : Sm D := (⟨spec_treeSize.sg, fun (x : ImplTree × Int × Unit) => spec_treeSize.R N N x.1 x.2.1⟩ : Sm D)
theorem spec_treeSize.sound (N : Nat) : Sound cx Tryd.prog gam 32 (spec_treeSize.sm N) := (spec_treeSize.scc N N)
@[reducible] def spec_decimal.sg : Sg := { ms := [{ k := (.int .i64) }], keep := [false], rs := [{ k := .str }] }
noncomputable def spec_decimal.A : Ann := { dp := fun d => isIn [] d, lp := look [], jn := look [], pins := [], nt := 22 }
noncomputable def spec_decimal.phis (N : Nat) (d : Nat) : List (Nat × Sm D) := [(51, (⟨spec_decimal.sg, fun (x : Int × Unit) => spec_decimal.R N d x.1⟩ : Sm D))]
theorem spec_decimal.run (N : Nat) (d : Nat) (x : Int × Unit) : runF cx (look (spec_decimal.phis N d)) spec_decimal.A N (bodyOf Tryd.f51) Tryd.f51.results.toList spec_decimal.sg x = spec_decimal.R N (d + 1) x.1 := by
  have h : runF cx (look (spec_decimal.phis N d)) spec_decimal.A N (bodyOf Tryd.f51) Tryd.f51.results.toList spec_decimal.sg x = spec_decimal.B N (spec_decimal.R N d) x.1 := by kernel_rfl
  rw [h]
  try rfl
theorem spec_decimal.step (N : Nat) (d : Nat) (h_spec_decimal : Sound cx Tryd.prog gam 51 (⟨spec_decimal.sg, fun (x : Int × Unit) => spec_decimal.R N d x.1⟩ : Sm D)) : Sound cx Tryd.prog gam 51 (⟨spec_decimal.sg, fun (x : Int × Unit) => spec_decimal.R N (d + 1) x.1⟩ : Sm D) := fn_sound (A := spec_decimal.A) (Φ := (look (spec_decimal.phis N d))) pok (G := gam) (ΦOk.cons h_spec_decimal (fnOk_of (f := 51) (by kernel_rfl)) ΦOk.nil) mixed N Tryd.func51 (c := (bodyOf Tryd.f51)) (by kernel_rfl) spec_decimal.sg (by kernel_rfl) (by kernel_rfl) (by kernel_rfl) (spec_decimal.run N d)

theorem spec_decimal.scc (N : Nat) : ∀ d, Sound cx Tryd.prog gam 51 (⟨spec_decimal.sg, fun (x : Int × Unit) => spec_decimal.R N d x.1⟩ : Sm D)
  | 0 => none_sound 51 spec_decimal.sg
  | d + 1 => by
    have ih := spec_decimal.scc N d
    exact spec_decimal.step N d ih
noncomputable def spec_decimal.sm (N : Nat) : Sm D := (⟨spec_decimal.sg, fun (x : Int × Unit) => spec_decimal.R N N x.1⟩ : Sm D)
theorem spec_decimal.sound (N : Nat) : Sound cx Tryd.prog gam 51 (spec_decimal.sm N) := (spec_decimal.scc N N)
@[reducible] def spec_validShown.sg : Sg := { ms := [{ k := .str }], keep := [false], rs := [{ k := .bool }] }
@[reducible] def spec_validShown.lvL0 : Lv := { id := 0, slots := [0, 3], ms := [{ k := .str }, { k := (.int .i64) }] }
noncomputable def spec_validShown.A : Ann := { dp := fun d => isIn [] d, lp := look [(0, spec_validShown.lvL0)], jn := look [], pins := [], nt := 23 }
noncomputable def spec_validShown.phis (N : Nat) : List (Nat × Sm D) := [(45, spec_validWord.sm N), (51, spec_decimal.sm N)]
noncomputable def spec_validShown.a0 (N : Nat) (n : Nat) (y : (List UInt8) × Int × Unit) : Option (Bool × Unit) := loopAt cx (look (spec_validShown.phis N)) spec_validShown.A N n (encL cx spec_validShown.lvL0.ms y).1 (encL cx spec_validShown.lvL0.ms y).2 (bodyOf Tryd.f42) 0 (Kfin cx spec_validShown.A spec_validShown.sg Tryd.f42.results.toList) [1, 1, 0, 1, 1] []
theorem spec_validShown.r0 (N : Nat) : ∀ (n : Nat) (y : (List UInt8) × Int × Unit), spec_validShown.a0 N n y = spec_validShown.L0 N n y
  | 0, y => by kernel_rfl
  | n + 1, y => by
    have h : spec_validShown.a0 N (n + 1) y = spec_validShown.B0 N (fun z => spec_validShown.a0 N n z) y := by kernel_rfl
    have e : (fun z => spec_validShown.a0 N n z) = spec_validShown.L0 N n := funext fun z => spec_validShown.r0 N n z
    rw [h]
    try rw [e]
    first | done | rfl
theorem spec_validShown.run (N : Nat) (x : (List UInt8) × Unit) : runF cx (look (spec_validShown.phis N)) spec_validShown.A N (bodyOf Tryd.f42) Tryd.f42.results.toList spec_validShown.sg x = spec_validShown N x.1 := by
  have h : runF cx (look (spec_validShown.phis N)) spec_validShown.A N (bodyOf Tryd.f42) Tryd.f42.results.toList spec_validShown.sg x = spec_validShown.B N (fun z => spec_validShown.a0 N N z) x.1 := by kernel_rfl
  have e0 : (fun z => spec_validShown.a0 N N z) = spec_validShown.L0 N N := funext fun z => spec_validShown.r0 N N z
  rw [h, e0]
  try rfl
noncomputable def spec_validShown.sm (N : Nat) : Sm D := (⟨spec_validShown.sg, fun (x : (List UInt8) × Unit) => spec_validShown N x.1⟩ : Sm D)
theorem spec_validShown.sound (N : Nat) : Sound cx Tryd.prog gam 42 (spec_validShown.sm N) := fn_sound (A := spec_validShown.A) (Φ := (look (spec_validShown.phis N))) pok (G := gam) (ΦOk.cons (spec_validWord.sound N) (fnOk_of (f := 45) (by kernel_rfl)) (ΦOk.cons (spec_decimal.sound N) (fnOk_of (f := 51) (by kernel_rfl)) ΦOk.nil)) mixed N Tryd.func42 (c := (bodyOf Tryd.f42)) (by kernel_rfl) spec_validShown.sg (by kernel_rfl) (by kernel_rfl) (by kernel_rfl) (spec_validShown.run N)

@[reducible] def spec_validPropList.sg : Sg := { ms := [{ k := (.sl (.st 68)), fl := [none] }], keep := [false], rs := [{ k := .bool }] }
@[reducible] def spec_validPropList.lvL0 : Lv := { id := 0, slots := [0, 3], ms := [{ k := (.sl (.st 68)), fl := [none] }, { k := (.int .i64) }] }
noncomputable def spec_validPropList.A : Ann := { dp := fun d => isIn [] d, lp := look [(0, spec_validPropList.lvL0)], jn := look [], pins := [], nt := 44 }
noncomputable def spec_validPropList.phis (N : Nat) : List (Nat × Sm D) := [(34, spec_inRange.sm N), (35, spec_validValue.sm N)]
noncomputable def spec_validPropList.a0 (N : Nat) (n : Nat) (y : (List (ImplProp)) × Int × Unit) : Option (Bool × Unit) := loopAt cx (look (spec_validPropList.phis N)) spec_validPropList.A N n (encL cx spec_validPropList.lvL0.ms y).1 (encL cx spec_validPropList.lvL0.ms y).2 (bodyOf Tryd.f43) 0 (Kfin cx spec_validPropList.A spec_validPropList.sg Tryd.f43.results.toList) [1, 0, 1, 1] []
theorem spec_validPropList.r0 (N : Nat) : ∀ (n : Nat) (y : (List (ImplProp)) × Int × Unit), spec_validPropList.a0 N n y = spec_validPropList.L0 N n y
  | 0, y => by kernel_rfl
  | n + 1, y => by
    have h : spec_validPropList.a0 N (n + 1) y = spec_validPropList.B0 N (fun z => spec_validPropList.a0 N n z) y := by kernel_rfl
    have e : (fun z => spec_validPropList.a0 N n z) = spec_validPropList.L0 N n := funext fun z => spec_validPropList.r0 N n z
    rw [h]
    try rw [e]
    first | done | rfl
theorem spec_validPropList.run (N : Nat) (x : (List (ImplProp)) × Unit) : runF cx (look (spec_validPropList.phis N)) spec_validPropList.A N (bodyOf Tryd.f43) Tryd.f43.results.toList spec_validPropList.sg x = spec_validPropList N x.1 := by
  have h : runF cx (look (spec_validPropList.phis N)) spec_validPropList.A N (bodyOf Tryd.f43) Tryd.f43.results.toList spec_validPropList.sg x = spec_validPropList.B N (fun z => spec_validPropList.a0 N N z) x.1 := by kernel_rfl
  have e0 : (fun z => spec_validPropList.a0 N N z) = spec_validPropList.L0 N N := funext fun z => spec_validPropList.r0 N N z
  rw [h, e0]
  try rfl
noncomputable def spec_validPropList.sm (N : Nat) : Sm D := (⟨spec_validPropList.sg, fun (x : (List (ImplProp)) × Unit) => spec_validPropList N x.1⟩ : Sm D)
theorem spec_validPropList.sound (N : Nat) : Sound cx Tryd.prog gam 43 (spec_validPropList.sm N) := fn_sound (A := spec_validPropList.A) (Φ := (look (spec_validPropList.phis N))) pok (G := gam) (ΦOk.cons (spec_inRange.sound N) (fnOk_of (f := 34) (by kernel_rfl)) (ΦOk.cons (spec_validValue.sound N) (fnOk_of (f := 35) (by kernel_rfl)) ΦOk.nil)) mixed N Tryd.func43 (c := (bodyOf Tryd.f43)) (by kernel_rfl) spec_validPropList.sg (by kernel_rfl) (by kernel_rfl) (by kernel_rfl) (spec_validPropList.run N)

@[reducible] def spec_keysApart.sg : Sg := { ms := [{ k := (.sl (.st 25)), fl := [none] }], keep := [false], rs := [{ k := .bool }] }
@[reducible] def spec_keysApart.lvL2 : Lv := { id := 2, slots := [0, 3, 4], ms := [{ k := (.sl (.st 25)), fl := [none] }, { k := (.int .i64) }, { k := (.int .i64) }] }
@[reducible] def spec_keysApart.lvL0 : Lv := { id := 0, slots := [0, 3], ms := [{ k := (.sl (.st 25)), fl := [none] }, { k := (.int .i64) }] }
noncomputable def spec_keysApart.A : Ann := { dp := fun d => isIn [] d, lp := look [(2, spec_keysApart.lvL2), (0, spec_keysApart.lvL0)], jn := look [], pins := [], nt := 35 }
noncomputable def spec_keysApart.phis (N : Nat) : List (Nat × Sm D) := []
noncomputable def spec_keysApart.a2 (N : Nat) (m0 : Nat) (n : Nat) (y : (List (ImplTree)) × Int × Int × Unit) : Option (Bool × Unit) := loopAt cx (look (spec_keysApart.phis N)) spec_keysApart.A N n (encL cx spec_keysApart.lvL2.ms y).1 (encL cx spec_keysApart.lvL2.ms y).2 (bodyOf Tryd.f44) 0 (Kfin cx spec_keysApart.A spec_keysApart.sg Tryd.f44.results.toList) [1, 0, 1, 1, 1, 1, 0, 1, 1, 1] [m0]
noncomputable def spec_keysApart.a0 (N : Nat) (n : Nat) (y : (List (ImplTree)) × Int × Unit) : Option (Bool × Unit) := loopAt cx (look (spec_keysApart.phis N)) spec_keysApart.A N n (encL cx spec_keysApart.lvL0.ms y).1 (encL cx spec_keysApart.lvL0.ms y).2 (bodyOf Tryd.f44) 0 (Kfin cx spec_keysApart.A spec_keysApart.sg Tryd.f44.results.toList) [1, 0, 1, 1] []
theorem spec_keysApart.r2 (N : Nat) (m0 : Nat) : ∀ (n : Nat) (y : (List (ImplTree)) × Int × Int × Unit), spec_keysApart.a2 N m0 n y = spec_keysApart.L2 N (fun z => spec_keysApart.a0 N m0 z) n y
  | 0, y => by kernel_rfl
  | n + 1, y => by
    have h : spec_keysApart.a2 N m0 (n + 1) y = spec_keysApart.B2 N (fun z => spec_keysApart.a0 N m0 z) (fun z => spec_keysApart.a2 N m0 n z) y := by kernel_rfl
    have e : (fun z => spec_keysApart.a2 N m0 n z) = spec_keysApart.L2 N (fun z => spec_keysApart.a0 N m0 z) n := funext fun z => spec_keysApart.r2 N m0 n z
    rw [h]
    try rw [e]
    first | done | rfl
theorem spec_keysApart.r0 (N : Nat) : ∀ (n : Nat) (y : (List (ImplTree)) × Int × Unit), spec_keysApart.a0 N n y = spec_keysApart.L0 N n y
  | 0, y => by kernel_rfl
  | n + 1, y => by
    have h : spec_keysApart.a0 N (n + 1) y = spec_keysApart.B0 N (fun z => spec_keysApart.a2 N n N z) y := by kernel_rfl
    have e : (fun z => spec_keysApart.a0 N n z) = spec_keysApart.L0 N n := funext fun z => spec_keysApart.r0 N n z
    have e2 : (fun z => spec_keysApart.a2 N n N z) = spec_keysApart.L2 N (fun z => spec_keysApart.a0 N n z) N := funext fun z => spec_keysApart.r2 N n N z
    rw [h, e2]
    try rw [e]
    first | done | rfl
theorem spec_keysApart.run (N : Nat) (x : (List (ImplTree)) × Unit) : runF cx (look (spec_keysApart.phis N)) spec_keysApart.A N (bodyOf Tryd.f44) Tryd.f44.results.toList spec_keysApart.sg x = spec_keysApart N x.1 := by
  have h : runF cx (look (spec_keysApart.phis N)) spec_keysApart.A N (bodyOf Tryd.f44) Tryd.f44.results.toList spec_keysApart.sg x = spec_keysApart.B N (fun z => spec_keysApart.a0 N N z) x.1 := by kernel_rfl
  have e0 : (fun z => spec_keysApart.a0 N N z) = spec_keysApart.L0 N N := funext fun z => spec_keysApart.r0 N N z
  rw [h, e0]
  try rfl
noncomputable def spec_keysApart.sm (N : Nat) : Sm D := (⟨spec_keysApart.sg, fun (x : (List (ImplTree)) × Unit) => spec_keysApart N x.1⟩ : Sm D)
theorem spec_keysApart.sound (N : Nat) : Sound cx Tryd.prog gam 44 (spec_keysApart.sm N) := fn_sound (A := spec_keysApart.A) (Φ := (look (spec_keysApart.phis N))) pok (G := gam) ΦOk.nil mixed N Tryd.func44 (c := (bodyOf Tryd.f44)) (by kernel_rfl) spec_keysApart.sg (by kernel_rfl) (by kernel_rfl) (by kernel_rfl) (spec_keysApart.run N)

@[reducible] def spec_validPart.sg : Sg := { ms := [{ k := (.st 25) }], keep := [false], rs := [{ k := .bool }] }
@[reducible] def spec_validPart.lvL0 : Lv := { id := 0, slots := [1, 3], ms := [{ ptr := true, id := 600, t := 26, k := (.st 25), fl := [none, none, none, none, none] }, { k := (.int .i64) }] }
noncomputable def spec_validPart.A : Ann := { dp := fun d => isIn [] d, lp := look [(0, spec_validPart.lvL0)], jn := look [], pins := [], nt := 65 }
noncomputable def spec_validPart.phis (N : Nat) (d : Nat) : List (Nat × Sm D) := [(42, spec_validShown.sm N), (34, spec_inRange.sm N), (43, spec_validPropList.sm N), (33, (⟨spec_validPart.sg, fun (x : ImplTree × Unit) => spec_validPart.R N d x.1⟩ : Sm D)), (44, spec_keysApart.sm N)]
noncomputable def spec_validPart.a0 (N : Nat) (d : Nat) (n : Nat) (y : ImplTree × Int × Unit) : Option (Bool × Unit) := loopAt cx (look (spec_validPart.phis N d)) spec_validPart.A N n (encL cx spec_validPart.lvL0.ms y).1 (encL cx spec_validPart.lvL0.ms y).2 (bodyOf Tryd.f33) 0 (Kfin cx spec_validPart.A spec_validPart.sg Tryd.f33.results.toList) [1, 1, 1, 0, 1, 1] []
theorem spec_validPart.r0 (N : Nat) (d : Nat) : ∀ (n : Nat) (y : ImplTree × Int × Unit), spec_validPart.a0 N d n y = spec_validPart.L0 N (spec_validPart.R N d) n y
  | 0, y => by kernel_rfl
  | n + 1, y => by
    have h : spec_validPart.a0 N d (n + 1) y = spec_validPart.B0 N (spec_validPart.R N d) (fun z => spec_validPart.a0 N d n z) y := by kernel_rfl
    have e : (fun z => spec_validPart.a0 N d n z) = spec_validPart.L0 N (spec_validPart.R N d) n := funext fun z => spec_validPart.r0 N d n z
    rw [h]
    try rw [e]
    first | done | rfl
theorem spec_validPart.run (N : Nat) (d : Nat) (x : ImplTree × Unit) : runF cx (look (spec_validPart.phis N d)) spec_validPart.A N (bodyOf Tryd.f33) Tryd.f33.results.toList spec_validPart.sg x = spec_validPart.R N (d + 1) x.1 := by
  have h : runF cx (look (spec_validPart.phis N d)) spec_validPart.A N (bodyOf Tryd.f33) Tryd.f33.results.toList spec_validPart.sg x = spec_validPart.B N (spec_validPart.R N d) (fun z => spec_validPart.a0 N d N z) x.1 := by kernel_rfl
  have e0 : (fun z => spec_validPart.a0 N d N z) = spec_validPart.L0 N (spec_validPart.R N d) N := funext fun z => spec_validPart.r0 N d N z
  rw [h, e0]
  try rfl
theorem spec_validPart.step (N : Nat) (d : Nat) (h_spec_validPart : Sound cx Tryd.prog gam 33 (⟨spec_validPart.sg, fun (x : ImplTree × Unit) => spec_validPart.R N d x.1⟩ : Sm D)) : Sound cx Tryd.prog gam 33 (⟨spec_validPart.sg, fun (x : ImplTree × Unit) => spec_validPart.R N (d + 1) x.1⟩ : Sm D) := fn_sound (A := spec_validPart.A) (Φ := (look (spec_validPart.phis N d))) pok (G := gam) (ΦOk.cons (spec_validShown.sound N) (fnOk_of (f := 42) (by kernel_rfl)) (ΦOk.cons (spec_inRange.sound N) (fnOk_of (f := 34) (by kernel_rfl)) (ΦOk.cons (spec_validPropList.sound N) (fnOk_of (f := 43) (by kernel_rfl)) (ΦOk.cons h_spec_validPart (fnOk_of (f := 33) (by kernel_rfl)) (ΦOk.cons (spec_keysApart.sound N) (fnOk_of (f := 44) (by kernel_rfl)) ΦOk.nil))))) mixed N Tryd.func33 (c := (bodyOf Tryd.f33)) (by kernel_rfl) spec_validPart.sg (by kernel_rfl) (by kernel_rfl) (by kernel_rfl) (spec_validPart.run N d)

theorem spec_validPart.scc (N : Nat) : ∀ d, Sound cx Tryd.prog gam 33 (⟨spec_validPart.sg, fun (x : ImplTree × Unit) => spec_validPart.R N d x.1⟩ : Sm D)
  | 0 => none_sound 33 spec_validPart.sg
  | d + 1 => by
    have ih := spec_validPart.scc N d
    exact spec_validPart.step N d ih
noncomputable def spec_validPart.sm (N : Nat) : Sm D := (⟨spec_validPart.sg, fun (x : ImplTree × Unit) => spec_validPart.R N N x.1⟩ : Sm D)
theorem spec_validPart.sound (N : Nat) : Sound cx Tryd.prog gam 33 (spec_validPart.sm N) := (spec_validPart.scc N N)
@[reducible] def spec_validTree.sg : Sg := { ms := [{ k := (.st 25) }], keep := [false], rs := [{ k := .bool }] }
noncomputable def spec_validTree.A : Ann := { dp := fun d => isIn [] d, lp := look [], jn := look [], pins := [], nt := 10 }
noncomputable def spec_validTree.phis (N : Nat) : List (Nat × Sm D) := [(32, spec_treeSize.sm N), (33, spec_validPart.sm N)]
theorem spec_validTree.run (N : Nat) (x : ImplTree × Unit) : runF cx (look (spec_validTree.phis N)) spec_validTree.A N (bodyOf Tryd.f17) Tryd.f17.results.toList spec_validTree.sg x = spec_validTree N x.1 := by
  have h : runF cx (look (spec_validTree.phis N)) spec_validTree.A N (bodyOf Tryd.f17) Tryd.f17.results.toList spec_validTree.sg x = spec_validTree.B N x.1 := by kernel_rfl
  rw [h]
  try rfl
noncomputable def spec_validTree.sm (N : Nat) : Sm D := (⟨spec_validTree.sg, fun (x : ImplTree × Unit) => spec_validTree N x.1⟩ : Sm D)
theorem spec_validTree.sound (N : Nat) : Sound cx Tryd.prog gam 17 (spec_validTree.sm N) := fn_sound (A := spec_validTree.A) (Φ := (look (spec_validTree.phis N))) pok (G := gam) (ΦOk.cons (spec_treeSize.sound N) (fnOk_of (f := 32) (by kernel_rfl)) (ΦOk.cons (spec_validPart.sound N) (fnOk_of (f := 33) (by kernel_rfl)) ΦOk.nil)) mixed N Tryd.func17 (c := (bodyOf Tryd.f17)) (by kernel_rfl) spec_validTree.sg (by kernel_rfl) (by kernel_rfl) (by kernel_rfl) (spec_validTree.run N)

@[reducible] def spec_validRule.sg : Sg := { ms := [{ k := (.st 29) }], keep := [false], rs := [{ k := .bool }] }
noncomputable def spec_validRule.A : Ann := { dp := fun d => isIn [] d, lp := look [], jn := look [], pins := [], nt := 42 }
noncomputable def spec_validRule.phis (N : Nat) : List (Nat × Sm D) := [(34, spec_inRange.sm N), (35, spec_validValue.sm N)]
theorem spec_validRule.run (N : Nat) (x : ImplRule × Unit) : runF cx (look (spec_validRule.phis N)) spec_validRule.A N (bodyOf Tryd.f18) Tryd.f18.results.toList spec_validRule.sg x = spec_validRule N x.1 := by
  have h : runF cx (look (spec_validRule.phis N)) spec_validRule.A N (bodyOf Tryd.f18) Tryd.f18.results.toList spec_validRule.sg x = spec_validRule.B N x.1 := by kernel_rfl
  rw [h]
  try rfl
noncomputable def spec_validRule.sm (N : Nat) : Sm D := (⟨spec_validRule.sg, fun (x : ImplRule × Unit) => spec_validRule N x.1⟩ : Sm D)
theorem spec_validRule.sound (N : Nat) : Sound cx Tryd.prog gam 18 (spec_validRule.sm N) := fn_sound (A := spec_validRule.A) (Φ := (look (spec_validRule.phis N))) pok (G := gam) (ΦOk.cons (spec_inRange.sound N) (fnOk_of (f := 34) (by kernel_rfl)) (ΦOk.cons (spec_validValue.sound N) (fnOk_of (f := 35) (by kernel_rfl)) ΦOk.nil)) mixed N Tryd.func18 (c := (bodyOf Tryd.f18)) (by kernel_rfl) spec_validRule.sg (by kernel_rfl) (by kernel_rfl) (by kernel_rfl) (spec_validRule.run N)

end
end Go.Ev
