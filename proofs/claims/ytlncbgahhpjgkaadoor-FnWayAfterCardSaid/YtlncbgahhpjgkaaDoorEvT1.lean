/- Each function that the law reaches does what its plain form says; no condition beyond the table of the library. -/
import Derived.Test.YtlncbgahhpjgkaaDoorEvT0
set_option linter.all false
set_option linter.unusedVariables false
set_option linter.unusedSimpArgs false
set_option maxRecDepth 100000
set_option maxHeartbeats 0
namespace Go.Ev
noncomputable section
open Go.Proofs
@[reducible] def spec_DrawTreeEdits.sg : Sg := { ms := [{ k := (.sl (.int .u8)), fl := [none] }], keep := [false], rs := [{ k := (.st 25) }, { k := (.st 25) }], hold := true }
noncomputable def spec_DrawTreeEdits.A : Ann := { dp := fun d => isIn [] d, lp := look [], jn := look [], pins := [], nt := 20 }
noncomputable def spec_DrawTreeEdits.phis (N : Nat) : List (Nat × Sm D) := [(9, spec_newSource.sm N), (20, spec_source_whole.sm N), (11, spec_source_pick.sm N), (21, spec_source_turnedTree.sm N)]
theorem spec_DrawTreeEdits.run (N : Nat) (x : (List (Int)) × Unit) : runF cx (look (spec_DrawTreeEdits.phis N)) spec_DrawTreeEdits.A N (bodyOf Tryd.f10) Tryd.f10.results.toList spec_DrawTreeEdits.sg x = spec_DrawTreeEdits N x.1 := by
  have h : runF cx (look (spec_DrawTreeEdits.phis N)) spec_DrawTreeEdits.A N (bodyOf Tryd.f10) Tryd.f10.results.toList spec_DrawTreeEdits.sg x = spec_DrawTreeEdits.B N x.1 := by kernel_rfl
  rw [h]
  try rfl
noncomputable def spec_DrawTreeEdits.sm (N : Nat) : Sm D := (⟨spec_DrawTreeEdits.sg, fun (x : (List (Int)) × Unit) => spec_DrawTreeEdits N x.1⟩ : Sm D)
theorem spec_DrawTreeEdits.sound (N : Nat) : Sound cx Tryd.prog gam 10 (spec_DrawTreeEdits.sm N) := fn_sound (A := spec_DrawTreeEdits.A) (Φ := (look (spec_DrawTreeEdits.phis N))) pok (G := gam) (ΦOk.cons (spec_newSource.sound N) (fnOk_of (f := 9) (by kernel_rfl)) (ΦOk.cons (spec_source_whole.sound N) (fnOk_of (f := 20) (by kernel_rfl)) (ΦOk.cons (spec_source_pick.sound N) (fnOk_of (f := 11) (by kernel_rfl)) (ΦOk.cons (spec_source_turnedTree.sound N) (fnOk_of (f := 21) (by kernel_rfl)) ΦOk.nil)))) mixed N Tryd.func10 (c := (bodyOf Tryd.f10)) (by kernel_rfl) spec_DrawTreeEdits.sg (by kernel_rfl) (by kernel_rfl) (by kernel_rfl) (spec_DrawTreeEdits.run N)

@[reducible] def spec_source_way.sg : Sg := { ms := [{ ptr := true, id := 10, t := 46, k := (.st 45) }, { k := (.st 25) }], keep := [true, false], rs := [{ k := (.sl (.int .i64)), fl := [none] }], hold := true }
@[reducible] def spec_source_way.lvL0 : Lv := { id := 0, slots := [0, 3, 5], ms := [{ ptr := true, id := 10, t := 46, k := (.st 45), fl := [none, none, none] }, { ptr := true, id := 620, t := 26, k := (.st 25), fl := [none, none, none, none, none] }, { k := (.sl (.int .i64)), fl := [some (false, 640)] }] }
noncomputable def spec_source_way.A : Ann := { dp := fun d => isIn [] d, lp := look [(0, spec_source_way.lvL0)], jn := look [], pins := [10], nt := 40 }
noncomputable def spec_source_way.phis (N : Nat) : List (Nat × Sm D) := [(11, spec_source_pick.sm N), (22, spec_source_rarely.sm N), (23, spec_source_one.sm N)]
noncomputable def spec_source_way.a0 (N : Nat) (n : Nat) (y : SpecSource × ImplTree × (List (Int)) × Unit) : Option (SpecSource × (List (Int)) × Unit) := loopAt cx (look (spec_source_way.phis N)) spec_source_way.A N n (encL cx spec_source_way.lvL0.ms y).1 (encL cx spec_source_way.lvL0.ms y).2 (bodyOf Tryd.f12) 0 (Kfin cx spec_source_way.A spec_source_way.sg Tryd.f12.results.toList) [1, 1, 0, 1] []
theorem spec_source_way.r0 (N : Nat) : ∀ (n : Nat) (y : SpecSource × ImplTree × (List (Int)) × Unit), spec_source_way.a0 N n y = spec_source_way.L0 N n y
  | 0, y => by kernel_rfl
  | n + 1, y => by
    have h : spec_source_way.a0 N (n + 1) y = spec_source_way.B0 N (fun z => spec_source_way.a0 N n z) y := by kernel_rfl
    have e : (fun z => spec_source_way.a0 N n z) = spec_source_way.L0 N n := funext fun z => spec_source_way.r0 N n z
    rw [h]
    try rw [e]
    first | done | rfl
theorem spec_source_way.run (N : Nat) (x : SpecSource × ImplTree × Unit) : runF cx (look (spec_source_way.phis N)) spec_source_way.A N (bodyOf Tryd.f12) Tryd.f12.results.toList spec_source_way.sg x = spec_source_way N x.1 x.2.1 := by
  have h : runF cx (look (spec_source_way.phis N)) spec_source_way.A N (bodyOf Tryd.f12) Tryd.f12.results.toList spec_source_way.sg x = spec_source_way.B N (fun z => spec_source_way.a0 N N z) x.1 x.2.1 := by kernel_rfl
  have e0 : (fun z => spec_source_way.a0 N N z) = spec_source_way.L0 N N := funext fun z => spec_source_way.r0 N N z
  rw [h, e0]
  try rfl
noncomputable def spec_source_way.sm (N : Nat) : Sm D := (⟨spec_source_way.sg, fun (x : SpecSource × ImplTree × Unit) => spec_source_way N x.1 x.2.1⟩ : Sm D)
theorem spec_source_way.sound (N : Nat) : Sound cx Tryd.prog gam 12 (spec_source_way.sm N) := fn_sound (A := spec_source_way.A) (Φ := (look (spec_source_way.phis N))) pok (G := gam) (ΦOk.cons (spec_source_pick.sound N) (fnOk_of (f := 11) (by kernel_rfl)) (ΦOk.cons (spec_source_rarely.sound N) (fnOk_of (f := 22) (by kernel_rfl)) (ΦOk.cons (spec_source_one.sound N) (fnOk_of (f := 23) (by kernel_rfl)) ΦOk.nil))) mixed N Tryd.func12 (c := (bodyOf Tryd.f12)) (by kernel_rfl) spec_source_way.sg (by kernel_rfl) (by kernel_rfl) (by kernel_rfl) (spec_source_way.run N)

@[reducible] def spec_DrawWayAfter.sg : Sg := { ms := [{ k := (.sl (.int .u8)), fl := [none] }], keep := [false], rs := [{ k := (.st 25) }, { k := (.st 25) }, { k := (.sl (.int .i64)), fl := [none] }], hold := true }
noncomputable def spec_DrawWayAfter.A : Ann := { dp := fun d => isIn [] d, lp := look [], jn := look [], pins := [], nt := 22 }
noncomputable def spec_DrawWayAfter.phis (N : Nat) : List (Nat × Sm D) := [(9, spec_newSource.sm N), (10, spec_DrawTreeEdits.sm N), (11, spec_source_pick.sm N), (12, spec_source_way.sm N)]
theorem spec_DrawWayAfter.run (N : Nat) (x : (List (Int)) × Unit) : runF cx (look (spec_DrawWayAfter.phis N)) spec_DrawWayAfter.A N (bodyOf Tryd.f4) Tryd.f4.results.toList spec_DrawWayAfter.sg x = spec_DrawWayAfter N x.1 := by
  have h : runF cx (look (spec_DrawWayAfter.phis N)) spec_DrawWayAfter.A N (bodyOf Tryd.f4) Tryd.f4.results.toList spec_DrawWayAfter.sg x = spec_DrawWayAfter.B N x.1 := by kernel_rfl
  rw [h]
  try rfl
noncomputable def spec_DrawWayAfter.sm (N : Nat) : Sm D := (⟨spec_DrawWayAfter.sg, fun (x : (List (Int)) × Unit) => spec_DrawWayAfter N x.1⟩ : Sm D)
theorem spec_DrawWayAfter.sound (N : Nat) : Sound cx Tryd.prog gam 4 (spec_DrawWayAfter.sm N) := fn_sound (A := spec_DrawWayAfter.A) (Φ := (look (spec_DrawWayAfter.phis N))) pok (G := gam) (ΦOk.cons (spec_newSource.sound N) (fnOk_of (f := 9) (by kernel_rfl)) (ΦOk.cons (spec_DrawTreeEdits.sound N) (fnOk_of (f := 10) (by kernel_rfl)) (ΦOk.cons (spec_source_pick.sound N) (fnOk_of (f := 11) (by kernel_rfl)) (ΦOk.cons (spec_source_way.sound N) (fnOk_of (f := 12) (by kernel_rfl)) ΦOk.nil)))) mixed N Tryd.func4 (c := (bodyOf Tryd.f4)) (by kernel_rfl) spec_DrawWayAfter.sg (by kernel_rfl) (by kernel_rfl) (by kernel_rfl) (spec_DrawWayAfter.run N)

@[reducible] def impl_word.sg : Sg := { ms := [{ k := .str }], keep := [false], rs := [{ k := .bool }] }
@[reducible] def impl_word.lvL0 : Lv := { id := 0, slots := [0, 3], ms := [{ k := .str }, { k := (.int .i64) }] }
noncomputable def impl_word.A : Ann := { dp := fun d => isIn [] d, lp := look [(0, impl_word.lvL0)], jn := look [], pins := [], nt := 36 }
noncomputable def impl_word.phis (N : Nat) : List (Nat × Sm D) := []
noncomputable def impl_word.a0 (N : Nat) (n : Nat) (y : (List UInt8) × Int × Unit) : Option (Bool × Unit) := loopAt cx (look (impl_word.phis N)) impl_word.A N n (encL cx impl_word.lvL0.ms y).1 (encL cx impl_word.lvL0.ms y).2 (bodyOf Tryd.f44) 0 (Kfin cx impl_word.A impl_word.sg Tryd.f44.results.toList) [1, 0, 1, 1] []
theorem impl_word.r0 (N : Nat) : ∀ (n : Nat) (y : (List UInt8) × Int × Unit), impl_word.a0 N n y = impl_word.L0 N n y
  | 0, y => by kernel_rfl
  | n + 1, y => by
    have h : impl_word.a0 N (n + 1) y = impl_word.B0 N (fun z => impl_word.a0 N n z) y := by kernel_rfl
    have e : (fun z => impl_word.a0 N n z) = impl_word.L0 N n := funext fun z => impl_word.r0 N n z
    rw [h]
    try rw [e]
    first | done | rfl
theorem impl_word.run (N : Nat) (x : (List UInt8) × Unit) : runF cx (look (impl_word.phis N)) impl_word.A N (bodyOf Tryd.f44) Tryd.f44.results.toList impl_word.sg x = impl_word N x.1 := by
  have h : runF cx (look (impl_word.phis N)) impl_word.A N (bodyOf Tryd.f44) Tryd.f44.results.toList impl_word.sg x = impl_word.B N (fun z => impl_word.a0 N N z) x.1 := by kernel_rfl
  have e0 : (fun z => impl_word.a0 N N z) = impl_word.L0 N N := funext fun z => impl_word.r0 N N z
  rw [h, e0]
  try rfl
noncomputable def impl_word.sm (N : Nat) : Sm D := (⟨impl_word.sg, fun (x : (List UInt8) × Unit) => impl_word N x.1⟩ : Sm D)
theorem impl_word.sound (N : Nat) : Sound cx Tryd.prog gam 44 (impl_word.sm N) := fn_sound (A := impl_word.A) (Φ := (look (impl_word.phis N))) pok (G := gam) ΦOk.nil mixed N Tryd.func44 (c := (bodyOf Tryd.f44)) (by kernel_rfl) impl_word.sg (by kernel_rfl) (by kernel_rfl) (by kernel_rfl) (impl_word.run N)

@[reducible] def impl_within.sg : Sg := { ms := [{ k := (.int .i64) }, { k := (.int .i64) }, { k := (.int .i64) }], keep := [false, false, false], rs := [{ k := .bool }] }
noncomputable def impl_within.A : Ann := { dp := fun d => isIn [] d, lp := look [], jn := look [], pins := [], nt := 15 }
noncomputable def impl_within.phis (N : Nat) : List (Nat × Sm D) := []
theorem impl_within.run (N : Nat) (x : Int × Int × Int × Unit) : runF cx (look (impl_within.phis N)) impl_within.A N (bodyOf Tryd.f18) Tryd.f18.results.toList impl_within.sg x = impl_within N x.1 x.2.1 x.2.2.1 := by
  have h : runF cx (look (impl_within.phis N)) impl_within.A N (bodyOf Tryd.f18) Tryd.f18.results.toList impl_within.sg x = impl_within.B N x.1 x.2.1 x.2.2.1 := by kernel_rfl
  rw [h]
  try rfl
noncomputable def impl_within.sm (N : Nat) : Sm D := (⟨impl_within.sg, fun (x : Int × Int × Int × Unit) => impl_within N x.1 x.2.1 x.2.2.1⟩ : Sm D)
theorem impl_within.sound (N : Nat) : Sound cx Tryd.prog gam 18 (impl_within.sm N) := fn_sound (A := impl_within.A) (Φ := (look (impl_within.phis N))) pok (G := gam) ΦOk.nil mixed N Tryd.func18 (c := (bodyOf Tryd.f18)) (by kernel_rfl) impl_within.sg (by kernel_rfl) (by kernel_rfl) (by kernel_rfl) (impl_within.run N)

@[reducible] def impl_shown.sg : Sg := { ms := [{ k := .str }], keep := [false], rs := [{ k := .bool }] }
noncomputable def impl_shown.A : Ann := { dp := fun d => isIn [] d, lp := look [], jn := look [], pins := [], nt := 24 }
noncomputable def impl_shown.phis (N : Nat) : List (Nat × Sm D) := [(44, impl_word.sm N), (45, LibAtoi.sm N), (18, impl_within.sm N), (46, LibItoa.sm N)]
theorem impl_shown.run (N : Nat) (x : (List UInt8) × Unit) : runF cx (look (impl_shown.phis N)) impl_shown.A N (bodyOf Tryd.f37) Tryd.f37.results.toList impl_shown.sg x = impl_shown N x.1 := by
  have h : runF cx (look (impl_shown.phis N)) impl_shown.A N (bodyOf Tryd.f37) Tryd.f37.results.toList impl_shown.sg x = impl_shown.B N x.1 := by kernel_rfl
  rw [h]
  try rfl
noncomputable def impl_shown.sm (N : Nat) : Sm D := (⟨impl_shown.sg, fun (x : (List UInt8) × Unit) => impl_shown N x.1⟩ : Sm D)
theorem impl_shown.sound (N : Nat) : Sound cx Tryd.prog gam 37 (impl_shown.sm N) := fn_sound (A := impl_shown.A) (Φ := (look (impl_shown.phis N))) pok (G := gam) (ΦOk.cons (impl_word.sound N) (fnOk_of (f := 44) (by kernel_rfl)) (ΦOk.cons (LibAtoi.sound N) (fnOk_of (f := 45) (by kernel_rfl)) (ΦOk.cons (impl_within.sound N) (fnOk_of (f := 18) (by kernel_rfl)) (ΦOk.cons (LibItoa.sound N) (fnOk_of (f := 46) (by kernel_rfl)) ΦOk.nil)))) mixed N Tryd.func37 (c := (bodyOf Tryd.f37)) (by kernel_rfl) impl_shown.sg (by kernel_rfl) (by kernel_rfl) (by kernel_rfl) (impl_shown.run N)

@[reducible] def impl_ValOk.sg : Sg := { ms := [{ k := (.st 59) }], keep := [false], rs := [{ k := .bool }] }
noncomputable def impl_ValOk.A : Ann := { dp := fun d => isIn [] d, lp := look [], jn := look [], pins := [], nt := 35 }
noncomputable def impl_ValOk.phis (N : Nat) : List (Nat × Sm D) := [(18, impl_within.sm N), (44, impl_word.sm N)]
theorem impl_ValOk.run (N : Nat) (x : ImplValue × Unit) : runF cx (look (impl_ValOk.phis N)) impl_ValOk.A N (bodyOf Tryd.f38) Tryd.f38.results.toList impl_ValOk.sg x = impl_ValOk N x.1 := by
  have h : runF cx (look (impl_ValOk.phis N)) impl_ValOk.A N (bodyOf Tryd.f38) Tryd.f38.results.toList impl_ValOk.sg x = impl_ValOk.B N x.1 := by kernel_rfl
  rw [h]
  try rfl
noncomputable def impl_ValOk.sm (N : Nat) : Sm D := (⟨impl_ValOk.sg, fun (x : ImplValue × Unit) => impl_ValOk N x.1⟩ : Sm D)
theorem impl_ValOk.sound (N : Nat) : Sound cx Tryd.prog gam 38 (impl_ValOk.sm N) := fn_sound (A := impl_ValOk.A) (Φ := (look (impl_ValOk.phis N))) pok (G := gam) (ΦOk.cons (impl_within.sound N) (fnOk_of (f := 18) (by kernel_rfl)) (ΦOk.cons (impl_word.sound N) (fnOk_of (f := 44) (by kernel_rfl)) ΦOk.nil)) mixed N Tryd.func38 (c := (bodyOf Tryd.f38)) (by kernel_rfl) impl_ValOk.sg (by kernel_rfl) (by kernel_rfl) (by kernel_rfl) (impl_ValOk.run N)

@[reducible] def impl_treeFits.sg : Sg := { ms := [{ k := (.st 25) }, { k := (.int .i64) }, { ptr := true, id := 50, t := 3, k := (.int .i64) }], keep := [false, false, true], rs := [{ k := .bool }] }
@[reducible] def impl_treeFits.lvL2 : Lv := { id := 2, slots := [1, 2, 9, 100, 101, 102], ms := [{ k := (.int .i64) }, { ptr := true, id := 50, t := 3, k := (.int .i64), fl := [none] }, { ptr := true, id := 640, t := 777777, k := (.sl (.int .i64)), fl := [none] }, { k := (.sl (.st 25)), fl := [none] }, { k := (.int .i64) }, { k := (.int .i64) }] }
@[reducible] def impl_treeFits.lvL0 : Lv := { id := 0, slots := [1, 2, 3, 64, 65, 66], ms := [{ k := (.int .i64) }, { ptr := true, id := 50, t := 3, k := (.int .i64), fl := [none] }, { ptr := true, id := 640, t := 26, k := (.st 25), fl := [none, none, none, none, none] }, { k := (.sl (.st 62)), fl := [none] }, { k := (.int .i64) }, { k := (.int .i64) }] }
noncomputable def impl_treeFits.A : Ann := { dp := fun d => isIn [] d, lp := look [(2, impl_treeFits.lvL2), (0, impl_treeFits.lvL0)], jn := look [], pins := [50], nt := 125 }
noncomputable def impl_treeFits.phis (N : Nat) (d : Nat) : List (Nat × Sm D) := [(37, impl_shown.sm N), (18, impl_within.sm N), (38, impl_ValOk.sm N), (24, (⟨impl_treeFits.sg, fun (x : ImplTree × Int × Int × Unit) => impl_treeFits.R N d x.1 x.2.1 x.2.2.1⟩ : Sm D))]
noncomputable def impl_treeFits.a2 (N : Nat) (d : Nat) (n : Nat) (y : Int × Int × (List (Int)) × (List (ImplTree)) × Int × Int × Unit) : Option (Int × Bool × Unit) := loopAt cx (look (impl_treeFits.phis N d)) impl_treeFits.A N n (encL cx impl_treeFits.lvL2.ms y).1 (encL cx impl_treeFits.lvL2.ms y).2 (bodyOf Tryd.f24) 0 (Kfin cx impl_treeFits.A impl_treeFits.sg Tryd.f24.results.toList) [1, 1, 1, 1, 1, 1, 1, 0, 1, 1] []
noncomputable def impl_treeFits.a0 (N : Nat) (d : Nat) (n : Nat) (y : Int × Int × ImplTree × (List (ImplProp)) × Int × Int × Unit) : Option (Int × Bool × Unit) := loopAt cx (look (impl_treeFits.phis N d)) impl_treeFits.A N n (encL cx impl_treeFits.lvL0.ms y).1 (encL cx impl_treeFits.lvL0.ms y).2 (bodyOf Tryd.f24) 0 (Kfin cx impl_treeFits.A impl_treeFits.sg Tryd.f24.results.toList) [1, 1, 1, 1, 1, 0, 1, 1] []
theorem impl_treeFits.r2 (N : Nat) (d : Nat) : ∀ (n : Nat) (y : Int × Int × (List (Int)) × (List (ImplTree)) × Int × Int × Unit), impl_treeFits.a2 N d n y = impl_treeFits.L2 N (impl_treeFits.R N d) n y
  | 0, y => by kernel_rfl
  | n + 1, y => by
    have h : impl_treeFits.a2 N d (n + 1) y = impl_treeFits.B2 N (impl_treeFits.R N d) (fun z => impl_treeFits.a2 N d n z) y := by kernel_rfl
    have e : (fun z => impl_treeFits.a2 N d n z) = impl_treeFits.L2 N (impl_treeFits.R N d) n := funext fun z => impl_treeFits.r2 N d n z
    rw [h]
    try rw [e]
    first | done | rfl
theorem impl_treeFits.r0 (N : Nat) (d : Nat) : ∀ (n : Nat) (y : Int × Int × ImplTree × (List (ImplProp)) × Int × Int × Unit), impl_treeFits.a0 N d n y = impl_treeFits.L0 N (impl_treeFits.R N d) n y
  | 0, y => by kernel_rfl
  | n + 1, y => by
    have h : impl_treeFits.a0 N d (n + 1) y = impl_treeFits.B0 N (impl_treeFits.R N d) (fun z => impl_treeFits.a0 N d n z) (fun z => impl_treeFits.a2 N d N z) y := by kernel_rfl
    have e : (fun z => impl_treeFits.a0 N d n z) = impl_treeFits.L0 N (impl_treeFits.R N d) n := funext fun z => impl_treeFits.r0 N d n z
    have e2 : (fun z => impl_treeFits.a2 N d N z) = impl_treeFits.L2 N (impl_treeFits.R N d) N := funext fun z => impl_treeFits.r2 N d N z
    rw [h, e2]
    try rw [e]
    first | done | rfl
theorem impl_treeFits.run (N : Nat) (d : Nat) (x : ImplTree × Int × Int × Unit) : runF cx (look (impl_treeFits.phis N d)) impl_treeFits.A N (bodyOf Tryd.f24) Tryd.f24.results.toList impl_treeFits.sg x = impl_treeFits.R N (d + 1) x.1 x.2.1 x.2.2.1 := by
  have h : runF cx (look (impl_treeFits.phis N d)) impl_treeFits.A N (bodyOf Tryd.f24) Tryd.f24.results.toList impl_treeFits.sg x = impl_treeFits.B N (impl_treeFits.R N d) (fun z => impl_treeFits.a0 N d N z) x.1 x.2.1 x.2.2.1 := by kernel_rfl
  have e0 : (fun z => impl_treeFits.a0 N d N z) = impl_treeFits.L0 N (impl_treeFits.R N d) N := funext fun z => impl_treeFits.r0 N d N z
  rw [h, e0]
  try rfl
theorem impl_treeFits.step (N : Nat) (d : Nat) (h_impl_treeFits : Sound cx Tryd.prog gam 24 (⟨impl_treeFits.sg, fun (x : ImplTree × Int × Int × Unit) => impl_treeFits.R N d x.1 x.2.1 x.2.2.1⟩ : Sm D)) : Sound cx Tryd.prog gam 24 (⟨impl_treeFits.sg, fun (x : ImplTree × Int × Int × Unit) => impl_treeFits.R N (d + 1) x.1 x.2.1 x.2.2.1⟩ : Sm D) := fn_sound (A := impl_treeFits.A) (Φ := (look (impl_treeFits.phis N d))) pok (G := gam) (ΦOk.cons (impl_shown.sound N) (fnOk_of (f := 37) (by kernel_rfl)) (ΦOk.cons (impl_within.sound N) (fnOk_of (f := 18) (by kernel_rfl)) (ΦOk.cons (impl_ValOk.sound N) (fnOk_of (f := 38) (by kernel_rfl)) (ΦOk.cons h_impl_treeFits (fnOk_of (f := 24) (by kernel_rfl)) ΦOk.nil)))) mixed N Tryd.func24 (c := (bodyOf Tryd.f24)) (by kernel_rfl) impl_treeFits.sg (by kernel_rfl) (by kernel_rfl) (by kernel_rfl) (impl_treeFits.run N d)

theorem impl_treeFits.scc (N : Nat) : ∀ d, Sound cx Tryd.prog gam 24 (⟨impl_treeFits.sg, fun (x : ImplTree × Int × Int × Unit) => impl_treeFits.R N d x.1 x.2.1 x.2.2.1⟩ : Sm D)
  | 0 => none_sound 24 impl_treeFits.sg
  | d + 1 => by
    have ih := impl_treeFits.scc N d
    exact impl_treeFits.step N d ih
noncomputable def impl_treeFits.sm (N : Nat) : Sm D := (⟨impl_treeFits.sg, fun (x : ImplTree × Int × Int × Unit) => impl_treeFits.R N N x.1 x.2.1 x.2.2.1⟩ : Sm D)
theorem impl_treeFits.sound (N : Nat) : Sound cx Tryd.prog gam 24 (impl_treeFits.sm N) := (impl_treeFits.scc N N)
@[reducible] def impl_TreeOk.sg : Sg := { ms := [{ k := (.st 25) }], keep := [false], rs := [{ k := .bool }] }
noncomputable def impl_TreeOk.A : Ann := { dp := fun d => isIn [] d, lp := look [], jn := look [], pins := [], nt := 6 }
noncomputable def impl_TreeOk.phis (N : Nat) : List (Nat × Sm D) := [(24, impl_treeFits.sm N)]
theorem impl_TreeOk.run (N : Nat) (x : ImplTree × Unit) : runF cx (look (impl_TreeOk.phis N)) impl_TreeOk.A N (bodyOf Tryd.f13) Tryd.f13.results.toList impl_TreeOk.sg x = impl_TreeOk N x.1 := by
  have h : runF cx (look (impl_TreeOk.phis N)) impl_TreeOk.A N (bodyOf Tryd.f13) Tryd.f13.results.toList impl_TreeOk.sg x = impl_TreeOk.B N x.1 := by kernel_rfl
  rw [h]
  try rfl
noncomputable def impl_TreeOk.sm (N : Nat) : Sm D := (⟨impl_TreeOk.sg, fun (x : ImplTree × Unit) => impl_TreeOk N x.1⟩ : Sm D)
theorem impl_TreeOk.sound (N : Nat) : Sound cx Tryd.prog gam 13 (impl_TreeOk.sm N) := fn_sound (A := impl_TreeOk.A) (Φ := (look (impl_TreeOk.phis N))) pok (G := gam) (ΦOk.cons (impl_treeFits.sound N) (fnOk_of (f := 24) (by kernel_rfl)) ΦOk.nil) mixed N Tryd.func13 (c := (bodyOf Tryd.f13)) (by kernel_rfl) impl_TreeOk.sg (by kernel_rfl) (by kernel_rfl) (by kernel_rfl) (impl_TreeOk.run N)

@[reducible] def impl_partners.sg : Sg := { ms := [{ k := (.st 25) }, { k := (.st 25) }], keep := [false, false], rs := [{ k := (.sl (.int .i64)), fl := [none] }], hold := true }
@[reducible] def impl_partners.lvL2 : Lv := { id := 2, slots := [2, 5, 6, 8, 9, 17, 18, 19, 24, 25, 26], ms := [{ ptr := true, id := 600, t := 26, k := (.st 25), fl := [none, none, none, none, none] }, { k := (.sl (.int .i64)), fl := [some (false, 620)] }, { k := (.sl .bool), fl := [some (false, 640)] }, { ptr := true, id := 660, t := 26, k := (.st 25), fl := [none, none, none, none, none] }, { k := (.int .i64) }, { k := (.sl (.st 25)), fl := [none] }, { k := (.int .i64) }, { k := (.int .i64) }, { k := (.sl (.st 25)), fl := [none] }, { k := (.int .i64) }, { k := (.int .i64) }] }
@[reducible] def impl_partners.lvL0 : Lv := { id := 0, slots := [2, 5, 6, 17, 18, 19], ms := [{ ptr := true, id := 600, t := 26, k := (.st 25), fl := [none, none, none, none, none] }, { k := (.sl (.int .i64)), fl := [some (false, 620)] }, { k := (.sl .bool), fl := [some (false, 640)] }, { k := (.sl (.st 25)), fl := [none] }, { k := (.int .i64) }, { k := (.int .i64) }] }
@[reducible] def impl_partners.lvJ14 : Lv := { id := 14, slots := [2, 5, 6, 9, 17, 18, 19], ms := [{ ptr := true, id := 600, t := 26, k := (.st 25), fl := [none, none, none, none, none] }, { k := (.sl (.int .i64)), fl := [some (false, 620)] }, { k := (.sl .bool), fl := [some (false, 640)] }, { k := (.int .i64) }, { k := (.sl (.st 25)), fl := [none] }, { k := (.int .i64) }, { k := (.int .i64) }] }
noncomputable def impl_partners.A : Ann := { dp := fun d => isIn [] d, lp := look [(2, impl_partners.lvL2), (0, impl_partners.lvL0)], jn := look [(14, impl_partners.lvJ14)], pins := [], nt := 61 }
noncomputable def impl_partners.phis (N : Nat) : List (Nat × Sm D) := []
noncomputable def impl_partners.a2 (N : Nat) (m0 : Nat) (n : Nat) (y : ImplTree × (List (Int)) × (List (Bool)) × ImplTree × Int × (List (ImplTree)) × Int × Int × (List (ImplTree)) × Int × Int × Unit) : Option ((List (Int)) × Unit) := loopAt cx (look (impl_partners.phis N)) impl_partners.A N n (encL cx impl_partners.lvL2.ms y).1 (encL cx impl_partners.lvL2.ms y).2 (bodyOf Tryd.f26) 0 (Kfin cx impl_partners.A impl_partners.sg Tryd.f26.results.toList) [1, 1, 1, 0, 1, 1, 1, 1, 1, 0, 1, 1, 1, 0, 1, 1] [m0]
noncomputable def impl_partners.a0 (N : Nat) (n : Nat) (y : ImplTree × (List (Int)) × (List (Bool)) × (List (ImplTree)) × Int × Int × Unit) : Option ((List (Int)) × Unit) := loopAt cx (look (impl_partners.phis N)) impl_partners.A N n (encL cx impl_partners.lvL0.ms y).1 (encL cx impl_partners.lvL0.ms y).2 (bodyOf Tryd.f26) 0 (Kfin cx impl_partners.A impl_partners.sg Tryd.f26.results.toList) [1, 1, 1, 0, 1, 1] []
theorem impl_partners.r2 (N : Nat) (m0 : Nat) : ∀ (n : Nat) (y : ImplTree × (List (Int)) × (List (Bool)) × ImplTree × Int × (List (ImplTree)) × Int × Int × (List (ImplTree)) × Int × Int × Unit), impl_partners.a2 N m0 n y = impl_partners.L2 N (fun z => impl_partners.a0 N m0 z) n y
  | 0, y => by kernel_rfl
  | n + 1, y => by
    have h : impl_partners.a2 N m0 (n + 1) y = impl_partners.B2 N (fun z => impl_partners.a0 N m0 z) (fun z => impl_partners.a2 N m0 n z) y := by kernel_rfl
    have e : (fun z => impl_partners.a2 N m0 n z) = impl_partners.L2 N (fun z => impl_partners.a0 N m0 z) n := funext fun z => impl_partners.r2 N m0 n z
    rw [h]
    try rw [e]
    first | done | rfl
theorem impl_partners.r0 (N : Nat) : ∀ (n : Nat) (y : ImplTree × (List (Int)) × (List (Bool)) × (List (ImplTree)) × Int × Int × Unit), impl_partners.a0 N n y = impl_partners.L0 N n y
  | 0, y => by kernel_rfl
  | n + 1, y => by
    have h : impl_partners.a0 N (n + 1) y = impl_partners.B0 N (fun z => impl_partners.a2 N n N z) y := by kernel_rfl
    have e : (fun z => impl_partners.a0 N n z) = impl_partners.L0 N n := funext fun z => impl_partners.r0 N n z
    have e2 : (fun z => impl_partners.a2 N n N z) = impl_partners.L2 N (fun z => impl_partners.a0 N n z) N := funext fun z => impl_partners.r2 N n N z
    rw [h, e2]
    try rw [e]
    first | done | rfl
theorem impl_partners.run (N : Nat) (x : ImplTree × ImplTree × Unit) : runF cx (look (impl_partners.phis N)) impl_partners.A N (bodyOf Tryd.f26) Tryd.f26.results.toList impl_partners.sg x = impl_partners N x.1 x.2.1 := by
  have h : runF cx (look (impl_partners.phis N)) impl_partners.A N (bodyOf Tryd.f26) Tryd.f26.results.toList impl_partners.sg x = impl_partners.B N (fun z => impl_partners.a0 N N z) x.1 x.2.1 := by kernel_rfl
  have e0 : (fun z => impl_partners.a0 N N z) = impl_partners.L0 N N := funext fun z => impl_partners.r0 N N z
  rw [h, e0]
  try rfl
noncomputable def impl_partners.sm (N : Nat) : Sm D := (⟨impl_partners.sg, fun (x : ImplTree × ImplTree × Unit) => impl_partners N x.1 x.2.1⟩ : Sm D)
theorem impl_partners.sound (N : Nat) : Sound cx Tryd.prog gam 26 (impl_partners.sm N) := fn_sound (A := impl_partners.A) (Φ := (look (impl_partners.phis N))) pok (G := gam) ΦOk.nil mixed N Tryd.func26 (c := (bodyOf Tryd.f26)) (by kernel_rfl) impl_partners.sg (by kernel_rfl) (by kernel_rfl) (by kernel_rfl) (impl_partners.run N)

@[reducible] def impl_wayAfter.sg : Sg := { ms := [{ k := (.st 25) }, { k := (.st 25) }, { k := (.sl (.int .i64)), fl := [none] }], keep := [false, false, false], rs := [{ k := (.sl (.int .i64)), fl := [some (false, 411)] }, { k := .bool }] }
@[reducible] def impl_wayAfter.lvL0 : Lv := { id := 0, slots := [3, 4, 8, 24, 25, 26], ms := [{ ptr := true, id := 600, t := 26, k := (.st 25), fl := [none, none, none, none, none] }, { ptr := true, id := 620, t := 26, k := (.st 25), fl := [none, none, none, none, none] }, { k := (.sl (.int .i64)), fl := [some (false, 640)] }, { k := (.sl (.int .i64)), fl := [none] }, { k := (.int .i64) }, { k := (.int .i64) }] }
noncomputable def impl_wayAfter.A : Ann := { dp := fun d => isIn [] d, lp := look [(0, impl_wayAfter.lvL0)], jn := look [], pins := [], nt := 60 }
noncomputable def impl_wayAfter.phis (N : Nat) : List (Nat × Sm D) := [(18, impl_within.sm N), (26, impl_partners.sm N), (25, LibIndex.sm N)]
noncomputable def impl_wayAfter.a0 (N : Nat) (n : Nat) (y : ImplTree × ImplTree × (List (Int)) × (List (Int)) × Int × Int × Unit) : Option ((List (Int)) × Bool × Unit) := loopAt cx (look (impl_wayAfter.phis N)) impl_wayAfter.A N n (encL cx impl_wayAfter.lvL0.ms y).1 (encL cx impl_wayAfter.lvL0.ms y).2 (bodyOf Tryd.f14) 0 (Kfin cx impl_wayAfter.A impl_wayAfter.sg Tryd.f14.results.toList) [1, 1, 1, 0, 1, 1] []
theorem impl_wayAfter.r0 (N : Nat) : ∀ (n : Nat) (y : ImplTree × ImplTree × (List (Int)) × (List (Int)) × Int × Int × Unit), impl_wayAfter.a0 N n y = impl_wayAfter.L0 N n y
  | 0, y => by kernel_rfl
  | n + 1, y => by
    have h : impl_wayAfter.a0 N (n + 1) y = impl_wayAfter.B0 N (fun z => impl_wayAfter.a0 N n z) y := by kernel_rfl
    have e : (fun z => impl_wayAfter.a0 N n z) = impl_wayAfter.L0 N n := funext fun z => impl_wayAfter.r0 N n z
    rw [h]
    try rw [e]
    first | done | rfl
theorem impl_wayAfter.run (N : Nat) (x : ImplTree × ImplTree × (List (Int)) × Unit) : runF cx (look (impl_wayAfter.phis N)) impl_wayAfter.A N (bodyOf Tryd.f14) Tryd.f14.results.toList impl_wayAfter.sg x = impl_wayAfter N x.1 x.2.1 x.2.2.1 := by
  have h : runF cx (look (impl_wayAfter.phis N)) impl_wayAfter.A N (bodyOf Tryd.f14) Tryd.f14.results.toList impl_wayAfter.sg x = impl_wayAfter.B N (fun z => impl_wayAfter.a0 N N z) x.1 x.2.1 x.2.2.1 := by kernel_rfl
  have e0 : (fun z => impl_wayAfter.a0 N N z) = impl_wayAfter.L0 N N := funext fun z => impl_wayAfter.r0 N N z
  rw [h, e0]
  try rfl
noncomputable def impl_wayAfter.sm (N : Nat) : Sm D := (⟨impl_wayAfter.sg, fun (x : ImplTree × ImplTree × (List (Int)) × Unit) => impl_wayAfter N x.1 x.2.1 x.2.2.1⟩ : Sm D)
theorem impl_wayAfter.sound (N : Nat) : Sound cx Tryd.prog gam 14 (impl_wayAfter.sm N) := fn_sound (A := impl_wayAfter.A) (Φ := (look (impl_wayAfter.phis N))) pok (G := gam) (ΦOk.cons (impl_within.sound N) (fnOk_of (f := 18) (by kernel_rfl)) (ΦOk.cons (impl_partners.sound N) (fnOk_of (f := 26) (by kernel_rfl)) (ΦOk.cons (LibIndex.sound N) (fnOk_of (f := 25) (by kernel_rfl)) ΦOk.nil))) mixed N Tryd.func14 (c := (bodyOf Tryd.f14)) (by kernel_rfl) impl_wayAfter.sg (by kernel_rfl) (by kernel_rfl) (by kernel_rfl) (impl_wayAfter.run N)

@[reducible] def impl_WayAfter.sg : Sg := { ms := [{ k := (.st 25) }, { k := (.st 25) }, { k := (.sl (.int .i64)), fl := [none] }], keep := [false, false, false], rs := [{ k := (.sl (.int .i64)), fl := [some (false, 411)] }, { k := .bool }] }
noncomputable def impl_WayAfter.A : Ann := { dp := fun d => isIn [] d, lp := look [], jn := look [], pins := [], nt := 22 }
noncomputable def impl_WayAfter.phis (N : Nat) : List (Nat × Sm D) := [(13, impl_TreeOk.sm N), (14, impl_wayAfter.sm N)]
theorem impl_WayAfter.run (N : Nat) (x : ImplTree × ImplTree × (List (Int)) × Unit) : runF cx (look (impl_WayAfter.phis N)) impl_WayAfter.A N (bodyOf Tryd.f5) Tryd.f5.results.toList impl_WayAfter.sg x = impl_WayAfter N x.1 x.2.1 x.2.2.1 := by
  have h : runF cx (look (impl_WayAfter.phis N)) impl_WayAfter.A N (bodyOf Tryd.f5) Tryd.f5.results.toList impl_WayAfter.sg x = impl_WayAfter.B N x.1 x.2.1 x.2.2.1 := by kernel_rfl
  rw [h]
  try rfl
noncomputable def impl_WayAfter.sm (N : Nat) : Sm D := (⟨impl_WayAfter.sg, fun (x : ImplTree × ImplTree × (List (Int)) × Unit) => impl_WayAfter N x.1 x.2.1 x.2.2.1⟩ : Sm D)
theorem impl_WayAfter.sound (N : Nat) : Sound cx Tryd.prog gam 5 (impl_WayAfter.sm N) := fn_sound (A := impl_WayAfter.A) (Φ := (look (impl_WayAfter.phis N))) pok (G := gam) (ΦOk.cons (impl_TreeOk.sound N) (fnOk_of (f := 13) (by kernel_rfl)) (ΦOk.cons (impl_wayAfter.sound N) (fnOk_of (f := 14) (by kernel_rfl)) ΦOk.nil)) mixed N Tryd.func5 (c := (bodyOf Tryd.f5)) (by kernel_rfl) impl_WayAfter.sg (by kernel_rfl) (by kernel_rfl) (by kernel_rfl) (impl_WayAfter.run N)

@[reducible] def spec_treeSize.sg : Sg := { ms := [{ k := (.st 25) }, { k := (.int .i64) }], keep := [false, false], rs := [{ k := (.int .i64) }] }
@[reducible] def spec_treeSize.lvL0 : Lv := { id := 0, slots := [1, 2, 5, 6], ms := [{ k := (.int .i64) }, { ptr := true, id := 620, t := 26, k := (.st 25), fl := [none, none, none, none, none] }, { k := (.int .i64) }, { k := (.int .i64) }] }
noncomputable def spec_treeSize.A : Ann := { dp := fun d => isIn [] d, lp := look [(0, spec_treeSize.lvL0)], jn := look [], pins := [], nt := 32 }
noncomputable def spec_treeSize.phis (N : Nat) (d : Nat) : List (Nat × Sm D) := [(27, (⟨spec_treeSize.sg, fun (x : ImplTree × Int × Unit) => spec_treeSize.R N d x.1 x.2.1⟩ : Sm D))]
noncomputable def spec_treeSize.a0 (N : Nat) (d : Nat) (n : Nat) (y : Int × ImplTree × Int × Int × Unit) : Option (Int × Unit) := loopAt cx (look (spec_treeSize.phis N d)) spec_treeSize.A N n (encL cx spec_treeSize.lvL0.ms y).1 (encL cx spec_treeSize.lvL0.ms y).2 (bodyOf Tryd.f27) 0 (Kfin cx spec_treeSize.A spec_treeSize.sg Tryd.f27.results.toList) [1, 1, 1, 0, 1, 1] []
theorem spec_treeSize.r0 (N : Nat) (d : Nat) : ∀ (n : Nat) (y : Int × ImplTree × Int × Int × Unit), spec_treeSize.a0 N d n y = spec_treeSize.L0 N (spec_treeSize.R N d) n y
  | 0, y => by kernel_rfl
  | n + 1, y => by
    have h : spec_treeSize.a0 N d (n + 1) y = spec_treeSize.B0 N (spec_treeSize.R N d) (fun z => spec_treeSize.a0 N d n z) y := by kernel_rfl
    have e : (fun z => spec_treeSize.a0 N d n z) = spec_treeSize.L0 N (spec_treeSize.R N d) n := funext fun z => spec_treeSize.r0 N d n z
    rw [h]
    try rw [e]
    first | done | rfl
theorem spec_treeSize.run (N : Nat) (d : Nat) (x : ImplTree × Int × Unit) : runF cx (look (spec_treeSize.phis N d)) spec_treeSize.A N (bodyOf Tryd.f27) Tryd.f27.results.toList spec_treeSize.sg x = spec_treeSize.R N (d + 1) x.1 x.2.1 := by
  have h : runF cx (look (spec_treeSize.phis N d)) spec_treeSize.A N (bodyOf Tryd.f27) Tryd.f27.results.toList spec_treeSize.sg x = spec_treeSize.B N (spec_treeSize.R N d) (fun z => spec_treeSize.a0 N d N z) x.1 x.2.1 := by kernel_rfl
  have e0 : (fun z => spec_treeSize.a0 N d N z) = spec_treeSize.L0 N (spec_treeSize.R N d) N := funext fun z => spec_treeSize.r0 N d N z
  rw [h, e0]
  try rfl
theorem spec_treeSize.step (N : Nat) (d : Nat) (h_spec_treeSize : Sound cx Tryd.prog gam 27 (⟨spec_treeSize.sg, fun (x : ImplTree × Int × Unit) => spec_treeSize.R N d x.1 x.2.1⟩ : Sm D)) : Sound cx Tryd.prog gam 27 (⟨spec_treeSize.sg, fun (x : ImplTree × Int × Unit) => spec_treeSize.R N (d + 1) x.1 x.2.1⟩ : Sm D) := fn_sound (A := spec_treeSize.A) (Φ := (look (spec_treeSize.phis N d))) pok (G := gam) (ΦOk.cons h_spec_treeSize (fnOk_of (f := 27) (by kernel_rfl)) ΦOk.nil) mixed N Tryd.func27 (c := (bodyOf Tryd.f27)) (by kernel_rfl) spec_treeSize.sg (by kernel_rfl) (by kernel_rfl) (by kernel_rfl) (spec_treeSize.run N d)

theorem spec_treeSize.scc (N : Nat) : ∀ d, Sound cx Tryd.prog gam 27 (⟨spec_treeSize.sg, fun (x : ImplTree × Int × Unit) => spec_treeSize.R N d x.1 x.2.1⟩ : Sm D)
  | 0 => none_sound 27 spec_treeSize.sg
  | d + 1 => by
    have ih := spec_treeSize.scc N d
    exact spec_treeSize.step N d ih
noncomputable def spec_treeSize.sm (N : Nat) : Sm D := (⟨spec_treeSize.sg, fun (x : ImplTree × Int × Unit) => spec_treeSize.R N N x.1 x.2.1⟩ : Sm D)
theorem spec_treeSize.sound (N : Nat) : Sound cx Tryd.prog gam 27 (spec_treeSize.sm N) := (spec_treeSize.scc N N)
@[reducible] def spec_decimal.sg : Sg := { ms := [{ k := (.int .i64) }], keep := [false], rs := [{ k := .str }] }
noncomputable def spec_decimal.A : Ann := { dp := fun d => isIn [] d, lp := look [], jn := look [], pins := [], nt := 22 }
noncomputable def spec_decimal.phis (N : Nat) (d : Nat) : List (Nat × Sm D) := [(48, (⟨spec_decimal.sg, fun (x : Int × Unit) => spec_decimal.R N d x.1⟩ : Sm D))]
theorem spec_decimal.run (N : Nat) (d : Nat) (x : Int × Unit) : runF cx (look (spec_decimal.phis N d)) spec_decimal.A N (bodyOf Tryd.f48) Tryd.f48.results.toList spec_decimal.sg x = spec_decimal.R N (d + 1) x.1 := by
  have h : runF cx (look (spec_decimal.phis N d)) spec_decimal.A N (bodyOf Tryd.f48) Tryd.f48.results.toList spec_decimal.sg x = spec_decimal.B N (spec_decimal.R N d) x.1 := by kernel_rfl
  rw [h]
  try rfl
theorem spec_decimal.step (N : Nat) (d : Nat) (h_spec_decimal : Sound cx Tryd.prog gam 48 (⟨spec_decimal.sg, fun (x : Int × Unit) => spec_decimal.R N d x.1⟩ : Sm D)) : Sound cx Tryd.prog gam 48 (⟨spec_decimal.sg, fun (x : Int × Unit) => spec_decimal.R N (d + 1) x.1⟩ : Sm D) := fn_sound (A := spec_decimal.A) (Φ := (look (spec_decimal.phis N d))) pok (G := gam) (ΦOk.cons h_spec_decimal (fnOk_of (f := 48) (by kernel_rfl)) ΦOk.nil) mixed N Tryd.func48 (c := (bodyOf Tryd.f48)) (by kernel_rfl) spec_decimal.sg (by kernel_rfl) (by kernel_rfl) (by kernel_rfl) (spec_decimal.run N d)

theorem spec_decimal.scc (N : Nat) : ∀ d, Sound cx Tryd.prog gam 48 (⟨spec_decimal.sg, fun (x : Int × Unit) => spec_decimal.R N d x.1⟩ : Sm D)
  | 0 => none_sound 48 spec_decimal.sg
  | d + 1 => by
    have ih := spec_decimal.scc N d
    exact spec_decimal.step N d ih
noncomputable def spec_decimal.sm (N : Nat) : Sm D := (⟨spec_decimal.sg, fun (x : Int × Unit) => spec_decimal.R N N x.1⟩ : Sm D)
theorem spec_decimal.sound (N : Nat) : Sound cx Tryd.prog gam 48 (spec_decimal.sm N) := (spec_decimal.scc N N)
@[reducible] def spec_validShown.sg : Sg := { ms := [{ k := .str }], keep := [false], rs := [{ k := .bool }] }
@[reducible] def spec_validShown.lvL0 : Lv := { id := 0, slots := [0, 3], ms := [{ k := .str }, { k := (.int .i64) }] }
noncomputable def spec_validShown.A : Ann := { dp := fun d => isIn [] d, lp := look [(0, spec_validShown.lvL0)], jn := look [], pins := [], nt := 23 }
noncomputable def spec_validShown.phis (N : Nat) : List (Nat × Sm D) := [(47, spec_validWord.sm N), (48, spec_decimal.sm N)]
noncomputable def spec_validShown.a0 (N : Nat) (n : Nat) (y : (List UInt8) × Int × Unit) : Option (Bool × Unit) := loopAt cx (look (spec_validShown.phis N)) spec_validShown.A N n (encL cx spec_validShown.lvL0.ms y).1 (encL cx spec_validShown.lvL0.ms y).2 (bodyOf Tryd.f39) 0 (Kfin cx spec_validShown.A spec_validShown.sg Tryd.f39.results.toList) [1, 1, 0, 1, 1] []
theorem spec_validShown.r0 (N : Nat) : ∀ (n : Nat) (y : (List UInt8) × Int × Unit), spec_validShown.a0 N n y = spec_validShown.L0 N n y
  | 0, y => by kernel_rfl
  | n + 1, y => by
    have h : spec_validShown.a0 N (n + 1) y = spec_validShown.B0 N (fun z => spec_validShown.a0 N n z) y := by kernel_rfl
    have e : (fun z => spec_validShown.a0 N n z) = spec_validShown.L0 N n := funext fun z => spec_validShown.r0 N n z
    rw [h]
    try rw [e]
    first | done | rfl
theorem spec_validShown.run (N : Nat) (x : (List UInt8) × Unit) : runF cx (look (spec_validShown.phis N)) spec_validShown.A N (bodyOf Tryd.f39) Tryd.f39.results.toList spec_validShown.sg x = spec_validShown N x.1 := by
  have h : runF cx (look (spec_validShown.phis N)) spec_validShown.A N (bodyOf Tryd.f39) Tryd.f39.results.toList spec_validShown.sg x = spec_validShown.B N (fun z => spec_validShown.a0 N N z) x.1 := by kernel_rfl
  have e0 : (fun z => spec_validShown.a0 N N z) = spec_validShown.L0 N N := funext fun z => spec_validShown.r0 N N z
  rw [h, e0]
  try rfl
noncomputable def spec_validShown.sm (N : Nat) : Sm D := (⟨spec_validShown.sg, fun (x : (List UInt8) × Unit) => spec_validShown N x.1⟩ : Sm D)
theorem spec_validShown.sound (N : Nat) : Sound cx Tryd.prog gam 39 (spec_validShown.sm N) := fn_sound (A := spec_validShown.A) (Φ := (look (spec_validShown.phis N))) pok (G := gam) (ΦOk.cons (spec_validWord.sound N) (fnOk_of (f := 47) (by kernel_rfl)) (ΦOk.cons (spec_decimal.sound N) (fnOk_of (f := 48) (by kernel_rfl)) ΦOk.nil)) mixed N Tryd.func39 (c := (bodyOf Tryd.f39)) (by kernel_rfl) spec_validShown.sg (by kernel_rfl) (by kernel_rfl) (by kernel_rfl) (spec_validShown.run N)

@[reducible] def spec_validPropList.sg : Sg := { ms := [{ k := (.sl (.st 62)), fl := [none] }], keep := [false], rs := [{ k := .bool }] }
@[reducible] def spec_validPropList.lvL0 : Lv := { id := 0, slots := [0, 3], ms := [{ k := (.sl (.st 62)), fl := [none] }, { k := (.int .i64) }] }
noncomputable def spec_validPropList.A : Ann := { dp := fun d => isIn [] d, lp := look [(0, spec_validPropList.lvL0)], jn := look [], pins := [], nt := 44 }
noncomputable def spec_validPropList.phis (N : Nat) : List (Nat × Sm D) := [(29, spec_inRange.sm N), (43, spec_validValue.sm N)]
noncomputable def spec_validPropList.a0 (N : Nat) (n : Nat) (y : (List (ImplProp)) × Int × Unit) : Option (Bool × Unit) := loopAt cx (look (spec_validPropList.phis N)) spec_validPropList.A N n (encL cx spec_validPropList.lvL0.ms y).1 (encL cx spec_validPropList.lvL0.ms y).2 (bodyOf Tryd.f40) 0 (Kfin cx spec_validPropList.A spec_validPropList.sg Tryd.f40.results.toList) [1, 0, 1, 1] []
theorem spec_validPropList.r0 (N : Nat) : ∀ (n : Nat) (y : (List (ImplProp)) × Int × Unit), spec_validPropList.a0 N n y = spec_validPropList.L0 N n y
  | 0, y => by kernel_rfl
  | n + 1, y => by
    have h : spec_validPropList.a0 N (n + 1) y = spec_validPropList.B0 N (fun z => spec_validPropList.a0 N n z) y := by kernel_rfl
    have e : (fun z => spec_validPropList.a0 N n z) = spec_validPropList.L0 N n := funext fun z => spec_validPropList.r0 N n z
    rw [h]
    try rw [e]
    first | done | rfl
theorem spec_validPropList.run (N : Nat) (x : (List (ImplProp)) × Unit) : runF cx (look (spec_validPropList.phis N)) spec_validPropList.A N (bodyOf Tryd.f40) Tryd.f40.results.toList spec_validPropList.sg x = spec_validPropList N x.1 := by
  have h : runF cx (look (spec_validPropList.phis N)) spec_validPropList.A N (bodyOf Tryd.f40) Tryd.f40.results.toList spec_validPropList.sg x = spec_validPropList.B N (fun z => spec_validPropList.a0 N N z) x.1 := by kernel_rfl
  have e0 : (fun z => spec_validPropList.a0 N N z) = spec_validPropList.L0 N N := funext fun z => spec_validPropList.r0 N N z
  rw [h, e0]
  try rfl
noncomputable def spec_validPropList.sm (N : Nat) : Sm D := (⟨spec_validPropList.sg, fun (x : (List (ImplProp)) × Unit) => spec_validPropList N x.1⟩ : Sm D)
theorem spec_validPropList.sound (N : Nat) : Sound cx Tryd.prog gam 40 (spec_validPropList.sm N) := fn_sound (A := spec_validPropList.A) (Φ := (look (spec_validPropList.phis N))) pok (G := gam) (ΦOk.cons (spec_inRange.sound N) (fnOk_of (f := 29) (by kernel_rfl)) (ΦOk.cons (spec_validValue.sound N) (fnOk_of (f := 43) (by kernel_rfl)) ΦOk.nil)) mixed N Tryd.func40 (c := (bodyOf Tryd.f40)) (by kernel_rfl) spec_validPropList.sg (by kernel_rfl) (by kernel_rfl) (by kernel_rfl) (spec_validPropList.run N)

@[reducible] def spec_keysApart.sg : Sg := { ms := [{ k := (.sl (.st 25)), fl := [none] }], keep := [false], rs := [{ k := .bool }] }
@[reducible] def spec_keysApart.lvL2 : Lv := { id := 2, slots := [0, 3, 4], ms := [{ k := (.sl (.st 25)), fl := [none] }, { k := (.int .i64) }, { k := (.int .i64) }] }
@[reducible] def spec_keysApart.lvL0 : Lv := { id := 0, slots := [0, 3], ms := [{ k := (.sl (.st 25)), fl := [none] }, { k := (.int .i64) }] }
noncomputable def spec_keysApart.A : Ann := { dp := fun d => isIn [] d, lp := look [(2, spec_keysApart.lvL2), (0, spec_keysApart.lvL0)], jn := look [], pins := [], nt := 35 }
noncomputable def spec_keysApart.phis (N : Nat) : List (Nat × Sm D) := []
noncomputable def spec_keysApart.a2 (N : Nat) (m0 : Nat) (n : Nat) (y : (List (ImplTree)) × Int × Int × Unit) : Option (Bool × Unit) := loopAt cx (look (spec_keysApart.phis N)) spec_keysApart.A N n (encL cx spec_keysApart.lvL2.ms y).1 (encL cx spec_keysApart.lvL2.ms y).2 (bodyOf Tryd.f41) 0 (Kfin cx spec_keysApart.A spec_keysApart.sg Tryd.f41.results.toList) [1, 0, 1, 1, 1, 1, 0, 1, 1, 1] [m0]
noncomputable def spec_keysApart.a0 (N : Nat) (n : Nat) (y : (List (ImplTree)) × Int × Unit) : Option (Bool × Unit) := loopAt cx (look (spec_keysApart.phis N)) spec_keysApart.A N n (encL cx spec_keysApart.lvL0.ms y).1 (encL cx spec_keysApart.lvL0.ms y).2 (bodyOf Tryd.f41) 0 (Kfin cx spec_keysApart.A spec_keysApart.sg Tryd.f41.results.toList) [1, 0, 1, 1] []
theorem spec_keysApart.r2 (N : Nat) (m0 : Nat) : ∀ (n : Nat) (y : (List (ImplTree)) × Int × Int × Unit), spec_keysApart.a2 N m0 n y = spec_keysApart.L2 N (fun z => spec_keysApart.a0 N m0 z) n y
  | 0, y => by kernel_rfl
  | n + 1, y => by
    have h : spec_keysApart.a2 N m0 (n + 1) y = spec_keysApart.B2 N (fun z => spec_keysApart.a0 N m0 z) (fun z => spec_keysApart.a2 N m0 n z) y := by kernel_rfl
    have e : (fun z => spec_keysApart.a2 N m0 n z) = spec_keysApart.L2 N (fun z => spec_keysApart.a0 N m0 z) n := funext fun z => spec_keysApart.r2 N m0 n z
    rw [h]
    try rw [e]
    first | done | rfl
theorem spec_keysApart.r0 (N : Nat) : ∀ (n : Nat) (y : (List (ImplTree)) × Int × Unit), spec_keysApart.a0 N n y = spec_keysApart.L0 N n y
  | 0, y => by kernel_rfl
  | n + 1, y => by
    have h : spec_keysApart.a0 N (n + 1) y = spec_keysApart.B0 N (fun z => spec_keysApart.a2 N n N z) y := by kernel_rfl
    have e : (fun z => spec_keysApart.a0 N n z) = spec_keysApart.L0 N n := funext fun z => spec_keysApart.r0 N n z
    have e2 : (fun z => spec_keysApart.a2 N n N z) = spec_keysApart.L2 N (fun z => spec_keysApart.a0 N n z) N := funext fun z => spec_keysApart.r2 N n N z
    rw [h, e2]
    try rw [e]
    first | done | rfl
theorem spec_keysApart.run (N : Nat) (x : (List (ImplTree)) × Unit) : runF cx (look (spec_keysApart.phis N)) spec_keysApart.A N (bodyOf Tryd.f41) Tryd.f41.results.toList spec_keysApart.sg x = spec_keysApart N x.1 := by
  have h : runF cx (look (spec_keysApart.phis N)) spec_keysApart.A N (bodyOf Tryd.f41) Tryd.f41.results.toList spec_keysApart.sg x = spec_keysApart.B N (fun z => spec_keysApart.a0 N N z) x.1 := by kernel_rfl
  have e0 : (fun z => spec_keysApart.a0 N N z) = spec_keysApart.L0 N N := funext fun z => spec_keysApart.r0 N N z
  rw [h, e0]
  try rfl
noncomputable def spec_keysApart.sm (N : Nat) : Sm D := (⟨spec_keysApart.sg, fun (x : (List (ImplTree)) × Unit) => spec_keysApart N x.1⟩ : Sm D)
theorem spec_keysApart.sound (N : Nat) : Sound cx Tryd.prog gam 41 (spec_keysApart.sm N) := fn_sound (A := spec_keysApart.A) (Φ := (look (spec_keysApart.phis N))) pok (G := gam) ΦOk.nil mixed N Tryd.func41 (c := (bodyOf Tryd.f41)) (by kernel_rfl) spec_keysApart.sg (by kernel_rfl) (by kernel_rfl) (by kernel_rfl) (spec_keysApart.run N)

end
end Go.Ev
