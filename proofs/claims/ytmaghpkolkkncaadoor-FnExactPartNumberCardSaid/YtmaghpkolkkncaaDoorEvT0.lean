/- Each function that the law reaches does what its plain form says; no condition beyond the table of the library. -/
import Derived.Test.YtmaghpkolkkncaaDoorEvF
set_option linter.all false
set_option linter.unusedVariables false
set_option linter.unusedSimpArgs false
set_option maxRecDepth 100000
set_option maxHeartbeats 0
namespace Go.Ev
noncomputable section
open Go.Proofs
@[reducible] def spec_inRange.sg : Sg := { ms := [{ k := (.int .i64) }, { k := (.int .i64) }, { k := (.int .i64) }], keep := [false, false, false], rs := [{ k := .bool }] }
noncomputable def spec_inRange.A : Ann := { dp := fun d => isIn [] d, lp := look [], jn := look [], pins := [], nt := 15 }
noncomputable def spec_inRange.phis (N : Nat) : List (Nat × Sm D) := []
theorem spec_inRange.run (N : Nat) (x : Int × Int × Int × Unit) : runF cx (look (spec_inRange.phis N)) spec_inRange.A N (bodyOf Tryd.f63) Tryd.f63.results.toList spec_inRange.sg x = spec_inRange N x.1 x.2.1 x.2.2.1 := by
  have h : runF cx (look (spec_inRange.phis N)) spec_inRange.A N (bodyOf Tryd.f63) Tryd.f63.results.toList spec_inRange.sg x = spec_inRange.B N x.1 x.2.1 x.2.2.1 := by kernel_rfl
  rw [h]
  try rfl
noncomputable def spec_inRange.sm (N : Nat) : Sm D := (⟨spec_inRange.sg, fun (x : Int × Int × Int × Unit) => spec_inRange N x.1 x.2.1 x.2.2.1⟩ : Sm D)
theorem spec_inRange.sound (N : Nat) : Sound cx Tryd.prog gam 63 (spec_inRange.sm N) := fn_sound (A := spec_inRange.A) (Φ := (look (spec_inRange.phis N))) pok (G := gam) ΦOk.nil mixed N Tryd.func63 (c := (bodyOf Tryd.f63)) (by kernel_rfl) spec_inRange.sg (by kernel_rfl) (by kernel_rfl) (by kernel_rfl) (spec_inRange.run N)

@[reducible] def spec_plainByte.sg : Sg := { ms := [{ k := (.int .u8) }], keep := [false], rs := [{ k := .bool }] }
noncomputable def spec_plainByte.A : Ann := { dp := fun d => isIn [] d, lp := look [], jn := look [], pins := [], nt := 21 }
noncomputable def spec_plainByte.phis (N : Nat) : List (Nat × Sm D) := []
theorem spec_plainByte.run (N : Nat) (x : Int × Unit) : runF cx (look (spec_plainByte.phis N)) spec_plainByte.A N (bodyOf Tryd.f113) Tryd.f113.results.toList spec_plainByte.sg x = spec_plainByte N x.1 := by
  have h : runF cx (look (spec_plainByte.phis N)) spec_plainByte.A N (bodyOf Tryd.f113) Tryd.f113.results.toList spec_plainByte.sg x = spec_plainByte.B N x.1 := by kernel_rfl
  rw [h]
  try rfl
noncomputable def spec_plainByte.sm (N : Nat) : Sm D := (⟨spec_plainByte.sg, fun (x : Int × Unit) => spec_plainByte N x.1⟩ : Sm D)
theorem spec_plainByte.sound (N : Nat) : Sound cx Tryd.prog gam 113 (spec_plainByte.sm N) := fn_sound (A := spec_plainByte.A) (Φ := (look (spec_plainByte.phis N))) pok (G := gam) ΦOk.nil mixed N Tryd.func113 (c := (bodyOf Tryd.f113)) (by kernel_rfl) spec_plainByte.sg (by kernel_rfl) (by kernel_rfl) (by kernel_rfl) (spec_plainByte.run N)

@[reducible] def spec_validWord.sg : Sg := { ms := [{ k := .str }], keep := [false], rs := [{ k := .bool }] }
@[reducible] def spec_validWord.lvL0 : Lv := { id := 0, slots := [0, 3], ms := [{ k := .str }, { k := (.int .i64) }] }
noncomputable def spec_validWord.A : Ann := { dp := fun d => isIn [] d, lp := look [(0, spec_validWord.lvL0)], jn := look [], pins := [], nt := 18 }
noncomputable def spec_validWord.phis (N : Nat) : List (Nat × Sm D) := [(113, spec_plainByte.sm N)]
noncomputable def spec_validWord.a0 (N : Nat) (n : Nat) (y : (List UInt8) × Int × Unit) : Option (Bool × Unit) := loopAt cx (look (spec_validWord.phis N)) spec_validWord.A N n (encL cx spec_validWord.lvL0.ms y).1 (encL cx spec_validWord.lvL0.ms y).2 (bodyOf Tryd.f105) 0 (Kfin cx spec_validWord.A spec_validWord.sg Tryd.f105.results.toList) [1, 1, 0, 1, 1] []
theorem spec_validWord.r0 (N : Nat) : ∀ (n : Nat) (y : (List UInt8) × Int × Unit), spec_validWord.a0 N n y = spec_validWord.L0 N n y
  | 0, y => by kernel_rfl
  | n + 1, y => by
    have h : spec_validWord.a0 N (n + 1) y = spec_validWord.B0 N (fun z => spec_validWord.a0 N n z) y := by kernel_rfl
    have e : (fun z => spec_validWord.a0 N n z) = spec_validWord.L0 N n := funext fun z => spec_validWord.r0 N n z
    rw [h]
    try rw [e]
    first | done | rfl
theorem spec_validWord.run (N : Nat) (x : (List UInt8) × Unit) : runF cx (look (spec_validWord.phis N)) spec_validWord.A N (bodyOf Tryd.f105) Tryd.f105.results.toList spec_validWord.sg x = spec_validWord N x.1 := by
  have h : runF cx (look (spec_validWord.phis N)) spec_validWord.A N (bodyOf Tryd.f105) Tryd.f105.results.toList spec_validWord.sg x = spec_validWord.B N (fun z => spec_validWord.a0 N N z) x.1 := by kernel_rfl
  have e0 : (fun z => spec_validWord.a0 N N z) = spec_validWord.L0 N N := funext fun z => spec_validWord.r0 N N z
  rw [h, e0]
  try rfl
noncomputable def spec_validWord.sm (N : Nat) : Sm D := (⟨spec_validWord.sg, fun (x : (List UInt8) × Unit) => spec_validWord N x.1⟩ : Sm D)
theorem spec_validWord.sound (N : Nat) : Sound cx Tryd.prog gam 105 (spec_validWord.sm N) := fn_sound (A := spec_validWord.A) (Φ := (look (spec_validWord.phis N))) pok (G := gam) (ΦOk.cons (spec_plainByte.sound N) (fnOk_of (f := 113) (by kernel_rfl)) ΦOk.nil) mixed N Tryd.func105 (c := (bodyOf Tryd.f105)) (by kernel_rfl) spec_validWord.sg (by kernel_rfl) (by kernel_rfl) (by kernel_rfl) (spec_validWord.run N)

@[reducible] def spec_validValue.sg : Sg := { ms := [{ k := (.st 81) }], keep := [false], rs := [{ k := .bool }] }
noncomputable def spec_validValue.A : Ann := { dp := fun d => isIn [] d, lp := look [], jn := look [], pins := [], nt := 35 }
noncomputable def spec_validValue.phis (N : Nat) : List (Nat × Sm D) := [(63, spec_inRange.sm N), (105, spec_validWord.sm N)]
theorem spec_validValue.run (N : Nat) (x : ImplValue × Unit) : runF cx (look (spec_validValue.phis N)) spec_validValue.A N (bodyOf Tryd.f103) Tryd.f103.results.toList spec_validValue.sg x = spec_validValue N x.1 := by
  have h : runF cx (look (spec_validValue.phis N)) spec_validValue.A N (bodyOf Tryd.f103) Tryd.f103.results.toList spec_validValue.sg x = spec_validValue.B N x.1 := by kernel_rfl
  rw [h]
  try rfl
noncomputable def spec_validValue.sm (N : Nat) : Sm D := (⟨spec_validValue.sg, fun (x : ImplValue × Unit) => spec_validValue N x.1⟩ : Sm D)
theorem spec_validValue.sound (N : Nat) : Sound cx Tryd.prog gam 103 (spec_validValue.sm N) := fn_sound (A := spec_validValue.A) (Φ := (look (spec_validValue.phis N))) pok (G := gam) (ΦOk.cons (spec_inRange.sound N) (fnOk_of (f := 63) (by kernel_rfl)) (ΦOk.cons (spec_validWord.sound N) (fnOk_of (f := 105) (by kernel_rfl)) ΦOk.nil)) mixed N Tryd.func103 (c := (bodyOf Tryd.f103)) (by kernel_rfl) spec_validValue.sg (by kernel_rfl) (by kernel_rfl) (by kernel_rfl) (spec_validValue.run N)

@[reducible] def impl_word.sg : Sg := { ms := [{ k := .str }], keep := [false], rs := [{ k := .bool }] }
@[reducible] def impl_word.lvL0 : Lv := { id := 0, slots := [0, 3], ms := [{ k := .str }, { k := (.int .i64) }] }
noncomputable def impl_word.A : Ann := { dp := fun d => isIn [] d, lp := look [(0, impl_word.lvL0)], jn := look [], pins := [], nt := 36 }
noncomputable def impl_word.phis (N : Nat) : List (Nat × Sm D) := []
noncomputable def impl_word.a0 (N : Nat) (n : Nat) (y : (List UInt8) × Int × Unit) : Option (Bool × Unit) := loopAt cx (look (impl_word.phis N)) impl_word.A N n (encL cx impl_word.lvL0.ms y).1 (encL cx impl_word.lvL0.ms y).2 (bodyOf Tryd.f98) 0 (Kfin cx impl_word.A impl_word.sg Tryd.f98.results.toList) [1, 0, 1, 1] []
theorem impl_word.r0 (N : Nat) : ∀ (n : Nat) (y : (List UInt8) × Int × Unit), impl_word.a0 N n y = impl_word.L0 N n y
  | 0, y => by kernel_rfl
  | n + 1, y => by
    have h : impl_word.a0 N (n + 1) y = impl_word.B0 N (fun z => impl_word.a0 N n z) y := by kernel_rfl
    have e : (fun z => impl_word.a0 N n z) = impl_word.L0 N n := funext fun z => impl_word.r0 N n z
    rw [h]
    try rw [e]
    first | done | rfl
theorem impl_word.run (N : Nat) (x : (List UInt8) × Unit) : runF cx (look (impl_word.phis N)) impl_word.A N (bodyOf Tryd.f98) Tryd.f98.results.toList impl_word.sg x = impl_word N x.1 := by
  have h : runF cx (look (impl_word.phis N)) impl_word.A N (bodyOf Tryd.f98) Tryd.f98.results.toList impl_word.sg x = impl_word.B N (fun z => impl_word.a0 N N z) x.1 := by kernel_rfl
  have e0 : (fun z => impl_word.a0 N N z) = impl_word.L0 N N := funext fun z => impl_word.r0 N N z
  rw [h, e0]
  try rfl
noncomputable def impl_word.sm (N : Nat) : Sm D := (⟨impl_word.sg, fun (x : (List UInt8) × Unit) => impl_word N x.1⟩ : Sm D)
theorem impl_word.sound (N : Nat) : Sound cx Tryd.prog gam 98 (impl_word.sm N) := fn_sound (A := impl_word.A) (Φ := (look (impl_word.phis N))) pok (G := gam) ΦOk.nil mixed N Tryd.func98 (c := (bodyOf Tryd.f98)) (by kernel_rfl) impl_word.sg (by kernel_rfl) (by kernel_rfl) (by kernel_rfl) (impl_word.run N)

@[reducible] def impl_within.sg : Sg := { ms := [{ k := (.int .i64) }, { k := (.int .i64) }, { k := (.int .i64) }], keep := [false, false, false], rs := [{ k := .bool }] }
noncomputable def impl_within.A : Ann := { dp := fun d => isIn [] d, lp := look [], jn := look [], pins := [], nt := 15 }
noncomputable def impl_within.phis (N : Nat) : List (Nat × Sm D) := []
theorem impl_within.run (N : Nat) (x : Int × Int × Int × Unit) : runF cx (look (impl_within.phis N)) impl_within.A N (bodyOf Tryd.f55) Tryd.f55.results.toList impl_within.sg x = impl_within N x.1 x.2.1 x.2.2.1 := by
  have h : runF cx (look (impl_within.phis N)) impl_within.A N (bodyOf Tryd.f55) Tryd.f55.results.toList impl_within.sg x = impl_within.B N x.1 x.2.1 x.2.2.1 := by kernel_rfl
  rw [h]
  try rfl
noncomputable def impl_within.sm (N : Nat) : Sm D := (⟨impl_within.sg, fun (x : Int × Int × Int × Unit) => impl_within N x.1 x.2.1 x.2.2.1⟩ : Sm D)
theorem impl_within.sound (N : Nat) : Sound cx Tryd.prog gam 55 (impl_within.sm N) := fn_sound (A := impl_within.A) (Φ := (look (impl_within.phis N))) pok (G := gam) ΦOk.nil mixed N Tryd.func55 (c := (bodyOf Tryd.f55)) (by kernel_rfl) impl_within.sg (by kernel_rfl) (by kernel_rfl) (by kernel_rfl) (impl_within.run N)

@[reducible] def impl_shown.sg : Sg := { ms := [{ k := .str }], keep := [false], rs := [{ k := .bool }] }
noncomputable def impl_shown.A : Ann := { dp := fun d => isIn [] d, lp := look [], jn := look [], pins := [], nt := 24 }
noncomputable def impl_shown.phis (N : Nat) : List (Nat × Sm D) := [(98, impl_word.sm N), (99, LibAtoi.sm N), (55, impl_within.sm N), (72, LibItoa.sm N)]
theorem impl_shown.run (N : Nat) (x : (List UInt8) × Unit) : runF cx (look (impl_shown.phis N)) impl_shown.A N (bodyOf Tryd.f79) Tryd.f79.results.toList impl_shown.sg x = impl_shown N x.1 := by
  have h : runF cx (look (impl_shown.phis N)) impl_shown.A N (bodyOf Tryd.f79) Tryd.f79.results.toList impl_shown.sg x = impl_shown.B N x.1 := by kernel_rfl
  rw [h]
  try rfl
noncomputable def impl_shown.sm (N : Nat) : Sm D := (⟨impl_shown.sg, fun (x : (List UInt8) × Unit) => impl_shown N x.1⟩ : Sm D)
theorem impl_shown.sound (N : Nat) : Sound cx Tryd.prog gam 79 (impl_shown.sm N) := fn_sound (A := impl_shown.A) (Φ := (look (impl_shown.phis N))) pok (G := gam) (ΦOk.cons (impl_word.sound N) (fnOk_of (f := 98) (by kernel_rfl)) (ΦOk.cons (LibAtoi.sound N) (fnOk_of (f := 99) (by kernel_rfl)) (ΦOk.cons (impl_within.sound N) (fnOk_of (f := 55) (by kernel_rfl)) (ΦOk.cons (LibItoa.sound N) (fnOk_of (f := 72) (by kernel_rfl)) ΦOk.nil)))) mixed N Tryd.func79 (c := (bodyOf Tryd.f79)) (by kernel_rfl) impl_shown.sg (by kernel_rfl) (by kernel_rfl) (by kernel_rfl) (impl_shown.run N)

@[reducible] def impl_ValOk.sg : Sg := { ms := [{ k := (.st 81) }], keep := [false], rs := [{ k := .bool }] }
noncomputable def impl_ValOk.A : Ann := { dp := fun d => isIn [] d, lp := look [], jn := look [], pins := [], nt := 35 }
noncomputable def impl_ValOk.phis (N : Nat) : List (Nat × Sm D) := [(55, impl_within.sm N), (98, impl_word.sm N)]
theorem impl_ValOk.run (N : Nat) (x : ImplValue × Unit) : runF cx (look (impl_ValOk.phis N)) impl_ValOk.A N (bodyOf Tryd.f80) Tryd.f80.results.toList impl_ValOk.sg x = impl_ValOk N x.1 := by
  have h : runF cx (look (impl_ValOk.phis N)) impl_ValOk.A N (bodyOf Tryd.f80) Tryd.f80.results.toList impl_ValOk.sg x = impl_ValOk.B N x.1 := by kernel_rfl
  rw [h]
  try rfl
noncomputable def impl_ValOk.sm (N : Nat) : Sm D := (⟨impl_ValOk.sg, fun (x : ImplValue × Unit) => impl_ValOk N x.1⟩ : Sm D)
theorem impl_ValOk.sound (N : Nat) : Sound cx Tryd.prog gam 80 (impl_ValOk.sm N) := fn_sound (A := impl_ValOk.A) (Φ := (look (impl_ValOk.phis N))) pok (G := gam) (ΦOk.cons (impl_within.sound N) (fnOk_of (f := 55) (by kernel_rfl)) (ΦOk.cons (impl_word.sound N) (fnOk_of (f := 98) (by kernel_rfl)) ΦOk.nil)) mixed N Tryd.func80 (c := (bodyOf Tryd.f80)) (by kernel_rfl) impl_ValOk.sg (by kernel_rfl) (by kernel_rfl) (by kernel_rfl) (impl_ValOk.run N)

@[reducible] def impl_treeFits.sg : Sg := { ms := [{ k := (.st 25) }, { k := (.int .i64) }, { ptr := true, id := 50, t := 3, k := (.int .i64) }], keep := [false, false, true], rs := [{ k := .bool }] }
@[reducible] def impl_treeFits.lvL2 : Lv := { id := 2, slots := [1, 2, 9, 100, 101, 102], ms := [{ k := (.int .i64) }, { ptr := true, id := 50, t := 3, k := (.int .i64), fl := [none] }, { ptr := true, id := 640, t := 777777, k := (.sl (.int .i64)), fl := [none] }, { k := (.sl (.st 25)), fl := [none] }, { k := (.int .i64) }, { k := (.int .i64) }] }
@[reducible] def impl_treeFits.lvL0 : Lv := { id := 0, slots := [1, 2, 3, 64, 65, 66], ms := [{ k := (.int .i64) }, { ptr := true, id := 50, t := 3, k := (.int .i64), fl := [none] }, { ptr := true, id := 640, t := 26, k := (.st 25), fl := [none, none, none, none, none] }, { k := (.sl (.st 83)), fl := [none] }, { k := (.int .i64) }, { k := (.int .i64) }] }
noncomputable def impl_treeFits.A : Ann := { dp := fun d => isIn [] d, lp := look [(2, impl_treeFits.lvL2), (0, impl_treeFits.lvL0)], jn := look [], pins := [50], nt := 125 }
noncomputable def impl_treeFits.phis (N : Nat) (d : Nat) : List (Nat × Sm D) := [(79, impl_shown.sm N), (55, impl_within.sm N), (80, impl_ValOk.sm N), (49, (⟨impl_treeFits.sg, fun (x : ImplTree × Int × Int × Unit) => impl_treeFits.R N d x.1 x.2.1 x.2.2.1⟩ : Sm D))]
noncomputable def impl_treeFits.a2 (N : Nat) (d : Nat) (n : Nat) (y : Int × Int × (List (Int)) × (List (ImplTree)) × Int × Int × Unit) : Option (Int × Bool × Unit) := loopAt cx (look (impl_treeFits.phis N d)) impl_treeFits.A N n (encL cx impl_treeFits.lvL2.ms y).1 (encL cx impl_treeFits.lvL2.ms y).2 (bodyOf Tryd.f49) 0 (Kfin cx impl_treeFits.A impl_treeFits.sg Tryd.f49.results.toList) [1, 1, 1, 1, 1, 1, 1, 0, 1, 1] []
noncomputable def impl_treeFits.a0 (N : Nat) (d : Nat) (n : Nat) (y : Int × Int × ImplTree × (List (ImplProp)) × Int × Int × Unit) : Option (Int × Bool × Unit) := loopAt cx (look (impl_treeFits.phis N d)) impl_treeFits.A N n (encL cx impl_treeFits.lvL0.ms y).1 (encL cx impl_treeFits.lvL0.ms y).2 (bodyOf Tryd.f49) 0 (Kfin cx impl_treeFits.A impl_treeFits.sg Tryd.f49.results.toList) [1, 1, 1, 1, 1, 0, 1, 1] []
theorem impl_treeFits.r2 (N : Nat) (d : Nat) : ∀ (n : Nat) (y : Int × Int × (List (Int)) × (List (ImplTree)) × Int × Int × Unit), impl_treeFits.a2 N d n y = impl_treeFits.L2 N (impl_treeFits.R N d) n y
  | 0, y => by kernel_rfl
  | n + 1, y => by
    have h : impl_treeFits.a2 N d (n + 1) y = impl_treeFits.B2 N (impl_treeFits.R N d) (fun z => impl_treeFits.a2 N d n z) y := by kernel_rfl
    have e : (fun z => impl_treeFits.a2 N d n z) = impl_treeFits.L2 N (impl_treeFits.R N d) n := funext fun z => impl_treeFits.r2 N d n z
    rw [h]
    try rw [e]
    first | done | rfl
theorem impl_treeFits.r0 (N : Nat) (d : Nat) : ∀ (n : Nat) (y : Int × Int × ImplTree × (List (ImplProp)) × Int × Int × Unit), impl_treeFits.a0 N d n y = impl_treeFits.L0 N (impl_treeFits.R N d) n y
  | 0, y => by kernel_rfl
  | n + 1, y => by
    have h : impl_treeFits.a0 N d (n + 1) y = impl_treeFits.B0 N (impl_treeFits.R N d) (fun z => impl_treeFits.a0 N d n z) (fun z => impl_treeFits.a2 N d N z) y := by kernel_rfl
    have e : (fun z => impl_treeFits.a0 N d n z) = impl_treeFits.L0 N (impl_treeFits.R N d) n := funext fun z => impl_treeFits.r0 N d n z
    have e2 : (fun z => impl_treeFits.a2 N d N z) = impl_treeFits.L2 N (impl_treeFits.R N d) N := funext fun z => impl_treeFits.r2 N d N z
    rw [h, e2]
    try rw [e]
    first | done | rfl
theorem impl_treeFits.run (N : Nat) (d : Nat) (x : ImplTree × Int × Int × Unit) : runF cx (look (impl_treeFits.phis N d)) impl_treeFits.A N (bodyOf Tryd.f49) Tryd.f49.results.toList impl_treeFits.sg x = impl_treeFits.R N (d + 1) x.1 x.2.1 x.2.2.1 := by
  have h : runF cx (look (impl_treeFits.phis N d)) impl_treeFits.A N (bodyOf Tryd.f49) Tryd.f49.results.toList impl_treeFits.sg x = impl_treeFits.B N (impl_treeFits.R N d) (fun z => impl_treeFits.a0 N d N z) x.1 x.2.1 x.2.2.1 := by kernel_rfl
  have e0 : (fun z => impl_treeFits.a0 N d N z) = impl_treeFits.L0 N (impl_treeFits.R N d) N := funext fun z => impl_treeFits.r0 N d N z
  rw [h, e0]
  try rfl
theorem impl_treeFits.step (N : Nat) (d : Nat) (h_impl_treeFits : Sound cx Tryd.prog gam 49 (⟨impl_treeFits.sg, fun (x : ImplTree × Int × Int × Unit) => impl_treeFits.R N d x.1 x.2.1 x.2.2.1⟩ : Sm D)) : Sound cx Tryd.prog gam 49 (⟨impl_treeFits.sg, fun (x : ImplTree × Int × Int × Unit) => impl_treeFits.R N (d + 1) x.1 x.2.1 x.2.2.1⟩ : Sm D) := fn_sound (A := impl_treeFits.A) (Φ := (look (impl_treeFits.phis N d))) pok (G := gam) (ΦOk.cons (impl_shown.sound N) (fnOk_of (f := 79) (by kernel_rfl)) (ΦOk.cons (impl_within.sound N) (fnOk_of (f := 55) (by kernel_rfl)) (ΦOk.cons (impl_ValOk.sound N) (fnOk_of (f := 80) (by kernel_rfl)) (ΦOk.cons h_impl_treeFits (fnOk_of (f := 49) (by kernel_rfl)) ΦOk.nil)))) mixed N Tryd.func49 (c := (bodyOf Tryd.f49)) (by kernel_rfl) impl_treeFits.sg (by kernel_rfl) (by kernel_rfl) (by kernel_rfl) (impl_treeFits.run N d)

theorem impl_treeFits.scc (N : Nat) : ∀ d, Sound cx Tryd.prog gam 49 (⟨impl_treeFits.sg, fun (x : ImplTree × Int × Int × Unit) => impl_treeFits.R N d x.1 x.2.1 x.2.2.1⟩ : Sm D)
  | 0 => none_sound 49 impl_treeFits.sg
  | d + 1 => by
    have ih := impl_treeFits.scc N d
    exact impl_treeFits.step N d ih
noncomputable def impl_treeFits.sm (N : Nat) : Sm D := (⟨impl_treeFits.sg, fun (x : ImplTree × Int × Int × Unit) => impl_treeFits.R N N x.1 x.2.1 x.2.2.1⟩ : Sm D)
theorem impl_treeFits.sound (N : Nat) : Sound cx Tryd.prog gam 49 (impl_treeFits.sm N) := (impl_treeFits.scc N N)
@[reducible] def impl_TreeOk.sg : Sg := { ms := [{ k := (.st 25) }], keep := [false], rs := [{ k := .bool }] }
noncomputable def impl_TreeOk.A : Ann := { dp := fun d => isIn [] d, lp := look [], jn := look [], pins := [], nt := 6 }
noncomputable def impl_TreeOk.phis (N : Nat) : List (Nat × Sm D) := [(49, impl_treeFits.sm N)]
theorem impl_TreeOk.run (N : Nat) (x : ImplTree × Unit) : runF cx (look (impl_TreeOk.phis N)) impl_TreeOk.A N (bodyOf Tryd.f19) Tryd.f19.results.toList impl_TreeOk.sg x = impl_TreeOk N x.1 := by
  have h : runF cx (look (impl_TreeOk.phis N)) impl_TreeOk.A N (bodyOf Tryd.f19) Tryd.f19.results.toList impl_TreeOk.sg x = impl_TreeOk.B N x.1 := by kernel_rfl
  rw [h]
  try rfl
noncomputable def impl_TreeOk.sm (N : Nat) : Sm D := (⟨impl_TreeOk.sg, fun (x : ImplTree × Unit) => impl_TreeOk N x.1⟩ : Sm D)
theorem impl_TreeOk.sound (N : Nat) : Sound cx Tryd.prog gam 19 (impl_TreeOk.sm N) := fn_sound (A := impl_TreeOk.A) (Φ := (look (impl_TreeOk.phis N))) pok (G := gam) (ΦOk.cons (impl_treeFits.sound N) (fnOk_of (f := 49) (by kernel_rfl)) ΦOk.nil) mixed N Tryd.func19 (c := (bodyOf Tryd.f19)) (by kernel_rfl) impl_TreeOk.sg (by kernel_rfl) (by kernel_rfl) (by kernel_rfl) (impl_TreeOk.run N)

@[reducible] def spec_treeSize.sg : Sg := { ms := [{ k := (.st 25) }, { k := (.int .i64) }], keep := [false, false], rs := [{ k := (.int .i64) }] }
@[reducible] def spec_treeSize.lvL0 : Lv := { id := 0, slots := [1, 2, 5, 6], ms := [{ k := (.int .i64) }, { ptr := true, id := 620, t := 26, k := (.st 25), fl := [none, none, none, none, none] }, { k := (.int .i64) }, { k := (.int .i64) }] }
noncomputable def spec_treeSize.A : Ann := { dp := fun d => isIn [] d, lp := look [(0, spec_treeSize.lvL0)], jn := look [], pins := [], nt := 32 }
noncomputable def spec_treeSize.phis (N : Nat) (d : Nat) : List (Nat × Sm D) := [(52, (⟨spec_treeSize.sg, fun (x : ImplTree × Int × Unit) => spec_treeSize.R N d x.1 x.2.1⟩ : Sm D))]
noncomputable def spec_treeSize.a0 (N : Nat) (d : Nat) (n : Nat) (y : Int × ImplTree × Int × Int × Unit) : Option (Int × Unit) := loopAt cx (look (spec_treeSize.phis N d)) spec_treeSize.A N n (encL cx spec_treeSize.lvL0.ms y).1 (encL cx spec_treeSize.lvL0.ms y).2 (bodyOf Tryd.f52) 0 (Kfin cx spec_treeSize.A spec_treeSize.sg Tryd.f52.results.toList) [1, 1, 1, 0, 1, 1] []
theorem spec_treeSize.r0 (N : Nat) (d : Nat) : ∀ (n : Nat) (y : Int × ImplTree × Int × Int × Unit), spec_treeSize.a0 N d n y = spec_treeSize.L0 N (spec_treeSize.R N d) n y
  | 0, y => by kernel_rfl
  | n + 1, y => by
    have h : spec_treeSize.a0 N d (n + 1) y = spec_treeSize.B0 N (spec_treeSize.R N d) (fun z => spec_treeSize.a0 N d n z) y := by kernel_rfl
    have e : (fun z => spec_treeSize.a0 N d n z) = spec_treeSize.L0 N (spec_treeSize.R N d) n := funext fun z => spec_treeSize.r0 N d n z
    rw [h]
    try rw [e]
    first | done | rfl
theorem spec_treeSize.run (N : Nat) (d : Nat) (x : ImplTree × Int × Unit) : runF cx (look (spec_treeSize.phis N d)) spec_treeSize.A N (bodyOf Tryd.f52) Tryd.f52.results.toList spec_treeSize.sg x = spec_treeSize.R N (d + 1) x.1 x.2.1 := by
  have h : runF cx (look (spec_treeSize.phis N d)) spec_treeSize.A N (bodyOf Tryd.f52) Tryd.f52.results.toList spec_treeSize.sg x = spec_treeSize.B N (spec_treeSize.R N d) (fun z => spec_treeSize.a0 N d N z) x.1 x.2.1 := by kernel_rfl
  have e0 : (fun z => spec_treeSize.a0 N d N z) = spec_treeSize.L0 N (spec_treeSize.R N d) N := funext fun z => spec_treeSize.r0 N d N z
  rw [h, e0]
  try rfl
theorem spec_treeSize.step (N : Nat) (d : Nat) (h_spec_treeSize : Sound cx Tryd.prog gam 52 (⟨spec_treeSize.sg, fun (x : ImplTree × Int × Unit) => spec_treeSize.R N d x.1 x.2.1⟩ : Sm D)) : Sound cx Tryd.prog gam 52 (⟨spec_treeSize.sg, fun (x : ImplTree × Int × Unit) => spec_treeSize.R N (d + 1) x.1 x.2.1⟩ : Sm D) := fn_sound (A := spec_treeSize.A) (Φ := (look (spec_treeSize.phis N d))) pok (G := gam) (ΦOk.cons h_spec_treeSize (fnOk_of (f := 52) (by kernel_rfl)) ΦOk.nil) mixed N Tryd.func52 (c := (bodyOf Tryd.f52)) (by kernel_rfl) spec_treeSize.sg (by kernel_rfl) (by kernel_rfl) (by kernel_rfl) (spec_treeSize.run N d)

theorem spec_treeSize.scc (N : Nat) : ∀ d, Sound cx Tryd.prog gam 52 (⟨spec_treeSize.sg, fun (x : ImplTree × Int × Unit) => spec_treeSize.R N d x.1 x.2.1⟩ : Sm D)
  | 0 => none_sound 52 spec_treeSize.sg
  | d + 1 => by
    have ih := spec_treeSize.scc N d
    exact spec_treeSize.step N d ih
noncomputable def spec_treeSize.sm (N : Nat) : Sm D := (⟨spec_treeSize.sg, fun (x : ImplTree × Int × Unit) => spec_treeSize.R N N x.1 x.2.1⟩ : Sm D)
theorem spec_treeSize.sound (N : Nat) : Sound cx Tryd.prog gam 52 (spec_treeSize.sm N) := (spec_treeSize.scc N N)
@[reducible] def spec_decimal.sg : Sg := { ms := [{ k := (.int .i64) }], keep := [false], rs := [{ k := .str }] }
noncomputable def spec_decimal.A : Ann := { dp := fun d => isIn [] d, lp := look [], jn := look [], pins := [], nt := 22 }
noncomputable def spec_decimal.phis (N : Nat) (d : Nat) : List (Nat × Sm D) := [(75, (⟨spec_decimal.sg, fun (x : Int × Unit) => spec_decimal.R N d x.1⟩ : Sm D))]
theorem spec_decimal.run (N : Nat) (d : Nat) (x : Int × Unit) : runF cx (look (spec_decimal.phis N d)) spec_decimal.A N (bodyOf Tryd.f75) Tryd.f75.results.toList spec_decimal.sg x = spec_decimal.R N (d + 1) x.1 := by
  have h : runF cx (look (spec_decimal.phis N d)) spec_decimal.A N (bodyOf Tryd.f75) Tryd.f75.results.toList spec_decimal.sg x = spec_decimal.B N (spec_decimal.R N d) x.1 := by kernel_rfl
  rw [h]
  try rfl
theorem spec_decimal.step (N : Nat) (d : Nat) (h_spec_decimal : Sound cx Tryd.prog gam 75 (⟨spec_decimal.sg, fun (x : Int × Unit) => spec_decimal.R N d x.1⟩ : Sm D)) : Sound cx Tryd.prog gam 75 (⟨spec_decimal.sg, fun (x : Int × Unit) => spec_decimal.R N (d + 1) x.1⟩ : Sm D) := fn_sound (A := spec_decimal.A) (Φ := (look (spec_decimal.phis N d))) pok (G := gam) (ΦOk.cons h_spec_decimal (fnOk_of (f := 75) (by kernel_rfl)) ΦOk.nil) mixed N Tryd.func75 (c := (bodyOf Tryd.f75)) (by kernel_rfl) spec_decimal.sg (by kernel_rfl) (by kernel_rfl) (by kernel_rfl) (spec_decimal.run N d)

theorem spec_decimal.scc (N : Nat) : ∀ d, Sound cx Tryd.prog gam 75 (⟨spec_decimal.sg, fun (x : Int × Unit) => spec_decimal.R N d x.1⟩ : Sm D)
  | 0 => none_sound 75 spec_decimal.sg
  | d + 1 => by
    have ih := spec_decimal.scc N d
    exact spec_decimal.step N d ih
noncomputable def spec_decimal.sm (N : Nat) : Sm D := (⟨spec_decimal.sg, fun (x : Int × Unit) => spec_decimal.R N N x.1⟩ : Sm D)
theorem spec_decimal.sound (N : Nat) : Sound cx Tryd.prog gam 75 (spec_decimal.sm N) := (spec_decimal.scc N N)
@[reducible] def spec_validShown.sg : Sg := { ms := [{ k := .str }], keep := [false], rs := [{ k := .bool }] }
@[reducible] def spec_validShown.lvL0 : Lv := { id := 0, slots := [0, 3], ms := [{ k := .str }, { k := (.int .i64) }] }
noncomputable def spec_validShown.A : Ann := { dp := fun d => isIn [] d, lp := look [(0, spec_validShown.lvL0)], jn := look [], pins := [], nt := 23 }
noncomputable def spec_validShown.phis (N : Nat) : List (Nat × Sm D) := [(105, spec_validWord.sm N), (75, spec_decimal.sm N)]
noncomputable def spec_validShown.a0 (N : Nat) (n : Nat) (y : (List UInt8) × Int × Unit) : Option (Bool × Unit) := loopAt cx (look (spec_validShown.phis N)) spec_validShown.A N n (encL cx spec_validShown.lvL0.ms y).1 (encL cx spec_validShown.lvL0.ms y).2 (bodyOf Tryd.f93) 0 (Kfin cx spec_validShown.A spec_validShown.sg Tryd.f93.results.toList) [1, 1, 0, 1, 1] []
theorem spec_validShown.r0 (N : Nat) : ∀ (n : Nat) (y : (List UInt8) × Int × Unit), spec_validShown.a0 N n y = spec_validShown.L0 N n y
  | 0, y => by kernel_rfl
  | n + 1, y => by
    have h : spec_validShown.a0 N (n + 1) y = spec_validShown.B0 N (fun z => spec_validShown.a0 N n z) y := by kernel_rfl
    have e : (fun z => spec_validShown.a0 N n z) = spec_validShown.L0 N n := funext fun z => spec_validShown.r0 N n z
    rw [h]
    try rw [e]
    first | done | rfl
theorem spec_validShown.run (N : Nat) (x : (List UInt8) × Unit) : runF cx (look (spec_validShown.phis N)) spec_validShown.A N (bodyOf Tryd.f93) Tryd.f93.results.toList spec_validShown.sg x = spec_validShown N x.1 := by
  have h : runF cx (look (spec_validShown.phis N)) spec_validShown.A N (bodyOf Tryd.f93) Tryd.f93.results.toList spec_validShown.sg x = spec_validShown.B N (fun z => spec_validShown.a0 N N z) x.1 := by kernel_rfl
  have e0 : (fun z => spec_validShown.a0 N N z) = spec_validShown.L0 N N := funext fun z => spec_validShown.r0 N N z
  rw [h, e0]
  try rfl
noncomputable def spec_validShown.sm (N : Nat) : Sm D := (⟨spec_validShown.sg, fun (x : (List UInt8) × Unit) => spec_validShown N x.1⟩ : Sm D)
theorem spec_validShown.sound (N : Nat) : Sound cx Tryd.prog gam 93 (spec_validShown.sm N) := fn_sound (A := spec_validShown.A) (Φ := (look (spec_validShown.phis N))) pok (G := gam) (ΦOk.cons (spec_validWord.sound N) (fnOk_of (f := 105) (by kernel_rfl)) (ΦOk.cons (spec_decimal.sound N) (fnOk_of (f := 75) (by kernel_rfl)) ΦOk.nil)) mixed N Tryd.func93 (c := (bodyOf Tryd.f93)) (by kernel_rfl) spec_validShown.sg (by kernel_rfl) (by kernel_rfl) (by kernel_rfl) (spec_validShown.run N)

@[reducible] def spec_validPropList.sg : Sg := { ms := [{ k := (.sl (.st 83)), fl := [none] }], keep := [false], rs := [{ k := .bool }] }
@[reducible] def spec_validPropList.lvL0 : Lv := { id := 0, slots := [0, 3], ms := [{ k := (.sl (.st 83)), fl := [none] }, { k := (.int .i64) }] }
noncomputable def spec_validPropList.A : Ann := { dp := fun d => isIn [] d, lp := look [(0, spec_validPropList.lvL0)], jn := look [], pins := [], nt := 44 }
noncomputable def spec_validPropList.phis (N : Nat) : List (Nat × Sm D) := [(63, spec_inRange.sm N), (103, spec_validValue.sm N)]
noncomputable def spec_validPropList.a0 (N : Nat) (n : Nat) (y : (List (ImplProp)) × Int × Unit) : Option (Bool × Unit) := loopAt cx (look (spec_validPropList.phis N)) spec_validPropList.A N n (encL cx spec_validPropList.lvL0.ms y).1 (encL cx spec_validPropList.lvL0.ms y).2 (bodyOf Tryd.f94) 0 (Kfin cx spec_validPropList.A spec_validPropList.sg Tryd.f94.results.toList) [1, 0, 1, 1] []
theorem spec_validPropList.r0 (N : Nat) : ∀ (n : Nat) (y : (List (ImplProp)) × Int × Unit), spec_validPropList.a0 N n y = spec_validPropList.L0 N n y
  | 0, y => by kernel_rfl
  | n + 1, y => by
    have h : spec_validPropList.a0 N (n + 1) y = spec_validPropList.B0 N (fun z => spec_validPropList.a0 N n z) y := by kernel_rfl
    have e : (fun z => spec_validPropList.a0 N n z) = spec_validPropList.L0 N n := funext fun z => spec_validPropList.r0 N n z
    rw [h]
    try rw [e]
    first | done | rfl
theorem spec_validPropList.run (N : Nat) (x : (List (ImplProp)) × Unit) : runF cx (look (spec_validPropList.phis N)) spec_validPropList.A N (bodyOf Tryd.f94) Tryd.f94.results.toList spec_validPropList.sg x = spec_validPropList N x.1 := by
  have h : runF cx (look (spec_validPropList.phis N)) spec_validPropList.A N (bodyOf Tryd.f94) Tryd.f94.results.toList spec_validPropList.sg x = spec_validPropList.B N (fun z => spec_validPropList.a0 N N z) x.1 := by kernel_rfl
  have e0 : (fun z => spec_validPropList.a0 N N z) = spec_validPropList.L0 N N := funext fun z => spec_validPropList.r0 N N z
  rw [h, e0]
  try rfl
noncomputable def spec_validPropList.sm (N : Nat) : Sm D := (⟨spec_validPropList.sg, fun (x : (List (ImplProp)) × Unit) => spec_validPropList N x.1⟩ : Sm D)
theorem spec_validPropList.sound (N : Nat) : Sound cx Tryd.prog gam 94 (spec_validPropList.sm N) := fn_sound (A := spec_validPropList.A) (Φ := (look (spec_validPropList.phis N))) pok (G := gam) (ΦOk.cons (spec_inRange.sound N) (fnOk_of (f := 63) (by kernel_rfl)) (ΦOk.cons (spec_validValue.sound N) (fnOk_of (f := 103) (by kernel_rfl)) ΦOk.nil)) mixed N Tryd.func94 (c := (bodyOf Tryd.f94)) (by kernel_rfl) spec_validPropList.sg (by kernel_rfl) (by kernel_rfl) (by kernel_rfl) (spec_validPropList.run N)

@[reducible] def spec_keysApart.sg : Sg := { ms := [{ k := (.sl (.st 25)), fl := [none] }], keep := [false], rs := [{ k := .bool }] }
@[reducible] def spec_keysApart.lvL2 : Lv := { id := 2, slots := [0, 3, 4], ms := [{ k := (.sl (.st 25)), fl := [none] }, { k := (.int .i64) }, { k := (.int .i64) }] }
@[reducible] def spec_keysApart.lvL0 : Lv := { id := 0, slots := [0, 3], ms := [{ k := (.sl (.st 25)), fl := [none] }, { k := (.int .i64) }] }
noncomputable def spec_keysApart.A : Ann := { dp := fun d => isIn [] d, lp := look [(2, spec_keysApart.lvL2), (0, spec_keysApart.lvL0)], jn := look [], pins := [], nt := 35 }
noncomputable def spec_keysApart.phis (N : Nat) : List (Nat × Sm D) := []
noncomputable def spec_keysApart.a2 (N : Nat) (m0 : Nat) (n : Nat) (y : (List (ImplTree)) × Int × Int × Unit) : Option (Bool × Unit) := loopAt cx (look (spec_keysApart.phis N)) spec_keysApart.A N n (encL cx spec_keysApart.lvL2.ms y).1 (encL cx spec_keysApart.lvL2.ms y).2 (bodyOf Tryd.f95) 0 (Kfin cx spec_keysApart.A spec_keysApart.sg Tryd.f95.results.toList) [1, 0, 1, 1, 1, 1, 0, 1, 1, 1] [m0]
noncomputable def spec_keysApart.a0 (N : Nat) (n : Nat) (y : (List (ImplTree)) × Int × Unit) : Option (Bool × Unit) := loopAt cx (look (spec_keysApart.phis N)) spec_keysApart.A N n (encL cx spec_keysApart.lvL0.ms y).1 (encL cx spec_keysApart.lvL0.ms y).2 (bodyOf Tryd.f95) 0 (Kfin cx spec_keysApart.A spec_keysApart.sg Tryd.f95.results.toList) [1, 0, 1, 1] []
theorem spec_keysApart.r2 (N : Nat) (m0 : Nat) : ∀ (n : Nat) (y : (List (ImplTree)) × Int × Int × Unit), spec_keysApart.a2 N m0 n y = spec_keysApart.L2 N (fun z => spec_keysApart.a0 N m0 z) n y
  | 0, y => by kernel_rfl
  | n + 1, y => by
    have h : spec_keysApart.a2 N m0 (n + 1) y = spec_keysApart.B2 N (fun z => spec_keysApart.a0 N m0 z) (fun z => spec_keysApart.a2 N m0 n z) y := by kernel_rfl
    have e : (fun z => spec_keysApart.a2 N m0 n z) = spec_keysApart.L2 N (fun z => spec_keysApart.a0 N m0 z) n := funext fun z => spec_keysApart.r2 N m0 n z
    rw [h]
    try rw [e]
    first | done | rfl
theorem spec_keysApart.r0 (N : Nat) : ∀ (n : Nat) (y : (List (ImplTree)) × Int × Unit), spec_keysApart.a0 N n y = spec_keysApart.L0 N n y
  | 0, y => by kernel_rfl
  | n + 1, y => by
    have h : spec_keysApart.a0 N (n + 1) y = spec_keysApart.B0 N (fun z => spec_keysApart.a2 N n N z) y := by kernel_rfl
    have e : (fun z => spec_keysApart.a0 N n z) = spec_keysApart.L0 N n := funext fun z => spec_keysApart.r0 N n z
    have e2 : (fun z => spec_keysApart.a2 N n N z) = spec_keysApart.L2 N (fun z => spec_keysApart.a0 N n z) N := funext fun z => spec_keysApart.r2 N n N z
    rw [h, e2]
    try rw [e]
    first | done | rfl
theorem spec_keysApart.run (N : Nat) (x : (List (ImplTree)) × Unit) : runF cx (look (spec_keysApart.phis N)) spec_keysApart.A N (bodyOf Tryd.f95) Tryd.f95.results.toList spec_keysApart.sg x = spec_keysApart N x.1 := by
  have h : runF cx (look (spec_keysApart.phis N)) spec_keysApart.A N (bodyOf Tryd.f95) Tryd.f95.results.toList spec_keysApart.sg x = spec_keysApart.B N (fun z => spec_keysApart.a0 N N z) x.1 := by kernel_rfl
  have e0 : (fun z => spec_keysApart.a0 N N z) = spec_keysApart.L0 N N := funext fun z => spec_keysApart.r0 N N z
  rw [h, e0]
  try rfl
noncomputable def spec_keysApart.sm (N : Nat) : Sm D := (⟨spec_keysApart.sg, fun (x : (List (ImplTree)) × Unit) => spec_keysApart N x.1⟩ : Sm D)
theorem spec_keysApart.sound (N : Nat) : Sound cx Tryd.prog gam 95 (spec_keysApart.sm N) := fn_sound (A := spec_keysApart.A) (Φ := (look (spec_keysApart.phis N))) pok (G := gam) ΦOk.nil mixed N Tryd.func95 (c := (bodyOf Tryd.f95)) (by kernel_rfl) spec_keysApart.sg (by kernel_rfl) (by kernel_rfl) (by kernel_rfl) (spec_keysApart.run N)

@[reducible] def spec_validPart.sg : Sg := { ms := [{ k := (.st 25) }], keep := [false], rs := [{ k := .bool }] }
@[reducible] def spec_validPart.lvL0 : Lv := { id := 0, slots := [1, 3], ms := [{ ptr := true, id := 600, t := 26, k := (.st 25), fl := [none, none, none, none, none] }, { k := (.int .i64) }] }
noncomputable def spec_validPart.A : Ann := { dp := fun d => isIn [] d, lp := look [(0, spec_validPart.lvL0)], jn := look [], pins := [], nt := 65 }
noncomputable def spec_validPart.phis (N : Nat) (d : Nat) : List (Nat × Sm D) := [(93, spec_validShown.sm N), (63, spec_inRange.sm N), (94, spec_validPropList.sm N), (74, (⟨spec_validPart.sg, fun (x : ImplTree × Unit) => spec_validPart.R N d x.1⟩ : Sm D)), (95, spec_keysApart.sm N)]
noncomputable def spec_validPart.a0 (N : Nat) (d : Nat) (n : Nat) (y : ImplTree × Int × Unit) : Option (Bool × Unit) := loopAt cx (look (spec_validPart.phis N d)) spec_validPart.A N n (encL cx spec_validPart.lvL0.ms y).1 (encL cx spec_validPart.lvL0.ms y).2 (bodyOf Tryd.f74) 0 (Kfin cx spec_validPart.A spec_validPart.sg Tryd.f74.results.toList) [1, 1, 1, 0, 1, 1] []
theorem spec_validPart.r0 (N : Nat) (d : Nat) : ∀ (n : Nat) (y : ImplTree × Int × Unit), spec_validPart.a0 N d n y = spec_validPart.L0 N (spec_validPart.R N d) n y
  | 0, y => by kernel_rfl
  | n + 1, y => by
    have h : spec_validPart.a0 N d (n + 1) y = spec_validPart.B0 N (spec_validPart.R N d) (fun z => spec_validPart.a0 N d n z) y := by kernel_rfl
    have e : (fun z => spec_validPart.a0 N d n z) = spec_validPart.L0 N (spec_validPart.R N d) n := funext fun z => spec_validPart.r0 N d n z
    rw [h]
    try rw [e]
    first | done | rfl
theorem spec_validPart.run (N : Nat) (d : Nat) (x : ImplTree × Unit) : runF cx (look (spec_validPart.phis N d)) spec_validPart.A N (bodyOf Tryd.f74) Tryd.f74.results.toList spec_validPart.sg x = spec_validPart.R N (d + 1) x.1 := by
  have h : runF cx (look (spec_validPart.phis N d)) spec_validPart.A N (bodyOf Tryd.f74) Tryd.f74.results.toList spec_validPart.sg x = spec_validPart.B N (spec_validPart.R N d) (fun z => spec_validPart.a0 N d N z) x.1 := by kernel_rfl
  have e0 : (fun z => spec_validPart.a0 N d N z) = spec_validPart.L0 N (spec_validPart.R N d) N := funext fun z => spec_validPart.r0 N d N z
  rw [h, e0]
  try rfl
theorem spec_validPart.step (N : Nat) (d : Nat) (h_spec_validPart : Sound cx Tryd.prog gam 74 (⟨spec_validPart.sg, fun (x : ImplTree × Unit) => spec_validPart.R N d x.1⟩ : Sm D)) : Sound cx Tryd.prog gam 74 (⟨spec_validPart.sg, fun (x : ImplTree × Unit) => spec_validPart.R N (d + 1) x.1⟩ : Sm D) := fn_sound (A := spec_validPart.A) (Φ := (look (spec_validPart.phis N d))) pok (G := gam) (ΦOk.cons (spec_validShown.sound N) (fnOk_of (f := 93) (by kernel_rfl)) (ΦOk.cons (spec_inRange.sound N) (fnOk_of (f := 63) (by kernel_rfl)) (ΦOk.cons (spec_validPropList.sound N) (fnOk_of (f := 94) (by kernel_rfl)) (ΦOk.cons h_spec_validPart (fnOk_of (f := 74) (by kernel_rfl)) (ΦOk.cons (spec_keysApart.sound N) (fnOk_of (f := 95) (by kernel_rfl)) ΦOk.nil))))) mixed N Tryd.func74 (c := (bodyOf Tryd.f74)) (by kernel_rfl) spec_validPart.sg (by kernel_rfl) (by kernel_rfl) (by kernel_rfl) (spec_validPart.run N d)

theorem spec_validPart.scc (N : Nat) : ∀ d, Sound cx Tryd.prog gam 74 (⟨spec_validPart.sg, fun (x : ImplTree × Unit) => spec_validPart.R N d x.1⟩ : Sm D)
  | 0 => none_sound 74 spec_validPart.sg
  | d + 1 => by
    have ih := spec_validPart.scc N d
    exact spec_validPart.step N d ih
noncomputable def spec_validPart.sm (N : Nat) : Sm D := (⟨spec_validPart.sg, fun (x : ImplTree × Unit) => spec_validPart.R N N x.1⟩ : Sm D)
theorem spec_validPart.sound (N : Nat) : Sound cx Tryd.prog gam 74 (spec_validPart.sm N) := (spec_validPart.scc N N)
@[reducible] def spec_validTree.sg : Sg := { ms := [{ k := (.st 25) }], keep := [false], rs := [{ k := .bool }] }
noncomputable def spec_validTree.A : Ann := { dp := fun d => isIn [] d, lp := look [], jn := look [], pins := [], nt := 10 }
noncomputable def spec_validTree.phis (N : Nat) : List (Nat × Sm D) := [(52, spec_treeSize.sm N), (74, spec_validPart.sm N)]
theorem spec_validTree.run (N : Nat) (x : ImplTree × Unit) : runF cx (look (spec_validTree.phis N)) spec_validTree.A N (bodyOf Tryd.f43) Tryd.f43.results.toList spec_validTree.sg x = spec_validTree N x.1 := by
  have h : runF cx (look (spec_validTree.phis N)) spec_validTree.A N (bodyOf Tryd.f43) Tryd.f43.results.toList spec_validTree.sg x = spec_validTree.B N x.1 := by kernel_rfl
  rw [h]
  try rfl
noncomputable def spec_validTree.sm (N : Nat) : Sm D := (⟨spec_validTree.sg, fun (x : ImplTree × Unit) => spec_validTree N x.1⟩ : Sm D)
theorem spec_validTree.sound (N : Nat) : Sound cx Tryd.prog gam 43 (spec_validTree.sm N) := fn_sound (A := spec_validTree.A) (Φ := (look (spec_validTree.phis N))) pok (G := gam) (ΦOk.cons (spec_treeSize.sound N) (fnOk_of (f := 52) (by kernel_rfl)) (ΦOk.cons (spec_validPart.sound N) (fnOk_of (f := 74) (by kernel_rfl)) ΦOk.nil)) mixed N Tryd.func43 (c := (bodyOf Tryd.f43)) (by kernel_rfl) spec_validTree.sg (by kernel_rfl) (by kernel_rfl) (by kernel_rfl) (spec_validTree.run N)

@[reducible] def laws_szValue.sg : Sg := { ms := [{ k := (.st 81) }, { k := (.int .i64) }], keep := [false, false], rs := [{ k := (.int .i64) }] }
noncomputable def laws_szValue.A : Ann := { dp := fun d => isIn [] d, lp := look [], jn := look [], pins := [], nt := 13 }
noncomputable def laws_szValue.phis (N : Nat) : List (Nat × Sm D) := []
theorem laws_szValue.run (N : Nat) (x : ImplValue × Int × Unit) : runF cx (look (laws_szValue.phis N)) laws_szValue.A N (bodyOf Tryd.f96) Tryd.f96.results.toList laws_szValue.sg x = laws_szValue N x.1 x.2.1 := by
  have h : runF cx (look (laws_szValue.phis N)) laws_szValue.A N (bodyOf Tryd.f96) Tryd.f96.results.toList laws_szValue.sg x = laws_szValue.B N x.1 x.2.1 := by kernel_rfl
  rw [h]
  try rfl
noncomputable def laws_szValue.sm (N : Nat) : Sm D := (⟨laws_szValue.sg, fun (x : ImplValue × Int × Unit) => laws_szValue N x.1 x.2.1⟩ : Sm D)
theorem laws_szValue.sound (N : Nat) : Sound cx Tryd.prog gam 96 (laws_szValue.sm N) := fn_sound (A := laws_szValue.A) (Φ := (look (laws_szValue.phis N))) pok (G := gam) ΦOk.nil mixed N Tryd.func96 (c := (bodyOf Tryd.f96)) (by kernel_rfl) laws_szValue.sg (by kernel_rfl) (by kernel_rfl) (by kernel_rfl) (laws_szValue.run N)

@[reducible] def laws_szProp.sg : Sg := { ms := [{ k := (.st 88) }, { k := (.int .i64) }], keep := [false, false], rs := [{ k := (.int .i64) }] }
noncomputable def laws_szProp.A : Ann := { dp := fun d => isIn [] d, lp := look [], jn := look [], pins := [], nt := 12 }
noncomputable def laws_szProp.phis (N : Nat) : List (Nat × Sm D) := [(96, laws_szValue.sm N)]
theorem laws_szProp.run (N : Nat) (x : LawsProp × Int × Unit) : runF cx (look (laws_szProp.phis N)) laws_szProp.A N (bodyOf Tryd.f77) Tryd.f77.results.toList laws_szProp.sg x = laws_szProp N x.1 x.2.1 := by
  have h : runF cx (look (laws_szProp.phis N)) laws_szProp.A N (bodyOf Tryd.f77) Tryd.f77.results.toList laws_szProp.sg x = laws_szProp.B N x.1 x.2.1 := by kernel_rfl
  rw [h]
  try rfl
noncomputable def laws_szProp.sm (N : Nat) : Sm D := (⟨laws_szProp.sg, fun (x : LawsProp × Int × Unit) => laws_szProp N x.1 x.2.1⟩ : Sm D)
theorem laws_szProp.sound (N : Nat) : Sound cx Tryd.prog gam 77 (laws_szProp.sm N) := fn_sound (A := laws_szProp.A) (Φ := (look (laws_szProp.phis N))) pok (G := gam) (ΦOk.cons (laws_szValue.sound N) (fnOk_of (f := 96) (by kernel_rfl)) ΦOk.nil) mixed N Tryd.func77 (c := (bodyOf Tryd.f77)) (by kernel_rfl) laws_szProp.sg (by kernel_rfl) (by kernel_rfl) (by kernel_rfl) (laws_szProp.run N)

@[reducible] def laws_szPropS.sg : Sg := { ms := [{ k := (.sl (.st 88)), fl := [none] }, { k := (.int .i64) }], keep := [false, false], rs := [{ k := (.int .i64) }] }
@[reducible] def laws_szPropS.lvL0 : Lv := { id := 0, slots := [0, 1, 5], ms := [{ k := (.sl (.st 88)), fl := [none] }, { k := (.int .i64) }, { k := (.int .i64) }] }
noncomputable def laws_szPropS.A : Ann := { dp := fun d => isIn [] d, lp := look [(0, laws_szPropS.lvL0)], jn := look [], pins := [], nt := 27 }
noncomputable def laws_szPropS.phis (N : Nat) : List (Nat × Sm D) := [(77, laws_szProp.sm N)]
noncomputable def laws_szPropS.a0 (N : Nat) (n : Nat) (y : (List (LawsProp)) × Int × Int × Unit) : Option (Int × Unit) := loopAt cx (look (laws_szPropS.phis N)) laws_szPropS.A N n (encL cx laws_szPropS.lvL0.ms y).1 (encL cx laws_szPropS.lvL0.ms y).2 (bodyOf Tryd.f45) 0 (Kfin cx laws_szPropS.A laws_szPropS.sg Tryd.f45.results.toList) [1, 1, 1, 0, 1, 1] []
theorem laws_szPropS.r0 (N : Nat) : ∀ (n : Nat) (y : (List (LawsProp)) × Int × Int × Unit), laws_szPropS.a0 N n y = laws_szPropS.L0 N n y
  | 0, y => by kernel_rfl
  | n + 1, y => by
    have h : laws_szPropS.a0 N (n + 1) y = laws_szPropS.B0 N (fun z => laws_szPropS.a0 N n z) y := by kernel_rfl
    have e : (fun z => laws_szPropS.a0 N n z) = laws_szPropS.L0 N n := funext fun z => laws_szPropS.r0 N n z
    rw [h]
    try rw [e]
    first | done | rfl
theorem laws_szPropS.run (N : Nat) (x : (List (LawsProp)) × Int × Unit) : runF cx (look (laws_szPropS.phis N)) laws_szPropS.A N (bodyOf Tryd.f45) Tryd.f45.results.toList laws_szPropS.sg x = laws_szPropS N x.1 x.2.1 := by
  have h : runF cx (look (laws_szPropS.phis N)) laws_szPropS.A N (bodyOf Tryd.f45) Tryd.f45.results.toList laws_szPropS.sg x = laws_szPropS.B N (fun z => laws_szPropS.a0 N N z) x.1 x.2.1 := by kernel_rfl
  have e0 : (fun z => laws_szPropS.a0 N N z) = laws_szPropS.L0 N N := funext fun z => laws_szPropS.r0 N N z
  rw [h, e0]
  try rfl
noncomputable def laws_szPropS.sm (N : Nat) : Sm D := (⟨laws_szPropS.sg, fun (x : (List (LawsProp)) × Int × Unit) => laws_szPropS N x.1 x.2.1⟩ : Sm D)
theorem laws_szPropS.sound (N : Nat) : Sound cx Tryd.prog gam 45 (laws_szPropS.sm N) := fn_sound (A := laws_szPropS.A) (Φ := (look (laws_szPropS.phis N))) pok (G := gam) (ΦOk.cons (laws_szProp.sound N) (fnOk_of (f := 77) (by kernel_rfl)) ΦOk.nil) mixed N Tryd.func45 (c := (bodyOf Tryd.f45)) (by kernel_rfl) laws_szPropS.sg (by kernel_rfl) (by kernel_rfl) (by kernel_rfl) (laws_szPropS.run N)

end
end Go.Ev
