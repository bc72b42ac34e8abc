/- Each function that the law reaches does what its plain form says; no condition beyond the table of the library. -/
import Derived.Test.YtadoojpcjfglgaaDoorEvF
set_option linter.all false
set_option linter.unusedVariables false
set_option linter.unusedSimpArgs false
set_option maxRecDepth 100000
set_option maxHeartbeats 0
namespace Go.Ev
noncomputable section
open Go.Proofs
@[reducible] def impl_within.sg : Sg := { ms := [{ k := (.int .i64) }, { k := (.int .i64) }, { k := (.int .i64) }], keep := [false, false, false], rs := [{ k := .bool }] }
noncomputable def impl_within.A : Ann := { dp := fun d => isIn [] d, lp := look [], jn := look [], pins := [], nt := 15 }
noncomputable def impl_within.phis (N : Nat) : List (Nat × Sm D) := []
theorem impl_within.run (N : Nat) (x : Int × Int × Int × Unit) : runF cx (look (impl_within.phis N)) impl_within.A N (bodyOf Tryd.f32) Tryd.f32.results.toList impl_within.sg x = impl_within N x.1 x.2.1 x.2.2.1 := by
  have h : runF cx (look (impl_within.phis N)) impl_within.A N (bodyOf Tryd.f32) Tryd.f32.results.toList impl_within.sg x = impl_within.B N x.1 x.2.1 x.2.2.1 := by kernel_rfl
  rw [h]
  try rfl
noncomputable def impl_within.sm (N : Nat) : Sm D := (⟨impl_within.sg, fun (x : Int × Int × Int × Unit) => impl_within N x.1 x.2.1 x.2.2.1⟩ : Sm D)
theorem impl_within.sound (N : Nat) : Sound cx Tryd.prog gam 32 (impl_within.sm N) := fn_sound (A := impl_within.A) (Φ := (look (impl_within.phis N))) pok (G := gam) ΦOk.nil mixed N Tryd.func32 (c := (bodyOf Tryd.f32)) (by kernel_rfl) impl_within.sg (by kernel_rfl) (by kernel_rfl) (by kernel_rfl) (impl_within.run N)

@[reducible] def impl_PlaceOk.sg : Sg := { ms := [{ k := (.sl (.st 102)), fl := [none] }], keep := [false], rs := [{ k := .bool }] }
@[reducible] def impl_PlaceOk.lvL0 : Lv := { id := 0, slots := [0, 5, 6, 7], ms := [{ k := (.sl (.st 102)), fl := [none] }, { k := (.sl (.st 102)), fl := [none] }, { k := (.int .i64) }, { k := (.int .i64) }] }
noncomputable def impl_PlaceOk.A : Ann := { dp := fun d => isIn [] d, lp := look [(0, impl_PlaceOk.lvL0)], jn := look [], pins := [], nt := 25 }
noncomputable def impl_PlaceOk.phis (N : Nat) : List (Nat × Sm D) := [(32, impl_within.sm N)]
noncomputable def impl_PlaceOk.a0 (N : Nat) (n : Nat) (y : (List (ImplSlot)) × (List (ImplSlot)) × Int × Int × Unit) : Option (Bool × Unit) := loopAt cx (look (impl_PlaceOk.phis N)) impl_PlaceOk.A N n (encL cx impl_PlaceOk.lvL0.ms y).1 (encL cx impl_PlaceOk.lvL0.ms y).2 (bodyOf Tryd.f50) 0 (Kfin cx impl_PlaceOk.A impl_PlaceOk.sg Tryd.f50.results.toList) [1, 0, 1, 1] []
theorem impl_PlaceOk.r0 (N : Nat) : ∀ (n : Nat) (y : (List (ImplSlot)) × (List (ImplSlot)) × Int × Int × Unit), impl_PlaceOk.a0 N n y = impl_PlaceOk.L0 N n y
  | 0, y => by kernel_rfl
  | n + 1, y => by
    have h : impl_PlaceOk.a0 N (n + 1) y = impl_PlaceOk.B0 N (fun z => impl_PlaceOk.a0 N n z) y := by kernel_rfl
    have e : (fun z => impl_PlaceOk.a0 N n z) = impl_PlaceOk.L0 N n := funext fun z => impl_PlaceOk.r0 N n z
    rw [h]
    try rw [e]
    first | done | rfl
theorem impl_PlaceOk.run (N : Nat) (x : (List (ImplSlot)) × Unit) : runF cx (look (impl_PlaceOk.phis N)) impl_PlaceOk.A N (bodyOf Tryd.f50) Tryd.f50.results.toList impl_PlaceOk.sg x = impl_PlaceOk N x.1 := by
  have h : runF cx (look (impl_PlaceOk.phis N)) impl_PlaceOk.A N (bodyOf Tryd.f50) Tryd.f50.results.toList impl_PlaceOk.sg x = impl_PlaceOk.B N (fun z => impl_PlaceOk.a0 N N z) x.1 := by kernel_rfl
  have e0 : (fun z => impl_PlaceOk.a0 N N z) = impl_PlaceOk.L0 N N := funext fun z => impl_PlaceOk.r0 N N z
  rw [h, e0]
  try rfl
noncomputable def impl_PlaceOk.sm (N : Nat) : Sm D := (⟨impl_PlaceOk.sg, fun (x : (List (ImplSlot)) × Unit) => impl_PlaceOk N x.1⟩ : Sm D)
theorem impl_PlaceOk.sound (N : Nat) : Sound cx Tryd.prog gam 50 (impl_PlaceOk.sm N) := fn_sound (A := impl_PlaceOk.A) (Φ := (look (impl_PlaceOk.phis N))) pok (G := gam) (ΦOk.cons (impl_within.sound N) (fnOk_of (f := 32) (by kernel_rfl)) ΦOk.nil) mixed N Tryd.func50 (c := (bodyOf Tryd.f50)) (by kernel_rfl) impl_PlaceOk.sg (by kernel_rfl) (by kernel_rfl) (by kernel_rfl) (impl_PlaceOk.run N)

@[reducible] def impl_word.sg : Sg := { ms := [{ k := .str }], keep := [false], rs := [{ k := .bool }] }
@[reducible] def impl_word.lvL0 : Lv := { id := 0, slots := [0, 3], ms := [{ k := .str }, { k := (.int .i64) }] }
noncomputable def impl_word.A : Ann := { dp := fun d => isIn [] d, lp := look [(0, impl_word.lvL0)], jn := look [], pins := [], nt := 36 }
noncomputable def impl_word.phis (N : Nat) : List (Nat × Sm D) := []
noncomputable def impl_word.a0 (N : Nat) (n : Nat) (y : (List UInt8) × Int × Unit) : Option (Bool × Unit) := loopAt cx (look (impl_word.phis N)) impl_word.A N n (encL cx impl_word.lvL0.ms y).1 (encL cx impl_word.lvL0.ms y).2 (bodyOf Tryd.f69) 0 (Kfin cx impl_word.A impl_word.sg Tryd.f69.results.toList) [1, 0, 1, 1] []
theorem impl_word.r0 (N : Nat) : ∀ (n : Nat) (y : (List UInt8) × Int × Unit), impl_word.a0 N n y = impl_word.L0 N n y
  | 0, y => by kernel_rfl
  | n + 1, y => by
    have h : impl_word.a0 N (n + 1) y = impl_word.B0 N (fun z => impl_word.a0 N n z) y := by kernel_rfl
    have e : (fun z => impl_word.a0 N n z) = impl_word.L0 N n := funext fun z => impl_word.r0 N n z
    rw [h]
    try rw [e]
    first | done | rfl
theorem impl_word.run (N : Nat) (x : (List UInt8) × Unit) : runF cx (look (impl_word.phis N)) impl_word.A N (bodyOf Tryd.f69) Tryd.f69.results.toList impl_word.sg x = impl_word N x.1 := by
  have h : runF cx (look (impl_word.phis N)) impl_word.A N (bodyOf Tryd.f69) Tryd.f69.results.toList impl_word.sg x = impl_word.B N (fun z => impl_word.a0 N N z) x.1 := by kernel_rfl
  have e0 : (fun z => impl_word.a0 N N z) = impl_word.L0 N N := funext fun z => impl_word.r0 N N z
  rw [h, e0]
  try rfl
noncomputable def impl_word.sm (N : Nat) : Sm D := (⟨impl_word.sg, fun (x : (List UInt8) × Unit) => impl_word N x.1⟩ : Sm D)
theorem impl_word.sound (N : Nat) : Sound cx Tryd.prog gam 69 (impl_word.sm N) := fn_sound (A := impl_word.A) (Φ := (look (impl_word.phis N))) pok (G := gam) ΦOk.nil mixed N Tryd.func69 (c := (bodyOf Tryd.f69)) (by kernel_rfl) impl_word.sg (by kernel_rfl) (by kernel_rfl) (by kernel_rfl) (impl_word.run N)

@[reducible] def impl_ValOk.sg : Sg := { ms := [{ k := (.st 47) }], keep := [false], rs := [{ k := .bool }] }
noncomputable def impl_ValOk.A : Ann := { dp := fun d => isIn [] d, lp := look [], jn := look [], pins := [], nt := 35 }
noncomputable def impl_ValOk.phis (N : Nat) : List (Nat × Sm D) := [(32, impl_within.sm N), (69, impl_word.sm N)]
theorem impl_ValOk.run (N : Nat) (x : ImplValue × Unit) : runF cx (look (impl_ValOk.phis N)) impl_ValOk.A N (bodyOf Tryd.f31) Tryd.f31.results.toList impl_ValOk.sg x = impl_ValOk N x.1 := by
  have h : runF cx (look (impl_ValOk.phis N)) impl_ValOk.A N (bodyOf Tryd.f31) Tryd.f31.results.toList impl_ValOk.sg x = impl_ValOk.B N x.1 := by kernel_rfl
  rw [h]
  try rfl
noncomputable def impl_ValOk.sm (N : Nat) : Sm D := (⟨impl_ValOk.sg, fun (x : ImplValue × Unit) => impl_ValOk N x.1⟩ : Sm D)
theorem impl_ValOk.sound (N : Nat) : Sound cx Tryd.prog gam 31 (impl_ValOk.sm N) := fn_sound (A := impl_ValOk.A) (Φ := (look (impl_ValOk.phis N))) pok (G := gam) (ΦOk.cons (impl_within.sound N) (fnOk_of (f := 32) (by kernel_rfl)) (ΦOk.cons (impl_word.sound N) (fnOk_of (f := 69) (by kernel_rfl)) ΦOk.nil)) mixed N Tryd.func31 (c := (bodyOf Tryd.f31)) (by kernel_rfl) impl_ValOk.sg (by kernel_rfl) (by kernel_rfl) (by kernel_rfl) (impl_ValOk.run N)

@[reducible] def impl_valsOk.sg : Sg := { ms := [{ k := (.sl (.st 47)), fl := [none] }], keep := [false], rs := [{ k := .bool }] }
@[reducible] def impl_valsOk.lvL0 : Lv := { id := 0, slots := [5, 6, 7], ms := [{ k := (.sl (.st 47)), fl := [none] }, { k := (.int .i64) }, { k := (.int .i64) }] }
noncomputable def impl_valsOk.A : Ann := { dp := fun d => isIn [] d, lp := look [(0, impl_valsOk.lvL0)], jn := look [], pins := [], nt := 15 }
noncomputable def impl_valsOk.phis (N : Nat) : List (Nat × Sm D) := [(31, impl_ValOk.sm N)]
noncomputable def impl_valsOk.a0 (N : Nat) (n : Nat) (y : (List (ImplValue)) × Int × Int × Unit) : Option (Bool × Unit) := loopAt cx (look (impl_valsOk.phis N)) impl_valsOk.A N n (encL cx impl_valsOk.lvL0.ms y).1 (encL cx impl_valsOk.lvL0.ms y).2 (bodyOf Tryd.f51) 0 (Kfin cx impl_valsOk.A impl_valsOk.sg Tryd.f51.results.toList) [1, 0, 1, 1] []
theorem impl_valsOk.r0 (N : Nat) : ∀ (n : Nat) (y : (List (ImplValue)) × Int × Int × Unit), impl_valsOk.a0 N n y = impl_valsOk.L0 N n y
  | 0, y => by kernel_rfl
  | n + 1, y => by
    have h : impl_valsOk.a0 N (n + 1) y = impl_valsOk.B0 N (fun z => impl_valsOk.a0 N n z) y := by kernel_rfl
    have e : (fun z => impl_valsOk.a0 N n z) = impl_valsOk.L0 N n := funext fun z => impl_valsOk.r0 N n z
    rw [h]
    try rw [e]
    first | done | rfl
theorem impl_valsOk.run (N : Nat) (x : (List (ImplValue)) × Unit) : runF cx (look (impl_valsOk.phis N)) impl_valsOk.A N (bodyOf Tryd.f51) Tryd.f51.results.toList impl_valsOk.sg x = impl_valsOk N x.1 := by
  have h : runF cx (look (impl_valsOk.phis N)) impl_valsOk.A N (bodyOf Tryd.f51) Tryd.f51.results.toList impl_valsOk.sg x = impl_valsOk.B N (fun z => impl_valsOk.a0 N N z) x.1 := by kernel_rfl
  have e0 : (fun z => impl_valsOk.a0 N N z) = impl_valsOk.L0 N N := funext fun z => impl_valsOk.r0 N N z
  rw [h, e0]
  try rfl
noncomputable def impl_valsOk.sm (N : Nat) : Sm D := (⟨impl_valsOk.sg, fun (x : (List (ImplValue)) × Unit) => impl_valsOk N x.1⟩ : Sm D)
theorem impl_valsOk.sound (N : Nat) : Sound cx Tryd.prog gam 51 (impl_valsOk.sm N) := fn_sound (A := impl_valsOk.A) (Φ := (look (impl_valsOk.phis N))) pok (G := gam) (ΦOk.cons (impl_ValOk.sound N) (fnOk_of (f := 31) (by kernel_rfl)) ΦOk.nil) mixed N Tryd.func51 (c := (bodyOf Tryd.f51)) (by kernel_rfl) impl_valsOk.sg (by kernel_rfl) (by kernel_rfl) (by kernel_rfl) (impl_valsOk.run N)

@[reducible] def impl_placeCmp.sg : Sg := { ms := [{ k := (.sl (.st 102)), fl := [none] }, { k := (.sl (.st 102)), fl := [none] }], keep := [false, false], rs := [{ k := (.int .i64) }] }
@[reducible] def impl_placeCmp.lvL0 : Lv := { id := 0, slots := [0, 1, 12, 13], ms := [{ k := (.sl (.st 102)), fl := [none] }, { k := (.sl (.st 102)), fl := [none] }, { k := (.int .i64) }, { k := (.int .i64) }] }
noncomputable def impl_placeCmp.A : Ann := { dp := fun d => isIn [] d, lp := look [(0, impl_placeCmp.lvL0)], jn := look [], pins := [], nt := 59 }
noncomputable def impl_placeCmp.phis (N : Nat) : List (Nat × Sm D) := []
noncomputable def impl_placeCmp.a0 (N : Nat) (n : Nat) (y : (List (ImplSlot)) × (List (ImplSlot)) × Int × Int × Unit) : Option (Int × Unit) := loopAt cx (look (impl_placeCmp.phis N)) impl_placeCmp.A N n (encL cx impl_placeCmp.lvL0.ms y).1 (encL cx impl_placeCmp.lvL0.ms y).2 (bodyOf Tryd.f52) 0 (Kfin cx impl_placeCmp.A impl_placeCmp.sg Tryd.f52.results.toList) [1, 0, 1, 1] []
theorem impl_placeCmp.r0 (N : Nat) : ∀ (n : Nat) (y : (List (ImplSlot)) × (List (ImplSlot)) × Int × Int × Unit), impl_placeCmp.a0 N n y = impl_placeCmp.L0 N n y
  | 0, y => by kernel_rfl
  | n + 1, y => by
    have h : impl_placeCmp.a0 N (n + 1) y = impl_placeCmp.B0 N (fun z => impl_placeCmp.a0 N n z) y := by kernel_rfl
    have e : (fun z => impl_placeCmp.a0 N n z) = impl_placeCmp.L0 N n := funext fun z => impl_placeCmp.r0 N n z
    rw [h]
    try rw [e]
    first | done | rfl
theorem impl_placeCmp.run (N : Nat) (x : (List (ImplSlot)) × (List (ImplSlot)) × Unit) : runF cx (look (impl_placeCmp.phis N)) impl_placeCmp.A N (bodyOf Tryd.f52) Tryd.f52.results.toList impl_placeCmp.sg x = impl_placeCmp N x.1 x.2.1 := by
  have h : runF cx (look (impl_placeCmp.phis N)) impl_placeCmp.A N (bodyOf Tryd.f52) Tryd.f52.results.toList impl_placeCmp.sg x = impl_placeCmp.B N (fun z => impl_placeCmp.a0 N N z) x.1 x.2.1 := by kernel_rfl
  have e0 : (fun z => impl_placeCmp.a0 N N z) = impl_placeCmp.L0 N N := funext fun z => impl_placeCmp.r0 N N z
  rw [h, e0]
  try rfl
noncomputable def impl_placeCmp.sm (N : Nat) : Sm D := (⟨impl_placeCmp.sg, fun (x : (List (ImplSlot)) × (List (ImplSlot)) × Unit) => impl_placeCmp N x.1 x.2.1⟩ : Sm D)
theorem impl_placeCmp.sound (N : Nat) : Sound cx Tryd.prog gam 52 (impl_placeCmp.sm N) := fn_sound (A := impl_placeCmp.A) (Φ := (look (impl_placeCmp.phis N))) pok (G := gam) ΦOk.nil mixed N Tryd.func52 (c := (bodyOf Tryd.f52)) (by kernel_rfl) impl_placeCmp.sg (by kernel_rfl) (by kernel_rfl) (by kernel_rfl) (impl_placeCmp.run N)

@[reducible] def impl_StoreOk.sg : Sg := { ms := [{ k := (.sl (.st 70)), fl := [none] }], keep := [false], rs := [{ k := .bool }] }
@[reducible] def impl_StoreOk.lvL0 : Lv := { id := 0, slots := [0, 5, 6, 7], ms := [{ k := (.sl (.st 70)), fl := [none] }, { k := (.sl (.st 70)), fl := [none] }, { k := (.int .i64) }, { k := (.int .i64) }] }
noncomputable def impl_StoreOk.A : Ann := { dp := fun d => isIn [] d, lp := look [(0, impl_StoreOk.lvL0)], jn := look [], pins := [], nt := 48 }
noncomputable def impl_StoreOk.phis (N : Nat) : List (Nat × Sm D) := [(50, impl_PlaceOk.sm N), (51, impl_valsOk.sm N), (52, impl_placeCmp.sm N)]
noncomputable def impl_StoreOk.a0 (N : Nat) (n : Nat) (y : (List (ImplCell)) × (List (ImplCell)) × Int × Int × Unit) : Option (Bool × Unit) := loopAt cx (look (impl_StoreOk.phis N)) impl_StoreOk.A N n (encL cx impl_StoreOk.lvL0.ms y).1 (encL cx impl_StoreOk.lvL0.ms y).2 (bodyOf Tryd.f19) 0 (Kfin cx impl_StoreOk.A impl_StoreOk.sg Tryd.f19.results.toList) [1, 0, 1, 1] []
theorem impl_StoreOk.r0 (N : Nat) : ∀ (n : Nat) (y : (List (ImplCell)) × (List (ImplCell)) × Int × Int × Unit), impl_StoreOk.a0 N n y = impl_StoreOk.L0 N n y
  | 0, y => by kernel_rfl
  | n + 1, y => by
    have h : impl_StoreOk.a0 N (n + 1) y = impl_StoreOk.B0 N (fun z => impl_StoreOk.a0 N n z) y := by kernel_rfl
    have e : (fun z => impl_StoreOk.a0 N n z) = impl_StoreOk.L0 N n := funext fun z => impl_StoreOk.r0 N n z
    rw [h]
    try rw [e]
    first | done | rfl
theorem impl_StoreOk.run (N : Nat) (x : (List (ImplCell)) × Unit) : runF cx (look (impl_StoreOk.phis N)) impl_StoreOk.A N (bodyOf Tryd.f19) Tryd.f19.results.toList impl_StoreOk.sg x = impl_StoreOk N x.1 := by
  have h : runF cx (look (impl_StoreOk.phis N)) impl_StoreOk.A N (bodyOf Tryd.f19) Tryd.f19.results.toList impl_StoreOk.sg x = impl_StoreOk.B N (fun z => impl_StoreOk.a0 N N z) x.1 := by kernel_rfl
  have e0 : (fun z => impl_StoreOk.a0 N N z) = impl_StoreOk.L0 N N := funext fun z => impl_StoreOk.r0 N N z
  rw [h, e0]
  try rfl
noncomputable def impl_StoreOk.sm (N : Nat) : Sm D := (⟨impl_StoreOk.sg, fun (x : (List (ImplCell)) × Unit) => impl_StoreOk N x.1⟩ : Sm D)
theorem impl_StoreOk.sound (N : Nat) : Sound cx Tryd.prog gam 19 (impl_StoreOk.sm N) := fn_sound (A := impl_StoreOk.A) (Φ := (look (impl_StoreOk.phis N))) pok (G := gam) (ΦOk.cons (impl_PlaceOk.sound N) (fnOk_of (f := 50) (by kernel_rfl)) (ΦOk.cons (impl_valsOk.sound N) (fnOk_of (f := 51) (by kernel_rfl)) (ΦOk.cons (impl_placeCmp.sound N) (fnOk_of (f := 52) (by kernel_rfl)) ΦOk.nil))) mixed N Tryd.func19 (c := (bodyOf Tryd.f19)) (by kernel_rfl) impl_StoreOk.sg (by kernel_rfl) (by kernel_rfl) (by kernel_rfl) (impl_StoreOk.run N)

@[reducible] def impl_formFits.sg : Sg := { ms := [{ k := (.sl (.st 81)), fl := [none] }, { k := (.int .i64) }, { k := (.int .i64) }, { k := (.int .i64) }], keep := [false, false, false, false], rs := [{ k := .bool }] }
@[reducible] def impl_formFits.lvJ27 : Lv := { id := 27, slots := [0, 1, 2, 3, 9, 12, 13, 14, 15, 16], ms := [{ k := (.sl (.st 81)), fl := [none] }, { k := (.int .i64) }, { k := (.int .i64) }, { k := (.int .i64) }, { k := (.int .i64) }, { k := (.int .i64) }, { k := .bool }, { k := (.sl (.st 81)), fl := [none] }, { k := (.int .i64) }, { k := (.int .i64) }] }
@[reducible] def impl_formFits.lvL0 : Lv := { id := 0, slots := [0, 1, 2, 3, 9, 14, 15, 16], ms := [{ k := (.sl (.st 81)), fl := [none] }, { k := (.int .i64) }, { k := (.int .i64) }, { k := (.int .i64) }, { k := (.int .i64) }, { k := (.sl (.st 81)), fl := [none] }, { k := (.int .i64) }, { k := (.int .i64) }] }
noncomputable def impl_formFits.A : Ann := { dp := fun d => isIn [] d, lp := look [(0, impl_formFits.lvL0)], jn := look [(27, impl_formFits.lvJ27)], pins := [], nt := 96 }
noncomputable def impl_formFits.phis (N : Nat) : List (Nat × Sm D) := [(31, impl_ValOk.sm N), (32, impl_within.sm N)]
noncomputable def impl_formFits.a0 (N : Nat) (n : Nat) (y : (List (ImplStep)) × Int × Int × Int × Int × (List (ImplStep)) × Int × Int × Unit) : Option (Bool × Unit) := loopAt cx (look (impl_formFits.phis N)) impl_formFits.A N n (encL cx impl_formFits.lvL0.ms y).1 (encL cx impl_formFits.lvL0.ms y).2 (bodyOf Tryd.f65) 0 (Kfin cx impl_formFits.A impl_formFits.sg Tryd.f65.results.toList) [1, 1, 0, 1, 1] []
theorem impl_formFits.r0 (N : Nat) : ∀ (n : Nat) (y : (List (ImplStep)) × Int × Int × Int × Int × (List (ImplStep)) × Int × Int × Unit), impl_formFits.a0 N n y = impl_formFits.L0 N n y
  | 0, y => by kernel_rfl
  | n + 1, y => by
    have h : impl_formFits.a0 N (n + 1) y = impl_formFits.B0 N (fun z => impl_formFits.a0 N n z) y := by kernel_rfl
    have e : (fun z => impl_formFits.a0 N n z) = impl_formFits.L0 N n := funext fun z => impl_formFits.r0 N n z
    rw [h]
    try rw [e]
    first | done | rfl
theorem impl_formFits.run (N : Nat) (x : (List (ImplStep)) × Int × Int × Int × Unit) : runF cx (look (impl_formFits.phis N)) impl_formFits.A N (bodyOf Tryd.f65) Tryd.f65.results.toList impl_formFits.sg x = impl_formFits N x.1 x.2.1 x.2.2.1 x.2.2.2.1 := by
  have h : runF cx (look (impl_formFits.phis N)) impl_formFits.A N (bodyOf Tryd.f65) Tryd.f65.results.toList impl_formFits.sg x = impl_formFits.B N (fun z => impl_formFits.a0 N N z) x.1 x.2.1 x.2.2.1 x.2.2.2.1 := by kernel_rfl
  have e0 : (fun z => impl_formFits.a0 N N z) = impl_formFits.L0 N N := funext fun z => impl_formFits.r0 N N z
  rw [h, e0]
  try rfl
noncomputable def impl_formFits.sm (N : Nat) : Sm D := (⟨impl_formFits.sg, fun (x : (List (ImplStep)) × Int × Int × Int × Unit) => impl_formFits N x.1 x.2.1 x.2.2.1 x.2.2.2.1⟩ : Sm D)
theorem impl_formFits.sound (N : Nat) : Sound cx Tryd.prog gam 65 (impl_formFits.sm N) := fn_sound (A := impl_formFits.A) (Φ := (look (impl_formFits.phis N))) pok (G := gam) (ΦOk.cons (impl_ValOk.sound N) (fnOk_of (f := 31) (by kernel_rfl)) (ΦOk.cons (impl_within.sound N) (fnOk_of (f := 32) (by kernel_rfl)) ΦOk.nil)) mixed N Tryd.func65 (c := (bodyOf Tryd.f65)) (by kernel_rfl) impl_formFits.sg (by kernel_rfl) (by kernel_rfl) (by kernel_rfl) (impl_formFits.run N)

@[reducible] def impl_FormOk.sg : Sg := { ms := [{ k := (.sl (.st 81)), fl := [none] }, { k := (.int .i64) }, { k := (.int .i64) }, { k := (.int .i64) }], keep := [false, false, false, false], rs := [{ k := .bool }] }
noncomputable def impl_FormOk.A : Ann := { dp := fun d => isIn [] d, lp := look [], jn := look [], pins := [], nt := 26 }
noncomputable def impl_FormOk.phis (N : Nat) : List (Nat × Sm D) := [(32, impl_within.sm N), (65, impl_formFits.sm N)]
theorem impl_FormOk.run (N : Nat) (x : (List (ImplStep)) × Int × Int × Int × Unit) : runF cx (look (impl_FormOk.phis N)) impl_FormOk.A N (bodyOf Tryd.f27) Tryd.f27.results.toList impl_FormOk.sg x = impl_FormOk N x.1 x.2.1 x.2.2.1 x.2.2.2.1 := by
  have h : runF cx (look (impl_FormOk.phis N)) impl_FormOk.A N (bodyOf Tryd.f27) Tryd.f27.results.toList impl_FormOk.sg x = impl_FormOk.B N x.1 x.2.1 x.2.2.1 x.2.2.2.1 := by kernel_rfl
  rw [h]
  try rfl
noncomputable def impl_FormOk.sm (N : Nat) : Sm D := (⟨impl_FormOk.sg, fun (x : (List (ImplStep)) × Int × Int × Int × Unit) => impl_FormOk N x.1 x.2.1 x.2.2.1 x.2.2.2.1⟩ : Sm D)
theorem impl_FormOk.sound (N : Nat) : Sound cx Tryd.prog gam 27 (impl_FormOk.sm N) := fn_sound (A := impl_FormOk.A) (Φ := (look (impl_FormOk.phis N))) pok (G := gam) (ΦOk.cons (impl_within.sound N) (fnOk_of (f := 32) (by kernel_rfl)) (ΦOk.cons (impl_formFits.sound N) (fnOk_of (f := 65) (by kernel_rfl)) ΦOk.nil)) mixed N Tryd.func27 (c := (bodyOf Tryd.f27)) (by kernel_rfl) impl_FormOk.sg (by kernel_rfl) (by kernel_rfl) (by kernel_rfl) (impl_FormOk.run N)

@[reducible] def impl_UpdateOk.sg : Sg := { ms := [{ k := (.st 86) }], keep := [false], rs := [{ k := .bool }] }
noncomputable def impl_UpdateOk.A : Ann := { dp := fun d => isIn [] d, lp := look [], jn := look [], pins := [], nt := 21 }
noncomputable def impl_UpdateOk.phis (N : Nat) : List (Nat × Sm D) := [(50, impl_PlaceOk.sm N), (32, impl_within.sm N), (27, impl_FormOk.sm N)]
theorem impl_UpdateOk.run (N : Nat) (x : ImplUpdate × Unit) : runF cx (look (impl_UpdateOk.phis N)) impl_UpdateOk.A N (bodyOf Tryd.f77) Tryd.f77.results.toList impl_UpdateOk.sg x = impl_UpdateOk N x.1 := by
  have h : runF cx (look (impl_UpdateOk.phis N)) impl_UpdateOk.A N (bodyOf Tryd.f77) Tryd.f77.results.toList impl_UpdateOk.sg x = impl_UpdateOk.B N x.1 := by kernel_rfl
  rw [h]
  try rfl
noncomputable def impl_UpdateOk.sm (N : Nat) : Sm D := (⟨impl_UpdateOk.sg, fun (x : ImplUpdate × Unit) => impl_UpdateOk N x.1⟩ : Sm D)
theorem impl_UpdateOk.sound (N : Nat) : Sound cx Tryd.prog gam 77 (impl_UpdateOk.sm N) := fn_sound (A := impl_UpdateOk.A) (Φ := (look (impl_UpdateOk.phis N))) pok (G := gam) (ΦOk.cons (impl_PlaceOk.sound N) (fnOk_of (f := 50) (by kernel_rfl)) (ΦOk.cons (impl_within.sound N) (fnOk_of (f := 32) (by kernel_rfl)) (ΦOk.cons (impl_FormOk.sound N) (fnOk_of (f := 27) (by kernel_rfl)) ΦOk.nil))) mixed N Tryd.func77 (c := (bodyOf Tryd.f77)) (by kernel_rfl) impl_UpdateOk.sg (by kernel_rfl) (by kernel_rfl) (by kernel_rfl) (impl_UpdateOk.run N)

@[reducible] def impl_updatesOk.sg : Sg := { ms := [{ k := (.sl (.st 86)), fl := [none] }], keep := [false], rs := [{ k := .bool }] }
@[reducible] def impl_updatesOk.lvL0 : Lv := { id := 0, slots := [5, 6, 7], ms := [{ k := (.sl (.st 86)), fl := [none] }, { k := (.int .i64) }, { k := (.int .i64) }] }
noncomputable def impl_updatesOk.A : Ann := { dp := fun d => isIn [] d, lp := look [(0, impl_updatesOk.lvL0)], jn := look [], pins := [], nt := 15 }
noncomputable def impl_updatesOk.phis (N : Nat) : List (Nat × Sm D) := [(77, impl_UpdateOk.sm N)]
noncomputable def impl_updatesOk.a0 (N : Nat) (n : Nat) (y : (List (ImplUpdate)) × Int × Int × Unit) : Option (Bool × Unit) := loopAt cx (look (impl_updatesOk.phis N)) impl_updatesOk.A N n (encL cx impl_updatesOk.lvL0.ms y).1 (encL cx impl_updatesOk.lvL0.ms y).2 (bodyOf Tryd.f39) 0 (Kfin cx impl_updatesOk.A impl_updatesOk.sg Tryd.f39.results.toList) [1, 0, 1, 1] []
theorem impl_updatesOk.r0 (N : Nat) : ∀ (n : Nat) (y : (List (ImplUpdate)) × Int × Int × Unit), impl_updatesOk.a0 N n y = impl_updatesOk.L0 N n y
  | 0, y => by kernel_rfl
  | n + 1, y => by
    have h : impl_updatesOk.a0 N (n + 1) y = impl_updatesOk.B0 N (fun z => impl_updatesOk.a0 N n z) y := by kernel_rfl
    have e : (fun z => impl_updatesOk.a0 N n z) = impl_updatesOk.L0 N n := funext fun z => impl_updatesOk.r0 N n z
    rw [h]
    try rw [e]
    first | done | rfl
theorem impl_updatesOk.run (N : Nat) (x : (List (ImplUpdate)) × Unit) : runF cx (look (impl_updatesOk.phis N)) impl_updatesOk.A N (bodyOf Tryd.f39) Tryd.f39.results.toList impl_updatesOk.sg x = impl_updatesOk N x.1 := by
  have h : runF cx (look (impl_updatesOk.phis N)) impl_updatesOk.A N (bodyOf Tryd.f39) Tryd.f39.results.toList impl_updatesOk.sg x = impl_updatesOk.B N (fun z => impl_updatesOk.a0 N N z) x.1 := by kernel_rfl
  have e0 : (fun z => impl_updatesOk.a0 N N z) = impl_updatesOk.L0 N N := funext fun z => impl_updatesOk.r0 N N z
  rw [h, e0]
  try rfl
noncomputable def impl_updatesOk.sm (N : Nat) : Sm D := (⟨impl_updatesOk.sg, fun (x : (List (ImplUpdate)) × Unit) => impl_updatesOk N x.1⟩ : Sm D)
theorem impl_updatesOk.sound (N : Nat) : Sound cx Tryd.prog gam 39 (impl_updatesOk.sm N) := fn_sound (A := impl_updatesOk.A) (Φ := (look (impl_updatesOk.phis N))) pok (G := gam) (ΦOk.cons (impl_UpdateOk.sound N) (fnOk_of (f := 77) (by kernel_rfl)) ΦOk.nil) mixed N Tryd.func39 (c := (bodyOf Tryd.f39)) (by kernel_rfl) impl_updatesOk.sg (by kernel_rfl) (by kernel_rfl) (by kernel_rfl) (impl_updatesOk.run N)

@[reducible] def impl_LineOk.sg : Sg := { ms := [{ k := (.st 24) }], keep := [false], rs := [{ k := .bool }] }
noncomputable def impl_LineOk.A : Ann := { dp := fun d => isIn [] d, lp := look [], jn := look [], pins := [], nt := 17 }
noncomputable def impl_LineOk.phis (N : Nat) : List (Nat × Sm D) := [(19, impl_StoreOk.sm N), (39, impl_updatesOk.sm N)]
theorem impl_LineOk.run (N : Nat) (x : ImplLine × Unit) : runF cx (look (impl_LineOk.phis N)) impl_LineOk.A N (bodyOf Tryd.f11) Tryd.f11.results.toList impl_LineOk.sg x = impl_LineOk N x.1 := by
  have h : runF cx (look (impl_LineOk.phis N)) impl_LineOk.A N (bodyOf Tryd.f11) Tryd.f11.results.toList impl_LineOk.sg x = impl_LineOk.B N x.1 := by kernel_rfl
  rw [h]
  try rfl
noncomputable def impl_LineOk.sm (N : Nat) : Sm D := (⟨impl_LineOk.sg, fun (x : ImplLine × Unit) => impl_LineOk N x.1⟩ : Sm D)
theorem impl_LineOk.sound (N : Nat) : Sound cx Tryd.prog gam 11 (impl_LineOk.sm N) := fn_sound (A := impl_LineOk.A) (Φ := (look (impl_LineOk.phis N))) pok (G := gam) (ΦOk.cons (impl_StoreOk.sound N) (fnOk_of (f := 19) (by kernel_rfl)) (ΦOk.cons (impl_updatesOk.sound N) (fnOk_of (f := 39) (by kernel_rfl)) ΦOk.nil)) mixed N Tryd.func11 (c := (bodyOf Tryd.f11)) (by kernel_rfl) impl_LineOk.sg (by kernel_rfl) (by kernel_rfl) (by kernel_rfl) (impl_LineOk.run N)

@[reducible] def impl_placeCopy.sg : Sg := { ms := [{ k := (.sl (.st 102)), fl := [none] }], keep := [false], rs := [{ k := (.sl (.st 102)), fl := [some (false, 411)] }] }
noncomputable def impl_placeCopy.A : Ann := { dp := fun d => isIn [] d, lp := look [], jn := look [], pins := [], nt := 5 }
noncomputable def impl_placeCopy.phis (N : Nat) : List (Nat × Sm D) := []
theorem impl_placeCopy.run (N : Nat) (x : (List (ImplSlot)) × Unit) : runF cx (look (impl_placeCopy.phis N)) impl_placeCopy.A N (bodyOf Tryd.f106) Tryd.f106.results.toList impl_placeCopy.sg x = impl_placeCopy N x.1 := by
  have h : runF cx (look (impl_placeCopy.phis N)) impl_placeCopy.A N (bodyOf Tryd.f106) Tryd.f106.results.toList impl_placeCopy.sg x = impl_placeCopy.B N x.1 := by kernel_rfl
  rw [h]
  try rfl
noncomputable def impl_placeCopy.sm (N : Nat) : Sm D := (⟨impl_placeCopy.sg, fun (x : (List (ImplSlot)) × Unit) => impl_placeCopy N x.1⟩ : Sm D)
theorem impl_placeCopy.sound (N : Nat) : Sound cx Tryd.prog gam 106 (impl_placeCopy.sm N) := fn_sound (A := impl_placeCopy.A) (Φ := (look (impl_placeCopy.phis N))) pok (G := gam) ΦOk.nil mixed N Tryd.func106 (c := (bodyOf Tryd.f106)) (by kernel_rfl) impl_placeCopy.sg (by kernel_rfl) (by kernel_rfl) (by kernel_rfl) (impl_placeCopy.run N)

@[reducible] def impl_valsCopy.sg : Sg := { ms := [{ k := (.sl (.st 47)), fl := [none] }], keep := [false], rs := [{ k := (.sl (.st 47)), fl := [some (false, 411)] }] }
noncomputable def impl_valsCopy.A : Ann := { dp := fun d => isIn [] d, lp := look [], jn := look [], pins := [], nt := 5 }
noncomputable def impl_valsCopy.phis (N : Nat) : List (Nat × Sm D) := []
theorem impl_valsCopy.run (N : Nat) (x : (List (ImplValue)) × Unit) : runF cx (look (impl_valsCopy.phis N)) impl_valsCopy.A N (bodyOf Tryd.f131) Tryd.f131.results.toList impl_valsCopy.sg x = impl_valsCopy N x.1 := by
  have h : runF cx (look (impl_valsCopy.phis N)) impl_valsCopy.A N (bodyOf Tryd.f131) Tryd.f131.results.toList impl_valsCopy.sg x = impl_valsCopy.B N x.1 := by kernel_rfl
  rw [h]
  try rfl
noncomputable def impl_valsCopy.sm (N : Nat) : Sm D := (⟨impl_valsCopy.sg, fun (x : (List (ImplValue)) × Unit) => impl_valsCopy N x.1⟩ : Sm D)
theorem impl_valsCopy.sound (N : Nat) : Sound cx Tryd.prog gam 131 (impl_valsCopy.sm N) := fn_sound (A := impl_valsCopy.A) (Φ := (look (impl_valsCopy.phis N))) pok (G := gam) ΦOk.nil mixed N Tryd.func131 (c := (bodyOf Tryd.f131)) (by kernel_rfl) impl_valsCopy.sg (by kernel_rfl) (by kernel_rfl) (by kernel_rfl) (impl_valsCopy.run N)

@[reducible] def impl_cellCopy.sg : Sg := { ms := [{ k := (.st 70) }], keep := [false], rs := [{ k := (.st 70), fl := [some (false, 411), some (false, 412)] }] }
noncomputable def impl_cellCopy.A : Ann := { dp := fun d => isIn [] d, lp := look [], jn := look [], pins := [], nt := 10 }
noncomputable def impl_cellCopy.phis (N : Nat) : List (Nat × Sm D) := [(106, impl_placeCopy.sm N), (131, impl_valsCopy.sm N)]
theorem impl_cellCopy.run (N : Nat) (x : ImplCell × Unit) : runF cx (look (impl_cellCopy.phis N)) impl_cellCopy.A N (bodyOf Tryd.f103) Tryd.f103.results.toList impl_cellCopy.sg x = impl_cellCopy N x.1 := by
  have h : runF cx (look (impl_cellCopy.phis N)) impl_cellCopy.A N (bodyOf Tryd.f103) Tryd.f103.results.toList impl_cellCopy.sg x = impl_cellCopy.B N x.1 := by kernel_rfl
  rw [h]
  try rfl
noncomputable def impl_cellCopy.sm (N : Nat) : Sm D := (⟨impl_cellCopy.sg, fun (x : ImplCell × Unit) => impl_cellCopy N x.1⟩ : Sm D)
theorem impl_cellCopy.sound (N : Nat) : Sound cx Tryd.prog gam 103 (impl_cellCopy.sm N) := fn_sound (A := impl_cellCopy.A) (Φ := (look (impl_cellCopy.phis N))) pok (G := gam) (ΦOk.cons (impl_placeCopy.sound N) (fnOk_of (f := 106) (by kernel_rfl)) (ΦOk.cons (impl_valsCopy.sound N) (fnOk_of (f := 131) (by kernel_rfl)) ΦOk.nil)) mixed N Tryd.func103 (c := (bodyOf Tryd.f103)) (by kernel_rfl) impl_cellCopy.sg (by kernel_rfl) (by kernel_rfl) (by kernel_rfl) (impl_cellCopy.run N)

@[reducible] def impl_storeCopy.sg : Sg := { ms := [{ k := (.sl (.st 70)), fl := [none] }], keep := [false], rs := [{ k := (.sl (.st 70)), fl := [some (true, 411)] }] }
@[reducible] def impl_storeCopy.lvL0 : Lv := { id := 0, slots := [3, 6, 7, 8], ms := [{ k := (.sl (.st 70)), fl := [some (true, 600)] }, { k := (.sl (.st 70)), fl := [none] }, { k := (.int .i64) }, { k := (.int .i64) }] }
noncomputable def impl_storeCopy.A : Ann := { dp := fun _ => true, lp := look [(0, impl_storeCopy.lvL0)], jn := look [], pins := [], nt := 19 }
noncomputable def impl_storeCopy.phis (N : Nat) : List (Nat × Sm D) := [(103, impl_cellCopy.sm N)]
noncomputable def impl_storeCopy.a0 (N : Nat) (n : Nat) (y : (List (ImplCell)) × (List (ImplCell)) × Int × Int × Unit) : Option ((List (ImplCell)) × Unit) := loopAt cx (look (impl_storeCopy.phis N)) impl_storeCopy.A N n (encL cx impl_storeCopy.lvL0.ms y).1 (encL cx impl_storeCopy.lvL0.ms y).2 (bodyOf Tryd.f70) 0 (Kfin cx impl_storeCopy.A impl_storeCopy.sg Tryd.f70.results.toList) [1, 1, 0, 1, 1] []
theorem impl_storeCopy.r0 (N : Nat) : ∀ (n : Nat) (y : (List (ImplCell)) × (List (ImplCell)) × Int × Int × Unit), impl_storeCopy.a0 N n y = impl_storeCopy.L0 N n y
  | 0, y => by kernel_rfl
  | n + 1, y => by
    have h : impl_storeCopy.a0 N (n + 1) y = impl_storeCopy.B0 N (fun z => impl_storeCopy.a0 N n z) y := by kernel_rfl
    have e : (fun z => impl_storeCopy.a0 N n z) = impl_storeCopy.L0 N n := funext fun z => impl_storeCopy.r0 N n z
    rw [h]
    try rw [e]
    first | done | rfl
theorem impl_storeCopy.run (N : Nat) (x : (List (ImplCell)) × Unit) : runF cx (look (impl_storeCopy.phis N)) impl_storeCopy.A N (bodyOf Tryd.f70) Tryd.f70.results.toList impl_storeCopy.sg x = impl_storeCopy N x.1 := by
  have h : runF cx (look (impl_storeCopy.phis N)) impl_storeCopy.A N (bodyOf Tryd.f70) Tryd.f70.results.toList impl_storeCopy.sg x = impl_storeCopy.B N (fun z => impl_storeCopy.a0 N N z) x.1 := by kernel_rfl
  have e0 : (fun z => impl_storeCopy.a0 N N z) = impl_storeCopy.L0 N N := funext fun z => impl_storeCopy.r0 N N z
  rw [h, e0]
  try rfl
noncomputable def impl_storeCopy.sm (N : Nat) : Sm D := (⟨impl_storeCopy.sg, fun (x : (List (ImplCell)) × Unit) => impl_storeCopy N x.1⟩ : Sm D)
theorem impl_storeCopy.sound (N : Nat) : Sound cx Tryd.prog gam 70 (impl_storeCopy.sm N) := fn_sound (A := impl_storeCopy.A) (Φ := (look (impl_storeCopy.phis N))) pok (G := gam) (ΦOk.cons (impl_cellCopy.sound N) (fnOk_of (f := 103) (by kernel_rfl)) ΦOk.nil) mixed N Tryd.func70 (c := (bodyOf Tryd.f70)) (by kernel_rfl) impl_storeCopy.sg (by kernel_rfl) (by kernel_rfl) (by kernel_rfl) (impl_storeCopy.run N)

@[reducible] def impl_lineShown.sg : Sg := { ms := [{ k := (.st 86) }, { k := (.int .i64) }], keep := [false, false], rs := [{ k := .bool }] }
noncomputable def impl_lineShown.A : Ann := { dp := fun d => isIn [] d, lp := look [], jn := look [], pins := [], nt := 16 }
noncomputable def impl_lineShown.phis (N : Nat) : List (Nat × Sm D) := []
theorem impl_lineShown.run (N : Nat) (x : ImplUpdate × Int × Unit) : runF cx (look (impl_lineShown.phis N)) impl_lineShown.A N (bodyOf Tryd.f71) Tryd.f71.results.toList impl_lineShown.sg x = impl_lineShown N x.1 x.2.1 := by
  have h : runF cx (look (impl_lineShown.phis N)) impl_lineShown.A N (bodyOf Tryd.f71) Tryd.f71.results.toList impl_lineShown.sg x = impl_lineShown.B N x.1 x.2.1 := by kernel_rfl
  rw [h]
  try rfl
noncomputable def impl_lineShown.sm (N : Nat) : Sm D := (⟨impl_lineShown.sg, fun (x : ImplUpdate × Int × Unit) => impl_lineShown N x.1 x.2.1⟩ : Sm D)
theorem impl_lineShown.sound (N : Nat) : Sound cx Tryd.prog gam 71 (impl_lineShown.sm N) := fn_sound (A := impl_lineShown.A) (Φ := (look (impl_lineShown.phis N))) pok (G := gam) ΦOk.nil mixed N Tryd.func71 (c := (bodyOf Tryd.f71)) (by kernel_rfl) impl_lineShown.sg (by kernel_rfl) (by kernel_rfl) (by kernel_rfl) (impl_lineShown.run N)

@[reducible] def impl_storeFind.sg : Sg := { ms := [{ k := (.sl (.st 70)), fl := [none] }, { k := (.sl (.st 102)), fl := [none] }], keep := [false, false], rs := [{ k := (.int .i64) }] }
@[reducible] def impl_storeFind.lvL0 : Lv := { id := 0, slots := [1, 7, 8, 9], ms := [{ k := (.sl (.st 102)), fl := [none] }, { k := (.sl (.st 70)), fl := [none] }, { k := (.int .i64) }, { k := (.int .i64) }] }
noncomputable def impl_storeFind.A : Ann := { dp := fun d => isIn [] d, lp := look [(0, impl_storeFind.lvL0)], jn := look [], pins := [], nt := 21 }
noncomputable def impl_storeFind.phis (N : Nat) : List (Nat × Sm D) := [(52, impl_placeCmp.sm N)]
noncomputable def impl_storeFind.a0 (N : Nat) (n : Nat) (y : (List (ImplSlot)) × (List (ImplCell)) × Int × Int × Unit) : Option (Int × Unit) := loopAt cx (look (impl_storeFind.phis N)) impl_storeFind.A N n (encL cx impl_storeFind.lvL0.ms y).1 (encL cx impl_storeFind.lvL0.ms y).2 (bodyOf Tryd.f79) 0 (Kfin cx impl_storeFind.A impl_storeFind.sg Tryd.f79.results.toList) [1, 0, 1, 1] []
theorem impl_storeFind.r0 (N : Nat) : ∀ (n : Nat) (y : (List (ImplSlot)) × (List (ImplCell)) × Int × Int × Unit), impl_storeFind.a0 N n y = impl_storeFind.L0 N n y
  | 0, y => by kernel_rfl
  | n + 1, y => by
    have h : impl_storeFind.a0 N (n + 1) y = impl_storeFind.B0 N (fun z => impl_storeFind.a0 N n z) y := by kernel_rfl
    have e : (fun z => impl_storeFind.a0 N n z) = impl_storeFind.L0 N n := funext fun z => impl_storeFind.r0 N n z
    rw [h]
    try rw [e]
    first | done | rfl
theorem impl_storeFind.run (N : Nat) (x : (List (ImplCell)) × (List (ImplSlot)) × Unit) : runF cx (look (impl_storeFind.phis N)) impl_storeFind.A N (bodyOf Tryd.f79) Tryd.f79.results.toList impl_storeFind.sg x = impl_storeFind N x.1 x.2.1 := by
  have h : runF cx (look (impl_storeFind.phis N)) impl_storeFind.A N (bodyOf Tryd.f79) Tryd.f79.results.toList impl_storeFind.sg x = impl_storeFind.B N (fun z => impl_storeFind.a0 N N z) x.1 x.2.1 := by kernel_rfl
  have e0 : (fun z => impl_storeFind.a0 N N z) = impl_storeFind.L0 N N := funext fun z => impl_storeFind.r0 N N z
  rw [h, e0]
  try rfl
noncomputable def impl_storeFind.sm (N : Nat) : Sm D := (⟨impl_storeFind.sg, fun (x : (List (ImplCell)) × (List (ImplSlot)) × Unit) => impl_storeFind N x.1 x.2.1⟩ : Sm D)
theorem impl_storeFind.sound (N : Nat) : Sound cx Tryd.prog gam 79 (impl_storeFind.sm N) := fn_sound (A := impl_storeFind.A) (Φ := (look (impl_storeFind.phis N))) pok (G := gam) (ΦOk.cons (impl_placeCmp.sound N) (fnOk_of (f := 52) (by kernel_rfl)) ΦOk.nil) mixed N Tryd.func79 (c := (bodyOf Tryd.f79)) (by kernel_rfl) impl_storeFind.sg (by kernel_rfl) (by kernel_rfl) (by kernel_rfl) (impl_storeFind.run N)

@[reducible] def impl_updateAt.sg : Sg := { ms := [{ k := (.sl (.st 70)), fl := [none] }, { k := (.st 86) }], keep := [false, false], rs := [{ k := (.int .i64) }] }
noncomputable def impl_updateAt.A : Ann := { dp := fun d => isIn [] d, lp := look [], jn := look [], pins := [], nt := 36 }
noncomputable def impl_updateAt.phis (N : Nat) : List (Nat × Sm D) := [(79, impl_storeFind.sm N), (65, impl_formFits.sm N)]
theorem impl_updateAt.run (N : Nat) (x : (List (ImplCell)) × ImplUpdate × Unit) : runF cx (look (impl_updateAt.phis N)) impl_updateAt.A N (bodyOf Tryd.f104) Tryd.f104.results.toList impl_updateAt.sg x = impl_updateAt N x.1 x.2.1 := by
  have h : runF cx (look (impl_updateAt.phis N)) impl_updateAt.A N (bodyOf Tryd.f104) Tryd.f104.results.toList impl_updateAt.sg x = impl_updateAt.B N x.1 x.2.1 := by kernel_rfl
  rw [h]
  try rfl
noncomputable def impl_updateAt.sm (N : Nat) : Sm D := (⟨impl_updateAt.sg, fun (x : (List (ImplCell)) × ImplUpdate × Unit) => impl_updateAt N x.1 x.2.1⟩ : Sm D)
theorem impl_updateAt.sound (N : Nat) : Sound cx Tryd.prog gam 104 (impl_updateAt.sm N) := fn_sound (A := impl_updateAt.A) (Φ := (look (impl_updateAt.phis N))) pok (G := gam) (ΦOk.cons (impl_storeFind.sound N) (fnOk_of (f := 79) (by kernel_rfl)) (ΦOk.cons (impl_formFits.sound N) (fnOk_of (f := 65) (by kernel_rfl)) ΦOk.nil)) mixed N Tryd.func104 (c := (bodyOf Tryd.f104)) (by kernel_rfl) impl_updateAt.sg (by kernel_rfl) (by kernel_rfl) (by kernel_rfl) (impl_updateAt.run N)

@[reducible] def impl_number.sg : Sg := { ms := [{ k := (.int .i64) }], keep := [false], rs := [{ k := (.st 47) }] }
noncomputable def impl_number.A : Ann := { dp := fun d => isIn [] d, lp := look [], jn := look [], pins := [], nt := 5 }
noncomputable def impl_number.phis (N : Nat) : List (Nat × Sm D) := []
theorem impl_number.run (N : Nat) (x : Int × Unit) : runF cx (look (impl_number.phis N)) impl_number.A N (bodyOf Tryd.f92) Tryd.f92.results.toList impl_number.sg x = impl_number N x.1 := by
  have h : runF cx (look (impl_number.phis N)) impl_number.A N (bodyOf Tryd.f92) Tryd.f92.results.toList impl_number.sg x = impl_number.B N x.1 := by kernel_rfl
  rw [h]
  try rfl
noncomputable def impl_number.sm (N : Nat) : Sm D := (⟨impl_number.sg, fun (x : Int × Unit) => impl_number N x.1⟩ : Sm D)
theorem impl_number.sound (N : Nat) : Sound cx Tryd.prog gam 92 (impl_number.sm N) := fn_sound (A := impl_number.A) (Φ := (look (impl_number.phis N))) pok (G := gam) ΦOk.nil mixed N Tryd.func92 (c := (bodyOf Tryd.f92)) (by kernel_rfl) impl_number.sg (by kernel_rfl) (by kernel_rfl) (by kernel_rfl) (impl_number.run N)

@[reducible] def impl_truth.sg : Sg := { ms := [{ k := .bool }], keep := [false], rs := [{ k := (.st 47) }] }
noncomputable def impl_truth.A : Ann := { dp := fun d => isIn [] d, lp := look [], jn := look [], pins := [], nt := 6 }
noncomputable def impl_truth.phis (N : Nat) : List (Nat × Sm D) := [(92, impl_number.sm N)]
theorem impl_truth.run (N : Nat) (x : Bool × Unit) : runF cx (look (impl_truth.phis N)) impl_truth.A N (bodyOf Tryd.f114) Tryd.f114.results.toList impl_truth.sg x = impl_truth N x.1 := by
  have h : runF cx (look (impl_truth.phis N)) impl_truth.A N (bodyOf Tryd.f114) Tryd.f114.results.toList impl_truth.sg x = impl_truth.B N x.1 := by kernel_rfl
  rw [h]
  try rfl
noncomputable def impl_truth.sm (N : Nat) : Sm D := (⟨impl_truth.sg, fun (x : Bool × Unit) => impl_truth N x.1⟩ : Sm D)
theorem impl_truth.sound (N : Nat) : Sound cx Tryd.prog gam 114 (impl_truth.sm N) := fn_sound (A := impl_truth.A) (Φ := (look (impl_truth.phis N))) pok (G := gam) (ΦOk.cons (impl_number.sound N) (fnOk_of (f := 92) (by kernel_rfl)) ΦOk.nil) mixed N Tryd.func114 (c := (bodyOf Tryd.f114)) (by kernel_rfl) impl_truth.sg (by kernel_rfl) (by kernel_rfl) (by kernel_rfl) (impl_truth.run N)

@[reducible] def impl_ValShow.sg : Sg := { ms := [{ k := (.st 47) }], keep := [false], rs := [{ k := .str }] }
noncomputable def impl_ValShow.A : Ann := { dp := fun d => isIn [] d, lp := look [], jn := look [], pins := [], nt := 19 }
noncomputable def impl_ValShow.phis (N : Nat) : List (Nat × Sm D) := [(31, impl_ValOk.sm N), (134, LibItoa.sm N)]
theorem impl_ValShow.run (N : Nat) (x : ImplValue × Unit) : runF cx (look (impl_ValShow.phis N)) impl_ValShow.A N (bodyOf Tryd.f115) Tryd.f115.results.toList impl_ValShow.sg x = impl_ValShow N x.1 := by
  have h : runF cx (look (impl_ValShow.phis N)) impl_ValShow.A N (bodyOf Tryd.f115) Tryd.f115.results.toList impl_ValShow.sg x = impl_ValShow.B N x.1 := by kernel_rfl
  rw [h]
  try rfl
noncomputable def impl_ValShow.sm (N : Nat) : Sm D := (⟨impl_ValShow.sg, fun (x : ImplValue × Unit) => impl_ValShow N x.1⟩ : Sm D)
theorem impl_ValShow.sound (N : Nat) : Sound cx Tryd.prog gam 115 (impl_ValShow.sm N) := fn_sound (A := impl_ValShow.A) (Φ := (look (impl_ValShow.phis N))) pok (G := gam) (ΦOk.cons (impl_ValOk.sound N) (fnOk_of (f := 31) (by kernel_rfl)) (ΦOk.cons (LibItoa.sound N) (fnOk_of (f := 134) (by kernel_rfl)) ΦOk.nil)) mixed N Tryd.func115 (c := (bodyOf Tryd.f115)) (by kernel_rfl) impl_ValShow.sg (by kernel_rfl) (by kernel_rfl) (by kernel_rfl) (impl_ValShow.run N)

@[reducible] def impl_ValTrue.sg : Sg := { ms := [{ k := (.st 47) }], keep := [false], rs := [{ k := .bool }] }
noncomputable def impl_ValTrue.A : Ann := { dp := fun d => isIn [] d, lp := look [], jn := look [], pins := [], nt := 25 }
noncomputable def impl_ValTrue.phis (N : Nat) : List (Nat × Sm D) := [(31, impl_ValOk.sm N)]
theorem impl_ValTrue.run (N : Nat) (x : ImplValue × Unit) : runF cx (look (impl_ValTrue.phis N)) impl_ValTrue.A N (bodyOf Tryd.f94) Tryd.f94.results.toList impl_ValTrue.sg x = impl_ValTrue N x.1 := by
  have h : runF cx (look (impl_ValTrue.phis N)) impl_ValTrue.A N (bodyOf Tryd.f94) Tryd.f94.results.toList impl_ValTrue.sg x = impl_ValTrue.B N x.1 := by kernel_rfl
  rw [h]
  try rfl
noncomputable def impl_ValTrue.sm (N : Nat) : Sm D := (⟨impl_ValTrue.sg, fun (x : ImplValue × Unit) => impl_ValTrue N x.1⟩ : Sm D)
theorem impl_ValTrue.sound (N : Nat) : Sound cx Tryd.prog gam 94 (impl_ValTrue.sm N) := fn_sound (A := impl_ValTrue.A) (Φ := (look (impl_ValTrue.phis N))) pok (G := gam) (ΦOk.cons (impl_ValOk.sound N) (fnOk_of (f := 31) (by kernel_rfl)) ΦOk.nil) mixed N Tryd.func94 (c := (bodyOf Tryd.f94)) (by kernel_rfl) impl_ValTrue.sg (by kernel_rfl) (by kernel_rfl) (by kernel_rfl) (impl_ValTrue.run N)

@[reducible] def impl_ValDo.sg : Sg := { ms := [{ k := (.int .i64) }, { k := (.st 47) }, { k := (.st 47) }], keep := [false, false, false], rs := [{ k := (.st 47) }] }
@[reducible] def impl_ValDo.lvJ19 : Lv := { id := 19, slots := [6, 7], ms := [{ ptr := true, id := 600, t := 48, k := (.st 47), fl := [none, none, none] }, { k := (.int .i64) }] }
noncomputable def impl_ValDo.A : Ann := { dp := fun d => isIn [] d, lp := look [], jn := look [(19, impl_ValDo.lvJ19)], pins := [], nt := 93 }
noncomputable def impl_ValDo.phis (N : Nat) : List (Nat × Sm D) := [(31, impl_ValOk.sm N), (114, impl_truth.sm N), (32, impl_within.sm N), (92, impl_number.sm N), (115, impl_ValShow.sm N), (94, impl_ValTrue.sm N)]
theorem impl_ValDo.run (N : Nat) (x : Int × ImplValue × ImplValue × Unit) : runF cx (look (impl_ValDo.phis N)) impl_ValDo.A N (bodyOf Tryd.f93) Tryd.f93.results.toList impl_ValDo.sg x = impl_ValDo N x.1 x.2.1 x.2.2.1 := by
  have h : runF cx (look (impl_ValDo.phis N)) impl_ValDo.A N (bodyOf Tryd.f93) Tryd.f93.results.toList impl_ValDo.sg x = impl_ValDo.B N x.1 x.2.1 x.2.2.1 := by kernel_rfl
  rw [h]
  try rfl
noncomputable def impl_ValDo.sm (N : Nat) : Sm D := (⟨impl_ValDo.sg, fun (x : Int × ImplValue × ImplValue × Unit) => impl_ValDo N x.1 x.2.1 x.2.2.1⟩ : Sm D)
theorem impl_ValDo.sound (N : Nat) : Sound cx Tryd.prog gam 93 (impl_ValDo.sm N) := fn_sound (A := impl_ValDo.A) (Φ := (look (impl_ValDo.phis N))) pok (G := gam) (ΦOk.cons (impl_ValOk.sound N) (fnOk_of (f := 31) (by kernel_rfl)) (ΦOk.cons (impl_truth.sound N) (fnOk_of (f := 114) (by kernel_rfl)) (ΦOk.cons (impl_within.sound N) (fnOk_of (f := 32) (by kernel_rfl)) (ΦOk.cons (impl_number.sound N) (fnOk_of (f := 92) (by kernel_rfl)) (ΦOk.cons (impl_ValShow.sound N) (fnOk_of (f := 115) (by kernel_rfl)) (ΦOk.cons (impl_ValTrue.sound N) (fnOk_of (f := 94) (by kernel_rfl)) ΦOk.nil)))))) mixed N Tryd.func93 (c := (bodyOf Tryd.f93)) (by kernel_rfl) impl_ValDo.sg (by kernel_rfl) (by kernel_rfl) (by kernel_rfl) (impl_ValDo.run N)

end
end Go.Ev
