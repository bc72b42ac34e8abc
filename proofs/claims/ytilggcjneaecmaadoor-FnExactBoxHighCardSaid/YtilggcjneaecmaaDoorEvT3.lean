/- Each function that the law reaches does what its plain form says; no condition beyond the table of the library. -/
import Derived.Test.YtilggcjneaecmaaDoorEvT2
set_option linter.all false
set_option linter.unusedVariables false
set_option linter.unusedSimpArgs false
set_option maxRecDepth 100000
set_option maxHeartbeats 0
namespace Go.Ev
noncomputable section
open Go.Proofs
@[reducible] def impl_treeCount.sg : Sg := { ms := [{ k := (.st 32) }], keep := [false], rs := [{ k := (.int .i64) }] }
@[reducible] def impl_treeCount.lvL0 : Lv := { id := 0, slots := [3, 7, 8, 9], ms := [{ k := (.int .i64) }, { k := (.sl (.st 32)), fl := [none] }, { k := (.int .i64) }, { k := (.int .i64) }] }
noncomputable def impl_treeCount.A : Ann := { dp := fun d => isIn [] d, lp := look [(0, impl_treeCount.lvL0)], jn := look [], pins := [], nt := 19 }
noncomputable def impl_treeCount.phis (N : Nat) (d : Nat) : List (Nat × Sm D) := [(61, (⟨impl_treeCount.sg, fun (x : ImplTree × Unit) => impl_treeCount.R N d x.1⟩ : Sm D))]
noncomputable def impl_treeCount.a0 (N : Nat) (d : Nat) (n : Nat) (y : Int × (List (ImplTree)) × Int × Int × Unit) : Option (Int × Unit) := loopAt cx (look (impl_treeCount.phis N d)) impl_treeCount.A N n (encL cx impl_treeCount.lvL0.ms y).1 (encL cx impl_treeCount.lvL0.ms y).2 (bodyOf Tryd.f61) 0 (Kfin cx impl_treeCount.A impl_treeCount.sg Tryd.f61.results.toList) [1, 1, 0, 1, 1] []
theorem impl_treeCount.r0 (N : Nat) (d : Nat) : ∀ (n : Nat) (y : Int × (List (ImplTree)) × Int × Int × Unit), impl_treeCount.a0 N d n y = impl_treeCount.L0 N (impl_treeCount.R N d) n y
  | 0, y => by kernel_rfl
  | n + 1, y => by
    have h : impl_treeCount.a0 N d (n + 1) y = impl_treeCount.B0 N (impl_treeCount.R N d) (fun z => impl_treeCount.a0 N d n z) y := by kernel_rfl
    have e : (fun z => impl_treeCount.a0 N d n z) = impl_treeCount.L0 N (impl_treeCount.R N d) n := funext fun z => impl_treeCount.r0 N d n z
    rw [h]
    try rw [e]
    first | done | rfl
theorem impl_treeCount.run (N : Nat) (d : Nat) (x : ImplTree × Unit) : runF cx (look (impl_treeCount.phis N d)) impl_treeCount.A N (bodyOf Tryd.f61) Tryd.f61.results.toList impl_treeCount.sg x = impl_treeCount.R N (d + 1) x.1 := by
  have h : runF cx (look (impl_treeCount.phis N d)) impl_treeCount.A N (bodyOf Tryd.f61) Tryd.f61.results.toList impl_treeCount.sg x = impl_treeCount.B N (impl_treeCount.R N d) (fun z => impl_treeCount.a0 N d N z) x.1 := by kernel_rfl
  have e0 : (fun z => impl_treeCount.a0 N d N z) = impl_treeCount.L0 N (impl_treeCount.R N d) N := funext fun z => impl_treeCount.r0 N d N z
  rw [h, e0]
  try rfl
theorem impl_treeCount.step (N : Nat) (d : Nat) (h_impl_treeCount : Sound cx Tryd.prog gam 61 (⟨impl_treeCount.sg, fun (x : ImplTree × Unit) => impl_treeCount.R N d x.1⟩ : Sm D)) : Sound cx Tryd.prog gam 61 (⟨impl_treeCount.sg, fun (x : ImplTree × Unit) => impl_treeCount.R N (d + 1) x.1⟩ : Sm D) := fn_sound (A := impl_treeCount.A) (Φ := (look (impl_treeCount.phis N d))) pok (G := gam) (ΦOk.cons h_impl_treeCount (fnOk_of (f := 61) (by kernel_rfl)) ΦOk.nil) mixed N Tryd.func61 (c := (bodyOf Tryd.f61)) (by kernel_rfl) impl_treeCount.sg (by kernel_rfl) (by kernel_rfl) (by kernel_rfl) (impl_treeCount.run N d)

theorem impl_treeCount.scc (N : Nat) : ∀ d, Sound cx Tryd.prog gam 61 (⟨impl_treeCount.sg, fun (x : ImplTree × Unit) => impl_treeCount.R N d x.1⟩ : Sm D)
  | 0 => none_sound 61 impl_treeCount.sg
  | d + 1 => by
    have ih := impl_treeCount.scc N d
    exact impl_treeCount.step N d ih
noncomputable def impl_treeCount.sm (N : Nat) : Sm D := (⟨impl_treeCount.sg, fun (x : ImplTree × Unit) => impl_treeCount.R N N x.1⟩ : Sm D)
theorem impl_treeCount.sound (N : Nat) : Sound cx Tryd.prog gam 61 (impl_treeCount.sm N) := (impl_treeCount.scc N N)
@[reducible] def impl_boxer_lay.sg : Sg := { ms := [{ ptr := true, id := 10, t := 94, k := (.st 93), fl := [none, none, some (false, 13)] }, { k := (.st 32) }, { k := (.int .i64) }, { k := (.int .i64) }, { k := (.int .i64) }], keep := [true, false, false, false, false], rs := [{ k := (.st 50) }], hold := true }
@[reducible] def impl_boxer_lay.lvJ47 : Lv := { id := 47, slots := [0, 3, 10, 11, 12, 13, 15, 17, 20, 21, 22, 27, 28, 29, 203, 204, 205], ms := [{ ptr := true, id := 10, t := 94, k := (.st 93), fl := [none, none, some (false, 603)] }, { k := (.int .i64) }, { ptr := true, id := 640, t := 51, k := (.st 50), fl := [none, none, none, none] }, { k := (.sl (.int .i64)), fl := [none] }, { k := (.int .i64) }, { ptr := true, id := 700, t := 51, k := (.st 50), fl := [none, none, none, none] }, { k := (.int .i64) }, { k := (.int .i64) }, { k := (.int .i64) }, { k := (.sl (.int .i64)), fl := [some (false, 780)] }, { k := (.int .i64) }, { k := (.int .i64) }, { k := (.int .i64) }, { ptr := true, id := 860, t := 33, k := (.st 32), fl := [none, none, none, none, none] }, { k := (.sl (.st 32)), fl := [none] }, { k := (.int .i64) }, { k := (.int .i64) }] }
@[reducible] def impl_boxer_lay.lvJ37 : Lv := { id := 37, slots := [0, 2, 3, 6, 10, 11, 12, 13, 15, 17, 20, 21, 22, 23, 25, 154, 155, 156], ms := [{ ptr := true, id := 10, t := 94, k := (.st 93), fl := [none, none, some (false, 603)] }, { k := (.int .i64) }, { k := (.int .i64) }, { ptr := true, id := 660, t := 33, k := (.st 32), fl := [none, none, none, none, none] }, { ptr := true, id := 680, t := 51, k := (.st 50), fl := [none, none, none, none] }, { k := (.sl (.int .i64)), fl := [none] }, { k := (.int .i64) }, { ptr := true, id := 740, t := 51, k := (.st 50), fl := [none, none, none, none] }, { k := (.int .i64) }, { k := (.int .i64) }, { k := (.int .i64) }, { k := (.sl (.int .i64)), fl := [some (false, 820)] }, { k := (.int .i64) }, { k := (.int .i64) }, { ptr := true, id := 880, t := 33, k := (.st 32), fl := [none, none, none, none, none] }, { k := (.sl (.st 32)), fl := [none] }, { k := (.int .i64) }, { k := (.int .i64) }] }
@[reducible] def impl_boxer_lay.lvJ50 : Lv := { id := 50, slots := [0, 10, 11, 12, 13, 15, 17], ms := [{ ptr := true, id := 10, t := 94, k := (.st 93), fl := [none, none, some (false, 603)] }, { ptr := true, id := 620, t := 51, k := (.st 50), fl := [none, none, none, none] }, { k := (.sl (.int .i64)), fl := [none] }, { k := (.int .i64) }, { ptr := true, id := 680, t := 51, k := (.st 50), fl := [none, none, none, none] }, { k := (.int .i64) }, { k := (.int .i64) }] }
@[reducible] def impl_boxer_lay.lvJ15 : Lv := { id := 15, slots := [0, 2, 3, 6, 10, 11, 12, 13], ms := [{ ptr := true, id := 10, t := 94, k := (.st 93), fl := [none, none, some (false, 603)] }, { k := (.int .i64) }, { k := (.int .i64) }, { ptr := true, id := 660, t := 33, k := (.st 32), fl := [none, none, none, none, none] }, { ptr := true, id := 680, t := 51, k := (.st 50), fl := [none, none, none, none] }, { k := (.sl (.int .i64)), fl := [none] }, { k := (.int .i64) }, { ptr := true, id := 740, t := 51, k := (.st 50), fl := [none, none, none, none] }] }
@[reducible] def impl_boxer_lay.lvL4 : Lv := { id := 4, slots := [0, 3, 10, 11, 12, 13, 15, 17, 20, 21, 22, 27, 203, 204, 205], ms := [{ ptr := true, id := 10, t := 94, k := (.st 93), fl := [none, none, some (false, 603)] }, { k := (.int .i64) }, { ptr := true, id := 640, t := 51, k := (.st 50), fl := [none, none, none, none] }, { k := (.sl (.int .i64)), fl := [none] }, { k := (.int .i64) }, { ptr := true, id := 700, t := 51, k := (.st 50), fl := [none, none, none, none] }, { k := (.int .i64) }, { k := (.int .i64) }, { k := (.int .i64) }, { k := (.sl (.int .i64)), fl := [some (false, 780)] }, { k := (.int .i64) }, { k := (.int .i64) }, { k := (.sl (.st 32)), fl := [none] }, { k := (.int .i64) }, { k := (.int .i64) }] }
@[reducible] def impl_boxer_lay.lvJ10 : Lv := { id := 10, slots := [0, 10, 12, 13], ms := [{ ptr := true, id := 10, t := 94, k := (.st 93), fl := [none, none, some (false, 603)] }, { ptr := true, id := 620, t := 51, k := (.st 50), fl := [none, none, none, none] }, { k := (.int .i64) }, { ptr := true, id := 660, t := 51, k := (.st 50), fl := [none, none, none, none] }] }
@[reducible] def impl_boxer_lay.lvL2 : Lv := { id := 2, slots := [0, 2, 3, 6, 10, 11, 12, 13, 15, 17, 20, 21, 22, 23, 154, 155, 156], ms := [{ ptr := true, id := 10, t := 94, k := (.st 93), fl := [none, none, some (false, 603)] }, { k := (.int .i64) }, { k := (.int .i64) }, { ptr := true, id := 660, t := 33, k := (.st 32), fl := [none, none, none, none, none] }, { ptr := true, id := 680, t := 51, k := (.st 50), fl := [none, none, none, none] }, { k := (.sl (.int .i64)), fl := [none] }, { k := (.int .i64) }, { ptr := true, id := 740, t := 51, k := (.st 50), fl := [none, none, none, none] }, { k := (.int .i64) }, { k := (.int .i64) }, { k := (.int .i64) }, { k := (.sl (.int .i64)), fl := [some (false, 820)] }, { k := (.int .i64) }, { k := (.int .i64) }, { k := (.sl (.st 32)), fl := [none] }, { k := (.int .i64) }, { k := (.int .i64) }] }
@[reducible] def impl_boxer_lay.lvL0 : Lv := { id := 0, slots := [0, 2, 3, 10, 11, 12, 13, 15, 16, 17, 122, 123, 124], ms := [{ ptr := true, id := 10, t := 94, k := (.st 93), fl := [none, none, some (false, 603)] }, { k := (.int .i64) }, { k := (.int .i64) }, { ptr := true, id := 660, t := 51, k := (.st 50), fl := [none, none, none, none] }, { k := (.sl (.int .i64)), fl := [none] }, { k := (.int .i64) }, { ptr := true, id := 720, t := 51, k := (.st 50), fl := [none, none, none, none] }, { k := (.int .i64) }, { k := (.int .i64) }, { k := (.int .i64) }, { k := (.sl (.st 32)), fl := [none] }, { k := (.int .i64) }, { k := (.int .i64) }] }
@[reducible] def impl_boxer_lay.lvJ53 : Lv := { id := 53, slots := [0, 10, 12, 13], ms := [{ ptr := true, id := 10, t := 94, k := (.st 93), fl := [none, none, some (false, 603)] }, { ptr := true, id := 620, t := 51, k := (.st 50), fl := [none, none, none, none] }, { k := (.int .i64) }, { ptr := true, id := 660, t := 51, k := (.st 50), fl := [none, none, none, none] }] }
noncomputable def impl_boxer_lay.A : Ann := { dp := fun d => isIn [] d, lp := look [(4, impl_boxer_lay.lvL4), (2, impl_boxer_lay.lvL2), (0, impl_boxer_lay.lvL0)], jn := look [(47, impl_boxer_lay.lvJ47), (37, impl_boxer_lay.lvJ37), (50, impl_boxer_lay.lvJ50), (15, impl_boxer_lay.lvJ15), (10, impl_boxer_lay.lvJ10), (53, impl_boxer_lay.lvJ53)], pins := [10], nt := 274 }
noncomputable def impl_boxer_lay.phis (N : Nat) (d : Nat) : List (Nat × Sm D) := [(51, (⟨impl_boxer_lay.sg, fun (x : ImplBoxer × ImplTree × Int × Int × Int × Unit) => impl_boxer_lay.R N d x.1 x.2.1 x.2.2.1 x.2.2.2.1 x.2.2.2.2.1⟩ : Sm D)), (61, impl_treeCount.sm N)]
noncomputable def impl_boxer_lay.a0 (N : Nat) (d : Nat) (n : Nat) (y : ImplBoxer × Int × Int × ImplBox × (List (Int)) × Int × ImplBox × Int × Int × Int × (List (ImplTree)) × Int × Int × Unit) : Option (ImplBoxer × ImplBox × Unit) := loopAt cx (look (impl_boxer_lay.phis N d)) impl_boxer_lay.A N n (encL cx impl_boxer_lay.lvL0.ms y).1 (encL cx impl_boxer_lay.lvL0.ms y).2 (bodyOf Tryd.f51) 0 (Kfin cx impl_boxer_lay.A impl_boxer_lay.sg Tryd.f51.results.toList) [1, 1, 1, 1, 1, 1, 1, 1, 1, 1, 1, 1, 0, 1, 0, 1, 1] []
noncomputable def impl_boxer_lay.a4 (N : Nat) (d : Nat) (n : Nat) (y : ImplBoxer × Int × ImplBox × (List (Int)) × Int × ImplBox × Int × Int × Int × (List (Int)) × Int × Int × (List (ImplTree)) × Int × Int × Unit) : Option (ImplBoxer × ImplBox × Unit) := loopAt cx (look (impl_boxer_lay.phis N d)) impl_boxer_lay.A N n (encL cx impl_boxer_lay.lvL4.ms y).1 (encL cx impl_boxer_lay.lvL4.ms y).2 (bodyOf Tryd.f51) 0 (Kfin cx impl_boxer_lay.A impl_boxer_lay.sg Tryd.f51.results.toList) [1, 1, 1, 1, 1, 1, 1, 1, 1, 1, 1, 1, 0, 1, 1, 1, 1, 1, 1, 1, 1, 1, 1] []
noncomputable def impl_boxer_lay.a2 (N : Nat) (d : Nat) (n : Nat) (y : ImplBoxer × Int × Int × ImplTree × ImplBox × (List (Int)) × Int × ImplBox × Int × Int × Int × (List (Int)) × Int × Int × (List (ImplTree)) × Int × Int × Unit) : Option (ImplBoxer × ImplBox × Unit) := loopAt cx (look (impl_boxer_lay.phis N d)) impl_boxer_lay.A N n (encL cx impl_boxer_lay.lvL2.ms y).1 (encL cx impl_boxer_lay.lvL2.ms y).2 (bodyOf Tryd.f51) 0 (Kfin cx impl_boxer_lay.A impl_boxer_lay.sg Tryd.f51.results.toList) [1, 1, 1, 1, 1, 1, 1, 1, 1, 1, 1, 1, 0, 1, 1, 1, 1, 1, 1, 0, 1, 1] []
theorem impl_boxer_lay.r0 (N : Nat) (d : Nat) : ∀ (n : Nat) (y : ImplBoxer × Int × Int × ImplBox × (List (Int)) × Int × ImplBox × Int × Int × Int × (List (ImplTree)) × Int × Int × Unit), impl_boxer_lay.a0 N d n y = impl_boxer_lay.L0 N (impl_boxer_lay.R N d) n y
  | 0, y => by kernel_rfl
  | n + 1, y => by
    have h : impl_boxer_lay.a0 N d (n + 1) y = impl_boxer_lay.B0 N (impl_boxer_lay.R N d) (fun z => impl_boxer_lay.a0 N d n z) y := by kernel_rfl
    have e : (fun z => impl_boxer_lay.a0 N d n z) = impl_boxer_lay.L0 N (impl_boxer_lay.R N d) n := funext fun z => impl_boxer_lay.r0 N d n z
    rw [h]
    try rw [e]
    first | done | rfl
theorem impl_boxer_lay.r4 (N : Nat) (d : Nat) : ∀ (n : Nat) (y : ImplBoxer × Int × ImplBox × (List (Int)) × Int × ImplBox × Int × Int × Int × (List (Int)) × Int × Int × (List (ImplTree)) × Int × Int × Unit), impl_boxer_lay.a4 N d n y = impl_boxer_lay.L4 N (impl_boxer_lay.R N d) n y
  | 0, y => by kernel_rfl
  | n + 1, y => by
    have h : impl_boxer_lay.a4 N d (n + 1) y = impl_boxer_lay.B4 N (impl_boxer_lay.R N d) (fun z => impl_boxer_lay.a4 N d n z) y := by kernel_rfl
    have e : (fun z => impl_boxer_lay.a4 N d n z) = impl_boxer_lay.L4 N (impl_boxer_lay.R N d) n := funext fun z => impl_boxer_lay.r4 N d n z
    rw [h]
    try rw [e]
    first | done | rfl
theorem impl_boxer_lay.r2 (N : Nat) (d : Nat) : ∀ (n : Nat) (y : ImplBoxer × Int × Int × ImplTree × ImplBox × (List (Int)) × Int × ImplBox × Int × Int × Int × (List (Int)) × Int × Int × (List (ImplTree)) × Int × Int × Unit), impl_boxer_lay.a2 N d n y = impl_boxer_lay.L2 N (impl_boxer_lay.R N d) n y
  | 0, y => by kernel_rfl
  | n + 1, y => by
    have h : impl_boxer_lay.a2 N d (n + 1) y = impl_boxer_lay.B2 N (impl_boxer_lay.R N d) (fun z => impl_boxer_lay.a2 N d n z) (fun z => impl_boxer_lay.a4 N d N z) y := by kernel_rfl
    have e : (fun z => impl_boxer_lay.a2 N d n z) = impl_boxer_lay.L2 N (impl_boxer_lay.R N d) n := funext fun z => impl_boxer_lay.r2 N d n z
    have e4 : (fun z => impl_boxer_lay.a4 N d N z) = impl_boxer_lay.L4 N (impl_boxer_lay.R N d) N := funext fun z => impl_boxer_lay.r4 N d N z
    rw [h, e4]
    try rw [e]
    first | done | rfl
theorem impl_boxer_lay.run (N : Nat) (d : Nat) (x : ImplBoxer × ImplTree × Int × Int × Int × Unit) : runF cx (look (impl_boxer_lay.phis N d)) impl_boxer_lay.A N (bodyOf Tryd.f51) Tryd.f51.results.toList impl_boxer_lay.sg x = impl_boxer_lay.R N (d + 1) x.1 x.2.1 x.2.2.1 x.2.2.2.1 x.2.2.2.2.1 := by
  have h : runF cx (look (impl_boxer_lay.phis N d)) impl_boxer_lay.A N (bodyOf Tryd.f51) Tryd.f51.results.toList impl_boxer_lay.sg x = impl_boxer_lay.B N (impl_boxer_lay.R N d) (fun z => impl_boxer_lay.a0 N d N z) (fun z => impl_boxer_lay.a2 N d N z) x.1 x.2.1 x.2.2.1 x.2.2.2.1 x.2.2.2.2.1 := by kernel_rfl
  have e0 : (fun z => impl_boxer_lay.a0 N d N z) = impl_boxer_lay.L0 N (impl_boxer_lay.R N d) N := funext fun z => impl_boxer_lay.r0 N d N z
  have e2 : (fun z => impl_boxer_lay.a2 N d N z) = impl_boxer_lay.L2 N (impl_boxer_lay.R N d) N := funext fun z => impl_boxer_lay.r2 N d N z
  rw [h, e0, e2]
  try rfl
theorem impl_boxer_lay.step (N : Nat) (d : Nat) (h_impl_boxer_lay : Sound cx Tryd.prog gam 51 (⟨impl_boxer_lay.sg, fun (x : ImplBoxer × ImplTree × Int × Int × Int × Unit) => impl_boxer_lay.R N d x.1 x.2.1 x.2.2.1 x.2.2.2.1 x.2.2.2.2.1⟩ : Sm D)) : Sound cx Tryd.prog gam 51 (⟨impl_boxer_lay.sg, fun (x : ImplBoxer × ImplTree × Int × Int × Int × Unit) => impl_boxer_lay.R N (d + 1) x.1 x.2.1 x.2.2.1 x.2.2.2.1 x.2.2.2.2.1⟩ : Sm D) := fn_sound (A := impl_boxer_lay.A) (Φ := (look (impl_boxer_lay.phis N d))) pok (G := gam) (ΦOk.cons h_impl_boxer_lay (fnOk_of (f := 51) (by kernel_rfl)) (ΦOk.cons (impl_treeCount.sound N) (fnOk_of (f := 61) (by kernel_rfl)) ΦOk.nil)) mixed N Tryd.func51 (c := (bodyOf Tryd.f51)) (by kernel_rfl) impl_boxer_lay.sg (by kernel_rfl) (by kernel_rfl) (by kernel_rfl) (impl_boxer_lay.run N d)

theorem impl_boxer_lay.scc (N : Nat) : ∀ d, Sound cx Tryd.prog gam 51 (⟨impl_boxer_lay.sg, fun (x : ImplBoxer × ImplTree × Int × Int × Int × Unit) => impl_boxer_lay.R N d x.1 x.2.1 x.2.2.1 x.2.2.2.1 x.2.2.2.2.1⟩ : Sm D)
  | 0 => none_sound 51 impl_boxer_lay.sg
  | d + 1 => by
    have ih := impl_boxer_lay.scc N d
    exact impl_boxer_lay.step N d ih
noncomputable def impl_boxer_lay.sm (N : Nat) : Sm D := (⟨impl_boxer_lay.sg, fun (x : ImplBoxer × ImplTree × Int × Int × Int × Unit) => impl_boxer_lay.R N N x.1 x.2.1 x.2.2.1 x.2.2.2.1 x.2.2.2.2.1⟩ : Sm D)
theorem impl_boxer_lay.sound (N : Nat) : Sound cx Tryd.prog gam 51 (impl_boxer_lay.sm N) := (impl_boxer_lay.scc N N)
@[reducible] def impl_boxes.sg : Sg := { ms := [{ k := (.st 32) }, { k := (.sl (.st 57)), fl := [none] }, { k := (.int .i64) }], keep := [false, false, false], rs := [{ k := (.sl (.st 50)), fl := [none] }], hold := true }
noncomputable def impl_boxes.A : Ann := { dp := fun d => isIn [] d, lp := look [], jn := look [], pins := [], nt := 21 }
noncomputable def impl_boxes.phis (N : Nat) : List (Nat × Sm D) := [(50, impl_looks.sm N), (51, impl_boxer_lay.sm N)]
theorem impl_boxes.run (N : Nat) (x : ImplTree × (List (ImplRule)) × Int × Unit) : runF cx (look (impl_boxes.phis N)) impl_boxes.A N (bodyOf Tryd.f37) Tryd.f37.results.toList impl_boxes.sg x = impl_boxes N x.1 x.2.1 x.2.2.1 := by
  have h : runF cx (look (impl_boxes.phis N)) impl_boxes.A N (bodyOf Tryd.f37) Tryd.f37.results.toList impl_boxes.sg x = impl_boxes.B N x.1 x.2.1 x.2.2.1 := by kernel_rfl
  rw [h]
  try rfl
noncomputable def impl_boxes.sm (N : Nat) : Sm D := (⟨impl_boxes.sg, fun (x : ImplTree × (List (ImplRule)) × Int × Unit) => impl_boxes N x.1 x.2.1 x.2.2.1⟩ : Sm D)
theorem impl_boxes.sound (N : Nat) : Sound cx Tryd.prog gam 37 (impl_boxes.sm N) := fn_sound (A := impl_boxes.A) (Φ := (look (impl_boxes.phis N))) pok (G := gam) (ΦOk.cons (impl_looks.sound N) (fnOk_of (f := 50) (by kernel_rfl)) (ΦOk.cons (impl_boxer_lay.sound N) (fnOk_of (f := 51) (by kernel_rfl)) ΦOk.nil)) mixed N Tryd.func37 (c := (bodyOf Tryd.f37)) (by kernel_rfl) impl_boxes.sg (by kernel_rfl) (by kernel_rfl) (by kernel_rfl) (impl_boxes.run N)

@[reducible] def impl_BoxesOf.sg : Sg := { ms := [{ k := (.st 32) }, { k := (.sl (.st 57)), fl := [none] }, { k := (.int .i64) }], keep := [false, false, false], rs := [{ k := (.sl (.st 50)), fl := [none] }], hold := true }
noncomputable def impl_BoxesOf.A : Ann := { dp := fun d => isIn [] d, lp := look [], jn := look [], pins := [], nt := 24 }
noncomputable def impl_BoxesOf.phis (N : Nat) : List (Nat × Sm D) := [(34, impl_TreeOk.sm N), (35, impl_RulesOk.sm N), (36, impl_within.sm N), (37, impl_boxes.sm N)]
theorem impl_BoxesOf.run (N : Nat) (x : ImplTree × (List (ImplRule)) × Int × Unit) : runF cx (look (impl_BoxesOf.phis N)) impl_BoxesOf.A N (bodyOf Tryd.f22) Tryd.f22.results.toList impl_BoxesOf.sg x = impl_BoxesOf N x.1 x.2.1 x.2.2.1 := by
  have h : runF cx (look (impl_BoxesOf.phis N)) impl_BoxesOf.A N (bodyOf Tryd.f22) Tryd.f22.results.toList impl_BoxesOf.sg x = impl_BoxesOf.B N x.1 x.2.1 x.2.2.1 := by kernel_rfl
  rw [h]
  try rfl
noncomputable def impl_BoxesOf.sm (N : Nat) : Sm D := (⟨impl_BoxesOf.sg, fun (x : ImplTree × (List (ImplRule)) × Int × Unit) => impl_BoxesOf N x.1 x.2.1 x.2.2.1⟩ : Sm D)
theorem impl_BoxesOf.sound (N : Nat) : Sound cx Tryd.prog gam 22 (impl_BoxesOf.sm N) := fn_sound (A := impl_BoxesOf.A) (Φ := (look (impl_BoxesOf.phis N))) pok (G := gam) (ΦOk.cons (impl_TreeOk.sound N) (fnOk_of (f := 34) (by kernel_rfl)) (ΦOk.cons (impl_RulesOk.sound N) (fnOk_of (f := 35) (by kernel_rfl)) (ΦOk.cons (impl_within.sound N) (fnOk_of (f := 36) (by kernel_rfl)) (ΦOk.cons (impl_boxes.sound N) (fnOk_of (f := 37) (by kernel_rfl)) ΦOk.nil)))) mixed N Tryd.func22 (c := (bodyOf Tryd.f22)) (by kernel_rfl) impl_BoxesOf.sg (by kernel_rfl) (by kernel_rfl) (by kernel_rfl) (impl_BoxesOf.run N)

@[reducible] def impl_BoxHigh.sg : Sg := { ms := [{ k := (.st 32) }, { k := (.sl (.st 57)), fl := [none] }, { k := (.int .i64) }], keep := [false, false, false], rs := [{ k := (.int .i64) }] }
noncomputable def impl_BoxHigh.A : Ann := { dp := fun d => isIn [] d, lp := look [], jn := look [], pins := [], nt := 19 }
noncomputable def impl_BoxHigh.phis (N : Nat) : List (Nat × Sm D) := [(22, impl_BoxesOf.sm N)]
theorem impl_BoxHigh.run (N : Nat) (x : ImplTree × (List (ImplRule)) × Int × Unit) : runF cx (look (impl_BoxHigh.phis N)) impl_BoxHigh.A N (bodyOf Tryd.f9) Tryd.f9.results.toList impl_BoxHigh.sg x = impl_BoxHigh N x.1 x.2.1 x.2.2.1 := by
  have h : runF cx (look (impl_BoxHigh.phis N)) impl_BoxHigh.A N (bodyOf Tryd.f9) Tryd.f9.results.toList impl_BoxHigh.sg x = impl_BoxHigh.B N x.1 x.2.1 x.2.2.1 := by kernel_rfl
  rw [h]
  try rfl
noncomputable def impl_BoxHigh.sm (N : Nat) : Sm D := (⟨impl_BoxHigh.sg, fun (x : ImplTree × (List (ImplRule)) × Int × Unit) => impl_BoxHigh N x.1 x.2.1 x.2.2.1⟩ : Sm D)
theorem impl_BoxHigh.sound (N : Nat) : Sound cx Tryd.prog gam 9 (impl_BoxHigh.sm N) := fn_sound (A := impl_BoxHigh.A) (Φ := (look (impl_BoxHigh.phis N))) pok (G := gam) (ΦOk.cons (impl_BoxesOf.sound N) (fnOk_of (f := 22) (by kernel_rfl)) ΦOk.nil) mixed N Tryd.func9 (c := (bodyOf Tryd.f9)) (by kernel_rfl) impl_BoxHigh.sg (by kernel_rfl) (by kernel_rfl) (by kernel_rfl) (impl_BoxHigh.run N)

@[reducible] def laws_eqValue.sg : Sg := { ms := [{ k := (.st 43) }, { k := (.st 43) }], keep := [false, false], rs := [{ k := .bool }] }
noncomputable def laws_eqValue.A : Ann := { dp := fun d => isIn [] d, lp := look [], jn := look [], pins := [], nt := 20 }
noncomputable def laws_eqValue.phis (N : Nat) : List (Nat × Sm D) := []
theorem laws_eqValue.run (N : Nat) (x : ImplValue × ImplValue × Unit) : runF cx (look (laws_eqValue.phis N)) laws_eqValue.A N (bodyOf Tryd.f39) Tryd.f39.results.toList laws_eqValue.sg x = laws_eqValue N x.1 x.2.1 := by
  have h : runF cx (look (laws_eqValue.phis N)) laws_eqValue.A N (bodyOf Tryd.f39) Tryd.f39.results.toList laws_eqValue.sg x = laws_eqValue.B N x.1 x.2.1 := by kernel_rfl
  rw [h]
  try rfl
noncomputable def laws_eqValue.sm (N : Nat) : Sm D := (⟨laws_eqValue.sg, fun (x : ImplValue × ImplValue × Unit) => laws_eqValue N x.1 x.2.1⟩ : Sm D)
theorem laws_eqValue.sound (N : Nat) : Sound cx Tryd.prog gam 39 (laws_eqValue.sm N) := fn_sound (A := laws_eqValue.A) (Φ := (look (laws_eqValue.phis N))) pok (G := gam) ΦOk.nil mixed N Tryd.func39 (c := (bodyOf Tryd.f39)) (by kernel_rfl) laws_eqValue.sg (by kernel_rfl) (by kernel_rfl) (by kernel_rfl) (laws_eqValue.run N)

@[reducible] def laws_eqProp.sg : Sg := { ms := [{ k := (.st 74) }, { k := (.st 74) }], keep := [false, false], rs := [{ k := .bool }] }
noncomputable def laws_eqProp.A : Ann := { dp := fun d => isIn [] d, lp := look [], jn := look [], pins := [], nt := 16 }
noncomputable def laws_eqProp.phis (N : Nat) : List (Nat × Sm D) := [(39, laws_eqValue.sm N)]
theorem laws_eqProp.run (N : Nat) (x : ImplProp × ImplProp × Unit) : runF cx (look (laws_eqProp.phis N)) laws_eqProp.A N (bodyOf Tryd.f38) Tryd.f38.results.toList laws_eqProp.sg x = laws_eqProp N x.1 x.2.1 := by
  have h : runF cx (look (laws_eqProp.phis N)) laws_eqProp.A N (bodyOf Tryd.f38) Tryd.f38.results.toList laws_eqProp.sg x = laws_eqProp.B N x.1 x.2.1 := by kernel_rfl
  rw [h]
  try rfl
noncomputable def laws_eqProp.sm (N : Nat) : Sm D := (⟨laws_eqProp.sg, fun (x : ImplProp × ImplProp × Unit) => laws_eqProp N x.1 x.2.1⟩ : Sm D)
theorem laws_eqProp.sound (N : Nat) : Sound cx Tryd.prog gam 38 (laws_eqProp.sm N) := fn_sound (A := laws_eqProp.A) (Φ := (look (laws_eqProp.phis N))) pok (G := gam) (ΦOk.cons (laws_eqValue.sound N) (fnOk_of (f := 39) (by kernel_rfl)) ΦOk.nil) mixed N Tryd.func38 (c := (bodyOf Tryd.f38)) (by kernel_rfl) laws_eqProp.sg (by kernel_rfl) (by kernel_rfl) (by kernel_rfl) (laws_eqProp.run N)

@[reducible] def laws_eqPropS.sg : Sg := { ms := [{ k := (.sl (.st 74)), fl := [none] }, { k := (.sl (.st 74)), fl := [none] }], keep := [false, false], rs := [{ k := .bool }] }
@[reducible] def laws_eqPropS.lvL0 : Lv := { id := 0, slots := [0, 1, 5], ms := [{ k := (.sl (.st 74)), fl := [none] }, { k := (.sl (.st 74)), fl := [none] }, { k := (.int .i64) }] }
noncomputable def laws_eqPropS.A : Ann := { dp := fun d => isIn [] d, lp := look [(0, laws_eqPropS.lvL0)], jn := look [], pins := [], nt := 27 }
noncomputable def laws_eqPropS.phis (N : Nat) : List (Nat × Sm D) := [(38, laws_eqProp.sm N)]
noncomputable def laws_eqPropS.a0 (N : Nat) (n : Nat) (y : (List (ImplProp)) × (List (ImplProp)) × Int × Unit) : Option (Bool × Unit) := loopAt cx (look (laws_eqPropS.phis N)) laws_eqPropS.A N n (encL cx laws_eqPropS.lvL0.ms y).1 (encL cx laws_eqPropS.lvL0.ms y).2 (bodyOf Tryd.f23) 0 (Kfin cx laws_eqPropS.A laws_eqPropS.sg Tryd.f23.results.toList) [1, 1, 0, 1, 1] []
theorem laws_eqPropS.r0 (N : Nat) : ∀ (n : Nat) (y : (List (ImplProp)) × (List (ImplProp)) × Int × Unit), laws_eqPropS.a0 N n y = laws_eqPropS.L0 N n y
  | 0, y => by kernel_rfl
  | n + 1, y => by
    have h : laws_eqPropS.a0 N (n + 1) y = laws_eqPropS.B0 N (fun z => laws_eqPropS.a0 N n z) y := by kernel_rfl
    have e : (fun z => laws_eqPropS.a0 N n z) = laws_eqPropS.L0 N n := funext fun z => laws_eqPropS.r0 N n z
    rw [h]
    try rw [e]
    first | done | rfl
theorem laws_eqPropS.run (N : Nat) (x : (List (ImplProp)) × (List (ImplProp)) × Unit) : runF cx (look (laws_eqPropS.phis N)) laws_eqPropS.A N (bodyOf Tryd.f23) Tryd.f23.results.toList laws_eqPropS.sg x = laws_eqPropS N x.1 x.2.1 := by
  have h : runF cx (look (laws_eqPropS.phis N)) laws_eqPropS.A N (bodyOf Tryd.f23) Tryd.f23.results.toList laws_eqPropS.sg x = laws_eqPropS.B N (fun z => laws_eqPropS.a0 N N z) x.1 x.2.1 := by kernel_rfl
  have e0 : (fun z => laws_eqPropS.a0 N N z) = laws_eqPropS.L0 N N := funext fun z => laws_eqPropS.r0 N N z
  rw [h, e0]
  try rfl
noncomputable def laws_eqPropS.sm (N : Nat) : Sm D := (⟨laws_eqPropS.sg, fun (x : (List (ImplProp)) × (List (ImplProp)) × Unit) => laws_eqPropS N x.1 x.2.1⟩ : Sm D)
theorem laws_eqPropS.sound (N : Nat) : Sound cx Tryd.prog gam 23 (laws_eqPropS.sm N) := fn_sound (A := laws_eqPropS.A) (Φ := (look (laws_eqPropS.phis N))) pok (G := gam) (ΦOk.cons (laws_eqProp.sound N) (fnOk_of (f := 38) (by kernel_rfl)) ΦOk.nil) mixed N Tryd.func23 (c := (bodyOf Tryd.f23)) (by kernel_rfl) laws_eqPropS.sg (by kernel_rfl) (by kernel_rfl) (by kernel_rfl) (laws_eqPropS.run N)

@[reducible] def laws_eqTreeS.sg : Sg := { ms := [{ k := (.sl (.st 32)), fl := [none] }, { k := (.sl (.st 32)), fl := [none] }], keep := [false, false], rs := [{ k := .bool }] }
@[reducible] def laws_eqTree.sg : Sg := { ms := [{ k := (.st 32) }, { k := (.st 32) }], keep := [false, false], rs := [{ k := .bool }] }
@[reducible] def laws_eqTreeS.lvL0 : Lv := { id := 0, slots := [0, 1, 5], ms := [{ k := (.sl (.st 32)), fl := [none] }, { k := (.sl (.st 32)), fl := [none] }, { k := (.int .i64) }] }
noncomputable def laws_eqTreeS.A : Ann := { dp := fun d => isIn [] d, lp := look [(0, laws_eqTreeS.lvL0)], jn := look [], pins := [], nt := 27 }
noncomputable def laws_eqTreeS.phis (N : Nat) (d : Nat) : List (Nat × Sm D) := [(10, (⟨laws_eqTree.sg, fun (x : ImplTree × ImplTree × Unit) => laws_eqTree.R N d x.1 x.2.1⟩ : Sm D))]
noncomputable def laws_eqTreeS.a0 (N : Nat) (d : Nat) (n : Nat) (y : (List (ImplTree)) × (List (ImplTree)) × Int × Unit) : Option (Bool × Unit) := loopAt cx (look (laws_eqTreeS.phis N d)) laws_eqTreeS.A N n (encL cx laws_eqTreeS.lvL0.ms y).1 (encL cx laws_eqTreeS.lvL0.ms y).2 (bodyOf Tryd.f24) 0 (Kfin cx laws_eqTreeS.A laws_eqTreeS.sg Tryd.f24.results.toList) [1, 1, 0, 1, 1] []
theorem laws_eqTreeS.r0 (N : Nat) (d : Nat) : ∀ (n : Nat) (y : (List (ImplTree)) × (List (ImplTree)) × Int × Unit), laws_eqTreeS.a0 N d n y = laws_eqTreeS.L0 N (laws_eqTreeS.R N d) (laws_eqTree.R N d) n y
  | 0, y => by kernel_rfl
  | n + 1, y => by
    have h : laws_eqTreeS.a0 N d (n + 1) y = laws_eqTreeS.B0 N (laws_eqTreeS.R N d) (laws_eqTree.R N d) (fun z => laws_eqTreeS.a0 N d n z) y := by kernel_rfl
    have e : (fun z => laws_eqTreeS.a0 N d n z) = laws_eqTreeS.L0 N (laws_eqTreeS.R N d) (laws_eqTree.R N d) n := funext fun z => laws_eqTreeS.r0 N d n z
    rw [h]
    try rw [e]
    first | done | rfl
theorem laws_eqTreeS.run (N : Nat) (d : Nat) (x : (List (ImplTree)) × (List (ImplTree)) × Unit) : runF cx (look (laws_eqTreeS.phis N d)) laws_eqTreeS.A N (bodyOf Tryd.f24) Tryd.f24.results.toList laws_eqTreeS.sg x = laws_eqTreeS.R N (d + 1) x.1 x.2.1 := by
  have h : runF cx (look (laws_eqTreeS.phis N d)) laws_eqTreeS.A N (bodyOf Tryd.f24) Tryd.f24.results.toList laws_eqTreeS.sg x = laws_eqTreeS.B N (laws_eqTreeS.R N d) (laws_eqTree.R N d) (fun z => laws_eqTreeS.a0 N d N z) x.1 x.2.1 := by kernel_rfl
  have e0 : (fun z => laws_eqTreeS.a0 N d N z) = laws_eqTreeS.L0 N (laws_eqTreeS.R N d) (laws_eqTree.R N d) N := funext fun z => laws_eqTreeS.r0 N d N z
  rw [h, e0]
  try rfl
theorem laws_eqTreeS.step (N : Nat) (d : Nat) (h_laws_eqTree : Sound cx Tryd.prog gam 10 (⟨laws_eqTree.sg, fun (x : ImplTree × ImplTree × Unit) => laws_eqTree.R N d x.1 x.2.1⟩ : Sm D)) : Sound cx Tryd.prog gam 24 (⟨laws_eqTreeS.sg, fun (x : (List (ImplTree)) × (List (ImplTree)) × Unit) => laws_eqTreeS.R N (d + 1) x.1 x.2.1⟩ : Sm D) := fn_sound (A := laws_eqTreeS.A) (Φ := (look (laws_eqTreeS.phis N d))) pok (G := gam) (ΦOk.cons h_laws_eqTree (fnOk_of (f := 10) (by kernel_rfl)) ΦOk.nil) mixed N Tryd.func24 (c := (bodyOf Tryd.f24)) (by kernel_rfl) laws_eqTreeS.sg (by kernel_rfl) (by kernel_rfl) (by kernel_rfl) (laws_eqTreeS.run N d)

noncomputable def laws_eqTree.A : Ann := { dp := fun d => isIn [] d, lp := look [], jn := look [], pins := [], nt := 32 }
noncomputable def laws_eqTree.phis (N : Nat) (d : Nat) : List (Nat × Sm D) := [(23, laws_eqPropS.sm N), (24, (⟨laws_eqTreeS.sg, fun (x : (List (ImplTree)) × (List (ImplTree)) × Unit) => laws_eqTreeS.R N d x.1 x.2.1⟩ : Sm D))]
theorem laws_eqTree.run (N : Nat) (d : Nat) (x : ImplTree × ImplTree × Unit) : runF cx (look (laws_eqTree.phis N d)) laws_eqTree.A N (bodyOf Tryd.f10) Tryd.f10.results.toList laws_eqTree.sg x = laws_eqTree.R N (d + 1) x.1 x.2.1 := by
  have h : runF cx (look (laws_eqTree.phis N d)) laws_eqTree.A N (bodyOf Tryd.f10) Tryd.f10.results.toList laws_eqTree.sg x = laws_eqTree.B N (laws_eqTreeS.R N d) (laws_eqTree.R N d) x.1 x.2.1 := by kernel_rfl
  rw [h]
  try rfl
theorem laws_eqTree.step (N : Nat) (d : Nat) (h_laws_eqTreeS : Sound cx Tryd.prog gam 24 (⟨laws_eqTreeS.sg, fun (x : (List (ImplTree)) × (List (ImplTree)) × Unit) => laws_eqTreeS.R N d x.1 x.2.1⟩ : Sm D)) : Sound cx Tryd.prog gam 10 (⟨laws_eqTree.sg, fun (x : ImplTree × ImplTree × Unit) => laws_eqTree.R N (d + 1) x.1 x.2.1⟩ : Sm D) := fn_sound (A := laws_eqTree.A) (Φ := (look (laws_eqTree.phis N d))) pok (G := gam) (ΦOk.cons (laws_eqPropS.sound N) (fnOk_of (f := 23) (by kernel_rfl)) (ΦOk.cons h_laws_eqTreeS (fnOk_of (f := 24) (by kernel_rfl)) ΦOk.nil)) mixed N Tryd.func10 (c := (bodyOf Tryd.f10)) (by kernel_rfl) laws_eqTree.sg (by kernel_rfl) (by kernel_rfl) (by kernel_rfl) (laws_eqTree.run N d)

theorem laws_eqTreeS.scc (N : Nat) : ∀ d, Sound cx Tryd.prog gam 24 (⟨laws_eqTreeS.sg, fun (x : (List (ImplTree)) × (List (ImplTree)) × Unit) => laws_eqTreeS.R N d x.1 x.2.1⟩ : Sm D) ∧ Sound cx Tryd.prog gam 10 (⟨laws_eqTree.sg, fun (x : ImplTree × ImplTree × Unit) => laws_eqTree.R N d x.1 x.2.1⟩ : Sm D)
  | 0 => ⟨none_sound 24 laws_eqTreeS.sg, none_sound 10 laws_eqTree.sg⟩
  | d + 1 => by
    have ih := laws_eqTreeS.scc N d
    obtain ⟨ih0, ih1⟩ := ih
    exact ⟨laws_eqTreeS.step N d ih1, laws_eqTree.step N d ih0⟩
noncomputable def laws_eqTreeS.sm (N : Nat) : Sm D := (⟨laws_eqTreeS.sg, fun (x : (List (ImplTree)) × (List (ImplTree)) × Unit) => laws_eqTreeS.R N N x.1 x.2.1⟩ : Sm D)
theorem laws_eqTreeS.sound (N : Nat) : Sound cx Tryd.prog gam 24 (laws_eqTreeS.sm N) := (laws_eqTreeS.scc N N).1
noncomputable def laws_eqTree.sm (N : Nat) : Sm D := (⟨laws_eqTree.sg, fun (x : ImplTree × ImplTree × Unit) => laws_eqTree.R N N x.1 x.2.1⟩ : Sm D)
theorem laws_eqTree.sound (N : Nat) : Sound cx Tryd.prog gam 10 (laws_eqTree.sm N) := (laws_eqTreeS.scc N N).2
@[reducible] def laws_eqRule.sg : Sg := { ms := [{ k := (.st 57) }, { k := (.st 57) }], keep := [false, false], rs := [{ k := .bool }] }
noncomputable def laws_eqRule.A : Ann := { dp := fun d => isIn [] d, lp := look [], jn := look [], pins := [], nt := 36 }
noncomputable def laws_eqRule.phis (N : Nat) : List (Nat × Sm D) := [(39, laws_eqValue.sm N)]
theorem laws_eqRule.run (N : Nat) (x : ImplRule × ImplRule × Unit) : runF cx (look (laws_eqRule.phis N)) laws_eqRule.A N (bodyOf Tryd.f25) Tryd.f25.results.toList laws_eqRule.sg x = laws_eqRule N x.1 x.2.1 := by
  have h : runF cx (look (laws_eqRule.phis N)) laws_eqRule.A N (bodyOf Tryd.f25) Tryd.f25.results.toList laws_eqRule.sg x = laws_eqRule.B N x.1 x.2.1 := by kernel_rfl
  rw [h]
  try rfl
noncomputable def laws_eqRule.sm (N : Nat) : Sm D := (⟨laws_eqRule.sg, fun (x : ImplRule × ImplRule × Unit) => laws_eqRule N x.1 x.2.1⟩ : Sm D)
theorem laws_eqRule.sound (N : Nat) : Sound cx Tryd.prog gam 25 (laws_eqRule.sm N) := fn_sound (A := laws_eqRule.A) (Φ := (look (laws_eqRule.phis N))) pok (G := gam) (ΦOk.cons (laws_eqValue.sound N) (fnOk_of (f := 39) (by kernel_rfl)) ΦOk.nil) mixed N Tryd.func25 (c := (bodyOf Tryd.f25)) (by kernel_rfl) laws_eqRule.sg (by kernel_rfl) (by kernel_rfl) (by kernel_rfl) (laws_eqRule.run N)

@[reducible] def laws_eqRuleS.sg : Sg := { ms := [{ k := (.sl (.st 57)), fl := [none] }, { k := (.sl (.st 57)), fl := [none] }], keep := [false, false], rs := [{ k := .bool }] }
@[reducible] def laws_eqRuleS.lvL0 : Lv := { id := 0, slots := [0, 1, 5], ms := [{ k := (.sl (.st 57)), fl := [none] }, { k := (.sl (.st 57)), fl := [none] }, { k := (.int .i64) }] }
noncomputable def laws_eqRuleS.A : Ann := { dp := fun d => isIn [] d, lp := look [(0, laws_eqRuleS.lvL0)], jn := look [], pins := [], nt := 27 }
noncomputable def laws_eqRuleS.phis (N : Nat) : List (Nat × Sm D) := [(25, laws_eqRule.sm N)]
noncomputable def laws_eqRuleS.a0 (N : Nat) (n : Nat) (y : (List (ImplRule)) × (List (ImplRule)) × Int × Unit) : Option (Bool × Unit) := loopAt cx (look (laws_eqRuleS.phis N)) laws_eqRuleS.A N n (encL cx laws_eqRuleS.lvL0.ms y).1 (encL cx laws_eqRuleS.lvL0.ms y).2 (bodyOf Tryd.f11) 0 (Kfin cx laws_eqRuleS.A laws_eqRuleS.sg Tryd.f11.results.toList) [1, 1, 0, 1, 1] []
theorem laws_eqRuleS.r0 (N : Nat) : ∀ (n : Nat) (y : (List (ImplRule)) × (List (ImplRule)) × Int × Unit), laws_eqRuleS.a0 N n y = laws_eqRuleS.L0 N n y
  | 0, y => by kernel_rfl
  | n + 1, y => by
    have h : laws_eqRuleS.a0 N (n + 1) y = laws_eqRuleS.B0 N (fun z => laws_eqRuleS.a0 N n z) y := by kernel_rfl
    have e : (fun z => laws_eqRuleS.a0 N n z) = laws_eqRuleS.L0 N n := funext fun z => laws_eqRuleS.r0 N n z
    rw [h]
    try rw [e]
    first | done | rfl
theorem laws_eqRuleS.run (N : Nat) (x : (List (ImplRule)) × (List (ImplRule)) × Unit) : runF cx (look (laws_eqRuleS.phis N)) laws_eqRuleS.A N (bodyOf Tryd.f11) Tryd.f11.results.toList laws_eqRuleS.sg x = laws_eqRuleS N x.1 x.2.1 := by
  have h : runF cx (look (laws_eqRuleS.phis N)) laws_eqRuleS.A N (bodyOf Tryd.f11) Tryd.f11.results.toList laws_eqRuleS.sg x = laws_eqRuleS.B N (fun z => laws_eqRuleS.a0 N N z) x.1 x.2.1 := by kernel_rfl
  have e0 : (fun z => laws_eqRuleS.a0 N N z) = laws_eqRuleS.L0 N N := funext fun z => laws_eqRuleS.r0 N N z
  rw [h, e0]
  try rfl
noncomputable def laws_eqRuleS.sm (N : Nat) : Sm D := (⟨laws_eqRuleS.sg, fun (x : (List (ImplRule)) × (List (ImplRule)) × Unit) => laws_eqRuleS N x.1 x.2.1⟩ : Sm D)
theorem laws_eqRuleS.sound (N : Nat) : Sound cx Tryd.prog gam 11 (laws_eqRuleS.sm N) := fn_sound (A := laws_eqRuleS.A) (Φ := (look (laws_eqRuleS.phis N))) pok (G := gam) (ΦOk.cons (laws_eqRule.sound N) (fnOk_of (f := 25) (by kernel_rfl)) ΦOk.nil) mixed N Tryd.func11 (c := (bodyOf Tryd.f11)) (by kernel_rfl) laws_eqRuleS.sg (by kernel_rfl) (by kernel_rfl) (by kernel_rfl) (laws_eqRuleS.run N)

@[reducible] def laws_FnExactBoxHigh.sg : Sg := { ms := [{ k := (.st 24) }, { k := (.sl (.st 45)), fl := [none] }, { k := (.int .i64) }], keep := [false, false, false], rs := [{ k := .bool }] }
noncomputable def laws_FnExactBoxHigh.A : Ann := { dp := fun d => isIn [] d, lp := look [], jn := look [], pins := [], nt := 49 }
noncomputable def laws_FnExactBoxHigh.phis (N : Nat) : List (Nat × Sm D) := [(4, laws_szTree.sm N), (5, laws_szRuleS.sm N), (7, laws_toTree.sm N), (8, laws_toRuleS.sm N), (6, spec_BoxHigh.sm N), (9, impl_BoxHigh.sm N), (10, laws_eqTree.sm N), (11, laws_eqRuleS.sm N)]
theorem laws_FnExactBoxHigh.run (N : Nat) (x : LawsTree × (List (LawsRule)) × Int × Unit) : runF cx (look (laws_FnExactBoxHigh.phis N)) laws_FnExactBoxHigh.A N (bodyOf Tryd.f3) Tryd.f3.results.toList laws_FnExactBoxHigh.sg x = laws_FnExactBoxHigh N x.1 x.2.1 x.2.2.1 := by
  have h : runF cx (look (laws_FnExactBoxHigh.phis N)) laws_FnExactBoxHigh.A N (bodyOf Tryd.f3) Tryd.f3.results.toList laws_FnExactBoxHigh.sg x = laws_FnExactBoxHigh.B N x.1 x.2.1 x.2.2.1 := by kernel_rfl
  rw [h]
  try rfl
noncomputable def laws_FnExactBoxHigh.sm (N : Nat) : Sm D := (⟨laws_FnExactBoxHigh.sg, fun (x : LawsTree × (List (LawsRule)) × Int × Unit) => laws_FnExactBoxHigh N x.1 x.2.1 x.2.2.1⟩ : Sm D)
theorem laws_FnExactBoxHigh.sound (N : Nat) : Sound cx Tryd.prog gam 3 (laws_FnExactBoxHigh.sm N) := fn_sound (A := laws_FnExactBoxHigh.A) (Φ := (look (laws_FnExactBoxHigh.phis N))) pok (G := gam) (ΦOk.cons (laws_szTree.sound N) (fnOk_of (f := 4) (by kernel_rfl)) (ΦOk.cons (laws_szRuleS.sound N) (fnOk_of (f := 5) (by kernel_rfl)) (ΦOk.cons (laws_toTree.sound N) (fnOk_of (f := 7) (by kernel_rfl)) (ΦOk.cons (laws_toRuleS.sound N) (fnOk_of (f := 8) (by kernel_rfl)) (ΦOk.cons (spec_BoxHigh.sound N) (fnOk_of (f := 6) (by kernel_rfl)) (ΦOk.cons (impl_BoxHigh.sound N) (fnOk_of (f := 9) (by kernel_rfl)) (ΦOk.cons (laws_eqTree.sound N) (fnOk_of (f := 10) (by kernel_rfl)) (ΦOk.cons (laws_eqRuleS.sound N) (fnOk_of (f := 11) (by kernel_rfl)) ΦOk.nil)))))))) mixed N Tryd.func3 (c := (bodyOf Tryd.f3)) (by kernel_rfl) laws_FnExactBoxHigh.sg (by kernel_rfl) (by kernel_rfl) (by kernel_rfl) (laws_FnExactBoxHigh.run N)

end
end Go.Ev
