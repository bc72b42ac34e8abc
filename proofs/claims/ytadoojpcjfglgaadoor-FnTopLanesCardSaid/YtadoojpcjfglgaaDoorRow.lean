/- The card of the law FnTopLanes holds at every start of the program; the conditions are those of the given row: the tables that it lays, and data within its bounds. -/
import Derived.Test.YtadoojpcjfglgaaDoorEvT3
import Derived.Test.YtadoojpcjfglgaaDoorPl
import Derived.Test.YtadoojpcjfglgaaDoorRows
import Derived.Test.YtadoojpcjfglgaaDoorTie
import Derived.Test.YtadoojpcjfglgaaDoorCards
import Derived.ChangeSame
import Derived.ChangeVars
import Derived.JoinedOf
import Derived.RowKit
import Derived.RowKitTokens
import Derived.LaidLaws
import Derived.LaidHandle
import Derived.Stop.Joined
import Derived.SevenTiedAt
import Derived.ProofKit
set_option linter.all false
set_option linter.unusedVariables false
set_option linter.unusedSimpArgs false
set_option maxRecDepth 100000
set_option linter.unusedVariables false
namespace Go.Proofs.YtadoojpcjfglgaaDoor
noncomputable section
open Go Go.Ev Go.ChangeShapes Go.WideShapes Go.RowKit
theorem own : ownKnob Tryd.prog.godebug = none := by kernel_rfl
theorem laidOut : laidOutB Tryd.prog = true := by kernel_rfl

/-- a table's cells out of its datum -/
noncomputable def datVals : DataW Unit → List Value
  | .agg ds => ds.map fun | .lit (.int k n) => .int k n | _ => .tuple #[]
  | _ => []
noncomputable def putCells (w : World) (g : Nat) (c : Array Value) : World :=
  { w with heap := w.heap.modify g fun
      | .cells _ t frozen => .cells c t frozen
      | o => o }
noncomputable def laidWorld (os : Os) : World :=
  putCells (putCells (putCells (World.holding Tryd.prog os ⟨#[], #[], []⟩) 1 (datVals Rows.laid_math_bits_deBruijn32tab).toArray) 2 (datVals Rows.laid_math_bits_deBruijn64tab).toArray) 0 (datVals Rows.laid_internal_strconv_uint64pow10).toArray
theorem laidWorld_met (os : Os) (args : Array Value) : laidMetH Tryd.prog Rows.fnTopLanesRow.laid ((laidWorld os).forCall (fun _ _ => 0) ⟨#[], args, []⟩).memory :=
  laidMetH_of_parts (laidMet_of_run' 8 (by kernel_rfl) (by kernel_rfl)) (by kernel_rfl)
theorem gam_of_laid {W : World} (h : laidMetH Tryd.prog Rows.fnTopLanesRow.laid W) : gam.is W ∧ ∀ b ∈ gam.bs, b < W.heap.size := by
  have h' : laidMet Tryd.prog Rows.fnTopLanesRow.laid W := h
  have ht : tabW Tryd.prog W := tab_of_laid (g := 0) (t := 160) (e := 137) (n := 20) (by kernel_rfl) (by kernel_rfl) (by kernel_rfl) (by kernel_rfl) (by kernel_rfl) (by kernel_rfl) h' (List.mem_of_getElem? (i := 2) (by kernel_rfl))
  refine ⟨ht, fun b hb => ?_⟩
  simp only [gam, gamA, gamB, List.mem_cons, List.not_mem_nil, or_false] at hb
  subst hb
  exact var_lt (by kernel_rfl) ht

noncomputable def rts : List Nat := [3, 9, 22, 23, 25, 40, 41, 48, 69, 71, 82, 87, 103]
theorem rts_ok : rdOk cx xNs rts = true := by kernel_rfl

theorem str_bd {n : Nat} {s : List UInt8} (h : WC cx n (.str (Δ := D) s)) : s.length ≤ 1000000000000000 := by
  cases n <;> exact Nat.le_trans h (by decide)
theorem shs_bd {n : Nat} {t : Kd} {l : List (t.T D)} {P : t.T D → Prop} (h : WC cx n (.shs (Δ := D) t l)) (hP : ∀ m v, (∀ c ∈ cells (Δ := D) cx t v, WC cx m c) → P v) : l.length ≤ 1000000000000000 ∧ ∀ v ∈ l, P v := by
  cases n with
  | zero => exact h.elim
  | succ n => exact ⟨Nat.le_trans h.1 (by decide), fun v hv => hP n v (h.2 v hv)⟩
theorem bd_Val {n : Nat} {v : ImplValue} (h : ∀ c ∈ [CV.int (Δ := D) .i64 v.kind, .int .i64 v.num, .str v.text], WC cx n c) : v.text.length ≤ 1000000000000000 :=
  str_bd (h (.str v.text) (by simp))
theorem bd_Step {n : Nat} {v : ImplStep} (h : ∀ c ∈ [CV.int (Δ := D) .i64 v.kind, .int .i64 v.a, .int .i64 v.val_Kind, .int .i64 v.val_Num, .str v.val_Text], WC cx n c) : v.val_Text.length ≤ 4000000000000000 :=
  Nat.le_trans (str_bd (h (.str v.val_Text) (by simp))) (by decide)
theorem bd_Cell {n : Nat} {v : ImplCell} (h : ∀ c ∈ [CV.shs (Δ := D) (.st 102) v.place, .shs (.st 47) v.states], WC cx n c) : Pl.CellOk v := by
  have h1 := shs_bd (t := .st 102) (P := fun _ => True) (h (.shs (.st 102) v.place) (by simp)) fun _ _ _ => trivial
  have h2 := shs_bd (t := .st 47) (P := fun v : ImplValue => v.text.length ≤ 1000000000000000) (h (.shs (.st 47) v.states) (by simp)) fun m v h => bd_Val h
  exact ⟨h1.1, h2.1, h2.2⟩
theorem bd_Upd {n : Nat} {v : ImplUpdate} (h : ∀ c ∈ [CV.shs (Δ := D) (.st 102) v.place, .int .i64 v.state, .shs (.st 81) v.form, .int .i64 v.lane], WC cx n c) : Pl.UOk v := by
  have h1 := shs_bd (t := .st 102) (P := fun _ => True) (h (.shs (.st 102) v.place) (by simp)) fun _ _ _ => trivial
  have h2 := shs_bd (t := .st 81) (P := fun v : ImplStep => v.val_Text.length ≤ 4000000000000000) (h (.shs (.st 81) v.form) (by simp)) fun m v h => bd_Step h
  exact ⟨Nat.le_trans h1.1 (by decide), Nat.le_trans h2.1 (by decide), h2.2⟩
theorem bd_Line {n : Nat} {v : ImplLine} (h : ∀ c ∈ [CV.shs (Δ := D) (.st 70) v.base, .shs (.st 86) v.rest], WC cx n c) : Pl.LnS v := by
  have h1 := shs_bd (t := .st 70) (P := Pl.CellOk) (h (.shs (.st 70) v.base) (by simp)) fun m v h => bd_Cell h
  have h2 := shs_bd (t := .st 86) (P := Pl.UOk) (h (.shs (.st 86) v.rest) (by simp)) fun m v h => bd_Upd h
  exact ⟨h1, h2⟩
theorem plain : ∀ x, WfL cx laws_FnTopLanes.sg.ms x → ∃ N r, (laws_FnTopLanes.sm N).fn x = some r ∧ (encL cx laws_FnTopLanes.sg.outs r).1 = [.c (.bool true)] := by
  intro x hx
  obtain ⟨n, h⟩ := hx.1
  exact ⟨4000000000000001, _, Pl.FnTopLanes_true (Nat.le_refl _) x.1 (bd_Line h) x.2.1 x.2.2.1, rfl⟩

theorem law_lifted (os : Os) (started : os.Started) (H : Type) (enc : TypeId × Value → H) :
    ReturnsInHanded {} Tryd.checked os 3 .any (fun w args => (Rows.fnTopLanesSpec.pre enc Tryd.prog Tryd.f3 [] false w args ∧ laidMetH Tryd.prog Rows.fnTopLanesRow.laid w) ∧ sizedMet enc Tryd.prog Tryd.f3 (OpenSpec.ofChange Rows.fnTopLanesSpec) false w args)
      (Rows.fnTopLanesSpec.post enc Tryd.prog Tryd.f3 false true false false) := by
  refine returnsInHanded_of_change_and (C := Tryd.checked) (X := fun w _ => laidMetH Tryd.prog Rows.fnTopLanesRow.laid w) (fun _ _ _ hh h => h.of_heap hh) own started (by kernel_rfl) Tryd.func3
    (ChangeSpec.witness_at (enc := enc) (C := Tryd.checked) (os := os) (X := fun w _ => laidMetH Tryd.prog Rows.fnTopLanesRow.laid w) false (laidWorld os) #[.agg #[.slice none 0 0, .slice none 0 0], .int .i64 0, .int .i64 0] 12 rfl (by kernel_rfl) (by kernel_rfl) (by kernel_rfl) (by kernel_rfl) (by kernel_rfl) (laidWorld_met os _)) ?_
  intro W base args ds gs before hval hW _ hsz hL _
  have hW' := hW
  obtain ⟨p, q, hA, hV, rfl, hfz, hnd⟩ := hW
  obtain ⟨rfl, rfl⟩ : gs = [] ∧ q = [] := by
    cases gs with
    | nil => exact ⟨rfl, hV⟩
    | cons g r => exact absurd hV (by intro h; cases h)
  have hw : ∀ n ∈ DataW.weightsEach Tryd.prog [25, 3, 3] ds, n ≤ reachBytes := by
    rw [List.append_nil] at hsz
    have hsz : (DataW.weightsEach Tryd.prog [25, 3, 3] ds).all (fun x => decide (x ≤ reachBytes)) = true := hsz
    intro n hn
    simpa using List.all_eq_true.1 hsz n hn
  have hA : DataW.TrodAll enc Tryd.prog W 0 (fun _ => true) true [25, 3, 3] args.toList ds p := hA
  have hcalls : Calls Tryd.prog 3 args W fun e W' => e = .returned (.bool true) ∧ Below W.heap.size W W' :=
    law_calls pok xfr_some rts_ok (fun N => laws_FnTopLanes.sound N) (by kernel_rfl) plain (plainMs_ok (by kernel_rfl)) (by decide) hA (fun j t v h1 h2 => hval j t v (by rw [Tryd.params3, ← Array.getElem?_toList]; exact h1) h2) hw (gam_of_laid hL)
  refine hcalls.mono fun e W' ⟨he, hb⟩ => ?_
  subst he
  obtain ⟨v0, vs0, d0, ds0, p0, q0, ea0, rfl, rfl, h0, r0⟩ := trodAll_cons hA
  obtain ⟨v1, vs1, d1, ds1, p1, q1, ea1, rfl, rfl, h1, r1⟩ := trodAll_cons r0
  obtain ⟨v2, vs2, d2, ds2, p2, q2, ea2, rfl, rfl, h2, r2⟩ := trodAll_cons r1
  obtain ⟨rfl, rfl, rfl⟩ := trodAll_nil r2
  exact ⟨_, rfl, _, _, _, [], _, [], hW', trodAll_mk1 (shut_bool Tryd.underlying4 true), trodAll_stay (pts := [25, 3, 3]) laidOut hb (by intro t ht; simp only [List.mem_cons, List.not_mem_nil, or_false] at ht; (rcases ht with rfl | rfl | rfl) <;> exact ⟨by kernel_rfl, of_decide_eq_true (by kernel_rfl)⟩) hA, rfl, hb.frame _, fun h => by cases h⟩

theorem f_holds : Rows.FnTopLanesSaid :=
  OpenClaim.holds_of_wide 3 Tryd.f3 rfl rfl rfl rfl rfl rfl rfl ⟨rfl, rfl, rfl, rfl, rfl⟩ rfl rfl rfl rfl rfl (by kernel_rfl) Tryd.func3 (by kernel_rfl)
    (of_decide_eq_true (by kernel_rfl)) (by unfold Func.isWrapper; first | (rw [if_pos (by decide +kernel)]; kernel_rfl) | (rw [if_neg (by decide +kernel)]; exact ⟨rfl, rfl⟩))
    (fun os started H enc _ => law_lifted os started H enc)
theorem card_holds : Rows.FnTopLanesCardSaid :=
  Claim7.holds_tied_plain_at .later [] [.data, .data, .data] true (true, "8d819acd1f731890a271b7434878fdc48e3c9b77fdcfd8232e36b7423f4fbf0d") false
    f_holds (fun _ h => by cases h) (by kernel_rfl) (fun _ h => by cases h) fnTopLanes_row_tie rfl ⟨rfl, rfl⟩ (by kernel_rfl) rfl
    (fun f fn hf hfn => by
      obtain rfl : f = 3 := Option.some.inj ((show Tryd.prog.funcNamed "loop.example/drawnanew/laws.FnTopLanes" = some 3 by kernel_rfl).symm.trans hf) |>.symm
      obtain rfl : fn = Tryd.f3 := (Option.some.inj (Tryd.func3.symm.trans hfn)).symm
      exact ⟨by kernel_rfl, fun j t ht => by
        rw [Tryd.params3] at ht
        have h3 : t = 25 ∨ t = 3 ∨ t = 3 := by
          rcases j with _ | j
          · exact Or.inl (by simpa using ht.symm)
          · skip
            rcases j with _ | j
            · exact Or.inr (Or.inl (by simpa using ht.symm))
            · skip
              rcases j with _ | j
              · exact Or.inr (Or.inr (by simpa using ht.symm))
              · simp at ht
        rcases h3 with rfl | rfl | rfl
        · exact (show Tryd.prog.wantsStandIn 25 = false by kernel_rfl)
        · exact (show Tryd.prog.wantsStandIn 3 = false by kernel_rfl)
        · exact (show Tryd.prog.wantsStandIn 3 = false by kernel_rfl)⟩)
    (by kernel_rfl)
#print axioms card_holds
end
end Go.Proofs.YtadoojpcjfglgaaDoor
