/- The card of the law FnLineWants holds at every start of the program; the conditions are those of the given row: the tables that it lays, and data within its bounds. -/
import Derived.Test.YtadoojpcjfglgaaDoorEvT3
import Derived.Test.YtadoojpcjfglgaaDoorPl
import Derived.Test.YtadoojpcjfglgaaDoorRows
import Derived.Test.YtadoojpcjfglgaaDoorTie
import Derived.Test.YtadoojpcjfglgaaDoorCards
import Derived.ChangeSame
import Derived.ChangeVars
import Derived.JoinedOf
import Derived.RowKit
import Derived.RowKitTokens
import Derived.LaidLaws
import Derived.LaidHandle
import Derived.Stop.Joined
import Derived.SevenTiedAt
import Derived.ProofKit
set_option linter.all false
set_option linter.unusedVariables false
set_option linter.unusedSimpArgs false
set_option maxRecDepth 100000
set_option linter.unusedVariables false
namespace Go.Proofs.YtadoojpcjfglgaaDoor
noncomputable section
open Go Go.Ev Go.ChangeShapes Go.WideShapes Go.RowKit
theorem own : ownKnob Tryd.prog.godebug = none := by kernel_rfl
theorem laidOut : laidOutB Tryd.prog = true := by kernel_rfl

/-- a table's cells out of its datum -/
noncomputable def datVals : DataW Unit → List Value
  | .agg ds => ds.map fun | .lit (.int k n) => .int k n | _ => .tuple #[]
  | _ => []
noncomputable def putCells (w : World) (g : Nat) (c : Array Value) : World :=
  { w with heap := w.heap.modify g fun
      | .cells _ t frozen => .cells c t frozen
      | o => o }
noncomputable def laidWorld (os : Os) : World :=
  putCells (putCells (putCells (World.holding Tryd.prog os ⟨#[], #[], []⟩) 1 (datVals Rows.laid_math_bits_deBruijn32tab).toArray) 2 (datVals Rows.laid_math_bits_deBruijn64tab).toArray) 0 (datVals Rows.laid_internal_strconv_uint64pow10).toArray
theorem laidWorld_met (os : Os) (args : Array Value) : laidMetH Tryd.prog Rows.fnLineWantsRow.laid ((laidWorld os).forCall (fun _ _ => 0) ⟨#[], args, []⟩).memory :=
  laidMetH_of_parts (laidMet_of_run' 8 (by kernel_rfl) (by kernel_rfl)) (by kernel_rfl)
theorem gam_of_laid {W : World} (h : laidMetH Tryd.prog Rows.fnLineWantsRow.laid W) : gam.is W ∧ ∀ b ∈ gam.bs, b < W.heap.size := by
  have h' : laidMet Tryd.prog Rows.fnLineWantsRow.laid W := h
  have ht : tabW Tryd.prog W := tab_of_laid (g := 0) (t := 160) (e := 137) (n := 20) (by kernel_rfl) (by kernel_rfl) (by kernel_rfl) (by kernel_rfl) (by kernel_rfl) (by kernel_rfl) h' (List.mem_of_getElem? (i := 2) (by kernel_rfl))
  refine ⟨ht, fun b hb => ?_⟩
  simp only [gam, gamA, gamB, List.mem_cons, List.not_mem_nil, or_false] at hb
  subst hb
  exact var_lt (by kernel_rfl) ht

noncomputable def rts : List Nat := [5, 33]
theorem rts_ok : rdOk cx xNs rts = true := by kernel_rfl

theorem bytes_of {x : List Int} (h : ∃ n, ∀ c ∈ cells (Δ := D) cx (.sl (.int .u8)) x, WC cx n c) : ∀ v ∈ x, 0 ≤ v ∧ v ≤ 255 := by
  obtain ⟨n, h⟩ := h
  have h := h (.shs (.int .u8) x) (List.mem_singleton.2 rfl)
  cases n with
  | zero => exact h.elim
  | succ n =>
    intro v hv
    have := h.2 v hv (.int .u8 v) (List.mem_singleton.2 rfl)
    have e : (Lit.int .u8 v).wf = true := by cases n <;> exact this
    have e2 : (decide (0 ≤ v) && decide (v ≤ 255)) = true := e
    simpa using e2
theorem plain : ∀ x, WfL cx laws_FnLineWants.sg.ms x → ∃ N r, (laws_FnLineWants.sm N).fn x = some r ∧ (encL cx laws_FnLineWants.sg.outs r).1 = [.c (.bool true)] :=
  fun x hx => ⟨4000000000000001, _, Pl.FnLineWants_true (Nat.le_refl _) x.1 (bytes_of hx.1), rfl⟩

theorem law_lifted (os : Os) (started : os.Started) (H : Type) (enc : TypeId × Value → H) :
    ReturnsInHanded {} Tryd.checked os 6 .any (fun w args => (Rows.fnLineWantsSpec.pre enc Tryd.prog Tryd.f6 [] false w args ∧ laidMetH Tryd.prog Rows.fnLineWantsRow.laid w) ∧ sizedMet enc Tryd.prog Tryd.f6 (OpenSpec.ofChange Rows.fnLineWantsSpec) false w args)
      (Rows.fnLineWantsSpec.post enc Tryd.prog Tryd.f6 false true false false) := by
  refine returnsInHanded_of_change_and (C := Tryd.checked) (X := fun w _ => laidMetH Tryd.prog Rows.fnLineWantsRow.laid w) (fun _ _ _ hh h => h.of_heap hh) own started (by kernel_rfl) Tryd.func6
    (ChangeSpec.witness_at (enc := enc) (C := Tryd.checked) (os := os) (X := fun w _ => laidMetH Tryd.prog Rows.fnLineWantsRow.laid w) false (laidWorld os) #[.slice none 0 0] 12 rfl (by kernel_rfl) (by kernel_rfl) (by kernel_rfl) (by kernel_rfl) (by kernel_rfl) (laidWorld_met os _)) ?_
  intro W base args ds gs before hval hW _ hsz hL _
  have hW' := hW
  obtain ⟨p, q, hA, hV, rfl, hfz, hnd⟩ := hW
  obtain ⟨rfl, rfl⟩ : gs = [] ∧ q = [] := by
    cases gs with
    | nil => exact ⟨rfl, hV⟩
    | cons g r => exact absurd hV (by intro h; cases h)
  have hw : ∀ n ∈ DataW.weightsEach Tryd.prog [33] ds, n ≤ reachBytes := by
    rw [List.append_nil] at hsz
    have hsz : (DataW.weightsEach Tryd.prog [33] ds).all (fun x => decide (x ≤ reachBytes)) = true := hsz
    intro n hn
    simpa using List.all_eq_true.1 hsz n hn
  have hA : DataW.TrodAll enc Tryd.prog W 0 (fun _ => true) true [33] args.toList ds p := hA
  have hcalls : Calls Tryd.prog 6 args W fun e W' => e = .returned (.bool true) ∧ Below W.heap.size W W' :=
    law_calls pok xfr_some rts_ok (fun N => laws_FnLineWants.sound N) (by kernel_rfl) plain (plainMs_ok (by kernel_rfl)) (by decide) hA (fun j t v h1 h2 => hval j t v (by rw [Tryd.params6, ← Array.getElem?_toList]; exact h1) h2) hw (gam_of_laid hL)
  refine hcalls.mono fun e W' ⟨he, hb⟩ => ?_
  subst he
  obtain ⟨v0, vs0, d0, ds0, p0, q0, ea0, rfl, rfl, h0, r0⟩ := trodAll_cons hA
  obtain ⟨rfl, rfl, rfl⟩ := trodAll_nil r0
  exact ⟨_, rfl, _, _, _, [], _, [], hW', trodAll_mk1 (shut_bool Tryd.underlying4 true), trodAll_stay (pts := [33]) laidOut hb (by intro t ht; simp only [List.mem_cons, List.not_mem_nil, or_false] at ht; subst ht; exact ⟨by kernel_rfl, of_decide_eq_true (by kernel_rfl)⟩) hA, rfl, hb.frame _, fun h => by cases h⟩

theorem f_holds : Rows.FnLineWantsSaid :=
  OpenClaim.holds_of_wide 6 Tryd.f6 rfl rfl rfl rfl rfl rfl rfl ⟨rfl, rfl, rfl, rfl, rfl⟩ rfl rfl rfl rfl rfl (by kernel_rfl) Tryd.func6 (by kernel_rfl)
    (of_decide_eq_true (by kernel_rfl)) (by unfold Func.isWrapper; first | (rw [if_pos (by decide +kernel)]; kernel_rfl) | (rw [if_neg (by decide +kernel)]; exact ⟨rfl, rfl⟩))
    (fun os started H enc _ => law_lifted os started H enc)
theorem card_holds : Rows.FnLineWantsCardSaid :=
  Claim7.holds_tied_plain_at .later [] [.data, .data, .data] true (true, "8d819acd1f731890a271b7434878fdc48e3c9b77fdcfd8232e36b7423f4fbf0d") false
    f_holds (fun _ h => by cases h) (by kernel_rfl) (fun _ h => by cases h) fnLineWants_row_tie rfl ⟨rfl, rfl⟩ (by kernel_rfl) rfl
    (fun f fn hf hfn => by
      obtain rfl : f = 6 := Option.some.inj ((show Tryd.prog.funcNamed "loop.example/drawnanew/laws.FnLineWants" = some 6 by kernel_rfl).symm.trans hf) |>.symm
      obtain rfl : fn = Tryd.f6 := (Option.some.inj (Tryd.func6.symm.trans hfn)).symm
      exact ⟨by kernel_rfl, fun j t ht => by
        rw [Tryd.params6] at ht
        have h3 : t = 33 := by
          rcases j with _ | j
          · exact (by simpa using ht.symm)
          · simp at ht
        rcases h3 with rfl
        · exact (show Tryd.prog.wantsStandIn 33 = false by kernel_rfl)⟩)
    (by kernel_rfl)
#print axioms card_holds
end
end Go.Proofs.YtadoojpcjfglgaaDoor
