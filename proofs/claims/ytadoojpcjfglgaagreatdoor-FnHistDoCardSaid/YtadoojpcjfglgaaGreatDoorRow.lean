/- The card of the law FnHistDo holds at every start of the program; the conditions are those of the given row: the tables that it lays, and data within its bounds. -/
import Derived.Test.YtadoojpcjfglgaaGreatDoorEvT4
import Derived.Test.YtadoojpcjfglgaaGreatDoorPl
import Derived.Test.YtadoojpcjfglgaaGreatDoorRows
import Derived.Test.YtadoojpcjfglgaaGreatDoorTie
import Derived.Test.YtadoojpcjfglgaaGreatDoorCards
import Derived.ChangeSame
import Derived.ChangeVars
import Derived.JoinedOf
import Derived.RowKit
import Derived.RowKitTokens
import Derived.LaidLaws
import Derived.LaidHandle
import Derived.Stop.Joined
import Derived.SevenTiedAt
import Derived.ProofKit
set_option linter.all false
set_option linter.unusedVariables false
set_option linter.unusedSimpArgs false
set_option maxRecDepth 100000
set_option linter.unusedVariables false
namespace Go.Proofs.YtadoojpcjfglgaaGreatDoor
noncomputable section
open Go Go.Ev Go.ChangeShapes Go.WideShapes Go.RowKit
theorem own : ownKnob Tryz.prog.godebug = none := by kernel_rfl
theorem laidOut : laidOutB Tryz.prog = true := by kernel_rfl

/-- a table's cells out of its datum -/
noncomputable def datVals : DataW Unit → List Value
  | .agg ds => ds.map fun | .lit (.int k n) => .int k n | _ => .tuple #[]
  | _ => []
noncomputable def putCells (w : World) (g : Nat) (c : Array Value) : World :=
  { w with heap := w.heap.modify g fun
      | .cells _ t frozen => .cells c t frozen
      | o => o }
noncomputable def laidWorld (os : Os) : World :=
  putCells (putCells (putCells (World.holding Tryz.prog os ⟨#[], #[], []⟩) 1 (datVals Rows.laid_math_bits_deBruijn32tab).toArray) 2 (datVals Rows.laid_math_bits_deBruijn64tab).toArray) 0 (datVals Rows.laid_internal_strconv_uint64pow10).toArray
theorem laidWorld_met (os : Os) (args : Array Value) : laidMetH Tryz.prog Rows.fnHistDoRow.laid ((laidWorld os).forCall (fun _ _ => 0) ⟨#[], args, []⟩).memory :=
  laidMetH_of_parts (laidMet_of_run' 8 (by kernel_rfl) (by kernel_rfl)) (by kernel_rfl)
theorem gam_of_laid {W : World} (h : laidMetH Tryz.prog Rows.fnHistDoRow.laid W) : gam.is W ∧ ∀ b ∈ gam.bs, b < W.heap.size := by
  have h' : laidMet Tryz.prog Rows.fnHistDoRow.laid W := h
  have ht : tabW Tryz.prog W := tab_of_laid (g := 0) (t := 192) (e := 186) (n := 20) (by kernel_rfl) (by kernel_rfl) (by kernel_rfl) (by kernel_rfl) (by kernel_rfl) (by kernel_rfl) h' (List.mem_of_getElem? (i := 2) (by kernel_rfl))
  refine ⟨ht, fun b hb => ?_⟩
  simp only [gam, gamA, gamB, List.mem_cons, List.not_mem_nil, or_false] at hb
  subst hb
  exact var_lt (by kernel_rfl) ht

noncomputable def rts : List Nat := [5, 22]
theorem rts_ok : rdOk cx xNs rts = true := by kernel_rfl

theorem bytes_of {x : List Int} (h : ∃ n, ∀ c ∈ cells (Δ := D) cx (.sl (.int .u8)) x, WC cx n c) : ∀ v ∈ x, 0 ≤ v ∧ v ≤ 255 := by
  obtain ⟨n, h⟩ := h
  have h := h (.shs (.int .u8) x) (List.mem_singleton.2 rfl)
  cases n with
  | zero => exact h.elim
  | succ n =>
    intro v hv
    have := h.2 v hv (.int .u8 v) (List.mem_singleton.2 rfl)
    have e : (Lit.int .u8 v).wf = true := by cases n <;> exact this
    have e2 : (decide (0 ≤ v) && decide (v ≤ 255)) = true := e
    simpa using e2
theorem plain : ∀ x, WfL cx laws_FnHistDo.sg.ms x → ∃ N r, (laws_FnHistDo.sm N).fn x = some r ∧ (encL cx laws_FnHistDo.sg.outs r).1 = [.c (.bool true)] :=
  fun x hx => ⟨4000000000000001, _, Pl.FnHistDo_true (Nat.le_refl _) x.1 (bytes_of hx.1), rfl⟩

theorem law_lifted (os : Os) (started : os.Started) (H : Type) (enc : TypeId × Value → H) :
    ReturnsInHanded {} Tryz.checked os 8 .any (fun w args => (Rows.fnHistDoSpec.pre enc Tryz.prog Tryz.f8 [] false w args ∧ laidMetH Tryz.prog Rows.fnHistDoRow.laid w) ∧ sizedMet enc Tryz.prog Tryz.f8 (OpenSpec.ofChange Rows.fnHistDoSpec) false w args)
      (Rows.fnHistDoSpec.post enc Tryz.prog Tryz.f8 false true false false) := by
  refine returnsInHanded_of_change_and (C := Tryz.checked) (X := fun w _ => laidMetH Tryz.prog Rows.fnHistDoRow.laid w) (fun _ _ _ hh h => h.of_heap hh) own started (by kernel_rfl) Tryz.func8
    (ChangeSpec.witness_at (enc := enc) (C := Tryz.checked) (os := os) (X := fun w _ => laidMetH Tryz.prog Rows.fnHistDoRow.laid w) false (laidWorld os) #[.slice none 0 0] 12 rfl (by kernel_rfl) (by kernel_rfl) (by kernel_rfl) (by kernel_rfl) (by kernel_rfl) (laidWorld_met os _)) ?_
  intro W base args ds gs before hval hW _ hsz hL _
  have hW' := hW
  obtain ⟨p, q, hA, hV, rfl, hfz, hnd⟩ := hW
  obtain ⟨rfl, rfl⟩ : gs = [] ∧ q = [] := by
    cases gs with
    | nil => exact ⟨rfl, hV⟩
    | cons g r => exact absurd hV (by intro h; cases h)
  have hw : ∀ n ∈ DataW.weightsEach Tryz.prog [22] ds, n ≤ reachBytes := by
    rw [List.append_nil] at hsz
    have hsz : (DataW.weightsEach Tryz.prog [22] ds).all (fun x => decide (x ≤ reachBytes)) = true := hsz
    intro n hn
    simpa using List.all_eq_true.1 hsz n hn
  have hA : DataW.TrodAll enc Tryz.prog W 0 (fun _ => true) true [22] args.toList ds p := hA
  have hcalls : Calls Tryz.prog 8 args W fun e W' => e = .returned (.bool true) ∧ Below W.heap.size W W' :=
    law_calls pok xfr_some rts_ok (fun N => laws_FnHistDo.sound N) (by kernel_rfl) plain (plainMs_ok (by kernel_rfl)) (by decide) hA (fun j t v h1 h2 => hval j t v (by rw [Tryz.params8, ← Array.getElem?_toList]; exact h1) h2) hw (gam_of_laid hL)
  refine hcalls.mono fun e W' ⟨he, hb⟩ => ?_
  subst he
  obtain ⟨v0, vs0, d0, ds0, p0, q0, ea0, rfl, rfl, h0, r0⟩ := trodAll_cons hA
  obtain ⟨rfl, rfl, rfl⟩ := trodAll_nil r0
  exact ⟨_, rfl, _, _, _, [], _, [], hW', trodAll_mk1 (shut_bool Tryz.underlying4 true), trodAll_stay (pts := [22]) laidOut hb (by intro t ht; simp only [List.mem_cons, List.not_mem_nil, or_false] at ht; subst ht; exact ⟨by kernel_rfl, of_decide_eq_true (by kernel_rfl)⟩) hA, rfl, hb.frame _, fun h => by cases h⟩

theorem f_holds : Rows.FnHistDoSaid :=
  OpenClaim.holds_of_wide 8 Tryz.f8 rfl rfl rfl rfl rfl rfl rfl ⟨rfl, rfl, rfl, rfl, rfl⟩ rfl rfl rfl rfl rfl (by kernel_rfl) Tryz.func8 (by kernel_rfl)
    (of_decide_eq_true (by kernel_rfl)) (by unfold Func.isWrapper; first | (rw [if_pos (by decide +kernel)]; kernel_rfl) | (rw [if_neg (by decide +kernel)]; exact ⟨rfl, rfl⟩))
    (fun os started H enc _ => law_lifted os started H enc)
theorem card_holds : Rows.FnHistDoCardSaid :=
  Claim7.holds_tied_plain_at .later [] [.data, .data, .data] true (true, "cacdd51334c156fb61e9d210ae81f2deb3b5a37e771067b7ef3ac0930b74451a") false
    f_holds (fun _ h => by cases h) (by kernel_rfl) (fun _ h => by cases h) fnHistDo_row_tie rfl ⟨rfl, rfl⟩ (by kernel_rfl) rfl
    (fun f fn hf hfn => by
      obtain rfl : f = 8 := Option.some.inj ((show Tryz.prog.funcNamed "loop.example/drawnanew/laws.FnHistDo" = some 8 by kernel_rfl).symm.trans hf) |>.symm
      obtain rfl : fn = Tryz.f8 := (Option.some.inj (Tryz.func8.symm.trans hfn)).symm
      exact ⟨by kernel_rfl, fun j t ht => by
        rw [Tryz.params8] at ht
        have h3 : t = 22 := by
          rcases j with _ | j
          · exact (by simpa using ht.symm)
          · simp at ht
        rcases h3 with rfl
        · exact (show Tryz.prog.wantsStandIn 22 = false by kernel_rfl)⟩)
    (by kernel_rfl)
#print axioms card_holds
end
end Go.Proofs.YtadoojpcjfglgaaGreatDoor
