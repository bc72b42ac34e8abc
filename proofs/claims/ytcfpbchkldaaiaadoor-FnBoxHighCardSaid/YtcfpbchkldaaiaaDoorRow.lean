/- The card of the law FnBoxHigh holds at every start of the program; the conditions are those of the given row: the tables that it lays, and data within its bounds. -/
import Derived.Test.YtcfpbchkldaaiaaDoorEvT3
import Derived.Test.YtcfpbchkldaaiaaDoorPl
import Derived.Test.YtcfpbchkldaaiaaDoorRows
import Derived.Test.YtcfpbchkldaaiaaDoorTie
import Derived.Test.YtcfpbchkldaaiaaDoorCards
import Derived.ChangeSame
import Derived.ChangeVars
import Derived.JoinedOf
import Derived.RowKit
import Derived.RowKitTokens
import Derived.LaidLaws
import Derived.LaidHandle
import Derived.Stop.Joined
import Derived.SevenTiedAt
import Derived.ProofKit
set_option linter.all false
set_option linter.unusedVariables false
set_option linter.unusedSimpArgs false
set_option maxRecDepth 100000
set_option linter.unusedVariables false
namespace Go.Proofs.YtcfpbchkldaaiaaDoor
noncomputable section
open Go Go.Ev Go.ChangeShapes Go.WideShapes Go.RowKit
theorem own : ownKnob Tryd.prog.godebug = none := by kernel_rfl
theorem laidOut : laidOutB Tryd.prog = true := by kernel_rfl

/-- a table's cells out of its datum -/
noncomputable def datVals : DataW Unit → List Value
  | .agg ds => ds.map fun | .lit (.int k n) => .int k n | _ => .tuple #[]
  | _ => []
noncomputable def putCells (w : World) (g : Nat) (c : Array Value) : World :=
  { w with heap := w.heap.modify g fun
      | .cells _ t frozen => .cells c t frozen
      | o => o }
noncomputable def errText (d : DataW Unit) : Value :=
  match d with
  | .iface _ (.ptr (.agg [.lit (.string b)])) => .string ⟨b.toArray⟩
  | _ => .nilIface
noncomputable def withErr (w : World) (g : Nat) (d : DataW Unit) : World :=
  putCells (w.alloc (.cells #[errText d] 121)) g #[.iface 119 (.pointer (some ⟨w.heap.size, 0, none⟩))]
noncomputable def laidWorld (os : Os) : World :=
  withErr (withErr (putCells (putCells (putCells (World.holding Tryd.prog os ⟨#[], #[], []⟩) 3 (datVals Rows.laid_math_bits_deBruijn32tab).toArray) 4 (datVals Rows.laid_math_bits_deBruijn64tab).toArray) 2 (datVals Rows.laid_internal_strconv_uint64pow10).toArray) 1 Rows.laid_strconv_ErrRange) 0 Rows.laid_strconv_ErrSyntax
theorem laidWorld_met (os : Os) (args : Array Value) : laidMetH Tryd.prog Rows.fnBoxHighRow.laid ((laidWorld os).forCall (fun _ _ => 0) ⟨#[], args, []⟩).memory :=
  laidMetH_of_parts (laidMet_of_run' 8 (by kernel_rfl) (by kernel_rfl)) (by kernel_rfl)
theorem gam_of_laid {W : World} (h : laidMetH Tryd.prog Rows.fnBoxHighRow.laid W) : gam.is W ∧ ∀ b ∈ gam.bs, b < W.heap.size := by
  have h' : laidMet Tryd.prog Rows.fnBoxHighRow.laid W := h
  have ht : tabW Tryd.prog W := tab_of_laid (g := 2) (t := 123) (e := 104) (n := 20) (by kernel_rfl) (by kernel_rfl) (by kernel_rfl) (by kernel_rfl) (by kernel_rfl) (by kernel_rfl) h' (List.mem_of_getElem? (i := 2) (by kernel_rfl))
  have hs : ∃ tp p, W.var? Tryd.prog "strconv.ErrSyntax" = some #[.iface tp p] := err_of_laid (g := 0) (t := 91) (by kernel_rfl) (by kernel_rfl) Tryd.underlying91 h' (show ("strconv.ErrSyntax", (Rows.laid_strconv_ErrSyntax : DataW Unit)) ∈ Rows.fnBoxHighRow.laid from List.mem_of_getElem? (i := 4) (by kernel_rfl))
  have hr : ∃ tp p, W.var? Tryd.prog "strconv.ErrRange" = some #[.iface tp p] := err_of_laid (g := 1) (t := 91) (by kernel_rfl) (by kernel_rfl) Tryd.underlying91 h' (show ("strconv.ErrRange", (Rows.laid_strconv_ErrRange : DataW Unit)) ∈ Rows.fnBoxHighRow.laid from List.mem_of_getElem? (i := 3) (by kernel_rfl))
  refine ⟨⟨ht, hs, hr⟩, fun b hb => ?_⟩
  obtain ⟨_, _, hs⟩ := hs
  obtain ⟨_, _, hr⟩ := hr
  simp only [gam, gamB, List.mem_cons, List.not_mem_nil, or_false] at hb
  rcases hb with rfl | rfl | rfl
  · exact var_lt (by kernel_rfl) ht
  · exact var_lt (by kernel_rfl) hs
  · exact var_lt (by kernel_rfl) hr

noncomputable def rts : List Nat := [5, 22]
theorem rts_ok : rdOk cx xNs rts = true := by kernel_rfl

theorem bytes_of {x : List Int} (h : ∃ n, ∀ c ∈ cells (Δ := D) cx (.sl (.int .u8)) x, WC cx n c) : ∀ v ∈ x, 0 ≤ v ∧ v ≤ 255 := by
  obtain ⟨n, h⟩ := h
  have h := h (.shs (.int .u8) x) (List.mem_singleton.2 rfl)
  cases n with
  | zero => exact h.elim
  | succ n =>
    intro v hv
    have := h.2 v hv (.int .u8 v) (List.mem_singleton.2 rfl)
    have e : (Lit.int .u8 v).wf = true := by cases n <;> exact this
    have e2 : (decide (0 ≤ v) && decide (v ≤ 255)) = true := e
    simpa using e2
theorem plain : ∀ x, WfL cx laws_FnBoxHigh.sg.ms x → ∃ N r, (laws_FnBoxHigh.sm N).fn x = some r ∧ (encL cx laws_FnBoxHigh.sg.outs r).1 = [.c (.bool true)] :=
  fun x hx => ⟨4000000000000001, _, Pl.FnBoxHigh_true (Nat.le_refl _) x.1 (bytes_of hx.1), rfl⟩

theorem law_lifted (os : Os) (started : os.Started) (H : Type) (enc : TypeId × Value → H) :
    ReturnsInHanded {} Tryd.checked os 3 .any (fun w args => (Rows.fnBoxHighSpec.pre enc Tryd.prog Tryd.f3 [] false w args ∧ laidMetH Tryd.prog Rows.fnBoxHighRow.laid w) ∧ sizedMet enc Tryd.prog Tryd.f3 (OpenSpec.ofChange Rows.fnBoxHighSpec) false w args)
      (Rows.fnBoxHighSpec.post enc Tryd.prog Tryd.f3 false true false false) := by
  refine returnsInHanded_of_change_and (C := Tryd.checked) (X := fun w _ => laidMetH Tryd.prog Rows.fnBoxHighRow.laid w) (fun _ _ _ hh h => h.of_heap hh) own started (by kernel_rfl) Tryd.func3
    (ChangeSpec.witness_at (enc := enc) (C := Tryd.checked) (os := os) (X := fun w _ => laidMetH Tryd.prog Rows.fnBoxHighRow.laid w) false (laidWorld os) #[.slice none 0 0] 12 rfl (by kernel_rfl) (by kernel_rfl) (by kernel_rfl) (by kernel_rfl) (by kernel_rfl) (laidWorld_met os _)) ?_
  intro W base args ds gs before hval hW _ hsz hL _
  have hW' := hW
  obtain ⟨p, q, hA, hV, rfl, hfz, hnd⟩ := hW
  obtain ⟨rfl, rfl⟩ : gs = [] ∧ q = [] := by
    cases gs with
    | nil => exact ⟨rfl, hV⟩
    | cons g r => exact absurd hV (by intro h; cases h)
  have hw : ∀ n ∈ DataW.weightsEach Tryd.prog [22] ds, n ≤ reachBytes := by
    rw [List.append_nil] at hsz
    have hsz : (DataW.weightsEach Tryd.prog [22] ds).all (fun x => decide (x ≤ reachBytes)) = true := hsz
    intro n hn
    simpa using List.all_eq_true.1 hsz n hn
  have hA : DataW.TrodAll enc Tryd.prog W 0 (fun _ => true) true [22] args.toList ds p := hA
  have hcalls : Calls Tryd.prog 3 args W fun e W' => e = .returned (.bool true) ∧ Below W.heap.size W W' :=
    law_calls pok xfr_some rts_ok (fun N => laws_FnBoxHigh.sound N) (by kernel_rfl) plain (plainMs_ok (by kernel_rfl)) (by decide) hA (fun j t v h1 h2 => hval j t v (by rw [Tryd.params3, ← Array.getElem?_toList]; exact h1) h2) hw (gam_of_laid hL)
  refine hcalls.mono fun e W' ⟨he, hb⟩ => ?_
  subst he
  obtain ⟨v0, vs0, d0, ds0, p0, q0, ea0, rfl, rfl, h0, r0⟩ := trodAll_cons hA
  obtain ⟨rfl, rfl, rfl⟩ := trodAll_nil r0
  exact ⟨_, rfl, _, _, _, [], _, [], hW', trodAll_mk1 (shut_bool Tryd.underlying4 true), trodAll_stay (pts := [22]) laidOut hb (by intro t ht; simp only [List.mem_cons, List.not_mem_nil, or_false] at ht; subst ht; exact ⟨by kernel_rfl, of_decide_eq_true (by kernel_rfl)⟩) hA, rfl, hb.frame _, fun h => by cases h⟩

theorem f_holds : Rows.FnBoxHighSaid :=
  OpenClaim.holds_of_wide 3 Tryd.f3 rfl rfl rfl rfl rfl rfl rfl ⟨rfl, rfl, rfl, rfl, rfl⟩ rfl rfl rfl rfl rfl (by kernel_rfl) Tryd.func3 (by kernel_rfl)
    (of_decide_eq_true (by kernel_rfl)) (by unfold Func.isWrapper; first | (rw [if_pos (by decide +kernel)]; kernel_rfl) | (rw [if_neg (by decide +kernel)]; exact ⟨rfl, rfl⟩))
    (fun os started H enc _ => law_lifted os started H enc)
theorem card_holds : Rows.FnBoxHighCardSaid :=
  Claim7.holds_tied_plain_at .later [] [.data, .data, .data, .sentinel, .sentinel] true (true, "a1859a931934842c3b671c850897707c49b73bc8100d2a465c67cd9781b6ef4c") true
    f_holds (fun _ h => by cases h) (by kernel_rfl) (fun _ h => by cases h) fnBoxHigh_row_tie rfl ⟨rfl, rfl⟩ (by kernel_rfl) rfl
    (fun f fn hf hfn => by
      obtain rfl : f = 3 := Option.some.inj ((show Tryd.prog.funcNamed "loop.example/drawnanew/laws.FnBoxHigh" = some 3 by kernel_rfl).symm.trans hf) |>.symm
      obtain rfl : fn = Tryd.f3 := (Option.some.inj (Tryd.func3.symm.trans hfn)).symm
      exact ⟨by kernel_rfl, fun j t ht => by
        rw [Tryd.params3] at ht
        have h3 : t = 22 := by
          rcases j with _ | j
          · exact (by simpa using ht.symm)
          · simp at ht
        rcases h3 with rfl
        · exact (show Tryd.prog.wantsStandIn 22 = false by kernel_rfl)⟩)
    (by kernel_rfl)
#print axioms card_holds
end
end Go.Proofs.YtcfpbchkldaaiaaDoor
