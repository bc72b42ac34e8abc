/- The card of the law FnExactFormValue holds at every start of the program; the conditions are those of the given row: the tables that it lays, and data within its bounds. -/
import Derived.Test.YtfgdaioblgfipaaDoorEvT2
import Derived.Test.YtfgdaioblgfipaaDoorPl
import Derived.Test.YtfgdaioblgfipaaDoorRows
import Derived.Test.YtfgdaioblgfipaaDoorTie
import Derived.Test.YtfgdaioblgfipaaDoorCards
import Derived.ChangeSame
import Derived.ChangeVars
import Derived.JoinedOf
import Derived.RowKit
import Derived.RowKitTokens
import Derived.LaidLaws
import Derived.LaidHandle
import Derived.Stop.Joined
import Derived.SevenTiedAt
import Derived.ProofKit
set_option linter.all false
set_option linter.unusedVariables false
set_option linter.unusedSimpArgs false
set_option maxRecDepth 100000
set_option linter.unusedVariables false
namespace Go.Proofs.YtfgdaioblgfipaaDoor
noncomputable section
open Go Go.Ev Go.ChangeShapes Go.WideShapes Go.RowKit
theorem own : ownKnob Tryd.prog.godebug = none := by kernel_rfl
theorem laidOut : laidOutB Tryd.prog = true := by kernel_rfl

/-- a table's cells out of its datum -/
noncomputable def datVals : DataW Unit → List Value
  | .agg ds => ds.map fun | .lit (.int k n) => .int k n | _ => .tuple #[]
  | _ => []
noncomputable def putCells (w : World) (g : Nat) (c : Array Value) : World :=
  { w with heap := w.heap.modify g fun
      | .cells _ t frozen => .cells c t frozen
      | o => o }
noncomputable def laidWorld (os : Os) : World :=
  putCells (putCells (putCells (World.holding Tryd.prog os ⟨#[], #[], []⟩) 3 (datVals Rows.laid_math_bits_deBruijn32tab).toArray) 4 (datVals Rows.laid_math_bits_deBruijn64tab).toArray) 2 (datVals Rows.laid_internal_strconv_uint64pow10).toArray
theorem laidWorld_met (os : Os) (args : Array Value) : laidMetH Tryd.prog Rows.fnExactFormValueRow.laid ((laidWorld os).forCall (fun _ _ => 0) ⟨#[], args, []⟩).memory :=
  laidMetH_of_parts (laidMet_of_run' 8 (by kernel_rfl) (by kernel_rfl)) (by kernel_rfl)
theorem gam_of_laid {W : World} (h : laidMetH Tryd.prog Rows.fnExactFormValueRow.laid W) : gam.is W ∧ ∀ b ∈ gam.bs, b < W.heap.size := by
  have h' : laidMet Tryd.prog Rows.fnExactFormValueRow.laid W := h
  have ht : tabW Tryd.prog W := tab_of_laid (g := 2) (t := 168) (e := 156) (n := 20) (by kernel_rfl) (by kernel_rfl) (by kernel_rfl) (by kernel_rfl) (by kernel_rfl) (by kernel_rfl) h' (List.mem_of_getElem? (i := 2) (by kernel_rfl))
  refine ⟨ht, fun b hb => ?_⟩
  simp only [gam, gamA, gamB, List.mem_cons, List.not_mem_nil, or_false] at hb
  subst hb
  exact var_lt (by kernel_rfl) ht

noncomputable def rts : List Nat := [3, 9, 43, 44, 81, 42, 46, 83]
theorem rts_ok : rdOk cx xNs rts = true := by kernel_rfl

theorem str_bd {n : Nat} {s : List UInt8} (h : WC cx n (.str (Δ := D) s)) : s.length ≤ reachBytes := by
  cases n <;> exact h
theorem vals_bd {x : List ImplValue} (h : ∃ n, WC cx n (.shs (Δ := D) (.st 49) x)) : x.length ≤ 1000000000000000 ∧ ∀ v ∈ x, v.text.length ≤ 1000000000000000 := by
  obtain ⟨n, h⟩ := h
  cases n with
  | zero => exact h.elim
  | succ n =>
    refine ⟨Nat.le_trans h.1 (by decide), fun v hv => ?_⟩
    have := h.2 v hv (.str v.text) (by show _ ∈ [CV.int .i64 v.kind, .int .i64 v.num, .str v.text]; simp)
    exact Nat.le_trans (str_bd this) (by decide)
theorem ints_bd {x : List Int} (h : ∃ n, WC cx n (.shs (Δ := D) (.int .i64) x)) : x.length ≤ 1000000000000000 := by
  obtain ⟨n, h⟩ := h
  cases n with
  | zero => exact h.elim
  | succ n => exact Nat.le_trans h.1 (by decide)
theorem steps_bd {x : List LawsStep} (h : ∃ n, ∀ c ∈ cells (Δ := D) cx (.sl (.st 82)) x, WC cx n c) : x.length ≤ 1000000000000000 ∧ ∀ v ∈ x, v.val_Text.length ≤ 1000000000000000 := by
  obtain ⟨n, h⟩ := h
  have h := h (.shs (.st 82) x) (List.mem_singleton.2 rfl)
  cases n with
  | zero => exact h.elim
  | succ n =>
    refine ⟨Nat.le_trans h.1 (by decide), fun v hv => ?_⟩
    have := h.2 v hv (.str v.val_Text) (by show _ ∈ [CV.int .i64 v.kind, .int .i64 v.a, .int .i64 v.val_Kind, .int .i64 v.val_Num, .str v.val_Text]; simp)
    exact Nat.le_trans (str_bd this) (by decide)
theorem env_bd {e : LawsEnv} (h : ∃ n, ∀ c ∈ cells (Δ := D) cx (.st 45) e, WC cx n c) : Pl.EnvB 1000000000000000 e := by
  obtain ⟨n, h⟩ := h
  have m : ∀ c ∈ [CV.shs (.st 49) e.props, .shs (.st 49) e.states, .shs (.int .i64) e.turns, .shs (.st 49) e.gifts], WC cx n c := h
  exact ⟨vals_bd ⟨n, m _ (by simp)⟩, vals_bd ⟨n, m _ (by simp)⟩, ints_bd ⟨n, m _ (by simp)⟩, vals_bd ⟨n, m _ (by simp)⟩⟩
theorem plain : ∀ x, WfL cx laws_FnExactFormValue.sg.ms x → ∃ N r, (laws_FnExactFormValue.sm N).fn x = some r ∧ (encL cx laws_FnExactFormValue.sg.outs r).1 = [.c (.bool true)] :=
  fun x hx => ⟨4000001, _, Pl.FnExactFormValue_true (Nat.le_refl _) x.1 x.2.1 (steps_bd hx.1).1 (steps_bd hx.1).2 (env_bd hx.2.1), rfl⟩

theorem law_lifted (os : Os) (started : os.Started) (H : Type) (enc : TypeId × Value → H) :
    ReturnsInHanded {} Tryd.checked os 6 .any (fun w args => (Rows.fnExactFormValueSpec.pre enc Tryd.prog Tryd.f6 [] false w args ∧ laidMetH Tryd.prog Rows.fnExactFormValueRow.laid w) ∧ sizedMet enc Tryd.prog Tryd.f6 (OpenSpec.ofChange Rows.fnExactFormValueSpec) false w args)
      (Rows.fnExactFormValueSpec.post enc Tryd.prog Tryd.f6 false true false false) := by
  refine returnsInHanded_of_change_and (C := Tryd.checked) (X := fun w _ => laidMetH Tryd.prog Rows.fnExactFormValueRow.laid w) (fun _ _ _ hh h => h.of_heap hh) own started (by kernel_rfl) Tryd.func6
    (ChangeSpec.witness_at (enc := enc) (C := Tryd.checked) (os := os) (X := fun w _ => laidMetH Tryd.prog Rows.fnExactFormValueRow.laid w) false (laidWorld os) #[.slice none 0 0, .agg #[.slice none 0 0, .slice none 0 0, .slice none 0 0, .slice none 0 0]] 10 rfl (by kernel_rfl) (by kernel_rfl) (by kernel_rfl) (by kernel_rfl) (by kernel_rfl) (laidWorld_met os _)) ?_
  intro W base args ds gs before hval hW _ hsz hL _
  have hW' := hW
  obtain ⟨p, q, hA, hV, rfl, hfz, hnd⟩ := hW
  obtain ⟨rfl, rfl⟩ : gs = [] ∧ q = [] := by
    cases gs with
    | nil => exact ⟨rfl, hV⟩
    | cons g r => exact absurd hV (by intro h; cases h)
  have hw : ∀ n ∈ DataW.weightsEach Tryd.prog [42, 46] ds, n ≤ reachBytes := by
    rw [List.append_nil] at hsz
    have hsz : (DataW.weightsEach Tryd.prog [42, 46] ds).all (fun x => decide (x ≤ reachBytes)) = true := hsz
    intro n hn
    simpa using List.all_eq_true.1 hsz n hn
  have hA : DataW.TrodAll enc Tryd.prog W 0 (fun _ => true) true [42, 46] args.toList ds p := hA
  have hcalls : Calls Tryd.prog 6 args W fun e W' => e = .returned (.bool true) ∧ Below W.heap.size W W' :=
    law_calls pok xfr_some rts_ok (fun N => laws_FnExactFormValue.sound N) (by kernel_rfl) plain (plainMs_ok (by kernel_rfl)) (by decide) hA (fun j t v h1 h2 => hval j t v (by rw [Tryd.params6, ← Array.getElem?_toList]; exact h1) h2) hw (gam_of_laid hL)
  refine hcalls.mono fun e W' ⟨he, hb⟩ => ?_
  subst he
  obtain ⟨v0, vs0, d0, ds0, p0, q0, ea0, rfl, rfl, h0, r0⟩ := trodAll_cons hA
  obtain ⟨v1, vs1, d1, ds1, p1, q1, ea1, rfl, rfl, h1, r1⟩ := trodAll_cons r0
  obtain ⟨rfl, rfl, rfl⟩ := trodAll_nil r1
  exact ⟨_, rfl, _, _, _, [], _, [], hW', trodAll_mk1 (shut_bool Tryd.underlying4 true), trodAll_stay (pts := [42, 46]) laidOut hb (by intro t ht; simp only [List.mem_cons, List.not_mem_nil, or_false] at ht; (rcases ht with rfl | rfl) <;> exact ⟨by kernel_rfl, of_decide_eq_true (by kernel_rfl)⟩) hA, rfl, hb.frame _, fun h => by cases h⟩

theorem f_holds : Rows.FnExactFormValueSaid :=
  OpenClaim.holds_of_wide 6 Tryd.f6 rfl rfl rfl rfl rfl rfl rfl ⟨rfl, rfl, rfl, rfl, rfl⟩ rfl rfl rfl rfl rfl (by kernel_rfl) Tryd.func6 (by kernel_rfl)
    (of_decide_eq_true (by kernel_rfl)) (by unfold Func.isWrapper; first | (rw [if_pos (by decide +kernel)]; kernel_rfl) | (rw [if_neg (by decide +kernel)]; exact ⟨rfl, rfl⟩))
    (fun os started H enc _ => law_lifted os started H enc)
theorem card_holds : Rows.FnExactFormValueCardSaid :=
  Claim7.holds_tied_plain_at .later [] [.data, .data, .data] true (true, "0725604e53844b0c7481a3f6fab860b102f57ad35b4aae88798bd782110e6eed") true
    f_holds (fun _ h => by cases h) (by kernel_rfl) (fun _ h => by cases h) fnExactFormValue_row_tie rfl ⟨rfl, rfl⟩ (by kernel_rfl) rfl
    (fun f fn hf hfn => by
      obtain rfl : f = 6 := Option.some.inj ((show Tryd.prog.funcNamed "loop.example/drawnanew/laws.FnExactFormValue" = some 6 by kernel_rfl).symm.trans hf) |>.symm
      obtain rfl : fn = Tryd.f6 := (Option.some.inj (Tryd.func6.symm.trans hfn)).symm
      exact ⟨by kernel_rfl, fun j t ht => by
        rw [Tryd.params6] at ht
        have h3 : t = 42 ∨ t = 46 := by
          rcases j with _ | j
          · exact Or.inl (by simpa using ht.symm)
          · rcases j with _ | j
            · exact Or.inr (by simpa using ht.symm)
            · simp at ht
        rcases h3 with rfl | rfl
        · exact (show Tryd.prog.wantsStandIn 42 = false by kernel_rfl)
        · exact (show Tryd.prog.wantsStandIn 46 = false by kernel_rfl)⟩)
    (by kernel_rfl)
#print axioms card_holds
end
end Go.Proofs.YtfgdaioblgfipaaDoor
