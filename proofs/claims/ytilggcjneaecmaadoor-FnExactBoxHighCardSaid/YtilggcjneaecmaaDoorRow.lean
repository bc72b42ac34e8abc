/- The card of the law FnExactBoxHigh holds at every start of the program; the conditions are those of the given row: the tables that it lays, and data within its bounds. -/
import Derived.Test.YtilggcjneaecmaaDoorEvT3
import Derived.Test.YtilggcjneaecmaaDoorPl
import Derived.Test.YtilggcjneaecmaaDoorRows
import Derived.Test.YtilggcjneaecmaaDoorTie
import Derived.Test.YtilggcjneaecmaaDoorCards
import Derived.ChangeSame
import Derived.ChangeVars
import Derived.JoinedOf
import Derived.RowKit
import Derived.RowKitTokens
import Derived.LaidLaws
import Derived.LaidHandle
import Derived.Stop.Joined
import Derived.SevenTiedAt
import Derived.ProofKit
set_option linter.all false
set_option linter.unusedVariables false
set_option linter.unusedSimpArgs false
set_option maxRecDepth 100000
set_option linter.unusedVariables false
namespace Go.Proofs.YtilggcjneaecmaaDoor
noncomputable section
open Go Go.Ev Go.ChangeShapes Go.WideShapes Go.RowKit
theorem own : ownKnob Tryd.prog.godebug = none := by kernel_rfl
theorem laidOut : laidOutB Tryd.prog = true := by kernel_rfl

/-- a table's cells out of its datum -/
noncomputable def datVals : DataW Unit → List Value
  | .agg ds => ds.map fun | .lit (.int k n) => .int k n | _ => .tuple #[]
  | _ => []
noncomputable def putCells (w : World) (g : Nat) (c : Array Value) : World :=
  { w with heap := w.heap.modify g fun
      | .cells _ t frozen => .cells c t frozen
      | o => o }
noncomputable def errText (d : DataW Unit) : Value :=
  match d with
  | .iface _ (.ptr (.agg [.lit (.string b)])) => .string ⟨b.toArray⟩
  | _ => .nilIface
noncomputable def withErr (w : World) (g : Nat) (d : DataW Unit) : World :=
  putCells (w.alloc (.cells #[errText d] 136)) g #[.iface 134 (.pointer (some ⟨w.heap.size, 0, none⟩))]
noncomputable def laidWorld (os : Os) : World :=
  withErr (withErr (putCells (putCells (putCells (World.holding Tryd.prog os ⟨#[], #[], []⟩) 3 (datVals Rows.laid_math_bits_deBruijn32tab).toArray) 4 (datVals Rows.laid_math_bits_deBruijn64tab).toArray) 2 (datVals Rows.laid_internal_strconv_uint64pow10).toArray) 1 Rows.laid_strconv_ErrRange) 0 Rows.laid_strconv_ErrSyntax
theorem laidWorld_met (os : Os) (args : Array Value) : laidMetH Tryd.prog Rows.fnExactBoxHighRow.laid ((laidWorld os).forCall (fun _ _ => 0) ⟨#[], args, []⟩).memory :=
  laidMetH_of_parts (laidMet_of_run' 8 (by kernel_rfl) (by kernel_rfl)) (by kernel_rfl)
theorem gam_of_laid {W : World} (h : laidMetH Tryd.prog Rows.fnExactBoxHighRow.laid W) : gam.is W ∧ ∀ b ∈ gam.bs, b < W.heap.size := by
  have h' : laidMet Tryd.prog Rows.fnExactBoxHighRow.laid W := h
  have ht : tabW Tryd.prog W := tab_of_laid (g := 2) (t := 139) (e := 119) (n := 20) (by kernel_rfl) (by kernel_rfl) (by kernel_rfl) (by kernel_rfl) (by kernel_rfl) (by kernel_rfl) h' (List.mem_of_getElem? (i := 2) (by kernel_rfl))
  have hs : ∃ tp p, W.var? Tryd.prog "strconv.ErrSyntax" = some #[.iface tp p] := err_of_laid (g := 0) (t := 105) (by kernel_rfl) (by kernel_rfl) Tryd.underlying105 h' (show ("strconv.ErrSyntax", (Rows.laid_strconv_ErrSyntax : DataW Unit)) ∈ Rows.fnExactBoxHighRow.laid from List.mem_of_getElem? (i := 4) (by kernel_rfl))
  have hr : ∃ tp p, W.var? Tryd.prog "strconv.ErrRange" = some #[.iface tp p] := err_of_laid (g := 1) (t := 105) (by kernel_rfl) (by kernel_rfl) Tryd.underlying105 h' (show ("strconv.ErrRange", (Rows.laid_strconv_ErrRange : DataW Unit)) ∈ Rows.fnExactBoxHighRow.laid from List.mem_of_getElem? (i := 3) (by kernel_rfl))
  refine ⟨⟨ht, hs, hr⟩, fun b hb => ?_⟩
  obtain ⟨_, _, hs⟩ := hs
  obtain ⟨_, _, hr⟩ := hr
  simp only [gam, gamB, List.mem_cons, List.not_mem_nil, or_false] at hb
  rcases hb with rfl | rfl | rfl
  · exact var_lt (by kernel_rfl) ht
  · exact var_lt (by kernel_rfl) hs
  · exact var_lt (by kernel_rfl) hr

noncomputable def rts : List Nat := [3, 9, 22, 23, 25, 26, 44, 46, 65]
theorem rts_ok : rdOk cx xNs rts = true := by kernel_rfl

theorem str_bd {n : Nat} {s : List UInt8} (h : WC cx n (.str (Δ := D) s)) : s.length ≤ reachBytes := by
  cases n <;> exact h
theorem props_bd {n : Nat} {x : List LawsProp} (h : WC cx n (.shs (Δ := D) (.st 64) x)) : x.length ≤ 1000000000000000 ∧ ∀ v ∈ x, v.val_Text.length ≤ 1000000000000000 := by
  cases n with
  | zero => exact h.elim
  | succ n =>
    refine ⟨Nat.le_trans h.1 (by decide), fun v hv => ?_⟩
    have := h.2 v hv (.str v.val_Text) (by show _ ∈ [CV.int .i64 v.name, .int .i64 v.val_Kind, .int .i64 v.val_Num, .str v.val_Text]; simp)
    exact Nat.le_trans (str_bd this) (by decide)
theorem tree_bd : ∀ (n : Nat) (t : LawsTree), (∀ c ∈ [CV.int (Δ := D) .i64 t.tag, .int .i64 t.key, .str t.text, .shs (.st 64) t.props, .shs (.st 24) t.kids], WC cx n c) → Pl.LTB 1000000000000000 (n + 1) t
  | 0, t, h => (h (.shs (.st 24) t.kids) (by simp)).elim
  | n + 1, t, h => by
    have hk : WC cx (n + 1) (.shs (.st 24) t.kids) := h _ (by simp)
    exact ⟨⟨Nat.le_trans (str_bd (h (.str t.text) (by simp))) (by decide), props_bd (h (.shs (.st 64) t.props) (by simp)), Nat.le_trans hk.1 (by decide)⟩, fun k hm => tree_bd n k (hk.2 k hm)⟩
theorem rule_bd {n : Nat} {t : LawsRule} (h : ∀ c ∈ [CV.int (Δ := D) .i64 t.tag, .int .i64 t.above, .int .i64 t.name, .int .i64 t.val_Kind, .int .i64 t.val_Num, .str t.val_Text, .int .i64 t.look, .int .i64 t.give], WC cx n c) : Pl.LRule 1000000000000000 t :=
  ⟨⟨Nat.le_trans (str_bd (h (.str t.val_Text) (by simp))) (by decide), trivial⟩, trivial⟩
theorem rules_bd {n : Nat} {x : List LawsRule} (h : WC cx n (.shs (Δ := D) (.st 45) x)) : Pl.LAll 1000000000000000 (Pl.LRule 1000000000000000) x := by
  cases n with
  | zero => exact h.elim
  | succ n => exact ⟨Nat.le_trans h.1 (by decide), fun v hv => rule_bd (h.2 v hv)⟩
theorem plain : ∀ x, WfL cx laws_FnExactBoxHigh.sg.ms x → ∃ N r, (laws_FnExactBoxHigh.sm N).fn x = some r ∧ (encL cx laws_FnExactBoxHigh.sg.outs r).1 = [.c (.bool true)] := by
  intro x hx
  obtain ⟨n, h⟩ := hx.1
  obtain ⟨m, h'⟩ := hx.2.1
  exact ⟨4000000000000001 + 2 * (n + 1), _, Pl.FnExactBoxHigh_true (n := n + 1) (by omega) (by omega) x.1 x.2.1 x.2.2.1 (tree_bd n x.1 h) (rules_bd (h' _ (List.mem_singleton.2 rfl))), rfl⟩

theorem law_lifted (os : Os) (started : os.Started) (H : Type) (enc : TypeId × Value → H) :
    ReturnsInHanded {} Tryd.checked os 3 .any (fun w args => (Rows.fnExactBoxHighSpec.pre enc Tryd.prog Tryd.f3 [] false w args ∧ laidMetH Tryd.prog Rows.fnExactBoxHighRow.laid w) ∧ sizedMet enc Tryd.prog Tryd.f3 (OpenSpec.ofChange Rows.fnExactBoxHighSpec) false w args)
      (Rows.fnExactBoxHighSpec.post enc Tryd.prog Tryd.f3 false true false false) := by
  refine returnsInHanded_of_change_and (C := Tryd.checked) (X := fun w _ => laidMetH Tryd.prog Rows.fnExactBoxHighRow.laid w) (fun _ _ _ hh h => h.of_heap hh) own started (by kernel_rfl) Tryd.func3
    (ChangeSpec.witness_at (enc := enc) (C := Tryd.checked) (os := os) (X := fun w _ => laidMetH Tryd.prog Rows.fnExactBoxHighRow.laid w) false (laidWorld os) #[.agg #[.int .i64 0, .int .i64 0, .string .empty, .slice none 0 0, .slice none 0 0], .slice none 0 0, .int .i64 0] 12 rfl (by kernel_rfl) (by kernel_rfl) (by kernel_rfl) (by kernel_rfl) (by kernel_rfl) (laidWorld_met os _)) ?_
  intro W base args ds gs before hval hW _ hsz hL _
  have hW' := hW
  obtain ⟨p, q, hA, hV, rfl, hfz, hnd⟩ := hW
  obtain ⟨rfl, rfl⟩ : gs = [] ∧ q = [] := by
    cases gs with
    | nil => exact ⟨rfl, hV⟩
    | cons g r => exact absurd hV (by intro h; cases h)
  have hw : ∀ n ∈ DataW.weightsEach Tryd.prog [25, 26, 3] ds, n ≤ reachBytes := by
    rw [List.append_nil] at hsz
    have hsz : (DataW.weightsEach Tryd.prog [25, 26, 3] ds).all (fun x => decide (x ≤ reachBytes)) = true := hsz
    intro n hn
    simpa using List.all_eq_true.1 hsz n hn
  have hA : DataW.TrodAll enc Tryd.prog W 0 (fun _ => true) true [25, 26, 3] args.toList ds p := hA
  have hcalls : Calls Tryd.prog 3 args W fun e W' => e = .returned (.bool true) ∧ Below W.heap.size W W' :=
    law_calls pok xfr_some rts_ok (fun N => laws_FnExactBoxHigh.sound N) (by kernel_rfl) plain (plainMs_ok (by kernel_rfl)) (by decide) hA (fun j t v h1 h2 => hval j t v (by rw [Tryd.params3, ← Array.getElem?_toList]; exact h1) h2) hw (gam_of_laid hL)
  refine hcalls.mono fun e W' ⟨he, hb⟩ => ?_
  subst he
  obtain ⟨v0, vs0, d0, ds0, p0, q0, ea0, rfl, rfl, h0, r0⟩ := trodAll_cons hA
  obtain ⟨v1, vs1, d1, ds1, p1, q1, ea1, rfl, rfl, h1, r1⟩ := trodAll_cons r0
  obtain ⟨v2, vs2, d2, ds2, p2, q2, ea2, rfl, rfl, h2, r2⟩ := trodAll_cons r1
  obtain ⟨rfl, rfl, rfl⟩ := trodAll_nil r2
  exact ⟨_, rfl, _, _, _, [], _, [], hW', trodAll_mk1 (shut_bool Tryd.underlying4 true), trodAll_stay (pts := [25, 26, 3]) laidOut hb (by intro t ht; simp only [List.mem_cons, List.not_mem_nil, or_false] at ht; (rcases ht with rfl | rfl | rfl) <;> exact ⟨by kernel_rfl, of_decide_eq_true (by kernel_rfl)⟩) hA, rfl, hb.frame _, fun h => by cases h⟩

theorem f_holds : Rows.FnExactBoxHighSaid :=
  OpenClaim.holds_of_wide 3 Tryd.f3 rfl rfl rfl rfl rfl rfl rfl ⟨rfl, rfl, rfl, rfl, rfl⟩ rfl rfl rfl rfl rfl (by kernel_rfl) Tryd.func3 (by kernel_rfl)
    (of_decide_eq_true (by kernel_rfl)) (by unfold Func.isWrapper; first | (rw [if_pos (by decide +kernel)]; kernel_rfl) | (rw [if_neg (by decide +kernel)]; exact ⟨rfl, rfl⟩))
    (fun os started H enc _ => law_lifted os started H enc)
theorem card_holds : Rows.FnExactBoxHighCardSaid :=
  Claim7.holds_tied_plain_at .later [] [.data, .data, .data, .sentinel, .sentinel] true (true, "ea29712dda0b268b386b43199d54a791f24d59abfc91d2493826bcad00b90b95") true
    f_holds (fun _ h => by cases h) (by kernel_rfl) (fun _ h => by cases h) fnExactBoxHigh_row_tie rfl ⟨rfl, rfl⟩ (by kernel_rfl) rfl
    (fun f fn hf hfn => by
      obtain rfl : f = 3 := Option.some.inj ((show Tryd.prog.funcNamed "loop.example/drawnanew/laws.FnExactBoxHigh" = some 3 by kernel_rfl).symm.trans hf) |>.symm
      obtain rfl : fn = Tryd.f3 := (Option.some.inj (Tryd.func3.symm.trans hfn)).symm
      exact ⟨by kernel_rfl, fun j t ht => by
        rw [Tryd.params3] at ht
        have h3 : t = 25 ∨ t = 26 ∨ t = 3 := by
          rcases j with _ | j
          · exact Or.inl (by simpa using ht.symm)
          · skip
            rcases j with _ | j
            · exact Or.inr (Or.inl (by simpa using ht.symm))
            · skip
              rcases j with _ | j
              · exact Or.inr (Or.inr (by simpa using ht.symm))
              · simp at ht
        rcases h3 with rfl | rfl | rfl
        · exact (show Tryd.prog.wantsStandIn 25 = false by kernel_rfl)
        · exact (show Tryd.prog.wantsStandIn 26 = false by kernel_rfl)
        · exact (show Tryd.prog.wantsStandIn 3 = false by kernel_rfl)⟩)
    (by kernel_rfl)
#print axioms card_holds
end
end Go.Proofs.YtilggcjneaecmaaDoor
