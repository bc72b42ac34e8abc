/- The card of the law FnExactStoreRun holds at every start of the program; the conditions are those of the given row: the tables that it lays, and data within its bounds. -/
import Derived.Test.YtadoojpcjfglgaaGreatDoorEvT4
import Derived.Test.YtadoojpcjfglgaaGreatDoorPl
import Derived.Test.YtadoojpcjfglgaaGreatDoorRows
import Derived.Test.YtadoojpcjfglgaaGreatDoorTie
import Derived.Test.YtadoojpcjfglgaaGreatDoorCards
import Derived.ChangeSame
import Derived.ChangeVars
import Derived.JoinedOf
import Derived.RowKit
import Derived.RowKitTokens
import Derived.LaidLaws
import Derived.LaidHandle
import Derived.Stop.Joined
import Derived.SevenTiedAt
import Derived.ProofKit
set_option linter.all false
set_option linter.unusedVariables false
set_option linter.unusedSimpArgs false
set_option maxRecDepth 100000
set_option linter.unusedVariables false
namespace Go.Proofs.YtadoojpcjfglgaaGreatDoor
noncomputable section
open Go Go.Ev Go.ChangeShapes Go.WideShapes Go.RowKit
theorem own : ownKnob Tryz.prog.godebug = none := by kernel_rfl
theorem laidOut : laidOutB Tryz.prog = true := by kernel_rfl

/-- a table's cells out of its datum -/
noncomputable def datVals : DataW Unit → List Value
  | .agg ds => ds.map fun | .lit (.int k n) => .int k n | _ => .tuple #[]
  | _ => []
noncomputable def putCells (w : World) (g : Nat) (c : Array Value) : World :=
  { w with heap := w.heap.modify g fun
      | .cells _ t frozen => .cells c t frozen
      | o => o }
noncomputable def laidWorld (os : Os) : World :=
  putCells (putCells (putCells (World.holding Tryz.prog os ⟨#[], #[], []⟩) 1 (datVals Rows.laid_math_bits_deBruijn32tab).toArray) 2 (datVals Rows.laid_math_bits_deBruijn64tab).toArray) 0 (datVals Rows.laid_internal_strconv_uint64pow10).toArray
theorem laidWorld_met (os : Os) (args : Array Value) : laidMetH Tryz.prog Rows.fnExactStoreRunRow.laid ((laidWorld os).forCall (fun _ _ => 0) ⟨#[], args, []⟩).memory :=
  laidMetH_of_parts (laidMet_of_run' 8 (by kernel_rfl) (by kernel_rfl)) (by kernel_rfl)
theorem gam_of_laid {W : World} (h : laidMetH Tryz.prog Rows.fnExactStoreRunRow.laid W) : gam.is W ∧ ∀ b ∈ gam.bs, b < W.heap.size := by
  have h' : laidMet Tryz.prog Rows.fnExactStoreRunRow.laid W := h
  have ht : tabW Tryz.prog W := tab_of_laid (g := 0) (t := 192) (e := 186) (n := 20) (by kernel_rfl) (by kernel_rfl) (by kernel_rfl) (by kernel_rfl) (by kernel_rfl) (by kernel_rfl) h' (List.mem_of_getElem? (i := 2) (by kernel_rfl))
  refine ⟨ht, fun b hb => ?_⟩
  simp only [gam, gamA, gamB, List.mem_cons, List.not_mem_nil, or_false] at hb
  subst hb
  exact var_lt (by kernel_rfl) ht

noncomputable def rts : List Nat := [3, 9, 36, 37, 90, 91, 93, 95, 97, 160, 163, 166]
theorem rts_ok : rdOk cx xNs rts = true := by kernel_rfl

theorem str_bd {n : Nat} {s : List UInt8} (h : WC cx n (.str (Δ := D) s)) : s.length ≤ 1000000000000000 := by
  cases n <;> exact Nat.le_trans h (by decide)
theorem shs_bd {n : Nat} {t : Kd} {l : List (t.T D)} {P : t.T D → Prop} (h : WC cx n (.shs (Δ := D) t l)) (hP : ∀ m v, (∀ c ∈ cells (Δ := D) cx t v, WC cx m c) → P v) : Pl.LAll 1000000000000000 P l := by
  cases n with
  | zero => exact h.elim
  | succ n => exact ⟨Nat.le_trans h.1 (by decide), fun v hv => hP n v (h.2 v hv)⟩
theorem bd_Value {n : Nat} {v : ImplValue} (h : ∀ c ∈ [CV.int (Δ := D) .i64 v.kind, .int .i64 v.num, .str v.text], WC cx n c) : Pl.LValue 1000000000000000 v := ⟨str_bd (h (.str v.text) (by simp)), trivial⟩
theorem bd_Step {n : Nat} {v : LawsStep} (h : ∀ c ∈ [CV.int (Δ := D) .i64 v.kind, .int .i64 v.a, .int .i64 v.val_Kind, .int .i64 v.val_Num, .str v.val_Text], WC cx n c) : Pl.LStep 1000000000000000 v := ⟨⟨str_bd (h (.str v.val_Text) (by simp)), trivial⟩, trivial⟩
theorem bd_Cell {n : Nat} {v : LawsCell} (h : ∀ c ∈ [CV.shs (Δ := D) (.st 125) v.place, .shs (.st 127) v.states], WC cx n c) : Pl.LCell 1000000000000000 v := ⟨(shs_bd (t := .st 125) (P := fun _ => True) (h (.shs (.st 125) v.place) (by simp)) fun _ _ _ => trivial), (shs_bd (t := .st 127) (P := (Pl.LValue 1000000000000000)) (h (.shs (.st 127) v.states) (by simp)) fun m0 v0 h0 => bd_Value h0), trivial⟩
theorem bd_Update {n : Nat} {v : LawsUpdate} (h : ∀ c ∈ [CV.shs (Δ := D) (.st 125) v.place, .int .i64 v.state, .shs (.st 162) v.form, .int .i64 v.lane], WC cx n c) : Pl.LUpdate 1000000000000000 v := ⟨(shs_bd (t := .st 125) (P := fun _ => True) (h (.shs (.st 125) v.place) (by simp)) fun _ _ _ => trivial), (shs_bd (t := .st 162) (P := (Pl.LStep 1000000000000000)) (h (.shs (.st 162) v.form) (by simp)) fun m0 v0 h0 => bd_Step h0), trivial⟩
theorem plain : ∀ x, WfL cx laws_FnExactStoreRun.sg.ms x → ∃ N r, (laws_FnExactStoreRun.sm N).fn x = some r ∧ (encL cx laws_FnExactStoreRun.sg.outs r).1 = [.c (.bool true)] := by
  intro x hx
  obtain ⟨n, h⟩ := hx.1
  obtain ⟨m, h'⟩ := hx.2.1
  exact ⟨4000000000000001, _, Pl.FnExactStoreRun_true (Nat.le_refl _) x.1 x.2.1
    (shs_bd (t := .st 92) (P := Pl.LCell 1000000000000000) (h (.shs (.st 92) x.1) (List.mem_singleton.2 rfl)) fun m v h => bd_Cell h)
    (shs_bd (t := .st 96) (P := Pl.LUpdate 1000000000000000) (h' (.shs (.st 96) x.2.1) (List.mem_singleton.2 rfl)) fun m v h => bd_Update h), rfl⟩

theorem law_lifted (os : Os) (started : os.Started) (H : Type) (enc : TypeId × Value → H) :
    ReturnsInHanded {} Tryz.checked os 6 .any (fun w args => (Rows.fnExactStoreRunSpec.pre enc Tryz.prog Tryz.f6 [] false w args ∧ laidMetH Tryz.prog Rows.fnExactStoreRunRow.laid w) ∧ sizedMet enc Tryz.prog Tryz.f6 (OpenSpec.ofChange Rows.fnExactStoreRunSpec) false w args)
      (Rows.fnExactStoreRunSpec.post enc Tryz.prog Tryz.f6 false true false false) := by
  refine returnsInHanded_of_change_and (C := Tryz.checked) (X := fun w _ => laidMetH Tryz.prog Rows.fnExactStoreRunRow.laid w) (fun _ _ _ hh h => h.of_heap hh) own started (by kernel_rfl) Tryz.func6
    (ChangeSpec.witness_at (enc := enc) (C := Tryz.checked) (os := os) (X := fun w _ => laidMetH Tryz.prog Rows.fnExactStoreRunRow.laid w) false (laidWorld os) #[.slice none 0 0, .slice none 0 0] 12 rfl (by kernel_rfl) (by kernel_rfl) (by kernel_rfl) (by kernel_rfl) (by kernel_rfl) (laidWorld_met os _)) ?_
  intro W base args ds gs before hval hW _ hsz hL _
  have hW' := hW
  obtain ⟨p, q, hA, hV, rfl, hfz, hnd⟩ := hW
  obtain ⟨rfl, rfl⟩ : gs = [] ∧ q = [] := by
    cases gs with
    | nil => exact ⟨rfl, hV⟩
    | cons g r => exact absurd hV (by intro h; cases h)
  have hw : ∀ n ∈ DataW.weightsEach Tryz.prog [36, 37] ds, n ≤ reachBytes := by
    rw [List.append_nil] at hsz
    have hsz : (DataW.weightsEach Tryz.prog [36, 37] ds).all (fun x => decide (x ≤ reachBytes)) = true := hsz
    intro n hn
    simpa using List.all_eq_true.1 hsz n hn
  have hA : DataW.TrodAll enc Tryz.prog W 0 (fun _ => true) true [36, 37] args.toList ds p := hA
  have hcalls : Calls Tryz.prog 6 args W fun e W' => e = .returned (.bool true) ∧ Below W.heap.size W W' :=
    law_calls pok xfr_some rts_ok (fun N => laws_FnExactStoreRun.sound N) (by kernel_rfl) plain (plainMs_ok (by kernel_rfl)) (by decide) hA (fun j t v h1 h2 => hval j t v (by rw [Tryz.params6, ← Array.getElem?_toList]; exact h1) h2) hw (gam_of_laid hL)
  refine hcalls.mono fun e W' ⟨he, hb⟩ => ?_
  subst he
  obtain ⟨v0, vs0, d0, ds0, p0, q0, ea0, rfl, rfl, h0, r0⟩ := trodAll_cons hA
  obtain ⟨v1, vs1, d1, ds1, p1, q1, ea1, rfl, rfl, h1, r1⟩ := trodAll_cons r0
  obtain ⟨rfl, rfl, rfl⟩ := trodAll_nil r1
  exact ⟨_, rfl, _, _, _, [], _, [], hW', trodAll_mk1 (shut_bool Tryz.underlying4 true), trodAll_stay (pts := [36, 37]) laidOut hb (by intro t ht; simp only [List.mem_cons, List.not_mem_nil, or_false] at ht; (rcases ht with rfl | rfl) <;> exact ⟨by kernel_rfl, of_decide_eq_true (by kernel_rfl)⟩) hA, rfl, hb.frame _, fun h => by cases h⟩

theorem f_holds : Rows.FnExactStoreRunSaid :=
  OpenClaim.holds_of_wide 6 Tryz.f6 rfl rfl rfl rfl rfl rfl rfl ⟨rfl, rfl, rfl, rfl, rfl⟩ rfl rfl rfl rfl rfl (by kernel_rfl) Tryz.func6 (by kernel_rfl)
    (of_decide_eq_true (by kernel_rfl)) (by unfold Func.isWrapper; first | (rw [if_pos (by decide +kernel)]; kernel_rfl) | (rw [if_neg (by decide +kernel)]; exact ⟨rfl, rfl⟩))
    (fun os started H enc _ => law_lifted os started H enc)
theorem card_holds : Rows.FnExactStoreRunCardSaid :=
  Claim7.holds_tied_plain_at .later [] [.data, .data, .data] true (true, "cacdd51334c156fb61e9d210ae81f2deb3b5a37e771067b7ef3ac0930b74451a") false
    f_holds (fun _ h => by cases h) (by kernel_rfl) (fun _ h => by cases h) fnExactStoreRun_row_tie rfl ⟨rfl, rfl⟩ (by kernel_rfl) rfl
    (fun f fn hf hfn => by
      obtain rfl : f = 6 := Option.some.inj ((show Tryz.prog.funcNamed "loop.example/drawnanew/laws.FnExactStoreRun" = some 6 by kernel_rfl).symm.trans hf) |>.symm
      obtain rfl : fn = Tryz.f6 := (Option.some.inj (Tryz.func6.symm.trans hfn)).symm
      exact ⟨by kernel_rfl, fun j t ht => by
        rw [Tryz.params6] at ht
        have h3 : t = 36 ∨ t = 37 := by
          rcases j with _ | j
          · exact Or.inl (by simpa using ht.symm)
          · skip
            rcases j with _ | j
            · exact Or.inr (by simpa using ht.symm)
            · simp at ht
        rcases h3 with rfl | rfl
        · exact (show Tryz.prog.wantsStandIn 36 = false by kernel_rfl)
        · exact (show Tryz.prog.wantsStandIn 37 = false by kernel_rfl)⟩)
    (by kernel_rfl)
#print axioms card_holds
end
end Go.Proofs.YtadoojpcjfglgaaGreatDoor
