/- The row of the law FnExactProgOk holds at every start of the program; the conditions are those of the given row: data within its bounds. -/
import Derived.Test.YtmaghpkolkkncaaEvT3
import Derived.Test.YtmaghpkolkkncaaPl
import Derived.Test.YtmaghpkolkkncaaRows
import Derived.ChangeSame
import Derived.ChangeVars
import Derived.JoinedOf
import Derived.RowKit
import Derived.RowKitTokens
import Derived.LaidLaws
import Derived.LaidHandle
import Derived.Stop.Joined
import Derived.SevenTiedAt
import Derived.ProofKit
set_option linter.all false
set_option linter.unusedVariables false
set_option linter.unusedSimpArgs false
set_option maxRecDepth 100000
set_option linter.unusedVariables false
namespace Go.Proofs.Ytmaghpkolkkncaa
noncomputable section
open Go Go.Ev Go.ChangeShapes Go.WideShapes Go.RowKit
theorem own : ownKnob Try.prog.godebug = none := by kernel_rfl
theorem laidOut : laidOutB Try.prog = true := by kernel_rfl

theorem gam0_ok {W : World} : gam.is W ∧ ∀ b ∈ gam.bs, b < W.heap.size :=
  ⟨trivial, fun b hb => by cases hb⟩

noncomputable def rts : List Nat := [3, 9, 22, 31, 32, 33, 34, 35, 36, 37, 39, 41, 80, 82, 110, 113, 124]
theorem rts_ok : rdOk cx xNs rts = true := by kernel_rfl

theorem str_bd {n : Nat} {s : List UInt8} (h : WC cx n (.str (Δ := D) s)) : s.length ≤ 1000000000000000 := by
  cases n <;> exact Nat.le_trans h (by decide)
theorem shs_bd {n : Nat} {t : Kd} {l : List (t.T D)} {P : t.T D → Prop} (h : WC cx n (.shs (Δ := D) t l)) (hP : ∀ m v, (∀ c ∈ cells (Δ := D) cx t v, WC cx m c) → P v) : Pl.LAll 1000000000000000 P l := by
  cases n with
  | zero => exact h.elim
  | succ n => exact ⟨Nat.le_trans h.1 (by decide), fun v hv => hP n v (h.2 v hv)⟩
theorem bd_Value {n : Nat} {v : ImplValue} (h : ∀ c ∈ [CV.int (Δ := D) .i64 v.kind, .int .i64 v.num, .str v.text], WC cx n c) : Pl.LValue 1000000000000000 v := ⟨str_bd (h (.str v.text) (by simp)), trivial⟩
theorem bd_Step {n : Nat} {v : LawsStep} (h : ∀ c ∈ [CV.int (Δ := D) .i64 v.kind, .int .i64 v.a, .int .i64 v.val_Kind, .int .i64 v.val_Num, .str v.val_Text], WC cx n c) : Pl.LStep 1000000000000000 v := ⟨⟨str_bd (h (.str v.val_Text) (by simp)), trivial⟩, trivial⟩
theorem bd_Set {n : Nat} {v : LawsSet} (h : ∀ c ∈ [CV.int (Δ := D) .i64 v.state, .shs (.st 112) v.form], WC cx n c) : Pl.LSet 1000000000000000 v := ⟨(shs_bd (t := .st 112) (P := (Pl.LStep 1000000000000000)) (h (.shs (.st 112) v.form) (by simp)) fun m0 v0 h0 => bd_Step h0), trivial⟩
theorem bd_Tmpl : ∀ (n : Nat) (t : LawsTmpl), (∀ c ∈ [CV.int (Δ := D) .i64 t.kind, .int .i64 t.tag, .shs (.int .i64) t.names, .shs (.sl (.st 112)) t.args, .shs (.st 112) t.key, .shs (.st 71) t.ons, .shs (.st 38) t.kids], WC cx n c) → Pl.LTm 1000000000000000 (n + 1) t
  | 0, t, h => (h (.shs (.st 38) t.kids) (by simp)).elim
  | n + 1, t, h => by
    have hk : WC cx (n + 1) (.shs (.st 38) t.kids) := h _ (by simp)
    exact ⟨⟨shs_bd (t := .int .i64) (P := fun _ => True) (h (.shs (.int .i64) t.names) (by simp)) fun _ _ _ => trivial,
      shs_bd (t := .sl (.st 112)) (P := Pl.LAll 1000000000000000 (Pl.LStep 1000000000000000)) (h (.shs (.sl (.st 112)) t.args) (by simp)) fun m v h => shs_bd (t := .st 112) (P := Pl.LStep 1000000000000000) (h (.shs (.st 112) v) (List.mem_singleton.2 rfl)) fun m v h => bd_Step h,
      shs_bd (t := .st 112) (P := Pl.LStep 1000000000000000) (h (.shs (.st 112) t.key) (by simp)) fun m v h => bd_Step h,
      shs_bd (t := .st 71) (P := fun _ => True) (h (.shs (.st 71) t.ons) (by simp)) fun _ _ _ => trivial, Nat.le_trans hk.1 (by decide)⟩, fun k hm => bd_Tmpl n k (hk.2 k hm)⟩
theorem bd_Comp (n : Nat) (v : LawsComp) (h : ∀ c ∈ [CV.int (Δ := D) .i64 v.props, .shs (.st 79) v.states, .shs (.sl (.st 109)) v.acts, .int .i64 v.body_Kind, .int .i64 v.body_Tag, .shs (.int .i64) v.body_Names, .shs (.sl (.st 112)) v.body_Args, .shs (.st 112) v.body_Key, .shs (.st 71) v.body_Ons, .shs (.st 38) v.body_Kids], WC cx n c) : Pl.LComp 1000000000000000 (n + 1) v :=
  ⟨shs_bd (t := .st 79) (P := Pl.LValue 1000000000000000) (h (.shs (.st 79) v.states) (by simp)) fun m v h => bd_Value h,
    shs_bd (t := .sl (.st 109)) (P := Pl.LAll 1000000000000000 (Pl.LSet 1000000000000000)) (h (.shs (.sl (.st 109)) v.acts) (by simp)) fun m v h => shs_bd (t := .st 109) (P := Pl.LSet 1000000000000000) (h (.shs (.st 109) v) (List.mem_singleton.2 rfl)) fun m v h => bd_Set h,
    bd_Tmpl n (Pl.lbody v) fun c hc => h c (by
      have hc : c ∈ [CV.int (Δ := D) .i64 v.body_Kind, .int .i64 v.body_Tag, .shs (.int .i64) v.body_Names, .shs (.sl (.st 112)) v.body_Args, .shs (.st 112) v.body_Key, .shs (.st 71) v.body_Ons, .shs (.st 38) v.body_Kids] := hc
      exact List.mem_cons_of_mem _ (List.mem_cons_of_mem _ (List.mem_cons_of_mem _ hc)))⟩
theorem plain : ∀ x, WfL cx laws_FnExactProgOk.sg.ms x → ∃ N r, (laws_FnExactProgOk.sm N).fn x = some r ∧ (encL cx laws_FnExactProgOk.sg.outs r).1 = [.c (.bool true)] := by
  intro x hx
  obtain ⟨n, h⟩ := hx.1
  have h : WC cx n (.shs (.st 40) x.1) := h _ (List.mem_singleton.2 rfl)
  cases n with
  | zero => exact h.elim
  | succ n => exact ⟨4000001 + 2 * (n + 1), _, Pl.FnExactProgOk_true (n := n + 1) (by omega) (by omega) x.1 ⟨Nat.le_trans h.1 (by decide), fun v hv => bd_Comp n v (h.2 v hv)⟩, rfl⟩

theorem law_lifted (os : Os) (started : os.Started) (H : Type) (enc : TypeId × Value → H) :
    ReturnsInHanded {} Try.checked os 3 .any (fun w args => (Rows.fnExactProgOkSpec.pre enc Try.prog Try.f3 [] false w args ∧ laidMetH Try.prog Rows.fnExactProgOkRow.laid w) ∧ sizedMet enc Try.prog Try.f3 (OpenSpec.ofChange Rows.fnExactProgOkSpec) false w args)
      (Rows.fnExactProgOkSpec.post enc Try.prog Try.f3 false true false false) := by
  refine returnsInHanded_of_change_and (C := Try.checked) (X := fun w _ => laidMetH Try.prog Rows.fnExactProgOkRow.laid w) (fun _ _ _ hh h => h.of_heap hh) own started (by kernel_rfl) Try.func3
    (ChangeSpec.witness_at (enc := enc) (C := Try.checked) (os := os) (X := fun w _ => laidMetH Try.prog Rows.fnExactProgOkRow.laid w) false (World.holding Try.prog os ⟨#[], #[], []⟩) #[.slice none 0 0] 12 rfl (by kernel_rfl) (by kernel_rfl) (by kernel_rfl) (by kernel_rfl) (by kernel_rfl) (laidMetH_nil _ _)) ?_
  intro W base args ds gs before hval hW _ hsz hL _
  have hW' := hW
  obtain ⟨p, q, hA, hV, rfl, hfz, hnd⟩ := hW
  obtain ⟨rfl, rfl⟩ : gs = [] ∧ q = [] := by
    cases gs with
    | nil => exact ⟨rfl, hV⟩
    | cons g r => exact absurd hV (by intro h; cases h)
  have hw : ∀ n ∈ DataW.weightsEach Try.prog [22] ds, n ≤ reachBytes := by
    rw [List.append_nil] at hsz
    have hsz : (DataW.weightsEach Try.prog [22] ds).all (fun x => decide (x ≤ reachBytes)) = true := hsz
    intro n hn
    simpa using List.all_eq_true.1 hsz n hn
  have hA : DataW.TrodAll enc Try.prog W 0 (fun _ => true) true [22] args.toList ds p := hA
  have hcalls : Calls Try.prog 3 args W fun e W' => e = .returned (.bool true) ∧ Below W.heap.size W W' :=
    law_calls pok xfr_some rts_ok (fun N => laws_FnExactProgOk.sound N) (by kernel_rfl) plain (plainMs_ok (by kernel_rfl)) (by decide) hA (fun j t v h1 h2 => hval j t v (by rw [Try.params3, ← Array.getElem?_toList]; exact h1) h2) hw gam0_ok
  refine hcalls.mono fun e W' ⟨he, hb⟩ => ?_
  subst he
  obtain ⟨v0, vs0, d0, ds0, p0, q0, ea0, rfl, rfl, h0, r0⟩ := trodAll_cons hA
  obtain ⟨rfl, rfl, rfl⟩ := trodAll_nil r0
  exact ⟨_, rfl, _, _, _, [], _, [], hW', trodAll_mk1 (shut_bool Try.underlying4 true), trodAll_stay (pts := [22]) laidOut hb (by intro t ht; simp only [List.mem_cons, List.not_mem_nil, or_false] at ht; subst ht; exact ⟨by kernel_rfl, of_decide_eq_true (by kernel_rfl)⟩) hA, rfl, hb.frame _, fun h => by cases h⟩

theorem card_holds : Rows.FnExactProgOkSaid :=
  OpenClaim.holds_of_wide 3 Try.f3 rfl rfl rfl rfl rfl rfl rfl ⟨rfl, rfl, rfl, rfl, rfl⟩ rfl rfl rfl rfl rfl (by kernel_rfl) Try.func3 (by kernel_rfl)
    (of_decide_eq_true (by kernel_rfl)) (by unfold Func.isWrapper; first | (rw [if_pos (by decide +kernel)]; kernel_rfl) | (rw [if_neg (by decide +kernel)]; exact ⟨rfl, rfl⟩))
    (fun os started H enc _ => by rw [OpenClaim.pre_eq_preRow]; exact law_lifted os started H enc)
#print axioms card_holds
end
end Go.Proofs.Ytmaghpkolkkncaa
