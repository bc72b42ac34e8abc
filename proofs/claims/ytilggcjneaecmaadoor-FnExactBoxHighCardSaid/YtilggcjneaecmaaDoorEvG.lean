/- Library functions answer as their plain forms; no condition beyond those that each theorem names. -/
import Derived.Shelf.Strconv.Itoa3
import Derived.Shelf.Strconv.ErrVarAll
import Derived.Lib.LaidTab
import Derived.LaidLaws
import Derived.Test.YtilggcjneaecmaaDoorEvD
set_option linter.all false
set_option linter.unusedVariables false
set_option linter.unusedSimpArgs false
/- Library functions as plain Lean: Itoa, Atoi; what is known of the program's variables. -/
set_option linter.unusedVariables false
set_option linter.unusedSimpArgs false
namespace Go.Ev
open Go.RowKit Go.Shelf Go.Proofs
def get {α : Type} [Inhabited α] (l : List α) (i : Int) : α := l.getD i.toNat default
def LibItoa (N : Nat) (n : Int) : Option (List UInt8 × Unit) := if -9223372036854775808 ≤ n ∧ n ≤ 9223372036854775807 then some (Lib.itoa n, ()) else none
def LibAtoi (N : Nat) (s : List UInt8) : Option (Int × Bool × Unit) :=
  if s.length ≤ 281474976710656 then
    match Lib.atoiAll s with
    | .ok v => some (v, true, ())
    | .range => some (Lib.atoiSat s, false, ())
    | _ => some (0, false, ())
  else none
@[reducible] def LibItoa.sg : Sg := { ms := [{ k := .int .i64 }], keep := [false], rs := [{ k := .str }] }
@[reducible] def LibAtoi.sg : Sg := { ms := [{ k := .str }], keep := [false], rs := [{ k := .int .i64 }, { k := .err }] }

section
variable {Δ : Nat → Type} {X : Cx Δ} {P : Program}
def tabW (P : Program) (w : World) : Prop := Lib.TabIs P w "internal/strconv.uint64pow10" .u64 Lib.pow10Tab
theorem var_same {w w' : World} {n : String} {g : Nat} (hg : P.globalNamed n = some g) (h : w'.heap[g]? = w.heap[g]?) : w'.var? P n = w.var? P n := by
  unfold World.var?
  rw [hg]
  simp only [Option.bind_some, h]
/-- the table of powers -/
def gamA (P : Program) (g : Nat) (hg : P.globalNamed "internal/strconv.uint64pow10" = some g) : Gam :=
  { bs := [g], is := tabW P, last := fun w w' h hw => by
      unfold tabW Lib.TabIs at *
      rw [var_same hg (h g (by simp))]; exact hw }
/-- the table, and the two errors -/
def gamB (P : Program) (g s r : Nat) (hg : P.globalNamed "internal/strconv.uint64pow10" = some g) (hs : P.globalNamed "strconv.ErrSyntax" = some s) (hr : P.globalNamed "strconv.ErrRange" = some r) : Gam :=
  { bs := [g, s, r], is := fun w => tabW P w ∧ (∃ tp p, w.var? P "strconv.ErrSyntax" = some #[.iface tp p]) ∧ ∃ tp p, w.var? P "strconv.ErrRange" = some #[.iface tp p], last := fun w w' h hw => by
      unfold tabW Lib.TabIs at *
      rw [var_same hg (h g (by simp)), var_same hs (h s (by simp)), var_same hr (h r (by simp))]; exact hw }

theorem itoa_sound {G : Gam} {f : Nat} (N : Nat) (hG : ∀ w, G.is w → tabW P w)
    (hc : ∀ (n : Int), -9223372036854775808 ≤ n → n ≤ 9223372036854775807 → ∀ w, tabW P w → Calls P f #[.int .i64 n] w fun e w' => e = .returned (.string ⟨(Lib.itoa n).toArray⟩) ∧ ∃ k os, w' = Sort.grow (w.drewN k) os) :
    Sound X P G f ⟨LibItoa.sg, fun (x : Int × Unit) => LibItoa N x.1⟩ := by
  refine lib_sound rfl fun x r hr σ F w args H hg ha => ⟨rfl, ?_⟩
  obtain ⟨n, u⟩ := x
  simp only [LibItoa] at hr
  split at hr
  · rename_i hn
    cases hr
    have ha : All2 (AR X (obsH []) σ w (Sof F w)) args [.v (.one (.int .i64 n))] := ha
    cases ha with
    | cons a1 a2 =>
      cases a2
      have e := ((Rel.int X).1 a1).1
      subst e
      refine (hc n hn.1 hn.2 w (hG w hg.1)).mono fun e w' he => ?_
      obtain ⟨rfl, k, os, rfl⟩ := he
      refine ⟨[_], rfl, .cons ((Rel.str X).2 ⟨rfl, rfl⟩) .nil, ?_, fun b hb => ?_, rfl, rfl, rfl⟩
      · simp [Sort.grow, World.drewN]
      · show (w.heap ++ os)[b]? = _
        rw [Array.getElem?_append_left hb]
  · cases hr

theorem atoi_sound {G : Gam} {f : Nat} (N : Nat)
    (h1 : ∀ (s : ByteArray), s.size ≤ 281474976710656 → ∀ v, Lib.atoiAll s.data.toList = .ok v → ∀ w, Calls P f #[.string s] w fun e w' => e = .returned (.tuple #[.int .i64 v, .nilIface]) ∧ (w' = w ∨ ∃ T t, w' = Lib.bytesWorld w T t))
    (h2 : ∀ (s : ByteArray), s.size ≤ 281474976710656 → (∀ v, Lib.atoiAll s.data.toList ≠ .ok v) → Lib.atoiAll s.data.toList ≠ .range → ∀ w, G.is w → Calls P f #[.string s] w fun e w' => ∃ t v, e = .returned (.tuple #[.int .i64 0, .iface t v]) ∧ Below w.heap.size w w')
    (h3 : ∀ (s : ByteArray), s.size ≤ 281474976710656 → Lib.atoiAll s.data.toList = .range → ∀ w, G.is w → Calls P f #[.string s] w fun e w' => ∃ t v, e = .returned (.tuple #[.int .i64 (Lib.atoiSat s.data.toList), .iface t v]) ∧ Below w.heap.size w w') :
    Sound X P G f ⟨LibAtoi.sg, fun (x : List UInt8 × Unit) => LibAtoi N x.1⟩ := by
  refine lib_sound rfl fun x r hr σ F w args H hg ha => ⟨rfl, ?_⟩
  obtain ⟨s, u⟩ := x
  have ha : All2 (AR X (obsH []) σ w (Sof F w)) args [.v (.one (.str s))] := ha
  cases ha with
  | cons a1 a2 =>
    cases a2
    have e := ((Rel.str X).1 a1).1
    subst e
    have es : (⟨s.toArray⟩ : ByteArray).data.toList = s := rfl
    simp only [LibAtoi] at hr
    split at hr
    · rename_i hl
      have hsz : (⟨s.toArray⟩ : ByteArray).size ≤ 281474976710656 := by
        show s.toArray.size ≤ _
        simpa using hl
      split at hr
      · rename_i v hv
        cases hr
        refine (h1 ⟨s.toArray⟩ hsz v hv w).mono fun e w' he => ?_
        obtain ⟨rfl, hw⟩ := he
        have hb : Below w.heap.size w w' := by
          rcases hw with rfl | ⟨T, t, rfl⟩
          · exact Below.refl _ _
          · exact Lib.bytesWorld_below _ _ _
        exact ⟨[_, _], rfl, .cons ((Rel.int X).2 ⟨rfl, rfl⟩) (.cons ((Rel.errT X).2 ⟨rfl, rfl⟩) .nil), hb.size, hb.block, hb.os, hb.tape, hb.output⟩
      · rename_i hv
        cases hr
        refine (h3 ⟨s.toArray⟩ hsz hv w hg.1).mono fun e w' he => ?_
        obtain ⟨t, v, rfl, hb⟩ := he
        exact ⟨[_, _], rfl, .cons ((Rel.int X).2 ⟨rfl, rfl⟩) (.cons ((Rel.errF X).2 ⟨⟨t, v, rfl⟩, rfl⟩) .nil), hb.size, hb.block, hb.os, hb.tape, hb.output⟩
      · rename_i hv hv'
        cases hr
        refine (h2 ⟨s.toArray⟩ hsz hv hv' w hg.1).mono fun e w' he => ?_
        obtain ⟨t, v, rfl, hb⟩ := he
        exact ⟨[_, _], rfl, .cons ((Rel.int X).2 ⟨rfl, rfl⟩) (.cons ((Rel.errF X).2 ⟨⟨t, v, rfl⟩, rfl⟩) .nil), hb.size, hb.block, hb.os, hb.tape, hb.output⟩
    · cases hr

/-- a listed variable's reading -/
theorem laid_mem {w : World} {n : String} {d : DataW Unit} : ∀ {l : List (String × DataW Unit)} {ps : List MemPlace}, DataW.LaidVars P w l ps → (n, d) ∈ l →
    ∃ g t cs fuel p, P.globalNamed n = some g ∧ (P.globals[g]?).map (·.type) = some t ∧ w.var? P n = some cs ∧ DataW.trod (fun _ => ()) P w 0 (fun _ => true) false fuel t cs.toList = some (d, p)
  | [], _, _, h => by simp at h
  | (m, e) :: l, ps, h, hm => by
    obtain ⟨g, t, cs, fuel, p, q, h1, h2, h3, h4, h5, _⟩ := h
    rcases List.mem_cons.1 hm with e' | hm
    · cases e'; exact ⟨g, t, cs, fuel, p, h1, h2, h3, h4⟩
    · exact laid_mem h5 hm
theorem tab_of_laid {w : World} {l : List (String × DataW Unit)} {name : String} {k : IntKind} {zs : List Int} {g t e n : Nat} (hg : P.globalNamed name = some g) (hty : (P.globals[g]?).map (·.type) = some t) (ht : P.underlying t = some (.array n e)) (he : P.underlying e = some (.int k)) (hce : P.cellsOf e = 1) (hct : P.cellsOf t = n)
    (h : laidMet P l w) (hm : (name, Lib.tabData k zs) ∈ l) : Lib.TabIs P w name k zs := by
  obtain ⟨ps, hl, _⟩ := h
  obtain ⟨g', t', cs, fuel, p, h1, h2, h3, h4⟩ := laid_mem hl hm
  obtain rfl := Option.some.inj (hg.symm.trans h1)
  obtain rfl := Option.some.inj (hty.symm.trans h2)
  unfold Lib.TabIs
  rw [h3, ← Lib.cells_of_tab ht he hce hct h4]
theorem err_of_laid {w : World} {l : List (String × DataW Unit)} {name : String} {nm : String} {d : DataW Unit} {g t : Nat} {ms : Array (String × TypeId)} (hg : P.globalNamed name = some g) (hty : (P.globals[g]?).map (·.type) = some t) (ht : P.underlying t = some (.interface ms))
    (h : laidMet P l w) (hm : (name, DataW.iface nm d) ∈ l) : ∃ tp p, w.var? P name = some #[.iface tp p] := by
  obtain ⟨ps, hl, _⟩ := h
  obtain ⟨g', t', cs, fuel, p, h1, h2, h3, h4⟩ := laid_mem hl hm
  obtain rfl := Option.some.inj (hg.symm.trans h1)
  obtain rfl := Option.some.inj (hty.symm.trans h2)
  obtain ⟨f1, u, v, h5, _⟩ := iface_of_trod ht h4
  refine ⟨u, v, ?_⟩
  rw [h3]
  congr 1
  apply Array.toList_inj.1
  rw [h5]
theorem var_lt {w : World} {n : String} {g : Nat} {cs : Array Value} (hg : P.globalNamed n = some g) (h : w.var? P n = some cs) : g < w.heap.size := by
  unfold World.var? at h
  rw [hg] at h
  simp only [Option.bind_some] at h
  split at h
  · rename_i hh; exact (Array.getElem?_eq_some_iff.1 hh).1
  · cases h
end
end Go.Ev
