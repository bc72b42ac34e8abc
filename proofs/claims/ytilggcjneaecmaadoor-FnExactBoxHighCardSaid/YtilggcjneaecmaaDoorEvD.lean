/- A law that is handed plain data answers what the evaluator reckons; the structures and the library functions of this program; no condition beyond those that each theorem names. -/
import GoSem.ClaimJoined
import Derived.ChangeOld
import Derived.Below
import Derived.Carry
import Derived.ChangeShapes
import Derived.OpenShut
import Derived.Laws.StructEq
import Derived.Test.YtilggcjneaecmaaDoorEvC
set_option linter.all false
set_option linter.unusedVariables false
set_option linter.unusedSimpArgs false
/- What the statement's reading of an argument gives: plain data, shared. -/
set_option linter.unusedVariables false
set_option linter.unusedSimpArgs false
namespace Go.Ev
variable {Δ : Nat → Type} {X : Cx Δ} {P : Program}

/-- what stands just where a kind is wanted -/
def kcS : Kd → CV Δ → Bool
  | .int k, .int k' _ => decide (k = k')
  | .bool, .bool _ => true
  | .str, .str _ => true
  | .err, .err _ => true
  | .sl e, .shs e' _ => decide (e = e')
  | _, _ => false
def tile (X : Cx Δ) : List (Nat × Nat) → Nat → Option (Nat × List Kd)
  | [], n => some (n, [])
  | (off, t) :: r, n => match tyi X t with
    | some i => match Nat.beq off n, Nat.beq (ksz X i.kd) i.sz, tile X r (Nat.add n i.sz) with
      | true, true, some (m, ks) => some (m, kcs X i.kd ++ ks)
      | _, _, _ => none
    | none => none
def rdB (X : Cx Δ) (ns ts : List Nat) (t : Nat) : Bool :=
  match tyi X t with
  | some i => match i.d with
    | .int k => decide (i.kd = .int k) && Nat.beq i.sz 1
    | .bool => decide (i.kd = .bool) && Nat.beq i.sz 1
    | .str => decide (i.kd = .str) && Nat.beq i.sz 1
    | .slice e => match tyi X e with
      | some ie => decide (i.kd = .sl ie.kd) && isIn ts e && Nat.beq (ksz X ie.kd) ie.sz && Nat.blt 0 ie.bytes && Nat.beq i.sz 1
      | none => false
    | .struct fs => match i.kd with
      | .st n => match tile X fs 0 with
        | some (m, ks) => Nat.beq m i.sz && decide (ks = X.kinds n) && isIn ns n && fs.all fun f => isIn ts f.2
        | none => false
      | _ => false
    | _ => false
  | none => false
def rdOk (X : Cx Δ) (ns ts : List Nat) : Bool := ts.all (rdB X ns ts)

/-- data within its bounds -/
def WC (X : Cx Δ) : Nat → CV Δ → Prop
  | _, .int k n => (Lit.int k n).wf = true
  | _, .str s => s.length ≤ reachBytes
  | n + 1, .shs e l => l.length ≤ reachBytes ∧ ∀ x ∈ l, ∀ c ∈ cells X e x, WC X n c
  | 0, .shs _ _ => False
  | _, _ => True
theorem WC.up : ∀ (n : Nat) (c : CV Δ), WC X n c → WC X (n + 1) c
  | 0, c, h => by cases c <;> first | exact h | exact h.elim
  | n + 1, c, h => by
    cases c with
    | shs e l => exact ⟨h.1, fun x hx c hc => WC.up n c (h.2 x hx c hc)⟩
    | _ => exact h

theorem mapM_all2 {α β : Type} {f : α → Option β} : ∀ {l : List α} {r : List β}, l.mapM f = some r → All2 (fun a b => f a = some b) l r
  | [], r, h => by simp at h; subst h; exact .nil
  | a :: l, r, h => by
    rw [List.mapM_cons] at h
    simp only [Option.bind_eq_bind, Option.bind_eq_some_iff, Option.pure_def, Option.some.injEq] at h
    obtain ⟨b, hb, r', hr', rfl⟩ := h
    exact .cons hb (mapM_all2 hr')

theorem range_all2 {β : Type} {R : Nat → β → Prop} {n : Nat} {r : List β} (h : All2 R (List.range n) r) : r.length = n ∧ ∀ i, i < n → ∃ b, r[i]? = some b ∧ R i b := by
  have hl := h.length
  rw [List.length_range] at hl
  refine ⟨hl.symm, fun i hi => ?_⟩
  have hr : i < r.length := by omega
  obtain ⟨a, h1, h2⟩ := h.get (List.getElem?_eq_getElem hr)
  rw [List.getElem?_range hi] at h1
  cases h1
  exact ⟨_, List.getElem?_eq_getElem hr, h2⟩

theorem cell_open {w : World} {a : Addr} {v : Value} (h : w.cell? a = some v) : ∃ c t fr, w.heap[a.block]? = some (.cells c t fr) ∧ a.spot = none ∧ c[a.off]? = some v := by
  unfold World.cell? at h
  split at h
  · rename_i c t fr hb
    split at h
    · cases h
    · rename_i hs
      refine ⟨c, t, fr, hb, ?_, h⟩
      cases hsp : a.spot with
      | none => rfl
      | some _ => rw [hsp] at hs; exact absurd rfl hs
  · cases h

theorem cells_read {w : World} {a : Addr} {n : Nat} {cs : List Value} (h : w.cells? 0 a n = some cs) (hn : 0 < n) :
    ∃ c t fr, w.heap[a.block]? = some (.cells c t fr) ∧ a.spot = none ∧ cs = (c.toList.drop a.off).take n ∧ a.off + n ≤ c.size := by
  unfold World.cells? at h
  rw [if_pos (Nat.zero_le _)] at h
  obtain ⟨hl, hget⟩ := range_all2 (mapM_all2 h)
  obtain ⟨v0, _, h0⟩ := hget 0 hn
  have h0 : w.cell? a = some v0 := by
    have e : a.add 0 = a := by simp [Addr.add]
    rwa [e] at h0
  obtain ⟨c, t, fr, hb, hs, _⟩ := cell_open h0
  have key : ∀ i, i < n → ∃ v, cs[i]? = some v ∧ c[a.off + i]? = some v := by
    intro i hi
    obtain ⟨v, h1, h2⟩ := hget i hi
    rw [add_off _ _ hs] at h2
    obtain ⟨c', t', fr', hb', _, hc'⟩ := cell_open h2
    simp only at hb' hc'
    rw [hb] at hb'; cases hb'
    exact ⟨v, h1, hc'⟩
  have hsz : a.off + n ≤ c.size := by
    obtain ⟨v, _, h2⟩ := key (n - 1) (by omega)
    have := (Array.getElem?_eq_some_iff.1 h2).1
    omega
  refine ⟨c, t, fr, hb, hs, ?_, hsz⟩
  refine List.ext_getElem? fun i => ?_
  rw [List.getElem?_take]
  split
  · rename_i hi
    obtain ⟨v, h1, h2⟩ := key i hi
    rw [h1, List.getElem?_drop, Array.getElem?_toList, h2]
  · rename_i hi
    exact List.getElem?_eq_none (by omega)

theorem take_flat {α : Type} {n : Nat} : ∀ (css : List (List α)) (L : List α), (∀ i cs, css[i]? = some cs → (L.drop (i * n)).take n = cs ∧ cs.length = n) → L.take (css.length * n) = css.flatten
  | [], L, _ => by simp
  | cs :: css, L, h => by
    obtain ⟨h1, h2⟩ := h 0 cs rfl
    simp only [Nat.zero_mul, List.drop_zero] at h1
    have ih := take_flat css (L.drop n) fun i c hc => by
      have := h (i + 1) c (by simpa using hc)
      rw [List.drop_drop]
      rwa [Nat.succ_mul, Nat.add_comm] at this
    rw [List.flatten_cons, ← ih, ← h1, List.length_cons, Nat.succ_mul, Nat.add_comm, List.take_add]

theorem weights_eachM {H : Type} : ∀ {fs : List Nat} {ds : List (DataW H)} {j : Nat} {t : Nat} {d : DataW H}, fs[j]? = some t → ds[j]? = some d → ∀ n ∈ d.weights P t, n ∈ DataW.weightsEach P fs ds
  | t0 :: ts, d0 :: ds, 0, t, d, ht, hd, n, hn => by
    simp only [List.getElem?_cons_zero, Option.some.injEq] at ht hd
    subst ht; subst hd
    simp only [DataW.weightsEach, List.mem_append]
    exact .inl hn
  | t0 :: ts, d0 :: ds, j + 1, t, d, ht, hd, n, hn => by
    simp only [List.getElem?_cons_succ] at ht hd
    simp only [DataW.weightsEach, List.mem_append]
    exact .inr (weights_eachM ht hd n hn)
  | [], _, _, _, _, ht, _, _, _ => by simp at ht
  | _ :: _, [], _, _, _, _, hd, _, _ => by simp at hd
theorem weights_all {H : Type} {e : Nat} : ∀ {ds : List (DataW H)} {d : DataW H}, d ∈ ds → ∀ n ∈ d.weights P e, n ∈ DataW.weightsAll P e ds
  | d0 :: ds, d, hd, n, hn => by
    simp only [DataW.weightsAll, List.mem_append]
    rcases List.mem_cons.1 hd with rfl | hd
    · exact .inl hn
    · exact .inr (weights_all hd n hn)

section
variable {H : Type} {enc : TypeId × Value → H} {w : World}
theorem trod_int {t fuel : Nat} {k : IntKind} {cs : List Value} {d : DataW H} {ps : List MemPlace} (hu : P.underlying t = some (.int k)) (h : DataW.trod enc P w 0 (fun _ => true) true (fuel + 1) t cs = some (d, ps)) :
    ∃ n, cs = [.int k n] ∧ (Lit.int k n).wf = true := by
  unfold DataW.trod at h
  simp only [hu] at h
  split at h
  all_goals first | (rename_i e _; cases e; done) | (rename_i e; cases e; done) | (rename_i e _ _; cases e; done) | skip
  · rename_i e
    cases e
    split at h
    · rename_i hc; obtain ⟨rfl, hc⟩ := hc; exact ⟨_, rfl, hc⟩
    · cases h
  · cases h
theorem trod_bool {t fuel : Nat} {cs : List Value} {d : DataW H} {ps : List MemPlace} (hu : P.underlying t = some .bool) (h : DataW.trod enc P w 0 (fun _ => true) true (fuel + 1) t cs = some (d, ps)) :
    ∃ b, cs = [.bool b] := by
  unfold DataW.trod at h
  simp only [hu] at h
  split at h
  all_goals first | (rename_i e _; cases e; done) | (rename_i e; cases e; done) | (rename_i e _ _; cases e; done) | skip
  · exact ⟨_, rfl⟩
  · cases h
theorem trod_str {t fuel : Nat} {cs : List Value} {d : DataW H} {ps : List MemPlace} (hu : P.underlying t = some .string) (h : DataW.trod enc P w 0 (fun _ => true) true (fuel + 1) t cs = some (d, ps)) :
    ∃ b, cs = [.string b] ∧ d = .lit (.string b.data.toList) := by
  unfold DataW.trod at h
  simp only [hu] at h
  split at h
  all_goals first | (rename_i e _; cases e; done) | (rename_i e; cases e; done) | (rename_i e _ _; cases e; done) | skip
  · split at h
    · cases h; exact ⟨_, rfl, rfl⟩
    · cases h
  · cases h
theorem trod_slice {t fuel e : Nat} {cs : List Value} {d : DataW H} {ps : List MemPlace} (hu : P.underlying t = some (.slice e)) (h : DataW.trod enc P w 0 (fun _ => true) true (fuel + 1) t cs = some (d, ps)) :
    (cs = [.slice none 0 0]) ∨ ∃ a len cap elems rest, cs = [.slice (some a) len cap] ∧ len ≤ cap ∧ d = .slice (elems.map (·.1)) (rest.map (·.1)) ∧
      (List.range len).mapM (fun i => (w.cells? 0 (a.add (i * P.cellsOf e)) (P.cellsOf e)).bind (DataW.trod enc P w 0 (fun _ => true) true fuel e)) = some elems ∧
      (List.range (cap - len)).mapM (fun j => (w.cells? 0 (a.add ((len + j) * P.cellsOf e)) (P.cellsOf e)).bind (DataW.trod enc P w 0 (fun _ => true) true fuel e)) = some rest := by
  unfold DataW.trod at h
  simp only [hu] at h
  split at h
  all_goals first | (rename_i e _; cases e; done) | (rename_i e; cases e; done) | (rename_i e _ _; cases e; done) | skip
  · exact .inl rfl
  · rename_i e0
    cases e0
    split at h
    · rename_i hc
      rw [if_pos trivial] at h
      simp only [Option.bind_eq_some_iff, Option.map_eq_some_iff] at h
      obtain ⟨elems, h1, rest, h2, h3⟩ := h
      cases h3
      exact .inr ⟨_, _, _, elems, rest, rfl, hc.2.1, rfl, h1, h2⟩
    · cases h
  · cases h
theorem trod_struct {t fuel : Nat} {fs : Array Field} {cs : List Value} {d : DataW H} {ps : List MemPlace} (hu : P.underlying t = some (.struct fs)) (h : DataW.trod enc P w 0 (fun _ => true) true (fuel + 1) t cs = some (d, ps)) :
    ∃ xs, cs.length = P.cellsOf t ∧ fs.toList.mapM (fun f => DataW.trod enc P w 0 (fun _ => true) true fuel f.type ((cs.drop f.offset).take (P.cellsOf f.type))) = some xs ∧ d = .agg (xs.map (·.1)) := by
  unfold DataW.trod at h
  simp only [hu] at h
  split at h
  all_goals first | (rename_i e _; cases e; done) | (rename_i e; cases e; done) | (rename_i e _ _; cases e; done) | skip
  · rename_i hl
    simp only [Option.map_eq_some_iff] at h
    obtain ⟨xs, h1, h2⟩ := h
    cases h2
    exact ⟨xs, hl, h1, rfl⟩
  · cases h

theorem all2_nils {α β : Type} {R : α → β → List Nat → Prop} {as : List α} {bs : List β} (h : All2 (fun a b => R a b []) as bs) : ∃ Fs, All3 R as bs Fs ∧ Fs.flatten = [] := by
  induction h with
  | nil => exact ⟨[], .nil, rfl⟩
  | cons h _ ih => obtain ⟨Fs, h1, h2⟩ := ih; exact ⟨[] :: Fs, .cons h h1, by simp [h2]⟩
theorem cellsOf_ok {i : TI} {t : Nat} (h : TIok P Δ i t) : P.cellsOf t = i.sz ∧ P.bytesOf t = i.bytes := by
  obtain ⟨inf, z, h1, h2, h3, _⟩ := h.inf
  simp [Program.cellsOf, Program.bytesOf, h1, h2, h3]

theorem kcS_to {k : Kd} {x : k.T Δ} (h : ∀ n, k ≠ .st n) : All2 (fun k c => kcS k c = true) (kcs X k) (cells X k x) := by
  cases k with
  | st n => exact absurd rfl (h n)
  | int k => exact .cons (by simp [kcS]) .nil
  | sl e => exact .cons (by simp [kcS]) .nil
  | bool => exact .cons rfl .nil
  | str => exact .cons rfl .nil
  | err => exact .cons rfl .nil

theorem trod_ok {ns ts : List Nat} (pok : Pok X P) (hfr : ∀ n, n ∈ ns → ∀ (cs : List (CV Δ)), All2 (fun k c => kcS k c = true) (X.kinds n) cs → ∃ x, X.fr n cs = some x) (hts : rdOk X ns ts = true) {S : Nat → Prop} (hS : ∀ b, b < w.heap.size → S b) :
    ∀ (fuel : Nat) (t : Nat), t ∈ ts → ∀ (i : TI), tyi X t = some i → ∀ (cs : List Value) (d : DataW H) (ps : List MemPlace), DataW.trod enc P w 0 (fun _ => true) true fuel t cs = some (d, ps) → (∀ n ∈ d.weights P t, n ≤ reachBytes) →
      ∃ x : i.kd.T Δ, All2 (fun v c => Rel X .sh w S v c []) cs (cells X i.kd x) ∧ All2 (fun k c => kcS k c = true) (kcs X i.kd) (cells X i.kd x) ∧ ∀ c ∈ cells X i.kd x, WC X fuel c
  | 0, t, ht, i, hi, cs, d, ps, h, hw => by simp [DataW.trod] at h
  | fuel + 1, t, ht, i, hi, cs, d, ps, h, hw => by
    have hb := List.all_eq_true.1 hts t ht
    unfold rdB at hb
    rw [hi] at hb
    simp only at hb
    have tok := pok.ti t i hi
    have hu := tok.und
    unfold UndOk at hu
    cases hd : i.d with
    | int k =>
      rw [hd] at hb hu
      simp only [Bool.and_eq_true, decide_eq_true_eq] at hb
      rw [hb.1]
      obtain ⟨n, rfl, hn⟩ := trod_int hu h
      exact ⟨n, .cons ((Rel.int X).2 ⟨rfl, rfl⟩) .nil, kcS_to (fun _ e => by cases e), fun c hc => by
        simp only [cells, List.mem_singleton] at hc; subst hc; exact hn⟩
    | bool =>
      rw [hd] at hb hu
      simp only [Bool.and_eq_true, decide_eq_true_eq] at hb
      rw [hb.1]
      obtain ⟨n, rfl⟩ := trod_bool hu h
      exact ⟨n, .cons ((Rel.bool X).2 ⟨rfl, rfl⟩) .nil, kcS_to (fun _ e => by cases e), fun c hc => by
        simp only [cells, List.mem_singleton] at hc; subst hc; trivial⟩
    | str =>
      rw [hd] at hb hu
      simp only [Bool.and_eq_true, decide_eq_true_eq] at hb
      rw [hb.1]
      obtain ⟨s, rfl, rfl⟩ := trod_str hu h
      refine ⟨s.data.toList, .cons ((Rel.str X).2 ⟨by simp, rfl⟩) .nil, kcS_to (fun _ e => by cases e), fun c hc => ?_⟩
      simp only [cells, List.mem_singleton] at hc; subst hc
      exact hw _ (by simp [DataW.weights])
    | slice e =>
      rw [hd] at hb hu
      simp only at hb hu
      cases hie : tyi X e with
      | none => rw [hie] at hb; cases hb
      | some ie =>
        rw [hie] at hb
        simp only [Bool.and_eq_true, decide_eq_true_eq] at hb
        obtain ⟨⟨⟨⟨b1, b2⟩, b3⟩, b4⟩, _⟩ := hb
        have b2 := isIn_iff.1 b2
        have b3 := Nat.eq_of_beq_eq_true b3
        have b4 : 0 < ie.bytes := Nat.blt_eq.mp b4
        obtain ⟨z1, z2⟩ := cellsOf_ok (pok.ti e ie hie)
        have hk : 0 < ksz X ie.kd := ksz_pos pok.xok _
        rw [b1]
        rcases trod_slice hu h with rfl | ⟨a, len, cap, elems, rest, rfl, hlc, rfl, he, hr⟩
        · exact ⟨[], .cons ((Rel.shs_iff X).2 (.inl ⟨.inl rfl, rfl, rfl⟩)) .nil, kcS_to (fun _ e => by cases e), fun c hc => by
            simp only [cells, List.mem_singleton] at hc; subst hc; exact ⟨Nat.zero_le _, by simp⟩⟩
        · rw [z1, ← b3] at he hr
          obtain ⟨l1, g1⟩ := range_all2 (mapM_all2 he)
          obtain ⟨l2, g2⟩ := range_all2 (mapM_all2 hr)
          have hwt : (elems.length + rest.length) * ie.bytes ≤ reachBytes := by
            have := hw ((elems.length + rest.length) * ie.bytes) (by simp [DataW.weights, hu, z2])
            exact this
          have hlen : len ≤ reachBytes := by
            have : elems.length * 1 ≤ (elems.length + rest.length) * ie.bytes := Nat.mul_le_mul (by omega) b4
            omega
          -- each element
          have el : ∀ j, j < len → ∃ x : ie.kd.T Δ, ∃ cs, w.cells? 0 (a.add (j * ksz X ie.kd)) (ksz X ie.kd) = some cs ∧ All2 (fun v c => Rel X .sh w S v c []) cs (cells X ie.kd x) ∧ ∀ c ∈ cells X ie.kd x, WC X fuel c := by
            intro j hj
            obtain ⟨r, r1, r2⟩ := g1 j hj
            simp only [Option.bind_eq_some_iff] at r2
            obtain ⟨cs, c1, c2⟩ := r2
            obtain ⟨d', ps'⟩ := r
            obtain ⟨x, x1, _, x3⟩ := trod_ok pok hfr hts hS fuel e b2 ie hie cs d' ps' c2 fun n hn => hw n (by
              simp only [DataW.weights, hu, List.mem_cons, List.mem_append]
              exact .inr (.inl (weights_all (List.mem_map.2 ⟨(d', ps'), List.mem_of_getElem? r1, rfl⟩) n hn)))
            exact ⟨x, cs, c1, x1, x3⟩
          -- the elements, one behind the other
          have build : ∀ m, m ≤ len → ∃ l : List (ie.kd.T Δ), ∃ css : List (List Value), l.length = m ∧ css.length = m ∧ (∀ j cs, css[j]? = some cs → w.cells? 0 (a.add (j * ksz X ie.kd)) (ksz X ie.kd) = some cs) ∧
              All2 (fun v c => Rel X .sh w S v c []) css.flatten (l.flatMap (cells X ie.kd)) ∧ ∀ x ∈ l, ∀ c ∈ cells X ie.kd x, WC X fuel c := by
            intro m
            induction m with
            | zero => intro _; exact ⟨[], [], rfl, rfl, by simp, .nil, by simp⟩
            | succ m ih =>
              intro hm
              obtain ⟨l, css, q1, q2, q3, q4, q5⟩ := ih (by omega)
              obtain ⟨x, cs, x1, x2, x3⟩ := el m (by omega)
              refine ⟨l ++ [x], css ++ [cs], by simp [q1], by simp [q2], fun j c hj => ?_, ?_, fun y hy => ?_⟩
              · by_cases hjm : j < css.length
                · rw [List.getElem?_append_left hjm] at hj; exact q3 j c hj
                · rw [List.getElem?_append_right (by omega)] at hj
                  have hj0 : j - css.length = 0 := by
                    apply Classical.byContradiction; intro hne
                    rw [List.getElem?_eq_none (by simp; omega)] at hj; cases hj
                  rw [hj0] at hj; cases hj
                  have : j = m := by omega
                  subst this; exact x1
              · simp only [List.flatten_append, List.flatten_cons, List.flatten_nil, List.append_nil, List.flatMap_append, List.flatMap_cons, List.flatMap_nil]
                exact q4.append x2
              · rcases List.mem_append.1 hy with hy | hy
                · exact q5 y hy
                · simp at hy; subst hy; exact x3
          obtain ⟨l, css, q1, q2, q3, q4, q5⟩ := build len (Nat.le_refl _)
          refine ⟨l, .cons ?_ .nil, kcS_to (fun _ e => by cases e), fun c hc => ?_⟩
          · by_cases hc0 : cap = 0
            · have hl0 : len = 0 := by omega
              subst hc0 hl0
              have : l = [] := List.eq_nil_of_length_eq_zero q1
              exact (Rel.shs_iff X).2 (.inl ⟨.inr ⟨rfl, a, rfl⟩, this, rfl⟩)
            · -- the row is there
              have last : ∃ cs, w.cells? 0 (a.add ((cap - 1) * ksz X ie.kd)) (ksz X ie.kd) = some cs := by
                by_cases hlc' : len = cap
                · obtain ⟨x, cs, x1, _⟩ := el (cap - 1) (by omega)
                  exact ⟨cs, x1⟩
                · obtain ⟨r, r1, r2⟩ := g2 (cap - 1 - len) (by omega)
                  simp only [Option.bind_eq_some_iff] at r2
                  obtain ⟨cs, c1, _⟩ := r2
                  rw [show len + (cap - 1 - len) = cap - 1 by omega] at c1
                  exact ⟨cs, c1⟩
              have first : ∃ cs, w.cells? 0 (a.add (0 * ksz X ie.kd)) (ksz X ie.kd) = some cs := by
                by_cases hl0 : len = 0
                · obtain ⟨r, r1, r2⟩ := g2 0 (by omega)
                  simp only [Option.bind_eq_some_iff] at r2
                  obtain ⟨cs, c1, _⟩ := r2
                  rw [show len + 0 = 0 by omega] at c1
                  exact ⟨cs, c1⟩
                · obtain ⟨x, cs, x1, _⟩ := el 0 (by omega)
                  exact ⟨cs, x1⟩
              obtain ⟨cs0, f0⟩ := first
              have ea : a.add (0 * ksz X ie.kd) = a := by simp [Addr.add]
              rw [ea] at f0
              obtain ⟨c, t', fr, hb, hs, _, _⟩ := cells_read f0 hk
              obtain ⟨csl, fl⟩ := last
              obtain ⟨c', t2, fr2, hb2, _, _, hsz⟩ := cells_read fl hk
              rw [add_off _ _ hs] at hb2 hsz
              simp only at hb2 hsz
              rw [hb] at hb2; cases hb2
              obtain ⟨ab, ao, as⟩ := a
              simp only at hs hb hsz
              subst hs
              have hb' : ab < w.heap.size := (Array.getElem?_eq_some_iff.1 hb).1
              have hflat : ((c.toList.drop ao).take (len * ksz X ie.kd)) = css.flatten := by
                rw [← q2]
                refine take_flat css _ fun j cs hj => ?_
                have hj' := q3 j cs hj
                obtain ⟨c2, t3, fr3, hb3, _, e3, hsz3⟩ := cells_read hj' hk
                rw [add_off _ _ rfl] at hb3 e3 hsz3
                simp only at hb3 e3 hsz3
                rw [hb] at hb3; cases hb3
                rw [List.drop_drop, e3]
                refine ⟨by rw [Nat.add_comm], ?_⟩
                rw [List.length_take, List.length_drop]
                simp only [Array.length_toList]
                omega
              obtain ⟨Fs, hF1, hF2⟩ := all2_nils (R := fun v c F => Rel X .sh w S v c F) q4
              have hcap : ao + cap * ksz X ie.kd ≤ c.size := by
                have : cap * ksz X ie.kd = (cap - 1) * ksz X ie.kd + ksz X ie.kd := by
                  rw [← Nat.succ_mul]; congr 1; omega
                omega
              refine (Rel.shs_iff X).2 (.inr ⟨ab, ao, cap, c, t', fr, Fs, by rw [q1], hb, hcap, by omega, ⟨hS ab hb', hF2.symm⟩, ?_⟩)
              rw [q1, hflat]
              exact hF1
          · simp only [cells, List.mem_singleton] at hc; subst hc
            exact ⟨by omega, q5⟩
    | struct fs =>
      rw [hd] at hb hu
      simp only at hb hu
      obtain ⟨fa, u1, u2, u3⟩ := hu
      cases hk : i.kd with
      | st n =>
        rw [hk] at hb
        simp only at hb
        cases htl : tile X fs 0 with
        | none => rw [htl] at hb; cases hb
        | some mk =>
          obtain ⟨m, ks⟩ := mk
          rw [htl] at hb
          simp only [Bool.and_eq_true, decide_eq_true_eq] at hb
          obtain ⟨⟨⟨b1, b2⟩, b4⟩, b3⟩ := hb
          have b1 := Nat.eq_of_beq_eq_true b1
          obtain ⟨xs, hl, hm, rfl⟩ := trod_struct u1 h
          obtain ⟨z1, z2⟩ := cellsOf_ok tok
          -- the fields, one behind the other
          have go : ∀ (fl : List Field) (xs : List (DataW H × List MemPlace)) (off m : Nat) (ks : List Kd), tile X (fl.map fun f => (f.offset, f.type)) off = some (m, ks) → (∀ f ∈ fl, f.type ∈ ts) →
              fl.mapM (fun f => DataW.trod enc P w 0 (fun _ => true) true fuel f.type ((cs.drop f.offset).take (P.cellsOf f.type))) = some xs → (∀ n ∈ DataW.weightsEach P (fl.map (·.type)) (xs.map (·.1)), n ≤ reachBytes) → m ≤ cs.length →
              off ≤ m ∧ ∃ ds : List (CV Δ), All2 (fun v c => Rel X .sh w S v c []) ((cs.drop off).take (m - off)) ds ∧ All2 (fun k c => kcS k c = true) ks ds ∧ ∀ c ∈ ds, WC X fuel c := by
            intro fl
            induction fl with
            | nil =>
              intro xs off m ks ht' _ _ _ _
              simp [tile] at ht'
              obtain ⟨rfl, rfl⟩ := ht'
              exact ⟨Nat.le_refl _, [], by simpa using All2.nil, .nil, by simp⟩
            | cons f fl ih =>
              intro xs off m ks ht' hts' hxs hws hmc
              simp only [List.map_cons, tile] at ht'
              cases hfi : tyi X f.type with
              | none => rw [hfi] at ht'; cases ht'
              | some fi =>
                rw [hfi] at ht'
                simp only at ht'
                split at ht'
                · rename_i m' ks' t1 t2 t3
                  cases ht'
                  have t1 := Nat.eq_of_beq_eq_true t1
                  have t2 := Nat.eq_of_beq_eq_true t2
                  rw [List.mapM_cons] at hxs
                  simp only [Option.bind_eq_bind, Option.bind_eq_some_iff, Option.pure_def, Option.some.injEq] at hxs
                  obtain ⟨⟨d', ps'⟩, x1, xs', x2, rfl⟩ := hxs
                  obtain ⟨y1, y2⟩ := cellsOf_ok (pok.ti _ _ hfi)
                  obtain ⟨x, g1, g2, g3⟩ := trod_ok pok hfr hts hS fuel f.type (hts' f (by simp)) fi hfi _ d' ps' x1 fun n hn => hws n (by
                    simp only [List.map_cons, DataW.weightsEach, List.mem_append]; exact .inl hn)
                  obtain ⟨ho, ds, q1, q2, q3⟩ := ih xs' (Nat.add off fi.sz) m ks' t3 (fun f hf => hts' f (by simp [hf])) x2 (fun n hn => hws n (by
                    simp only [List.map_cons, DataW.weightsEach, List.mem_append]; exact .inr hn)) hmc
                  have ho : off + fi.sz ≤ m := ho
                  refine ⟨by omega, cells X fi.kd x ++ ds, ?_, g2.append q2, fun c hc => ?_⟩
                  · rw [y1, t1] at g1
                    have e : (cs.drop off).take (m - off) = (cs.drop off).take fi.sz ++ (cs.drop (off + fi.sz)).take (m - (off + fi.sz)) := by
                      rw [show m - off = fi.sz + (m - (off + fi.sz)) by omega, List.take_add, List.drop_drop]
                    rw [e]
                    exact g1.append q1
                  · rcases List.mem_append.1 hc with hc | hc
                    · exact g3 c hc
                    · exact q3 c hc
                · cases ht'
          have hlen : m = cs.length := by rw [hl, z1, b1]
          obtain ⟨_, ds, q1, q2, q3⟩ := go fa.toList xs 0 m ks (by rw [← u2]; exact htl) (fun f hf => by
            have := List.all_eq_true.1 b3 (f.offset, f.type) (by rw [u2]; exact List.mem_map.2 ⟨f, hf, rfl⟩)
            exact isIn_iff.1 this) hm (fun n hn => hw n (by simp only [DataW.weights, u1]; exact hn)) (by omega)
          rw [b2] at q2
          obtain ⟨x, hx⟩ := hfr n (isIn_iff.1 b4) ds q2
          have hto := pok.xok.to_fr n ds x hx
          have hcl : cells X (.st n) x = ds := hto
          refine ⟨x, ?_, ?_, fun c hc => WC.up fuel c (q3 c (hcl ▸ hc))⟩
          · rw [hcl]
            have : (cs.drop 0).take (m - 0) = cs := by rw [List.drop_zero, Nat.sub_zero, hlen, List.take_length]
            rw [this] at q1
            exact q1
          · rw [hcl]; exact q2
      | _ => rw [hk] at hb; cases hb
    | pointer => rw [hd] at hb; cases hb
    | iface => rw [hd] at hb; cases hb
    | other => rw [hd] at hb; cases hb
    | map k e => rw [hd] at hb; cases hb
end
end Go.Ev

/- A law: out of what its function computes, what its call does. -/
set_option linter.unusedVariables false
set_option linter.unusedSimpArgs false
namespace Go.Ev
variable {Δ : Nat → Type} {X : Cx Δ} {P : Program}
section
variable {H : Type} {enc : TypeId × Value → H} {W : World}

def noFl : List (Option (Bool × Nat)) → Bool
  | [] => true
  | none :: r => noFl r
  | some _ :: _ => false
theorem encCs_no : ∀ (fl : List (Option (Bool × Nat))) (cs : List (CV Δ)), noFl fl = true → encCs fl cs = (cs, [])
  | [], cs, _ => by unfold encCs; rfl
  | none :: fl, [], _ => by unfold encCs; rfl
  | none :: fl, c :: cs, h => by rw [encCs]; simp only [encCs_no fl cs h]; intro d' id' k l e1 _; cases e1
  | some _ :: _, _, h => by cases h

/-- a parameter that comes as plain data -/
def PlainMd (X : Cx Δ) (t : Nat) (m : Md) : Prop := ∃ i, tyi X t = some i ∧ m.k = i.kd ∧ m.ptr = false ∧ noFl m.fl = true
/-- each of a list of data is within its bounds -/
def WfL (X : Cx Δ) : (ms : List Md) → HL Δ ms → Prop
  | [], _ => True
  | m :: ms, x => (∃ n, ∀ c ∈ cells X m.k x.1, WC X n c) ∧ WfL X ms x.2

theorem args_ok {ns ts : List Nat} (pok : Pok X P) (hfr : ∀ n, n ∈ ns → ∀ (cs : List (CV Δ)), All2 (fun k c => kcS k c = true) (X.kinds n) cs → ∃ x, X.fr n cs = some x) (hts : rdOk X ns ts = true) {S : Nat → Prop} (hS : ∀ b, b < W.heap.size → S b) (h : Heap Δ) (σ : Nat → Option Value) :
    ∀ {base : Nat} {pts : List Nat} {ms : List Md}, All2 (PlainMd X) pts ms → (∀ t ∈ pts, t ∈ ts) → ∀ {vs : List Value} {ds : List (DataW H)} {p : List MemPlace}, DataW.TrodAll enc P W 0 (fun _ => true) true pts vs ds p →
      (∀ (j : Nat) t v, pts[j]? = some t → vs[j]? = some v → Value.okWide P W .any base t v) → (∀ n ∈ DataW.weightsEach P pts ds, n ≤ reachBytes) →
      ∃ x : HL Δ ms, (encL X ms x).2 = [] ∧ All2 (AR X h σ W S) vs (encL X ms x).1 ∧ WfL X ms x
  | _, [], _, .nil, _, [], [], p, _, _, _ => ⟨(), rfl, .nil, trivial⟩
  | _, [], _, .nil, _, _ :: _, _, p, hA, _, _ => by cases hA
  | _, [], _, .nil, _, [], _ :: _, p, hA, _, _ => by cases hA
  | _, _ :: _, _, .cons _ _, _, [], _, p, hA, _, _ => by cases hA
  | _, _ :: _, _, .cons _ _, _, _ :: _, [], p, hA, _, _ => by cases hA
  | base, t :: pts, m :: ms, .cons hm hms, hin, v :: vs, d :: ds, p, hA, hv, hw => by
    obtain ⟨p1, q1, hd, hA', _⟩ := hA
    obtain ⟨i, hi, hk, hptr, hfl⟩ := hm
    obtain ⟨fuel, hd⟩ := hd
    obtain ⟨x, x1, x2, x3⟩ := trod_ok pok hfr hts hS fuel t (hin t (by simp)) i hi _ d p1 hd fun n hn => hw n (by simp only [DataW.weightsEach, List.mem_append]; exact .inl hn)
    obtain ⟨y, y1, y2, y3⟩ := args_ok pok hfr hts hS h σ hms (fun t ht => hin t (by simp [ht])) hA' (fun j t' v' h1 h2 => hv (j + 1) t' v' (by simpa using h1) (by simpa using h2)) fun n hn => hw n (by simp only [DataW.weightsEach, List.mem_append]; exact .inr hn)
    have hb := List.all_eq_true.1 hts t (hin t (by simp))
    unfold rdB at hb
    rw [hi] at hb
    simp only at hb
    have hu := (pok.ti t i hi).und
    unfold UndOk at hu
    have hok := hv 0 t v rfl rfl
    obtain ⟨mp, mi, mt, mk, mf⟩ := m
    simp only at hk hptr hfl
    subst hk hptr
    have ea : encA X ⟨false, mi, mt, i.kd, mf⟩ x = (mkAV i.kd (cells X i.kd x), []) := by
      unfold encA
      simp only [encCs_no mf _ hfl]
    -- the value's shape
    have shape : AR X h σ W S v (mkAV i.kd (cells X i.kd x)) := by
      have single : (∀ n, i.kd ≠ .st n) → v.oneCell' = true → AR X h σ W S v (mkAV i.kd (cells X i.kd x)) := by
        intro hns h1
        rw [cells_one h1] at x1
        have : ∃ c, cells X i.kd x = [c] := by
          have := x1.length
          cases hc : cells X i.kd x with
          | nil => rw [hc] at this; cases this
          | cons c r => cases r with
            | nil => exact ⟨c, rfl⟩
            | cons _ _ => rw [hc] at this; simp at this
        obtain ⟨c, hc⟩ := this
        rw [hc] at x1 ⊢
        have e : mkAV i.kd [c] = .v (.one c) := by
          unfold mkAV
          split
          · rename_i n hk; exact absurd hk (hns n)
          · rfl
        rw [e]
        cases x1 with
        | cons r1 _ => exact r1.vr
      cases hd' : i.d with
      | struct fs =>
        rw [hd'] at hb hu
        simp only at hb hu
        obtain ⟨fa, u1, _, _⟩ := hu
        unfold Value.okWide at hok
        rw [u1] at hok
        obtain ⟨cs, rfl, _, _⟩ := hok
        have hst : ∀ k : Kd, (match k with | .st n => (match tile X fs 0 with | some (m, ks) => Nat.beq m i.sz && decide (ks = X.kinds n) && isIn ns n && fs.all fun f => isIn ts f.2 | none => false) | _ => false) = true → ∃ n, k = .st n := by
          intro k hk
          cases k <;> first | exact ⟨_, rfl⟩ | cases hk
        obtain ⟨n, hn⟩ := hst _ hb
        have e : ∀ cs : List (CV Δ), mkAV i.kd cs = .v (.agg cs) := by intro cs; rw [hn]; rfl
        rw [e]
        exact ⟨cs.toList, by simp, x1.mono fun _ _ r => r.vr⟩
      | int k =>
        rw [hd'] at hb hu
        simp only [Bool.and_eq_true, decide_eq_true_eq] at hb
        refine single (fun n e => by rw [hb.1] at e; cases e) ?_
        unfold Value.okWide at hok
        simp only at hu
        rw [hu] at hok
        unfold Cell.okWide at hok
        rw [hu] at hok
        simp only at hok
        unfold Cell.ok at hok
        rw [hu] at hok
        cases v <;> first | rfl | exact hok.elim
      | bool =>
        rw [hd'] at hb hu
        simp only [Bool.and_eq_true, decide_eq_true_eq] at hb
        refine single (fun n e => by rw [hb.1] at e; cases e) ?_
        unfold Value.okWide at hok
        simp only at hu
        rw [hu] at hok
        unfold Cell.okWide at hok
        rw [hu] at hok
        simp only at hok
        unfold Cell.ok at hok
        rw [hu] at hok
        cases v <;> first | rfl | exact hok.elim
      | str =>
        rw [hd'] at hb hu
        simp only [Bool.and_eq_true, decide_eq_true_eq] at hb
        refine single (fun n e => by rw [hb.1] at e; cases e) ?_
        unfold Value.okWide at hok
        simp only at hu
        rw [hu] at hok
        unfold Cell.okWide at hok
        rw [hu] at hok
        simp only at hok
        unfold Cell.ok at hok
        rw [hu] at hok
        cases v <;> first | rfl | exact hok.elim
      | slice e =>
        rw [hd'] at hb hu
        simp only at hb hu
        refine single (fun n e' => ?_) ?_
        · cases hie : tyi X e with
          | none => rw [hie] at hb; cases hb
          | some ie =>
            rw [hie] at hb
            simp only [Bool.and_eq_true, decide_eq_true_eq] at hb
            rw [hb.1.1.1.1] at e'; cases e'
        · unfold Value.okWide at hok
          rw [hu] at hok
          unfold Cell.okWide at hok
          rw [hu] at hok
          simp only at hok
          unfold Cell.ok at hok
          rw [hu] at hok
          cases v <;> first | rfl | exact hok.elim
      | pointer => rw [hd'] at hb; cases hb
      | iface => rw [hd'] at hb; cases hb
      | other => rw [hd'] at hb; cases hb
      | map k e => rw [hd'] at hb; cases hb
    refine ⟨(x, y), ?_, ?_, ⟨⟨fuel, x3⟩, y3⟩⟩
    · simp only [encL, ea, y1, List.nil_append]
    · simp only [encL, ea]; exact .cons shape y2

/-- what a law's call does -/
theorem law_calls {ns ts : List Nat} (pok : Pok X P) (hfr : ∀ n, n ∈ ns → ∀ (cs : List (CV Δ)), All2 (fun k c => kcS k c = true) (X.kinds n) cs → ∃ x, X.fr n cs = some x) (hts : rdOk X ns ts = true) {G : Gam} {f : Nat} {sg : Sg} {fn : Nat → HL Δ sg.ms → Option (HL Δ sg.outs)} (hs : ∀ N, Sound X P G f ⟨sg, fn N⟩)
    (hk : (keptMs sg.ms sg.keep).length = 0) (pure_ : ∀ x, WfL X sg.ms x → ∃ N r, fn N x = some r ∧ (encL X sg.outs r).1 = [.c (.bool true)])
    {base : Nat} {pts : List Nat} (hms : All2 (PlainMd X) pts sg.ms) (hin : ∀ t ∈ pts, t ∈ ts) {args : Array Value} {ds : List (DataW H)} {p : List MemPlace} (hA : DataW.TrodAll enc P W 0 (fun _ => true) true pts args.toList ds p)
    (hv : ∀ (j : Nat) t v, pts[j]? = some t → args[j]? = some v → Value.okWide P W .any base t v) (hw : ∀ n ∈ DataW.weightsEach P pts ds, n ≤ reachBytes) (hG : G.is W ∧ ∀ b ∈ G.bs, b < W.heap.size) :
    Calls P f args W fun e W' => e = .returned (.bool true) ∧ Go.RowKit.Below W.heap.size W W' := by
  obtain ⟨x, x1, x2, x3⟩ := args_ok pok hfr hts (S := Sof (fun _ => []) W) (fun b hb => ⟨hb, fun o => by simp⟩) ([] : Heap Δ) (fun _ => none) hms hin hA (fun j t v h1 h2 => hv j t v h1 (by simpa using h2)) hw
  obtain ⟨N, r, r1, r2⟩ := pure_ x x3
  have := hs N x r r1 (fun _ => none) (fun _ => []) W args.toList (by
      rw [x1]
      exact ⟨fun o x hx => (by cases hx), fun o h9 _ => rfl, rfl, fun o => (by simp), fun o o' hne b hb hb' => (by simp at hb), fun o b hb => (by simp at hb), fun o v hv => (by cases hv)⟩)
    ⟨hG.1, fun b hb => ⟨hG.2 b hb, fun o => by simp⟩⟩ (by rw [x1]; exact x2) (fun o ho => absurd rfl ho)
  have ea : args.toList.toArray = args := by rw [Array.toArray_toList]
  rw [ea] at this
  refine this.mono fun e W' he => ?_
  cases e with
  | panicked c => exact he.elim
  | outgrown => exact he.elim
  | returned v =>
    obtain ⟨σ', F', ks, vs, rfl, hkl, H', ha, _, hsz, hst, _, _, hio⟩ := he
    have hks : ks = [] := List.eq_nil_of_length_eq_zero (hkl.trans hk)
    subst hks
    rw [r2] at ha
    simp only [List.nil_append] at ha
    cases ha with
    | cons a1 a2 =>
      cases a2
      have := AR.bool a1
      refine ⟨by rw [this]; rfl, hio.1, hio.2.1, hio.2.2, hsz, fun k hk => (hst k ⟨hk, fun o => by simp⟩).1⟩

/-- the parameters' types and modes, by reckoning -/
def plainMsB (X : Cx Δ) : List Nat → List Md → Bool
  | [], [] => true
  | t :: ts, m :: ms => (match tyi X t with
    | some i => decide (m.k = i.kd) && !m.ptr && noFl m.fl
    | none => false) && plainMsB X ts ms
  | _, _ => false
theorem plainMs_ok : ∀ {ts : List Nat} {ms : List Md}, plainMsB X ts ms = true → All2 (PlainMd X) ts ms
  | [], [], _ => .nil
  | [], _ :: _, h => by cases h
  | _ :: _, [], h => by cases h
  | t :: ts, m :: ms, h => by
    simp only [plainMsB, Bool.and_eq_true] at h
    refine .cons ?_ (plainMs_ok h.2)
    have h1 := h.1
    split at h1
    · rename_i i hi
      simp only [Bool.and_eq_true, decide_eq_true_eq, Bool.not_eq_true'] at h1
      exact ⟨i, hi, h1.1.1, h1.1.2, h1.2⟩
    · cases h1
/-- the arguments read behind the call as they did -/
theorem trodAll_stay (hl : laidOutB P = true) {W' : World} (hb : Go.RowKit.Below W.heap.size W W') : ∀ {pts : List Nat} {vs : List Value} {ds : List (DataW H)} {p : List MemPlace}, (∀ t ∈ pts, P.readableRec t = true ∧ t < P.types.size) →
    DataW.TrodAll enc P W 0 (fun _ => true) true pts vs ds p → DataW.TrodAll enc P W' 0 (fun b => decide (b < W.heap.size)) true pts vs ds p
  | [], [], [], p, _, h => h
  | [], _ :: _, _, p, _, h => by cases h
  | [], [], _ :: _, p, _, h => by cases h
  | _ :: _, [], _, p, _, h => by cases h
  | _ :: _, _ :: _, [], p, _, h => by cases h
  | t :: pts, v :: vs, d :: ds, p, hr, h => by
    obtain ⟨p1, q1, h1, h2, e⟩ := h
    obtain ⟨r1, r2⟩ := hr t (by simp)
    have hlt : ∀ x ∈ p1, x.block < W.heap.size := by
      obtain ⟨m, hm⟩ := h1
      exact DataW.trod_lt m _ _ _ hm
    exact ⟨p1, q1, Go.RowKit.Below.trod hl r1 r2 h1 hb hlt, trodAll_stay hl hb (fun t ht => hr t (by simp [ht])) h2, e⟩
end
end Go.Ev

/- '==' of structs of plain cells. -/
set_option linter.unusedVariables false
set_option linter.unusedSimpArgs false
namespace Go.Ev
variable {Δ : Nat → Type} {X : Cx Δ} {P : Program}

def eqAll : List (CV Δ) → List (CV Δ) → Option Bool
  | [], [] => some true
  | c :: cs, d :: ds => match eqC c d, eqAll cs ds with
    | some a, some b => some (a && b)
    | _, _ => none
  | _, _ => none
theorem eqAll_of : ∀ {cs ds : List (CV Δ)} {b : Bool}, eqCs cs ds = some b → eqAll cs ds = some b
  | [], ds, b, h => by cases ds <;> simp [eqCs] at h
  | [c], [], b, h => by simp [eqCs] at h
  | [c], [d], b, h => by
    simp only [eqCs] at h
    simp [eqAll, h]
  | [c], d :: d' :: ds, b, h => by
    simp only [eqCs] at h
    split at h
    · rename_i h2; simp [eqCs] at h2
    · cases h
  | c :: c' :: cs, [], b, h => by simp [eqCs] at h
  | c :: c' :: cs, [d], b, h => by
    simp only [eqCs] at h
    split at h
    · rename_i h2; simp [eqCs] at h2
    · cases h
  | c :: c' :: cs, d :: d' :: ds, b, h => by
    simp only [eqCs] at h
    split at h
    · rename_i h1 h2
      cases h
      have := eqAll_of (cs := c' :: cs) (ds := d' :: ds) h2
      rw [eqAll]
      simp only [h1, this]
    · cases h
theorem eqAll_split : ∀ (n : Nat) {cs ds : List (CV Δ)} {b : Bool}, eqAll cs ds = some b → ∃ x y, eqAll (cs.take n) (ds.take n) = some x ∧ eqAll (cs.drop n) (ds.drop n) = some y ∧ b = (x && y)
  | 0, cs, ds, b, h => ⟨true, b, by simp [eqAll], by simpa using h, by simp⟩
  | n + 1, [], [], b, h => by simp [eqAll] at h; subst h; exact ⟨true, true, by simp [eqAll], by simp [eqAll], rfl⟩
  | n + 1, [], d :: ds, b, h => by simp [eqAll] at h
  | n + 1, c :: cs, [], b, h => by simp [eqAll] at h
  | n + 1, c :: cs, d :: ds, b, h => by
    simp only [eqAll] at h
    split at h
    · rename_i a b' h1 h2
      cases h
      obtain ⟨x, y, e1, e2, rfl⟩ := eqAll_split n h2
      exact ⟨a && x, y, by simp [eqAll, h1, e1], by simpa using e2, by rw [Bool.and_assoc]⟩
    · cases h
theorem eqAll_len : ∀ {cs ds : List (CV Δ)} {b : Bool}, eqAll cs ds = some b → cs.length = ds.length
  | [], [], _, _ => rfl
  | [], _ :: _, b, h => by simp [eqAll] at h
  | _ :: _, [], b, h => by simp [eqAll] at h
  | c :: cs, d :: ds, b, h => by
    simp only [eqAll] at h
    split at h
    · rename_i h2; simp [eqAll_len h2]
    · cases h

def eqFs (f : Nat → Option (List Kd)) : List (Nat × Nat) → Nat → Option (List Kd)
  | [], n => some []
  | (off, t) :: r, n => match Nat.beq off n, f t with
    | true, some ks => match eqFs f r (Nat.add n ks.length) with
      | some ks' => some (ks ++ ks')
      | none => none
    | _, _ => none
def eqTy (X : Cx Δ) (P : Program) : Nat → Nat → Option (List Kd)
  | 0, _ => none
  | d + 1, t => match tyi X t with
    | some i => match i.d with
      | .int k => cond (Nat.beq i.sz 1) (some [.int k]) none
      | .bool => cond (Nat.beq i.sz 1) (some [.bool]) none
      | .str => cond (Nat.beq i.sz 1) (some [.str]) none
      | .struct fs => match P.stoodInHeld t, (P.fieldsOf t).toList.all (fun f => f.name != "_"), eqFs (eqTy X P d) fs 0 with
        | false, true, some ks => cond (Nat.beq ks.length i.sz) (some ks) none
        | _, _, _ => none
      | _ => none
    | none => none
theorem shapeK_len : ∀ {ks : List Kd} {cs : List (CV Δ)}, shapeK ks cs = true → ks.length = cs.length
  | [], [], _ => rfl
  | [], _ :: _, h => by cases h
  | k :: ks, [], h => by cases k <;> cases h
  | k :: ks, c :: cs, h => by
    have : shapeK ks cs = true := by
      cases k <;> cases c <;> simp only [shapeK] at h <;> first | (cases h; done) | exact h | skip
      rename_i k n k'
      cases hk : decide (k = n) <;> rw [hk] at h <;> first | cases h | exact h
    simp [shapeK_len this]
theorem shapeK_split : ∀ {ks ks' : List Kd} {cs : List (CV Δ)}, shapeK (ks ++ ks') cs = true → shapeK ks (cs.take ks.length) = true ∧ shapeK ks' (cs.drop ks.length) = true
  | [], ks', cs, h => ⟨by simp [shapeK], by simpa using h⟩
  | k :: ks, ks', [], h => by cases k <;> cases h
  | k :: ks, ks', c :: cs, h => by
    have key : shapeK (ks ++ ks') cs = true ∧ ∀ l, shapeK ks l = true → shapeK (k :: ks) (c :: l) = true := by
      cases k <;> cases c <;> simp only [List.cons_append, shapeK] at h ⊢ <;> first | (cases h; done) | exact ⟨h, fun l hl => hl⟩ | skip
      rename_i k n k'
      cases hk : decide (k = n) <;> rw [hk] at h <;> first | cases h | exact ⟨h, fun l hl => hl⟩
    obtain ⟨a, b⟩ := shapeK_split key.1
    exact ⟨by simpa using key.2 _ a, by simpa using b⟩

section
def VT (X : Cx Δ) (t : Nat) (xs : List Value) (v : Value) : Prop :=
  ∃ i, tyi X t = some i ∧ ((isAggD i.d = true ∧ v = .agg xs.toArray) ∨ (isAggD i.d = false ∧ xs = [v]))

theorem part_ok {t : Nat} {i : TI} (ti : TIok P Δ i t) {w : World} {xs : List Value} {off : Nat} (hl : off + i.sz ≤ xs.length) (h1 : isAggD i.d = false → i.sz = 1) :
    ∃ v, (part t xs.toArray off).run P w = .ok v w ∧ ((isAggD i.d = true ∧ v = .agg ((xs.drop off).take i.sz).toArray) ∨ (isAggD i.d = false ∧ (xs.drop off).take i.sz = [v])) := by
  unfold part
  cases hd : isAggD i.d with
  | true =>
    refine ⟨_, by simp only [Sem.run_bind, run_isAgg ti, Result.andThen_ok, hd, if_true, run_size ti, Sem.run_pure]; rfl, .inl ⟨rfl, ?_⟩⟩
    congr 1
    simp [List.extract_eq_take_drop, List.take_drop]
  | false =>
    have hs := h1 hd
    have hlt : off < xs.length := by omega
    refine ⟨xs[off], ?_, .inr ⟨rfl, ?_⟩⟩
    · simp [run_isAgg ti, hd, hlt]
    · rw [hs]
      rw [List.drop_eq_getElem_cons hlt]
      rfl

theorem eqIn_ok (h0 : ∀ t i, tyi X t = some i → TIok P Δ { i with eqs := false } t) : ∀ (d t : Nat) (ks : List Kd), eqTy X P d t = some ks → ∀ (d' : Nat), d ≤ d' → ∀ (w : World) (xs ys : List Value) (cs ds : List (CV Δ)) (b : Bool) (v u : Value), shapeK ks cs = true → All2 Sc xs cs → All2 Sc ys ds → eqAll cs ds = some b →
    VT X t xs v → VT X t ys u → (Op.equalIn d' t v u).run P w = .ok b w
  | 0, t, ks, h, _, _, _, _, _, _, _, _, _, _, _, _, _, _, _, _ => by simp [eqTy] at h
  | d + 1, t, ks, h, d', hd, w, xs, ys, cs, ds, b, v, u, hl, h1, h2, he, hv, hu => by
    obtain ⟨d', rfl⟩ : ∃ m, d' = m + 1 := ⟨d' - 1, by omega⟩
    simp only [eqTy] at h
    split at h
    · rename_i i hi
      have ti := h0 t i hi
      have hund := ti.und
      unfold UndOk at hund
      simp only at hund
      obtain ⟨i1, e1, hv⟩ := hv
      obtain ⟨i2, e2, hu⟩ := hu
      rw [hi] at e1 e2; cases e1; cases e2
      have single : isAggD i.d = false → ∃ x y c e, xs = [x] ∧ ys = [y] ∧ v = x ∧ u = y ∧ cs = [c] ∧ ds = [e] ∧ Sc x c ∧ Sc y e ∧ eqC c e = some b := by
        intro ha
        rcases hv with ⟨q, _⟩ | ⟨_, q⟩
        · rw [ha] at q; cases q
        rcases hu with ⟨q', _⟩ | ⟨_, q'⟩
        · rw [ha] at q'; cases q'
        subst q q'
        cases h1 with
        | cons a1 a2 => cases a2; cases h2 with
          | cons b1 b2 =>
            cases b2
            refine ⟨_, _, _, _, rfl, rfl, rfl, rfl, rfl, rfl, a1, b1, ?_⟩
            simp only [eqAll] at he
            split at he
            · rename_i a b' q1 q2
              cases q2; cases he
              rw [q1]; simp
            · cases he
      split at h
      · rename_i k hk
        rw [hk] at hund
        simp only at hund
        obtain ⟨x, y, c, e, rfl, rfl, rfl, rfl, rfl, rfl, s1, s2, s3⟩ := single (by rw [hk]; rfl)
        cases hb : Nat.beq i.sz 1 <;> rw [hb] at h <;> cases h
        cases c <;> simp only [shapeK] at hl <;> first | (cases hl; done) | skip
        cases e <;> simp only [eqC] at s3 <;> first | (cases s3; done) | skip
        rename_i k1 p k2 q
        by_cases hk : k1 = k2
        · subst hk
          simp at s3
          rw [show v = _ from s1, show u = _ from s2, ← s3]
          exact run_equalIn_int w d' t k1 k p q hund
        · simp [hk] at s3
      · rename_i hk
        rw [hk] at hund
        simp only at hund
        obtain ⟨x, y, c, e, rfl, rfl, rfl, rfl, rfl, rfl, s1, s2, s3⟩ := single (by rw [hk]; rfl)
        cases hb : Nat.beq i.sz 1 <;> rw [hb] at h <;> cases h
        cases c <;> simp only [shapeK] at hl <;> first | (cases hl; done) | skip
        cases e <;> simp only [eqC] at s3 <;> first | (cases s3; done) | skip
        cases s3
        rw [show v = _ from s1, show u = _ from s2]
        exact run_equalIn_bool' w d' t _ _ hund
      · rename_i hk
        rw [hk] at hund
        simp only at hund
        obtain ⟨x, y, c, e, rfl, rfl, rfl, rfl, rfl, rfl, s1, s2, s3⟩ := single (by rw [hk]; rfl)
        cases hb : Nat.beq i.sz 1 <;> rw [hb] at h <;> cases h
        cases c <;> simp only [shapeK] at hl <;> first | (cases hl; done) | skip
        cases e <;> simp only [eqC] at s3 <;> first | (cases s3; done) | skip
        cases s3
        rw [show v = _ from s1, show u = _ from s2, run_equalIn_string w d' t _ _ hund]
        simp [ByteArray.toList_eq]
      · rename_i fs hk
        rw [hk] at hund
        simp only at hund
        obtain ⟨fa, u1, u2, u3⟩ := hund
        split at h
        · rename_i ks' q1 q2 q3
          cases hb : Nat.beq ks'.length i.sz <;> rw [hb] at h <;> cases h
          have hfo : P.fieldsOf t = fa := by simp [Program.fieldsOf, u1]
          have hv' : v = .agg xs.toArray := (hv.resolve_right fun q => by rw [hk] at q; cases q.1).2
          have hu' : u = .agg ys.toArray := (hu.resolve_right fun q => by rw [hk] at q; cases q.1).2
          subst hv' hu'
          rw [run_equalIn_struct w d' t _ _ (by rw [hfo]; exact u1) q1, hfo]
          rw [hfo] at q2
          have hxl : xs.length = ks.length := by rw [h1.length, shapeK_len hl]
          have hyl : ys.length = ks.length := by rw [h2.length, ← eqAll_len he, shapeK_len hl]
          -- the fields, one behind the other
          have go : ∀ (fl : List Field) (off : Nat) (kr : List Kd) (cs ds : List (CV Δ)) (b : Bool), eqFs (eqTy X P d) (fl.map fun f => (f.offset, f.type)) off = some kr → (fl.all fun f => f.name != "_") = true → off + kr.length ≤ xs.length → off + kr.length ≤ ys.length →
              shapeK kr cs = true → All2 Sc ((xs.drop off).take kr.length) cs → All2 Sc ((ys.drop off).take kr.length) ds → eqAll cs ds = some b → (Op.eqFields d' xs.toArray ys.toArray fl).run P w = .ok b w := by
            intro fl
            induction fl with
            | nil =>
              intro off kr cs ds b e1 _ _ _ e2 _ _ e5
              simp [eqFs] at e1
              subst e1
              have : cs = [] := List.eq_nil_of_length_eq_zero (shapeK_len e2).symm
              subst this
              have : ds = [] := List.eq_nil_of_length_eq_zero (eqAll_len e5).symm
              subst this
              simp [eqAll] at e5
              subst e5
              rfl
            | cons f fl ih =>
              intro off kr cs ds b e1 e0 e3 e4 e2 e6 e7 e5
              simp only [List.map_cons, eqFs] at e1
              split at e1
              · rename_i kf g1 g2
                split at e1
                · rename_i kr' g3
                  cases e1
                  have g1 := Nat.eq_of_beq_eq_true g1
                  simp only [List.all_cons, Bool.and_eq_true] at e0
                  obtain ⟨e0, e0'⟩ := e0
                  have e0 : f.name ≠ "_" := by simpa using e0
                  rw [List.length_append] at e3 e4 e6 e7
                  obtain ⟨s1, s2⟩ := shapeK_split e2
                  obtain ⟨x, y, t1, t2, rfl⟩ := eqAll_split kf.length e5
                  -- the field's type
                  obtain ⟨fi, hfi, hsz, h1f⟩ : ∃ fi, tyi X f.type = some fi ∧ kf.length = fi.sz ∧ (isAggD fi.d = false → fi.sz = 1) := by
                    cases d with
                    | zero => simp [eqTy] at g2
                    | succ d =>
                      simp only [eqTy] at g2
                      split at g2
                      · rename_i fi hfi
                        refine ⟨fi, hfi, ?_⟩
                        split at g2
                        · cases hb : Nat.beq fi.sz 1 <;> rw [hb] at g2 <;> cases g2
                          have := Nat.eq_of_beq_eq_true hb
                          exact ⟨by rw [this]; rfl, fun _ => this⟩
                        · cases hb : Nat.beq fi.sz 1 <;> rw [hb] at g2 <;> cases g2
                          have := Nat.eq_of_beq_eq_true hb
                          exact ⟨by rw [this]; rfl, fun _ => this⟩
                        · cases hb : Nat.beq fi.sz 1 <;> rw [hb] at g2 <;> cases g2
                          have := Nat.eq_of_beq_eq_true hb
                          exact ⟨by rw [this]; rfl, fun _ => this⟩
                        · rename_i hd
                          split at g2
                          · rename_i kz _ _ _
                            cases hb : Nat.beq kz.length fi.sz <;> rw [hb] at g2 <;> cases g2
                            exact ⟨Nat.eq_of_beq_eq_true hb, fun q => by rw [hd] at q; cases q⟩
                          · cases g2
                        · cases g2
                      · cases g2
                  have tf := h0 _ _ hfi
                  obtain ⟨vx, p1, p2⟩ := part_ok tf (w := w) (xs := xs) (off := f.offset) (by simp only; omega) h1f
                  obtain ⟨vy, r1, r2⟩ := part_ok tf (w := w) (xs := ys) (off := f.offset) (by simp only; omega) h1f
                  simp only [Op.eqFields, e0, ne_eq, not_false_eq_true, if_true, Sem.run_bind, p1, r1, Result.andThen_ok]
                  have ex : (xs.drop off).take (kf.length + kr'.length) = (xs.drop off).take kf.length ++ (xs.drop (off + kf.length)).take kr'.length := by rw [List.take_add, List.drop_drop]
                  have ey : (ys.drop off).take (kf.length + kr'.length) = (ys.drop off).take kf.length ++ (ys.drop (off + kf.length)).take kr'.length := by rw [List.take_add, List.drop_drop]
                  have lx : ((xs.drop off).take kf.length).length = kf.length := by rw [List.length_take, List.length_drop]; omega
                  have ly : ((ys.drop off).take kf.length).length = kf.length := by rw [List.length_take, List.length_drop]; omega
                  have hx1 := e6.take kf.length
                  have hx2 := e6.drop kf.length
                  have hy1 := e7.take kf.length
                  have hy2 := e7.drop kf.length
                  rw [ex] at hx1 hx2
                  rw [ey] at hy1 hy2
                  rw [List.take_append_of_le_length (by omega), List.take_of_length_le (by omega)] at hx1 hy1
                  rw [List.drop_append_of_le_length (by omega), List.drop_of_length_le (by omega), List.nil_append] at hx2 hy2
                  have ef : f.offset = off := g1
                  have hrec := eqIn_ok h0 d f.type kf g2 d' (by omega) w ((xs.drop off).take kf.length) ((ys.drop off).take kf.length) (cs.take kf.length) (ds.take kf.length) x vx vy s1 hx1 hy1 t1
                    ⟨fi, hfi, by rw [ef, ← hsz] at p2; exact p2⟩ ⟨fi, hfi, by rw [ef, ← hsz] at r2; exact r2⟩
                  rw [hrec]
                  simp only [Result.andThen_ok]
                  cases x with
                  | false => simp
                  | true =>
                    simp only [Bool.not_true, Bool.false_eq_true, if_false, Bool.true_and]
                    exact ih (Nat.add off kf.length) kr' (cs.drop kf.length) (ds.drop kf.length) y g3 e0' (by show off + kf.length + _ ≤ _; omega) (by show off + kf.length + _ ≤ _; omega) s2 hx2 hy2 t2
                · cases e1
              · cases e1
          exact go fa.toList 0 ks cs ds b (by rw [← u2]; exact q3) q2 (by omega) (by omega) hl (by rw [List.drop_zero, List.take_of_length_le (by omega)]; exact h1) (by rw [List.drop_zero, List.take_of_length_le (by omega)]; exact h2) he
        · cases h
      · cases h
    · cases h

theorem eqOk_ok (h0 : ∀ t i, tyi X t = some i → TIok P Δ { i with eqs := false } t) {d t : Nat} {ks : List Kd} (h : eqTy X P d t = some ks) (hd : d ≤ 10000) (hg : P.eqGuardType P.depth t = false) {i : TI} (hi : tyi X t = some i) (ha : isAggD i.d = true) : EqOk P Δ t ks := by
  intro xs ys cs ds b w x y hs h1 h2 he
  have := eqIn_ok h0 d t ks h 10000 hd w xs ys cs ds b (.agg xs.toArray) (.agg ys.toArray) hs h1 h2 (eqAll_of he) ⟨i, hi, .inl ⟨ha, rfl⟩⟩ ⟨i, hi, .inl ⟨ha, rfl⟩⟩
  constructor
  · simp only [Sem.run_bind, run_eqGuard_agg w _ t x y _ _ hg, Result.andThen_ok, run_eql_struct, this]
  · simp only [Sem.run_bind, run_eqGuard_agg w _ t x y _ _ hg, Result.andThen_ok, run_neq_struct, this]
end
end Go.Ev

/- The facts that a table of types must have, by reckoning. -/
set_option linter.unusedVariables false
set_option linter.unusedSimpArgs false
namespace Go.Ev
variable {Δ : Nat → Type} {X : Cx Δ} {P : Program}

theorem castL_shs {a b : Kd} {l : List (a.T Δ)} {y : List (b.T Δ)} (h : castL a b l = some y) : (CV.shs b y : CV Δ) = .shs a l := by
  unfold castL at h
  split at h
  · rename_i e; subst e; cases h; rfl
  · cases h
theorem all2_cons {α β : Type} {R : α → β → Prop} {a : α} {as : List α} {bs : List β} (h : All2 R (a :: as) bs) : ∃ b bs', bs = b :: bs' ∧ R a b ∧ All2 R as bs' := by
  cases h with
  | cons h1 h2 => exact ⟨_, _, rfl, h1, h2⟩
theorem kcS_int {k : IntKind} {c : CV Δ} (h : kcS (.int k) c = true) : ∃ n, c = .int k n := by
  cases c <;> simp [kcS] at h
  subst h; exact ⟨_, rfl⟩
theorem kcS_bool {c : CV Δ} (h : kcS .bool c = true) : ∃ n, c = .bool n := by
  cases c <;> simp [kcS] at h
  exact ⟨_, rfl⟩
theorem kcS_str {c : CV Δ} (h : kcS .str c = true) : ∃ n, c = .str n := by
  cases c <;> simp [kcS] at h
  exact ⟨_, rfl⟩
theorem kcS_err {c : CV Δ} (h : kcS .err c = true) : ∃ n, c = .err n := by
  cases c <;> simp [kcS] at h
  exact ⟨_, rfl⟩
theorem kcS_sl {e : Kd} {c : CV Δ} (h : kcS (.sl e) c = true) : ∃ l, c = .shs e l := by
  cases c <;> simp [kcS] at h
  subst h; exact ⟨_, rfl⟩

def valB : Value → Value → Bool
  | .int k n, .int k' n' => decide (k = k') && decide (n = n')
  | .bool a, .bool b => a == b
  | .string a, .string b => Nat.beq a.size 0 && Nat.beq b.size 0
  | .slice none 0 0, .slice none 0 0 => true
  | .nilIface, .nilIface => true
  | .pointer none, .pointer none => true
  | .map none, .map none => true
  | _, _ => false
theorem valB_ok {a b : Value} (h : valB a b = true) : a = b := by
  unfold valB at h
  split at h
  · simp only [Bool.and_eq_true, decide_eq_true_eq] at h; rw [h.1, h.2]
  · rw [eq_of_beq h]
  · rename_i a b
    simp only [Bool.and_eq_true] at h
    obtain ⟨⟨a⟩⟩ := a
    obtain ⟨⟨b⟩⟩ := b
    have ha : a.length = 0 := Nat.eq_of_beq_eq_true h.1
    have hb : b.length = 0 := Nat.eq_of_beq_eq_true h.2
    rw [List.length_eq_zero_iff.1 ha, List.length_eq_zero_iff.1 hb]
  · rfl
  · rfl
  · rfl
  · rfl
  · cases h
def valsB : List Value → List Value → Bool
  | [], [] => true
  | a :: as, b :: bs => valB a b && valsB as bs
  | _, _ => false
theorem valsB_ok : ∀ {as bs : List Value}, valsB as bs = true → as = bs
  | [], [], _ => rfl
  | [], _ :: _, h => by cases h
  | _ :: _, [], h => by cases h
  | a :: as, b :: bs, h => by
    simp only [valsB, Bool.and_eq_true] at h
    rw [valB_ok h.1, valsB_ok h.2]

def undB (P : Program) (d : TyD) (t : Nat) : Bool :=
  match d, P.underlying t with
  | .int k, some (.int k') => decide (k = k')
  | .bool, some .bool => true
  | .str, some .string => true
  | .slice e, some (.slice e') => Nat.beq e e'
  | .struct fs, some (.struct fa) => decide (fs = fa.toList.map fun f => (f.offset, f.type)) && fa.toList.all fun f => match P.info? f.type with
    | some inf => !Nat.beq inf.size 0
    | none => false
  | .pointer, some (.pointer _) => true
  | .iface, some (.interface _) => true
  | .map k e, some (.map k' e') => Nat.beq k k' && Nat.beq e e' && match P.info? e with
    | some inf => match inf.zero with
      | some (.bool false) => true
      | _ => false
    | none => false
  | _, _ => false
theorem undB_ok {d : TyD} {t : Nat} (h : undB P d t = true) : UndOk P d t := by
  unfold undB at h
  unfold UndOk
  split at h
  · rename_i h1; simp only [decide_eq_true_eq] at h; subst h; exact h1
  · rename_i h1; exact h1
  · rename_i h1; exact h1
  · rename_i h1; have := Nat.eq_of_beq_eq_true h; subst this; exact h1
  · rename_i fs fa h1
    simp only [Bool.and_eq_true, decide_eq_true_eq] at h
    refine ⟨fa, h1, h.1, fun f hf => ?_⟩
    have := List.all_eq_true.1 h.2 f hf
    split at this
    · rename_i inf hi
      refine ⟨inf, hi, fun e => ?_⟩
      rw [e] at this; simp at this
    · cases this
  · rename_i h1; exact ⟨_, h1⟩
  · rename_i h1; exact ⟨_, h1⟩
  · rename_i k e k' e' h1
    simp only [Bool.and_eq_true] at h
    have e1 := Nat.eq_of_beq_eq_true h.1.1
    have e2 := Nat.eq_of_beq_eq_true h.1.2
    subst e1 e2
    refine ⟨h1, ?_⟩
    have := h.2
    split at this
    · rename_i inf hi
      split at this
      · rename_i hz; exact ⟨inf, hi, hz⟩
      · cases this
    · cases this
  · cases h
def infB (P : Program) (i : TI) (t : Nat) : Bool :=
  match P.info? t with
  | none => false
  | some inf => Nat.beq inf.size i.sz && Nat.beq inf.bytes i.bytes && match inf.zero with
    | some z => valsB z.cells.toList i.zero
    | none => false
def ti0B (P : Program) (p : Nat × TI) : Bool := infB P p.2 p.1 && undB P p.2.d p.1
def eqB (X : Cx Δ) (P : Program) (p : Nat × TI) : Bool :=
  match p.2.eqs with
  | false => true
  | true => (match eqTy X P 50 p.1 with
    | some ks => decide (ks = p.2.zero.map kOf)
    | none => false) && !P.eqGuardType P.depth p.1 && isAggD p.2.d
theorem look_mem {α : Type} {n : Nat} {x : α} : ∀ {l : List (Nat × α)}, look l n = some x → (n, x) ∈ l
  | [], h => by cases h
  | (i, y) :: r, h => by
    simp only [look] at h
    cases hb : Nat.beq i n with
    | true => rw [hb] at h; cases h; rw [Nat.eq_of_beq_eq_true hb]; simp
    | false => rw [hb] at h; exact List.mem_cons_of_mem _ (look_mem h)
theorem ti0_ok {i : TI} {t : Nat} (h : ti0B P (t, i) = true) : TIok P Δ { i with eqs := false } t := by
  simp only [ti0B, Bool.and_eq_true] at h
  refine ⟨?_, undB_ok h.2, fun h => by cases h⟩
  have h1 := h.1
  unfold infB at h1
  split at h1
  · cases h1
  · rename_i inf hi
    simp only [Bool.and_eq_true] at h1
    obtain ⟨⟨a, b⟩, c⟩ := h1
    split at c
    · rename_i z hz
      exact ⟨inf, z, hi, Nat.eq_of_beq_eq_true a, Nat.eq_of_beq_eq_true b, hz, valsB_ok c⟩
    · cases c
theorem pok_of (xok : Xok X) (h1 : X.ti.all (ti0B P) = true) (h2 : X.ti.all (eqB X P) = true) : Pok X P := by
  have h0 : ∀ t i, tyi X t = some i → TIok P Δ { i with eqs := false } t := fun t i hi => ti0_ok (List.all_eq_true.1 h1 _ (look_mem hi))
  refine ⟨xok, fun t i hi => ?_⟩
  have t0 := h0 t i hi
  refine ⟨t0.inf, t0.und, fun he => ?_⟩
  have := List.all_eq_true.1 h2 _ (look_mem hi)
  unfold eqB at this
  simp only [he, Bool.and_eq_true, Bool.not_eq_true'] at this
  obtain ⟨⟨a, b⟩, c⟩ := this
  split at a
  · rename_i ks hk
    rw [← of_decide_eq_true a]
    exact eqOk_ok h0 hk (by omega) b hi c
  · cases a
end Go.Ev

/- The program's structures, in plain Lean. -/
set_option linter.unusedVariables false
namespace Go.Ev
structure ImplSlot where
  pos : Int
  sub : Int
instance : Inhabited ImplSlot := ⟨⟨0, 0⟩⟩

structure ImplStep where
  kind : Int
  a : Int
  val_Kind : Int
  val_Num : Int
  val_Text : List UInt8
instance : Inhabited ImplStep := ⟨⟨0, 0, 0, 0, []⟩⟩

structure ImplUpdate where
  place : List (ImplSlot)
  state : Int
  form : List (ImplStep)
  lane : Int
instance : Inhabited ImplUpdate := ⟨⟨[], 0, [], 0⟩⟩

structure ImplProp where
  name : Int
  val_Kind : Int
  val_Num : Int
  val_Text : List UInt8
instance : Inhabited ImplProp := ⟨⟨0, 0, 0, []⟩⟩

structure ImplTree where
  tag : Int
  key : Int
  text : List UInt8
  props : List (ImplProp)
  kids : List (ImplTree)
instance : Inhabited ImplTree := ⟨⟨0, 0, [], [], []⟩⟩

structure ImplValue where
  kind : Int
  num : Int
  text : List UInt8
instance : Inhabited ImplValue := ⟨⟨0, 0, []⟩⟩

structure LawsEnv where
  props : List (ImplValue)
  states : List (ImplValue)
  turns : List (Int)
  gifts : List (ImplValue)
instance : Inhabited LawsEnv := ⟨⟨[], [], [], []⟩⟩

structure ImplEnv where
  props : List (ImplValue)
  states : List (ImplValue)
  turns : List (Int)
  gifts : List (ImplValue)
instance : Inhabited ImplEnv := ⟨⟨[], [], [], []⟩⟩

structure LawsCell where
  place : List (ImplSlot)
  states : List (ImplValue)
instance : Inhabited LawsCell := ⟨⟨[], []⟩⟩

structure LawsStep where
  kind : Int
  a : Int
  val_Kind : Int
  val_Num : Int
  val_Text : List UInt8
instance : Inhabited LawsStep := ⟨⟨0, 0, 0, 0, []⟩⟩

structure LawsUpdate where
  place : List (ImplSlot)
  state : Int
  form : List (LawsStep)
  lane : Int
instance : Inhabited LawsUpdate := ⟨⟨[], 0, [], 0⟩⟩

structure LawsLine where
  base : List (LawsCell)
  rest : List (LawsUpdate)
instance : Inhabited LawsLine := ⟨⟨[], []⟩⟩

structure ImplCell where
  place : List (ImplSlot)
  states : List (ImplValue)
instance : Inhabited ImplCell := ⟨⟨[], []⟩⟩

structure ImplLine where
  base : List (ImplCell)
  rest : List (ImplUpdate)
instance : Inhabited ImplLine := ⟨⟨[], []⟩⟩

structure LawsProp where
  name : Int
  val_Kind : Int
  val_Num : Int
  val_Text : List UInt8
instance : Inhabited LawsProp := ⟨⟨0, 0, 0, []⟩⟩

structure LawsTree where
  tag : Int
  key : Int
  text : List UInt8
  props : List (LawsProp)
  kids : List (LawsTree)
instance : Inhabited LawsTree := ⟨⟨0, 0, [], [], []⟩⟩

structure ImplRule where
  tag : Int
  above : Int
  name : Int
  val_Kind : Int
  val_Num : Int
  val_Text : List UInt8
  look : Int
  give : Int
instance : Inhabited ImplRule := ⟨⟨0, 0, 0, 0, 0, [], 0, 0⟩⟩

structure LawsRule where
  tag : Int
  above : Int
  name : Int
  val_Kind : Int
  val_Num : Int
  val_Text : List UInt8
  look : Int
  give : Int
instance : Inhabited LawsRule := ⟨⟨0, 0, 0, 0, 0, [], 0, 0⟩⟩

structure LawsEdit where
  kind : Int
  way : List (Int)
  at_ : Int
  to : Int
  val_Kind : Int
  val_Num : Int
  val_Text : List UInt8
  tree_Tag : Int
  tree_Key : Int
  tree_Text : List UInt8
  tree_Props : List (LawsProp)
  tree_Kids : List (LawsTree)
instance : Inhabited LawsEdit := ⟨⟨0, [], 0, 0, 0, 0, [], 0, 0, [], [], []⟩⟩

structure ImplEdit where
  kind : Int
  way : List (Int)
  at_ : Int
  to : Int
  val_Kind : Int
  val_Num : Int
  val_Text : List UInt8
  tree_Tag : Int
  tree_Key : Int
  tree_Text : List UInt8
  tree_Props : List (ImplProp)
  tree_Kids : List (ImplTree)
instance : Inhabited ImplEdit := ⟨⟨0, [], 0, 0, 0, 0, [], 0, 0, [], [], []⟩⟩

structure ImplHist where
  now : List (ImplCell)
  back : List (List (ImplCell))
  ahead : List (List (ImplCell))
instance : Inhabited ImplHist := ⟨⟨[], [], []⟩⟩

structure ImplBox where
  left : Int
  top : Int
  wide : Int
  high : Int
instance : Inhabited ImplBox := ⟨⟨0, 0, 0, 0⟩⟩

structure SpecShowing where
  shown : List (ImplCell)
  base : List (ImplCell)
  rest : List (ImplUpdate)
  held : List (Bool)
instance : Inhabited SpecShowing := ⟨⟨[], [], [], []⟩⟩

structure ImplOn where
  event : Int
  act : Int
instance : Inhabited ImplOn := ⟨⟨0, 0⟩⟩

structure LawsTmpl where
  kind : Int
  tag : Int
  names : List (Int)
  args : List (List (LawsStep))
  key : List (LawsStep)
  ons : List (ImplOn)
  kids : List (LawsTmpl)
instance : Inhabited LawsTmpl := ⟨⟨0, 0, [], [], [], [], []⟩⟩

structure LawsSet where
  state : Int
  form : List (LawsStep)
instance : Inhabited LawsSet := ⟨⟨0, []⟩⟩

structure LawsComp where
  props : Int
  states : List (ImplValue)
  acts : List (List (LawsSet))
  body_Kind : Int
  body_Tag : Int
  body_Names : List (Int)
  body_Args : List (List (LawsStep))
  body_Key : List (LawsStep)
  body_Ons : List (ImplOn)
  body_Kids : List (LawsTmpl)
instance : Inhabited LawsComp := ⟨⟨0, [], [], 0, 0, [], [], [], [], []⟩⟩

structure ImplTmpl where
  kind : Int
  tag : Int
  names : List (Int)
  args : List (List (ImplStep))
  key : List (ImplStep)
  ons : List (ImplOn)
  kids : List (ImplTmpl)
instance : Inhabited ImplTmpl := ⟨⟨0, 0, [], [], [], [], []⟩⟩

structure ImplSet where
  state : Int
  form : List (ImplStep)
instance : Inhabited ImplSet := ⟨⟨0, []⟩⟩

structure ImplComp where
  props : Int
  states : List (ImplValue)
  acts : List (List (ImplSet))
  body_Kind : Int
  body_Tag : Int
  body_Names : List (Int)
  body_Args : List (List (ImplStep))
  body_Key : List (ImplStep)
  body_Ons : List (ImplOn)
  body_Kids : List (ImplTmpl)
instance : Inhabited ImplComp := ⟨⟨0, [], [], 0, 0, [], [], [], [], []⟩⟩

structure ImplTreeReader where
  s : List UInt8
  at_ : Int
  ok : Bool
instance : Inhabited ImplTreeReader := ⟨⟨[], 0, false⟩⟩

structure ImplCall where
  place : List (ImplSlot)
  comp : Int
  props : List (ImplValue)
  gifts : List (ImplValue)
instance : Inhabited ImplCall := ⟨⟨[], 0, [], []⟩⟩

structure ImplBind where
  elem : Int
  ons : List (ImplOn)
instance : Inhabited ImplBind := ⟨⟨0, []⟩⟩

structure ImplDraft where
  call_Place : List (ImplSlot)
  call_Comp : Int
  call_Props : List (ImplValue)
  call_Gifts : List (ImplValue)
  states : List (ImplValue)
  trees : List (ImplTree)
  calls : List (ImplCall)
  binds : List (ImplBind)
instance : Inhabited ImplDraft := ⟨⟨[], 0, [], [], [], [], [], []⟩⟩

structure ImplTurn where
  kind : Int
  units : Int
  update_Place : List (ImplSlot)
  update_State : Int
  update_Form : List (ImplStep)
  update_Lane : Int
instance : Inhabited ImplTurn := ⟨⟨0, 0, [], 0, [], 0⟩⟩

structure ImplCanvas where
  looks : List (List (Int))
  boxes : List (ImplBox)
  at_ : Int
  rows : List (List (Int))
  hits : List (List (Int))
instance : Inhabited ImplCanvas := ⟨⟨[], [], 0, [], []⟩⟩

structure SpecPainter where
  rules : List (ImplRule)
  boxes : List (ImplBox)
  at_ : Int
  wide : Int
  high : Int
  cells : List (Int)
  owner : List (Int)
instance : Inhabited SpecPainter := ⟨⟨[], [], 0, 0, 0, [], []⟩⟩

structure SpecSource where
  code : List (Int)
  at_ : Int
  left : Int
instance : Inhabited SpecSource := ⟨⟨[], 0, 0⟩⟩

structure SpecPlacer where
  rules : List (ImplRule)
  out : List (ImplBox)
instance : Inhabited SpecPlacer := ⟨⟨[], []⟩⟩

structure ImplBoxer where
  looks : List (List (Int))
  at_ : Int
  out : List (ImplBox)
instance : Inhabited ImplBoxer := ⟨⟨[], 0, []⟩⟩

structure ImplWork where
  store : List (ImplCell)
  old : List (ImplDraft)
  open_ : List (ImplCall)
  done : List (ImplDraft)
  many : Int
instance : Inhabited ImplWork := ⟨⟨[], [], [], [], 0⟩⟩

structure ImplEvent where
  kind : Int
  lane : Int
instance : Inhabited ImplEvent := ⟨⟨0, 0⟩⟩

structure ImplRoot where
  line_Base : List (ImplCell)
  line_Rest : List (ImplUpdate)
  drafts : List (ImplDraft)
  busy : Bool
  lane : Int
  seen : Int
  work_Store : List (ImplCell)
  work_Old : List (ImplDraft)
  work_Open : List (ImplCall)
  work_Done : List (ImplDraft)
  work_Many : Int
  log : List (ImplEvent)
instance : Inhabited ImplRoot := ⟨⟨[], [], [], false, 0, 0, [], [], [], [], 0, []⟩⟩

structure SpecFiller where
  outs : List (List (ImplTree))
  at_ : Int
instance : Inhabited SpecFiller := ⟨⟨[], 0⟩⟩

structure SpecDrafter where
  calls : List (ImplCall)
  binds : List (ImplBind)
  elems : Int
instance : Inhabited SpecDrafter := ⟨⟨[], [], 0⟩⟩
end Go.Ev

/- The tables of the program's types. -/
set_option linter.unusedVariables false
namespace Go.Ev
@[reducible] def D : Nat → Type
  | 24 => LawsTree
  | 32 => ImplTree
  | 43 => ImplValue
  | 45 => LawsRule
  | 50 => ImplBox
  | 57 => ImplRule
  | 64 => LawsProp
  | 70 => SpecPlacer
  | 74 => ImplProp
  | 93 => ImplBoxer
  | _ => Unit

def xTo : (n : Nat) → D n → List (CV D)
  | 24 => fun (x : LawsTree) => [.int .i64 x.tag, .int .i64 x.key, .str x.text, .shs (.st 64) x.props, .shs (.st 24) x.kids]
  | 32 => fun (x : ImplTree) => [.int .i64 x.tag, .int .i64 x.key, .str x.text, .shs (.st 74) x.props, .shs (.st 32) x.kids]
  | 43 => fun (x : ImplValue) => [.int .i64 x.kind, .int .i64 x.num, .str x.text]
  | 45 => fun (x : LawsRule) => [.int .i64 x.tag, .int .i64 x.above, .int .i64 x.name, .int .i64 x.val_Kind, .int .i64 x.val_Num, .str x.val_Text, .int .i64 x.look, .int .i64 x.give]
  | 50 => fun (x : ImplBox) => [.int .i64 x.left, .int .i64 x.top, .int .i64 x.wide, .int .i64 x.high]
  | 57 => fun (x : ImplRule) => [.int .i64 x.tag, .int .i64 x.above, .int .i64 x.name, .int .i64 x.val_Kind, .int .i64 x.val_Num, .str x.val_Text, .int .i64 x.look, .int .i64 x.give]
  | 64 => fun (x : LawsProp) => [.int .i64 x.name, .int .i64 x.val_Kind, .int .i64 x.val_Num, .str x.val_Text]
  | 70 => fun (x : SpecPlacer) => [.shs (.st 57) x.rules, .shs (.st 50) x.out]
  | 74 => fun (x : ImplProp) => [.int .i64 x.name, .int .i64 x.val_Kind, .int .i64 x.val_Num, .str x.val_Text]
  | 93 => fun (x : ImplBoxer) => [.shs (.sl (.int .i64)) x.looks, .int .i64 x.at_, .shs (.st 50) x.out]
  | _ => fun _ => [.bool false]

def xFr : (n : Nat) → List (CV D) → Option (D n)
  | 24 => fun cs => match cs with | [.int .i64 v0, .int .i64 v1, .str v2, .shs v3k v3, .shs v4k v4] => (match castL v3k (.st 64) v3, castL v4k (.st 24) v4 with | some y3, some y4 => some (⟨v0, v1, v2, y3, y4⟩ : LawsTree) | _, _ => none) | _ => none
  | 32 => fun cs => match cs with | [.int .i64 v0, .int .i64 v1, .str v2, .shs v3k v3, .shs v4k v4] => (match castL v3k (.st 74) v3, castL v4k (.st 32) v4 with | some y3, some y4 => some (⟨v0, v1, v2, y3, y4⟩ : ImplTree) | _, _ => none) | _ => none
  | 43 => fun cs => match cs with | [.int .i64 v0, .int .i64 v1, .str v2] => some (⟨v0, v1, v2⟩ : ImplValue) | _ => none
  | 45 => fun cs => match cs with | [.int .i64 v0, .int .i64 v1, .int .i64 v2, .int .i64 v3, .int .i64 v4, .str v5, .int .i64 v6, .int .i64 v7] => some (⟨v0, v1, v2, v3, v4, v5, v6, v7⟩ : LawsRule) | _ => none
  | 50 => fun cs => match cs with | [.int .i64 v0, .int .i64 v1, .int .i64 v2, .int .i64 v3] => some (⟨v0, v1, v2, v3⟩ : ImplBox) | _ => none
  | 57 => fun cs => match cs with | [.int .i64 v0, .int .i64 v1, .int .i64 v2, .int .i64 v3, .int .i64 v4, .str v5, .int .i64 v6, .int .i64 v7] => some (⟨v0, v1, v2, v3, v4, v5, v6, v7⟩ : ImplRule) | _ => none
  | 64 => fun cs => match cs with | [.int .i64 v0, .int .i64 v1, .int .i64 v2, .str v3] => some (⟨v0, v1, v2, v3⟩ : LawsProp) | _ => none
  | 70 => fun cs => match cs with | [.shs v0k v0, .shs v1k v1] => (match castL v0k (.st 57) v0, castL v1k (.st 50) v1 with | some y0, some y1 => some (⟨y0, y1⟩ : SpecPlacer) | _, _ => none) | _ => none
  | 74 => fun cs => match cs with | [.int .i64 v0, .int .i64 v1, .int .i64 v2, .str v3] => some (⟨v0, v1, v2, v3⟩ : ImplProp) | _ => none
  | 93 => fun cs => match cs with | [.shs v0k v0, .int .i64 v1, .shs v2k v2] => (match castL v0k (.sl (.int .i64)) v0, castL v2k (.st 50) v2 with | some y0, some y2 => some (⟨y0, v1, y2⟩ : ImplBoxer) | _, _ => none) | _ => none
  | _ => fun _ => none

def xDf (n : Nat) : D n := by
  unfold D
  split
  · exact (default : LawsTree)
  · exact (default : ImplTree)
  · exact (default : ImplValue)
  · exact (default : LawsRule)
  · exact (default : ImplBox)
  · exact (default : ImplRule)
  · exact (default : LawsProp)
  · exact (default : SpecPlacer)
  · exact (default : ImplProp)
  · exact (default : ImplBoxer)
  · exact ()

def xKs : Nat → List Kd
  | 24 => [.int .i64, .int .i64, .str, .sl (.st 64), .sl (.st 24)]
  | 32 => [.int .i64, .int .i64, .str, .sl (.st 74), .sl (.st 32)]
  | 43 => [.int .i64, .int .i64, .str]
  | 45 => [.int .i64, .int .i64, .int .i64, .int .i64, .int .i64, .str, .int .i64, .int .i64]
  | 50 => [.int .i64, .int .i64, .int .i64, .int .i64]
  | 57 => [.int .i64, .int .i64, .int .i64, .int .i64, .int .i64, .str, .int .i64, .int .i64]
  | 64 => [.int .i64, .int .i64, .int .i64, .str]
  | 70 => [.sl (.st 57), .sl (.st 50)]
  | 74 => [.int .i64, .int .i64, .int .i64, .str]
  | 93 => [.sl (.sl (.int .i64)), .int .i64, .sl (.st 50)]
  | _ => [.bool]

def xTi : List (Nat × TI) := [
  (2, { d := .int .i64, sz := 1, kd := .int .i64, zero := [.int .i64 0], bytes := 8 }),
  (3, { d := .int .i64, sz := 1, kd := .int .i64, zero := [.int .i64 0], bytes := 8 }),
  (4, { d := .bool, sz := 1, kd := .bool, zero := [.bool false], bytes := 1 }),
  (5, { d := .int .u8, sz := 1, kd := .int .u8, zero := [.int .u8 0], bytes := 1 }),
  (6, { d := .int .u8, sz := 1, kd := .int .u8, zero := [.int .u8 0], bytes := 1 }),
  (9, { d := .str, sz := 1, kd := .str, zero := [.string .empty], bytes := 16 }),
  (10, { d := .str, sz := 1, kd := .str, zero := [.string .empty], bytes := 16 }),
  (11, { d := .str, sz := 1, kd := .str, zero := [.string .empty], bytes := 16 }),
  (12, { d := .int .u64, sz := 1, kd := .int .u64, zero := [.int .u64 0], bytes := 8 }),
  (20, { d := .iface, sz := 1, kd := .err, zero := [.nilIface], bytes := 16 }),
  (21, { d := .int .i32, sz := 1, kd := .int .i32, zero := [.int .i32 0], bytes := 4 }),
  (22, { d := .slice 65, sz := 1, kd := .sl (.st 64), zero := [.slice none 0 0], bytes := 24 }),
  (23, { d := .slice 25, sz := 1, kd := .sl (.st 24), zero := [.slice none 0 0], bytes := 24 }),
  (24, { d := .struct [(0, 3), (1, 3), (2, 9), (3, 22), (4, 23)], sz := 5, kd := .st 24, zero := [.int .i64 0, .int .i64 0, .string .empty, .slice none 0 0, .slice none 0 0], bytes := 80 }),
  (25, { d := .struct [(0, 3), (1, 3), (2, 9), (3, 22), (4, 23)], sz := 5, kd := .st 24, zero := [.int .i64 0, .int .i64 0, .string .empty, .slice none 0 0, .slice none 0 0], bytes := 80 }),
  (26, { d := .slice 46, sz := 1, kd := .sl (.st 45), zero := [.slice none 0 0], bytes := 24 }),
  (30, { d := .slice 75, sz := 1, kd := .sl (.st 74), zero := [.slice none 0 0], bytes := 24 }),
  (31, { d := .slice 33, sz := 1, kd := .sl (.st 32), zero := [.slice none 0 0], bytes := 24 }),
  (32, { d := .struct [(0, 3), (1, 3), (2, 9), (3, 30), (4, 31)], sz := 5, kd := .st 32, zero := [.int .i64 0, .int .i64 0, .string .empty, .slice none 0 0, .slice none 0 0], bytes := 80 }),
  (33, { d := .struct [(0, 3), (1, 3), (2, 9), (3, 30), (4, 31)], sz := 5, kd := .st 32, zero := [.int .i64 0, .int .i64 0, .string .empty, .slice none 0 0, .slice none 0 0], bytes := 80 }),
  (35, { d := .slice 58, sz := 1, kd := .sl (.st 57), zero := [.slice none 0 0], bytes := 24 }),
  (43, { d := .struct [(0, 3), (1, 3), (2, 9)], sz := 3, kd := .st 43, zero := [.int .i64 0, .int .i64 0, .string .empty], bytes := 32, eqs := true }),
  (44, { d := .struct [(0, 3), (1, 3), (2, 9)], sz := 3, kd := .st 43, zero := [.int .i64 0, .int .i64 0, .string .empty], bytes := 32, eqs := true }),
  (45, { d := .struct [(0, 3), (1, 3), (2, 3), (3, 44), (6, 3), (7, 3)], sz := 8, kd := .st 45, zero := [.int .i64 0, .int .i64 0, .int .i64 0, .int .i64 0, .int .i64 0, .string .empty, .int .i64 0, .int .i64 0], bytes := 72, eqs := true }),
  (46, { d := .struct [(0, 3), (1, 3), (2, 3), (3, 44), (6, 3), (7, 3)], sz := 8, kd := .st 45, zero := [.int .i64 0, .int .i64 0, .int .i64 0, .int .i64 0, .int .i64 0, .string .empty, .int .i64 0, .int .i64 0], bytes := 72, eqs := true }),
  (50, { d := .struct [(0, 3), (1, 3), (2, 3), (3, 3)], sz := 4, kd := .st 50, zero := [.int .i64 0, .int .i64 0, .int .i64 0, .int .i64 0], bytes := 32, eqs := true }),
  (51, { d := .struct [(0, 3), (1, 3), (2, 3), (3, 3)], sz := 4, kd := .st 50, zero := [.int .i64 0, .int .i64 0, .int .i64 0, .int .i64 0], bytes := 32, eqs := true }),
  (52, { d := .slice 51, sz := 1, kd := .sl (.st 50), zero := [.slice none 0 0], bytes := 24 }),
  (56, { d := .struct [(0, 3), (1, 3), (2, 9)], sz := 3, kd := .st 43, zero := [.int .i64 0, .int .i64 0, .string .empty], bytes := 32, eqs := true }),
  (57, { d := .struct [(0, 3), (1, 3), (2, 3), (3, 56), (6, 3), (7, 3)], sz := 8, kd := .st 57, zero := [.int .i64 0, .int .i64 0, .int .i64 0, .int .i64 0, .int .i64 0, .string .empty, .int .i64 0, .int .i64 0], bytes := 72, eqs := true }),
  (58, { d := .struct [(0, 3), (1, 3), (2, 3), (3, 56), (6, 3), (7, 3)], sz := 8, kd := .st 57, zero := [.int .i64 0, .int .i64 0, .int .i64 0, .int .i64 0, .int .i64 0, .string .empty, .int .i64 0, .int .i64 0], bytes := 72, eqs := true }),
  (64, { d := .struct [(0, 3), (1, 44)], sz := 4, kd := .st 64, zero := [.int .i64 0, .int .i64 0, .int .i64 0, .string .empty], bytes := 40, eqs := true }),
  (65, { d := .struct [(0, 3), (1, 44)], sz := 4, kd := .st 64, zero := [.int .i64 0, .int .i64 0, .int .i64 0, .string .empty], bytes := 40, eqs := true }),
  (69, { d := .pointer, sz := 1, kd := .bool, zero := [.pointer none], bytes := 8 }),
  (70, { d := .struct [(0, 35), (1, 52)], sz := 2, kd := .st 70, zero := [.slice none 0 0, .slice none 0 0], bytes := 48 }),
  (71, { d := .struct [(0, 35), (1, 52)], sz := 2, kd := .st 70, zero := [.slice none 0 0, .slice none 0 0], bytes := 48 }),
  (73, { d := .slice 3, sz := 1, kd := .sl (.int .i64), zero := [.slice none 0 0], bytes := 24 }),
  (74, { d := .struct [(0, 3), (1, 56)], sz := 4, kd := .st 74, zero := [.int .i64 0, .int .i64 0, .int .i64 0, .string .empty], bytes := 40, eqs := true }),
  (75, { d := .struct [(0, 3), (1, 56)], sz := 4, kd := .st 74, zero := [.int .i64 0, .int .i64 0, .int .i64 0, .string .empty], bytes := 40, eqs := true }),
  (89, { d := .pointer, sz := 1, kd := .bool, zero := [.pointer none], bytes := 8 }),
  (90, { d := .pointer, sz := 1, kd := .bool, zero := [.pointer none], bytes := 8 }),
  (91, { d := .slice 73, sz := 1, kd := .sl (.sl (.int .i64)), zero := [.slice none 0 0], bytes := 24 }),
  (93, { d := .struct [(0, 91), (1, 3), (2, 52)], sz := 3, kd := .st 93, zero := [.slice none 0 0, .int .i64 0, .slice none 0 0], bytes := 56 }),
  (94, { d := .struct [(0, 91), (1, 3), (2, 52)], sz := 3, kd := .st 93, zero := [.slice none 0 0, .int .i64 0, .slice none 0 0], bytes := 56 }),
  (99, { d := .map 3 4, sz := 1, kd := .bool, zero := [.map none], bytes := 8 }),
  (104, { d := .iface, sz := 1, kd := .err, zero := [.nilIface], bytes := 16 }),
  (105, { d := .iface, sz := 1, kd := .err, zero := [.nilIface], bytes := 16 }),
  (111, { d := .int .i64, sz := 1, kd := .int .i64, zero := [.int .i64 0], bytes := 8 }),
  (112, { d := .slice 5, sz := 1, kd := .sl (.int .u8), zero := [.slice none 0 0], bytes := 24 }),
  (119, { d := .int .u64, sz := 1, kd := .int .u64, zero := [.int .u64 0], bytes := 8 }),
  (122, { d := .int .u64, sz := 1, kd := .int .u64, zero := [.int .u64 0], bytes := 8 }),
  (133, { d := .pointer, sz := 1, kd := .bool, zero := [.pointer none], bytes := 8 }),
  (140, { d := .int .u32, sz := 1, kd := .int .u32, zero := [.int .u32 0], bytes := 4 }),
  (154, { d := .int .u8, sz := 1, kd := .int .u8, zero := [.int .u8 0], bytes := 1 }),
  (155, { d := .int .u8, sz := 1, kd := .int .u8, zero := [.int .u8 0], bytes := 1 }),
  (157, { d := .int .i32, sz := 1, kd := .int .i32, zero := [.int .i32 0], bytes := 4 }),
  (158, { d := .int .i32, sz := 1, kd := .int .i32, zero := [.int .i32 0], bytes := 4 })]

def cx : Cx D := { to := xTo, fr := xFr, dflt := xDf, kinds := xKs, ti := xTi }
end Go.Ev

/- The facts of the tables. -/
set_option linter.unusedVariables false
namespace Go.Ev
theorem xto_fr : ∀ (n : Nat) (cs : List (CV D)) (x : D n), xFr n cs = some x → xTo n x = cs := by
  intro n
  unfold xFr xTo
  split <;> intro cs x h
  · simp only at h; split at h
    · split at h
      · rename_i h3 h4; cases h; simp [castL_shs h3, castL_shs h4]
      · cases h
    · cases h
  · simp only at h; split at h
    · split at h
      · rename_i h3 h4; cases h; simp [castL_shs h3, castL_shs h4]
      · cases h
    · cases h
  · simp only at h; split at h
    · cases h; rfl
    · cases h
  · simp only at h; split at h
    · cases h; rfl
    · cases h
  · simp only at h; split at h
    · cases h; rfl
    · cases h
  · simp only at h; split at h
    · cases h; rfl
    · cases h
  · simp only at h; split at h
    · cases h; rfl
    · cases h
  · simp only at h; split at h
    · split at h
      · rename_i h0 h1; cases h; simp [castL_shs h0, castL_shs h1]
      · cases h
    · cases h
  · simp only at h; split at h
    · cases h; rfl
    · cases h
  · simp only at h; split at h
    · split at h
      · rename_i h0 h2; cases h; simp [castL_shs h0, castL_shs h2]
      · cases h
    · cases h
  · cases h

theorem xok : Xok cx := by
  refine ⟨xto_fr, fun n x => ?_, fun n => ?_, fun n x => ?_, fun n x => ?_, fun n x => ?_⟩
  · show (xTo n x).length = (xKs n).length
    unfold xTo xKs
    split <;> rfl
  · show 0 < (xKs n).length
    unfold xKs
    split <;> simp
  · show ∀ c ∈ xTo n x, isData c = true
    unfold xTo
    split <;> simp [isData]
  · show All2 _ (xKs n) (xTo n x)
    unfold xTo xKs
    split <;> (repeat' (first | exact All2.nil | refine All2.cons ?_ ?_)) <;> simp [kc]
  · show flatKs (xKs n) = true → ∀ c ∈ xTo n x, ∀ k l, c ≠ .shs k l
    unfold xTo xKs
    split <;> simp [flatKs]

theorem xfr_some : ∀ (n : Nat), n ∈ [24, 32, 43, 45, 50, 57, 64, 70, 74, 93] → ∀ (cs : List (CV D)), All2 (fun k c => kcS k c = true) (cx.kinds n) cs → ∃ x, cx.fr n cs = some x := by
  intro n hn cs h
  simp only [List.mem_cons, List.not_mem_nil, or_false] at hn
  rcases hn with rfl | rfl | rfl | rfl | rfl | rfl | rfl | rfl | rfl | rfl
  · have h : All2 (fun k c => kcS k c = true) (xKs 24) cs := h
    unfold xKs at h
    obtain ⟨c0, cs, rfl, a0, h⟩ := all2_cons h; obtain ⟨c1, cs, rfl, a1, h⟩ := all2_cons h; obtain ⟨c2, cs, rfl, a2, h⟩ := all2_cons h; obtain ⟨c3, cs, rfl, a3, h⟩ := all2_cons h; obtain ⟨c4, cs, rfl, a4, h⟩ := all2_cons h; cases h
    obtain ⟨v0, rfl⟩ := kcS_int a0
    obtain ⟨v1, rfl⟩ := kcS_int a1
    obtain ⟨v2, rfl⟩ := kcS_str a2
    obtain ⟨v3, rfl⟩ := kcS_sl a3
    obtain ⟨v4, rfl⟩ := kcS_sl a4
    exact ⟨(⟨v0, v1, v2, v3, v4⟩ : LawsTree), by kernel_rfl⟩
  · have h : All2 (fun k c => kcS k c = true) (xKs 32) cs := h
    unfold xKs at h
    obtain ⟨c0, cs, rfl, a0, h⟩ := all2_cons h; obtain ⟨c1, cs, rfl, a1, h⟩ := all2_cons h; obtain ⟨c2, cs, rfl, a2, h⟩ := all2_cons h; obtain ⟨c3, cs, rfl, a3, h⟩ := all2_cons h; obtain ⟨c4, cs, rfl, a4, h⟩ := all2_cons h; cases h
    obtain ⟨v0, rfl⟩ := kcS_int a0
    obtain ⟨v1, rfl⟩ := kcS_int a1
    obtain ⟨v2, rfl⟩ := kcS_str a2
    obtain ⟨v3, rfl⟩ := kcS_sl a3
    obtain ⟨v4, rfl⟩ := kcS_sl a4
    exact ⟨(⟨v0, v1, v2, v3, v4⟩ : ImplTree), by kernel_rfl⟩
  · have h : All2 (fun k c => kcS k c = true) (xKs 43) cs := h
    unfold xKs at h
    obtain ⟨c0, cs, rfl, a0, h⟩ := all2_cons h; obtain ⟨c1, cs, rfl, a1, h⟩ := all2_cons h; obtain ⟨c2, cs, rfl, a2, h⟩ := all2_cons h; cases h
    obtain ⟨v0, rfl⟩ := kcS_int a0
    obtain ⟨v1, rfl⟩ := kcS_int a1
    obtain ⟨v2, rfl⟩ := kcS_str a2
    exact ⟨(⟨v0, v1, v2⟩ : ImplValue), by kernel_rfl⟩
  · have h : All2 (fun k c => kcS k c = true) (xKs 45) cs := h
    unfold xKs at h
    obtain ⟨c0, cs, rfl, a0, h⟩ := all2_cons h; obtain ⟨c1, cs, rfl, a1, h⟩ := all2_cons h; obtain ⟨c2, cs, rfl, a2, h⟩ := all2_cons h; obtain ⟨c3, cs, rfl, a3, h⟩ := all2_cons h; obtain ⟨c4, cs, rfl, a4, h⟩ := all2_cons h; obtain ⟨c5, cs, rfl, a5, h⟩ := all2_cons h; obtain ⟨c6, cs, rfl, a6, h⟩ := all2_cons h; obtain ⟨c7, cs, rfl, a7, h⟩ := all2_cons h; cases h
    obtain ⟨v0, rfl⟩ := kcS_int a0
    obtain ⟨v1, rfl⟩ := kcS_int a1
    obtain ⟨v2, rfl⟩ := kcS_int a2
    obtain ⟨v3, rfl⟩ := kcS_int a3
    obtain ⟨v4, rfl⟩ := kcS_int a4
    obtain ⟨v5, rfl⟩ := kcS_str a5
    obtain ⟨v6, rfl⟩ := kcS_int a6
    obtain ⟨v7, rfl⟩ := kcS_int a7
    exact ⟨(⟨v0, v1, v2, v3, v4, v5, v6, v7⟩ : LawsRule), by kernel_rfl⟩
  · have h : All2 (fun k c => kcS k c = true) (xKs 50) cs := h
    unfold xKs at h
    obtain ⟨c0, cs, rfl, a0, h⟩ := all2_cons h; obtain ⟨c1, cs, rfl, a1, h⟩ := all2_cons h; obtain ⟨c2, cs, rfl, a2, h⟩ := all2_cons h; obtain ⟨c3, cs, rfl, a3, h⟩ := all2_cons h; cases h
    obtain ⟨v0, rfl⟩ := kcS_int a0
    obtain ⟨v1, rfl⟩ := kcS_int a1
    obtain ⟨v2, rfl⟩ := kcS_int a2
    obtain ⟨v3, rfl⟩ := kcS_int a3
    exact ⟨(⟨v0, v1, v2, v3⟩ : ImplBox), by kernel_rfl⟩
  · have h : All2 (fun k c => kcS k c = true) (xKs 57) cs := h
    unfold xKs at h
    obtain ⟨c0, cs, rfl, a0, h⟩ := all2_cons h; obtain ⟨c1, cs, rfl, a1, h⟩ := all2_cons h; obtain ⟨c2, cs, rfl, a2, h⟩ := all2_cons h; obtain ⟨c3, cs, rfl, a3, h⟩ := all2_cons h; obtain ⟨c4, cs, rfl, a4, h⟩ := all2_cons h; obtain ⟨c5, cs, rfl, a5, h⟩ := all2_cons h; obtain ⟨c6, cs, rfl, a6, h⟩ := all2_cons h; obtain ⟨c7, cs, rfl, a7, h⟩ := all2_cons h; cases h
    obtain ⟨v0, rfl⟩ := kcS_int a0
    obtain ⟨v1, rfl⟩ := kcS_int a1
    obtain ⟨v2, rfl⟩ := kcS_int a2
    obtain ⟨v3, rfl⟩ := kcS_int a3
    obtain ⟨v4, rfl⟩ := kcS_int a4
    obtain ⟨v5, rfl⟩ := kcS_str a5
    obtain ⟨v6, rfl⟩ := kcS_int a6
    obtain ⟨v7, rfl⟩ := kcS_int a7
    exact ⟨(⟨v0, v1, v2, v3, v4, v5, v6, v7⟩ : ImplRule), by kernel_rfl⟩
  · have h : All2 (fun k c => kcS k c = true) (xKs 64) cs := h
    unfold xKs at h
    obtain ⟨c0, cs, rfl, a0, h⟩ := all2_cons h; obtain ⟨c1, cs, rfl, a1, h⟩ := all2_cons h; obtain ⟨c2, cs, rfl, a2, h⟩ := all2_cons h; obtain ⟨c3, cs, rfl, a3, h⟩ := all2_cons h; cases h
    obtain ⟨v0, rfl⟩ := kcS_int a0
    obtain ⟨v1, rfl⟩ := kcS_int a1
    obtain ⟨v2, rfl⟩ := kcS_int a2
    obtain ⟨v3, rfl⟩ := kcS_str a3
    exact ⟨(⟨v0, v1, v2, v3⟩ : LawsProp), by kernel_rfl⟩
  · have h : All2 (fun k c => kcS k c = true) (xKs 70) cs := h
    unfold xKs at h
    obtain ⟨c0, cs, rfl, a0, h⟩ := all2_cons h; obtain ⟨c1, cs, rfl, a1, h⟩ := all2_cons h; cases h
    obtain ⟨v0, rfl⟩ := kcS_sl a0
    obtain ⟨v1, rfl⟩ := kcS_sl a1
    exact ⟨(⟨v0, v1⟩ : SpecPlacer), by kernel_rfl⟩
  · have h : All2 (fun k c => kcS k c = true) (xKs 74) cs := h
    unfold xKs at h
    obtain ⟨c0, cs, rfl, a0, h⟩ := all2_cons h; obtain ⟨c1, cs, rfl, a1, h⟩ := all2_cons h; obtain ⟨c2, cs, rfl, a2, h⟩ := all2_cons h; obtain ⟨c3, cs, rfl, a3, h⟩ := all2_cons h; cases h
    obtain ⟨v0, rfl⟩ := kcS_int a0
    obtain ⟨v1, rfl⟩ := kcS_int a1
    obtain ⟨v2, rfl⟩ := kcS_int a2
    obtain ⟨v3, rfl⟩ := kcS_str a3
    exact ⟨(⟨v0, v1, v2, v3⟩ : ImplProp), by kernel_rfl⟩
  · have h : All2 (fun k c => kcS k c = true) (xKs 93) cs := h
    unfold xKs at h
    obtain ⟨c0, cs, rfl, a0, h⟩ := all2_cons h; obtain ⟨c1, cs, rfl, a1, h⟩ := all2_cons h; obtain ⟨c2, cs, rfl, a2, h⟩ := all2_cons h; cases h
    obtain ⟨v0, rfl⟩ := kcS_sl a0
    obtain ⟨v1, rfl⟩ := kcS_int a1
    obtain ⟨v2, rfl⟩ := kcS_sl a2
    exact ⟨(⟨v0, v1, v2⟩ : ImplBoxer), by kernel_rfl⟩
def xNs : List Nat := [24, 32, 43, 45, 50, 57, 64, 70, 74, 93]
end Go.Ev
