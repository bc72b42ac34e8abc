/- The other steps keep what the evaluator holds of a world; no condition. -/
import Derived.Laws.BytesString
import Derived.Laws.StructEq
import Derived.MapKept
import Derived.Test.YtilggcjneaecmaaDoorEvA
set_option linter.all false
set_option linter.unusedVariables false
set_option linter.unusedSimpArgs false
/- A store into a slice that lies in a deep array. -/
set_option linter.unusedVariables false
set_option linter.unusedSimpArgs false
namespace Go.Ev
variable {Δ : Nat → Type} {X : Cx Δ} {P : Program}
theorem All3.repl {α β γ : Type} {R R' : α → β → γ → Prop} {as : List α} {bs : List β} {cs : List γ} (h : All3 R as bs cs) : ∀ (q : Nat) (x' : β),
    (∀ j a b c, j ≠ q → cs[j]? = some c → R a b c → R' a b c) → (∀ a b c, as[q]? = some a → bs[q]? = some b → cs[q]? = some c → R a b c → R' a x' c) → All3 R' as (Ev.setAt bs q [x']) cs := by
  induction h with
  | nil => intro q x' _ _; simpa [Ev.setAt] using All3.nil
  | cons h1 t ih =>
    intro q x' ho hq
    cases q with
    | zero =>
      simp only [Ev.setAt, setAt_nil]
      exact .cons (hq _ _ _ (by simp) (by simp) (by simp) h1) (by
        have : ∀ {as : List α} {bs : List β} {cs : List γ}, All3 R as bs cs → (∀ (j : Nat) (a : α) (b : β) (c : γ), cs[j]? = some c → R a b c → R' a b c) → All3 R' as bs cs := by
          intro as bs cs hh
          induction hh with
          | nil => intro _; exact .nil
          | cons h1 _ ih => intro f; exact .cons (f 0 _ _ _ (by simp) h1) (ih fun j a b c hc => f (j + 1) a b c (by simpa using hc))
        exact this t fun j a b c hc => ho (j + 1) a b c (by omega) (by simpa using hc))
    | succ q =>
      simp only [Ev.setAt]
      exact .cons (ho 0 _ _ _ (by omega) (by simp) h1) (ih q x' (fun j a b c hj hc => ho (j + 1) a b c (by omega) (by simpa using hc)) fun a b c h1 h2 h3 => hq a b c (by simpa using h1) (by simpa using h2) (by simpa using h3))
theorem flatten_apart : ∀ {Fs : List (List Nat)}, Fs.flatten.Nodup → ∀ {i j : Nat} {f g : List Nat}, i ≠ j → Fs[i]? = some f → Fs[j]? = some g → ∀ b ∈ f, b ∉ g
  | [], _, i, j, f, g, _, hi, _ => by simp at hi
  | x :: Fs, hn, i, j, f, g, hij, hi0, hj0 => by
    rw [List.flatten_cons] at hn
    obtain ⟨n1, n2, n3⟩ := List.nodup_append.1 hn
    intro b hb hg
    have hi := hi0
    have hj := hj0
    cases i with
    | zero => cases j with
      | zero => exact hij rfl
      | succ j => simp at hi hj; subst hi; exact n3 b hb b (List.mem_flatten.2 ⟨g, List.mem_of_getElem? hj, hg⟩) rfl
    | succ i => cases j with
      | zero => simp at hi hj; subst hj; exact n3 b hg b (List.mem_flatten.2 ⟨f, List.mem_of_getElem? hi, hb⟩) rfl
      | succ j => exact flatten_apart n2 (i := i) (j := j) (by omega) (by simpa using hi) (by simpa using hj) b hb hg
theorem setAt_same {α : Type} : ∀ (l : List α) (q : Nat) (x : α), l[q]? = some x → setAt l q [x] = l
  | [], q, x, h => by simp at h
  | a :: l, 0, x, h => by simp at h; simp [setAt, setAt_nil, h]
  | a :: l, q + 1, x, h => by simp [setAt, setAt_same l q x (by simpa using h)]
section
variable {σ σ' : Nat → Option Value} {F F' : Nat → List Nat} {h h' : Heap Δ} {w w' : World} {S : Nat → Prop}
theorem store_dpp_ok (xok : Xok X) (H : HRel X σ F h w) {t : Nat} {i : TI} (ht : TIok P Δ i t) {p off off2 : Nat} {k k2 : Kd} {ix i2 : Int} {l : List (k.T Δ)} {ver : Nat} (hg : hget h p = some (.arr true k l ver))
    {a v : Value} (ha : VR X h σ w (Sof F w) a (.dpp p ver k ix off k2 i2 off2)) {av : AV Δ} (hv : AR X h σ w (Sof F w) v av) {cs cs' : List (CV Δ)} (hc : pvCells av = some cs) (hl : cs.length = i.sz)
    {l2 : List (k2.T Δ)} (hx0 : (cells X k (rd X k l ix))[off]? = some (.shs k2 l2)) (hfl : flat X k2 = true) (hoff : off2 + i.sz ≤ ksz X k2)
    (habs : absCs X true h cs = some (cs', [])) {x2 : k2.T Δ} (hx2 : ofCells X k2 (setAt (cells X k2 (rd X k2 l2 i2)) off2 cs') = some x2)
    {x : k.T Δ} (hx : ofCells X k (setAt (cells X k (rd X k l ix)) off [.shs k2 (l2.set i2.toNat x2)]) = some x) :
    ∃ w' F', (Instr.storeAt t a v).run P w = .ok () w' ∧ Stp X σ F h w σ F' ((p, some (.arr true k (l.set ix.toNat x) (Nat.succ ver))) :: h) w' := by
  obtain ⟨_, _, hv2⟩ := ha
  obtain ⟨h0, h1, b, base, len, cap, b2, base2, len2, cap2, s1, s2, s3, s4, s5⟩ := (hv2 l ver hg).2 rfl
  have hlne : l ≠ [] := by rintro rfl; simp at h1; omega
  obtain ⟨b', off', cap', c, t', Fs, f1, f2, f3, f4, f5, f6⟩ := arr_open H hg hlne
  rw [s1] at f1; cases f1
  have hoffk : off < ksz X k := by
    have := (List.getElem?_eq_some_iff.1 hx0).1; rwa [cells_len xok] at this
  have hmul : (ix.toNat + 1) * ksz X k ≤ l.length * ksz X k := Nat.mul_le_mul_right _ (by omega)
  rw [Nat.succ_mul] at hmul
  have hlc : l.length * ksz X k ≤ cap * ksz X k := Nat.mul_le_mul_right _ f4
  -- the cell
  have hlt : ix.toNat < l.length := by omega
  have hq : (l.flatMap (cells X k))[ix.toNat * ksz X k + off]? = some (.shs k2 l2) := by
    have := flat_elem xok k l ix.toNat _ (rd_get (X := X) k l ix h0 h1)
    rw [← this, List.getElem?_take, if_pos hoffk, List.getElem?_drop] at hx0
    exact hx0
  obtain ⟨u, f, u1, u2, u3⟩ := f6.get hq
  have hu : u = .slice (some ⟨b2, base2, none⟩) len2 cap2 := by
    rw [List.getElem?_take] at u1
    split at u1
    · have : c[base + (ix.toNat * ksz X k + off)]? = some u := by simpa [List.getElem?_drop] using u1
      simp [World.cell?, f2, Nat.add_assoc, this] at s2
      exact s2
    · cases u1
  subst hu
  rcases (Rel.shs_iff X).1 u3 with hh | ⟨b2', off2', cap2', c2, t2, fr2, Fs2, e1, e2, e3, e4, e5, e6⟩
  · rcases hh.1 with h | h
    · cases h
    · exact absurd h.1 (by simp [own1, Own.inner])
  · cases e1
    obtain ⟨rfl, e5⟩ := e5
    have hbf : b2 ∈ f := by rw [e5]; simp
    have hfF : ∀ y ∈ f, y ∈ F p := fun y hy => by rw [f5]; exact List.mem_cons.2 (.inr (List.mem_flatten.2 ⟨f, List.mem_of_getElem? u2, hy⟩))
    have hnd := H.nd p
    rw [f5] at hnd
    obtain ⟨hbn, hFn⟩ := List.nodup_cons.1 hnd
    have hb2b : b2 ≠ b := fun e => hbn (e ▸ List.mem_flatten.2 ⟨f, List.mem_of_getElem? u2, hbf⟩)
    obtain ⟨vs, v1, v2, v3⟩ := pv_ok H hv hc
    have hvl := v2.length
    have hmul2 : (i2.toNat + 1) * ksz X k2 ≤ l2.length * ksz X k2 := Nat.mul_le_mul_right _ (by omega)
    rw [Nat.succ_mul] at hmul2
    have hlc2 : l2.length * ksz X k2 ≤ cap2 * ksz X k2 := Nat.mul_le_mul_right _ e4
    have hrun := storeVar_ok (P := P) ht e2 v1 (by omega) v3 (off := base2 + i2.toNat * ksz X k2 + off2) (by omega)
    have hcl : cs'.length = cs.length := by
      have : ∀ (cs cs' : List (CV Δ)) (ds : List Nat), absCs X true h cs = some (cs', ds) → cs'.length = cs.length := by
        intro cs
        induction cs with
        | nil => intro cs' ds e; simp [absCs] at e; simp [e.1.symm]
        | cons c cs ih =>
          intro cs' ds e
          simp only [absCs] at e
          split at e
          · cases e
          · split at e
            · cases e
            · rename_i h2; cases e; simp [ih _ _ h2]
      exact this _ _ _ habs
    generalize hw' : w.setRow b2 (setAt c2.toList (base2 + i2.toNat * ksz X k2 + off2) vs).toArray = w' at *
    refine ⟨w', fun x => if x = p then F p else F x, by subst s5; simp [Instr.storeAt, Instr.sureAddr, hrun], ?_⟩
    have hsz : w'.heap.size = w.heap.size := by rw [← hw']; exact heap_setRow ..
    have hio : SameIo w w' := by rw [← hw']; exact ⟨rfl, rfl, rfl⟩
    have hother : ∀ y, y ≠ b2 → w'.heap[y]? = w.heap[y]? := fun y hy => by rw [← hw']; exact setRow_other w b2 y _ hy
    have hrow : w'.heap[b2]? = some (.cells (setAt c2.toList (base2 + i2.toNat * ksz X k2 + off2) vs).toArray t2 (0, 0)) := by rw [← hw']; exact setRow_heap w b2 c2 _ t2 _ e2
    have key := stp_upd H (p := p) (dels := []) (ob := .arr true k (l.set ix.toNat x) (Nat.succ ver)) (Fn := F p) (w1 := w') (hio := hio) (by simp) (by simp) hg hsz
      (fun y _ hy => hother y fun e => hy (e ▸ hfF b2 hbf)) (fun y hy => .inl hy) (H.nd p) (fun k' l' ver' e => by cases e; exact ⟨l, ver, rfl, Nat.lt_succ_self _⟩)
      (fun h' F' vr sub _ => by
        have hS2 : ∀ y, Sof F w y → w'.heap[y]? = w.heap[y]? := fun y hy => hother y fun e => hy.2 p (e ▸ hfF b2 hbf)
        refine ⟨_, s1, (Rel.shs_iff X).2 (.inr ⟨b, base, cap, c, t', (0, 0), Fs, by simp, by rw [hother b (Ne.symm hb2b)]; exact f2, f3, by simpa using f4, ⟨rfl, f5⟩, ?_⟩)⟩
        have hflat' : (l.set ix.toNat x).flatMap (cells X k) = setAt (l.flatMap (cells X k)) (ix.toNat * ksz X k + off) [.shs k2 (l2.set i2.toNat x2)] := by
          have hcx := ofCells_cells xok hx
          have e1 := take_flat_set xok l ix.toNat x hlt
          have e2 := flat_split xok l ix.toNat _ (rd_get (X := X) k l ix h0 h1)
          have hA : ((l.flatMap (cells X k)).take (ix.toNat * ksz X k)).length = ix.toNat * ksz X k := by rw [List.length_take, flat_len xok]; omega
          rw [e1]
          conv => rhs; rw [e2, show ix.toNat * ksz X k + off = ((l.flatMap (cells X k)).take (ix.toNat * ksz X k)).length + off by rw [hA]]
          rw [setAt_mid _ _ _ _ _ (by rw [cells_len xok]; simp; omega)]
          congr 2
          have hNN := NN_norm (kcs X k) (setAt (cells X k (rd X k l ix)) off [.shs k2 (l2.set i2.toNat x2)])
          rw [← hcx] at hNN
          have hnonil : ∀ y ∈ setAt (cells X k (rd X k l ix)) off [CV.shs k2 (l2.set i2.toNat x2)], y ≠ .nil := by
            intro y hy
            rw [setAt_eq _ _ _ (by rw [cells_len xok]; simp; omega)] at hy
            have hd := data_cells xok k (rd X k l ix)
            simp only [List.mem_append, List.mem_singleton] at hy
            rcases hy with (hy | hy) | hy
            · intro e; have := hd y (List.mem_of_mem_take hy); rw [e] at this; simp [isData] at this
            · rw [hy]; simp
            · intro e; have := hd y (List.mem_of_mem_drop hy); rw [e] at this; simp [isData] at this
          revert hnonil hNN
          generalize cells X k x = A
          generalize setAt (cells X k (rd X k l ix)) off [CV.shs k2 (l2.set i2.toNat x2)] = B
          intro hNN hnn
          induction hNN with
          | nil => rfl
          | cons n1 _ ih =>
            rcases n1 with rfl | ⟨e, _⟩
            · rw [ih fun y hy => hnn y (by simp [hy])]
            · exact absurd e (hnn _ (by simp))
        simp only [List.length_set]
        rw [hflat']
        refine f6.repl _ _ (fun j a' b' f' hj hf' hr => ?_) (fun a' b' f' ha' hb' hf' hr => ?_)
        · exact Rel.frame X hS2 sub (fun y hy => hother y fun e => flatten_apart hFn hj hf' u2 y hy (e ▸ hbf)) hr
        · rw [u1] at ha'; cases ha'
          rw [u2] at hf'; cases hf'
          refine (Rel.shs_iff X).2 (.inr ⟨b2, base2, cap2, _, t2, (0, 0), Fs2, by simp, hrow, by simp [setAt_len]; omega, by simpa using e4, ⟨rfl, e5⟩, ?_⟩)
          have hVs : (((setAt c2.toList (base2 + i2.toNat * ksz X k2 + off2) vs).drop base2).take (l2.length * ksz X k2)) =
              setAt ((c2.toList.drop base2).take (l2.length * ksz X k2)) (i2.toNat * ksz X k2 + off2) vs := by
            rw [Nat.add_assoc, setAt_drop _ _ _ _ (by simp; omega), setAt_take _ _ _ _ (by omega) (by simp; omega)]
          obtain ⟨Fn, a1, a2⟩ := abs_deep xok H v2 habs
          have hNN2 : All2 NN ((l2.set i2.toNat x2).flatMap (cells X k2)) (setAt (l2.flatMap (cells X k2)) (i2.toNat * ksz X k2 + off2) cs') := by
            have hlt2 : i2.toNat < l2.length := by omega
            have e1 := take_flat_set xok l2 i2.toNat x2 hlt2
            have e2 := flat_split xok l2 i2.toNat _ (rd_get (X := X) k2 l2 i2 s3 (by omega))
            have hA : ((l2.flatMap (cells X k2)).take (i2.toNat * ksz X k2)).length = i2.toNat * ksz X k2 := by rw [List.length_take, flat_len xok]; omega
            rw [e1]
            conv => rhs; rw [e2, show i2.toNat * ksz X k2 + off2 = ((l2.flatMap (cells X k2)).take (i2.toNat * ksz X k2)).length + off2 by rw [hA]]
            rw [setAt_mid _ _ _ _ _ (by rw [cells_len xok]; omega), ofCells_cells xok hx2]
            exact (NN_self _).append ((NN_norm _ _).append (NN_self _))
          have hdat2 : ∀ y ∈ (l2.set i2.toNat x2).flatMap (cells X k2), isData y = true := fun y hy => by
            obtain ⟨z, _, hz⟩ := List.mem_flatMap.1 hy
            exact data_cells xok k2 z y hz
          have hFnl : Fn.length = vs.length := by have := a1.length; omega
          have hFs2l : Fs2.length = l2.length * ksz X k2 := by rw [e6.length.2, flat_len xok]
          have flatnil : ∀ {V : List Value} {cs : List (CV Δ)} {Gs : List (List Nat)}, All3 (Rel X .dp w (Sof F w)) V cs Gs → (∀ y ∈ cs, y ∈ l2.flatMap (cells X k2)) → ∀ g ∈ Gs, g = [] := by
            intro V cs Gs hh hm
            have := flat_dp (m' := .sh) xok hfl hm hh
            intro g hg
            obtain ⟨j, hj⟩ := List.getElem?_of_mem hg
            have hjl : j < cs.length := by have := (List.getElem?_eq_some_iff.1 hj).1; have := hh.length.2; omega
            obtain ⟨_, g', _, hg', hr⟩ := this.get (List.getElem?_eq_getElem hjl)
            rw [hj] at hg'; cases hg'
            exact hr.sh_nil
          have hFs2n : ∀ g ∈ Fs2, g = [] := flatnil e6 fun y hy => hy
          have hFnn : ∀ g ∈ Fn, g = [] := by simpa using a2
          have e6' := e6.mono (R' := RN X .dp w' (Sof F' w')) fun a c g hg hr => .inr (Rel.frame X hS2 sub (by rw [hFs2n g hg]; simp) hr)
          have a1' := a1.mono (R' := RN X .dp w' (Sof F' w')) fun a c g hg hr => by
            rcases hr with hr | hr
            · exact .inl hr
            · exact .inr (Rel.frame X hS2 sub (by rw [hFnn g hg]; simp) hr)
          have hall := RN_rel (e6'.setAt a1' (i2.toNat * ksz X k2 + off2)) hNN2 hdat2
          rw [setAt_nils Fs2 Fn _ hFs2n hFnn, ← nils_map Fs2 hFs2n] at hall
          simpa [hVs, own1, Own.inner] using hall)
    simpa using key
end
end Go.Ev

/- New objects: variables, slices that are built or made. -/
set_option linter.unusedVariables false
set_option linter.unusedSimpArgs false
namespace Go.Ev
variable {Δ : Nat → Type} {X : Cx Δ} {P : Program}
section
variable {σ σ' : Nat → Option Value} {F F' : Nat → List Nat} {h h' : Heap Δ} {w w' : World} {S : Nat → Prop}

theorem newObj_some {used : List Nat} {dst : Option Nat} {mk : Nat → CV Δ} {ob : Ob Δ} {dels : List Nat} {g gs : List Bool} {reads : List Nat} {e : Eff Δ} (he : newObj used dst mk ob dels g reads = some (gs, e)) :
    ∃ id, id ≠ 999 ∧ 999 ∉ dels ∧ isIn used id = false ∧ gs = g ∧ e.val = .c (mk id) ∧ e.writes = (id, some ob) :: dels.map (fun o => (o, none)) ∧ e.news = [id] := by
  unfold newObj at he
  split at he
  · cases he
  · split at he
    · cases he
    · rename_i hu; cases he
      obtain ⟨hu1, hu2⟩ := Bool.or_eq_false_iff.1 hu
      exact ⟨_, (by show 1000 + _ * 16 + 0 ≠ 999; omega), isIn_not.1 hu2, hu1, rfl, rfl, rfl, rfl⟩

theorem new_ok (H : HRel X σ F h w) {used : List Nat} (hused : ∀ o, σ o ≠ none → isIn used o = true) {dst : Option Nat} {mk : Nat → CV Δ} {ob : Ob Δ} {dels : List Nat} {g gs : List Bool} {reads : List Nat} {e : Eff Δ}
    (he : newObj used dst mk ob dels g reads = some (gs, e)) {r : Result Next} {root : Value} {Fn : List Nat} {w1 : World} (hr : r = .ok (.value root) w1) (hroot : root.oneCell' = true)
    (hw1 : w1.heap.size ≥ w.heap.size) (hbl : ∀ b, b < w.heap.size → (∀ o ∈ dels, b ∉ F o) → w1.heap[b]? = w.heap[b]?)
    (hFn : ∀ b ∈ Fn, b < w1.heap.size ∧ ((∃ o ∈ dels, b ∈ F o) ∨ w.heap.size ≤ b)) (hnd : Fn.Nodup)
    (hob : ∀ (id : Nat) (h' : Heap Δ) (σ' : Nat → Option Value) (F' : Nat → List Nat), (∀ v x, VR X h σ w (Sof F w) v x → VR X h' σ' w1 (Sof F' w1) v x) → (∀ b, Sof F w b → Sof F' w1 b) →
      (∀ o ∈ dels, ∀ b ∈ F o, b ∉ Fn → Sof F' w1 b) → σ' id = some root → ObR X h' σ' w1 (Sof F' w1) Fn id ob)
    (hmk : ∀ (id : Nat) (h' : Heap Δ) (σ' : Nat → Option Value) (S' : Nat → Prop), σ' id = some root → VR X h' σ' w1 S' root (mk id)) (hio : SameIo w w1 := by exact ⟨rfl, rfl, rfl⟩) : OpOk X r σ F h w e := by
  obtain ⟨id, z1, z2, h1, h2, h3, h4, h5⟩ := newObj_some he
  have hid : σ id = none := by
    cases hs : σ id with
    | none => rfl
    | some v => have := hused id (by simp [hs]); rw [h1] at this; cases this
  have st := stp_new H hid z1 z2 hroot hw1 hbl hFn hnd (hob id) hio (o := .loop default)
  refine ⟨root, w1, _, _, .inl hr, by rw [h4]; exact st, by rw [h3]; exact hmk id _ _ _ (by simp), fun o ho => ?_⟩
  by_cases e : o = id
  · subst e; exact .inr (by rw [h5]; simp)
  · exact .inl (by simpa [e] using ho)

theorem alloc_old (w : World) (o : Obj) {b : Nat} (hb : b < w.heap.size) : (w.alloc o).heap[b]? = w.heap[b]? := by
  show (w.heap.push o)[b]? = _
  simp [Array.getElem?_push, Nat.ne_of_lt hb]
theorem alloc_new (w : World) (o : Obj) : (w.alloc o).heap[w.heap.size]? = some o := by
  show (w.heap.push o)[w.heap.size]? = _
  simp

/-- a new variable -/
theorem var_ok {t : Nat} (hm : isSpT t = false) (H : HRel X σ F h w) {used : List Nat} (hused : ∀ o, σ o ≠ none → isIn used o = true) {dst : Option Nat} {cs : List (CV Δ)} {g gs : List Bool} {reads : List Nat} {e : Eff Δ}
    (he : newObj used dst (fun n => CV.ptr n 0) (.box t cs) [] g reads = some (gs, e)) {r : Result Next} {c : Array Value} (hc : All2 (VR X h σ w (Sof F w)) c.toList cs)
    (hr : r = .ok (.value (.pointer (some ⟨w.heap.size, 0, none⟩))) (w.alloc (.cells c t))) : OpOk X r σ F h w e := by
  refine new_ok H hused he hr rfl (Fn := [w.heap.size]) (by simp) (fun b hb _ => alloc_old w _ hb) (fun b hb => ?_) (by simp) (fun id h' σ' F' vr sub _ hs => ?_) (fun id h' σ' S' hs => ⟨_, hs, .inl ⟨_, rfl, rfl⟩⟩)
  · simp at hb; subst hb; exact ⟨by simp, .inr (Nat.le_refl _)⟩
  · exact .inl ⟨hm, w.heap.size, c, hs, rfl, alloc_new w _, hc.mono vr⟩

theorem op_alloc_ok {t : Nat} (hm : isSpT t = false) {i : TI} (ht : TIok P Δ i t) (H : HRel X σ F h w) {used : List Nat} (hused : ∀ o, σ o ≠ none → isIn used o = true) {dst : Option Nat} {cs : List (CV Δ)} (hz : ofVals i.zero = some cs)
    {gs : List Bool} {e : Eff Δ} (he : newObj used dst (fun n => CV.ptr n 0) (.box t cs) [] [] [] = some (gs, e)) :
    OpOk X ((do Pure.pure (Next.value (← Instr.alloc t true (.tuple #[]))) : Sem Next).run P w) σ F h w e := by
  obtain ⟨inf, z, h1, h2, h3, h4, h5⟩ := ht.inf
  refine var_ok hm H hused he (c := z.cells) (by rw [h5]; exact ofVals_ok hz) ?_
  refine run_v ?_
  simp [Instr.alloc, zeroValue, typeInfo, h1, h4, newVar, newRow]
theorem op_box_ok {t : Nat} (hm : isSpT t = false) {i : TI} (ht : TIok P Δ i t) (H : HRel X σ F h w) {used : List Nat} (hused : ∀ o, σ o ≠ none → isIn used o = true) {dst : Option Nat} {v : Value} {av : AV Δ} (hv : AR X h σ w (Sof F w) v av) {cs : List (CV Δ)} (hc : pvCells av = some cs)
    {gs : List Bool} {e : Eff Δ} (he : newObj used dst (fun n => CV.ptr n 0) (.box t cs) [] [] [] = some (gs, e)) :
    OpOk X ((do Pure.pure (Next.value (← Instr.box t v)) : Sem Next).run P w) σ F h w e := by
  obtain ⟨vs, v1, v2, v3⟩ := pv_ok H hv hc
  refine var_ok hm H hused he (c := v.cells) (by rw [v1]; simpa using v2) ?_
  refine run_v ?_
  simp [Instr.box, newVar, newRow]

/-- a new row of an object's own -/
theorem arr_new_ok (xok : Xok X) (H : HRel X σ F h w) {used : List Nat} (hused : ∀ o, σ o ≠ none → isIn used o = true) {dst : Option Nat} {d : Bool} {k : Kd} {l : List (k.T Δ)} {dels : List Nat} {g gs : List Bool} {reads : List Nat} {e : Eff Δ}
    (he : newObj used dst CV.own (.arr d k l 0) dels g reads = some (gs, e)) {r : Result Next} {c : Array Value} {et : TypeId} {cap : Nat} {w0 : World} (hw0 : w0.heap = w.heap)
    (hr : r = .ok (.value (.slice (some ⟨w.heap.size, 0, none⟩) l.length cap)) (w0.alloc (.cells c et))) (hcap : l.length ≤ cap) (hsize : cap * ksz X k ≤ c.size) {Fs : List (List Nat)} (hFs : Fs.flatten.Nodup) (hFd : ∀ b ∈ Fs.flatten, ∃ o ∈ dels, b ∈ F o)
    (hrel : ∀ (w1 : World) (F' : Nat → List Nat), (∀ b, b < w.heap.size → w1.heap[b]? = w.heap[b]?) → (∀ b, Sof F w b → Sof F' w1 b) → (∀ o ∈ dels, ∀ b ∈ F o, b ∉ w.heap.size :: Fs.flatten → Sof F' w1 b) →
      All3 (Rel X (own1 d).inner w1 (Sof F' w1)) (c.toList.take (l.length * ksz X k)) (l.flatMap (cells X k)) Fs) (hio : SameIo w w0 := by exact ⟨rfl, rfl, rfl⟩) : OpOk X r σ F h w e := by
  have hold : ∀ b, b < w.heap.size → (w0.alloc (.cells c et)).heap[b]? = w.heap[b]? := fun b hb => by rw [alloc_old w0 _ (by rw [hw0]; exact hb), hw0]
  have hnew : (w0.alloc (.cells c et)).heap[w.heap.size]? = some (.cells c et) := by rw [← hw0]; exact alloc_new w0 _
  refine new_ok H hused he hr rfl (Fn := w.heap.size :: Fs.flatten) (by simp [hw0]) (fun b hb _ => hold b hb) (fun b hb => ?_) ?_ (fun id h' σ' F' vr sub hds hs => ?_) (fun id h' σ' S' hs => hs) (SameIo.trans hio ⟨rfl, rfl, rfl⟩)
  · rcases List.mem_cons.1 hb with rfl | hb
    · exact ⟨by simp [hw0], .inr (Nat.le_refl _)⟩
    · obtain ⟨o, ho, hb⟩ := hFd b hb
      exact ⟨by have := H.bd o b hb; simp [hw0]; omega, .inl ⟨o, ho, hb⟩⟩
  · refine List.nodup_cons.2 ⟨fun hb => ?_, hFs⟩
    obtain ⟨o, _, hb⟩ := hFd _ hb
    exact Nat.lt_irrefl _ (H.bd o _ hb)
  · refine ⟨_, hs, (Rel.shs_iff X).2 (.inr ⟨w.heap.size, 0, cap, c, et, (0, 0), Fs, rfl, hnew, by simpa using hsize, hcap, ?_, ?_⟩)⟩
    · cases d <;> exact ⟨rfl, rfl⟩
    · have := hrel _ F' hold sub hds
      simpa using this

/-- values on their way into a new array -/
theorem abs_any (xok : Xok X) (H : HRel X σ F h w) {d : Bool} {vs : List Value} {cs cs' : List (CV Δ)} {ds : List Nat} (hv : All2 (VR X h σ w (Sof F w)) vs cs) (ha : absCs X d h cs = some (cs', ds)) :
    ∃ Fn, (∀ b ∈ Fn.flatten, ∃ o ∈ ds, b ∈ F o) ∧ (ds.Nodup → Fn.flatten.Nodup) ∧ (∀ b ∈ Fn.flatten, b ∈ ds.flatMap F) ∧ (d = false → Fn.flatten = []) ∧
      ∀ (w1 : World) (F' : Nat → List Nat), (∀ b, b < w.heap.size → w1.heap[b]? = w.heap[b]?) → (∀ b, Sof F w b → Sof F' w1 b) → (∀ o ∈ ds, ∀ b ∈ F o, d = false → Sof F' w1 b) → All3 (RN X (own1 d).inner w1 (Sof F' w1)) vs cs' Fn := by
  cases d with
  | true =>
    obtain ⟨Fn, a1, a2⟩ := abs_deep xok H hv ha
    refine ⟨Fn, fun b hb => ?_, fun hn => by rw [a2]; exact nodup_flatMap hn H.nd H.dj, fun b hb => by rw [← a2]; exact hb, fun e => (by cases e), fun w1 F' hs hsub _ => ?_⟩
    · rw [a2] at hb; obtain ⟨o, ho, hb⟩ := List.mem_flatMap.1 hb; exact ⟨o, ho, hb⟩
    · exact a1.mono fun a c f hf hr => by
        rcases hr with hr | hr
        · exact .inl hr
        · refine .inr (Rel.frame X (fun b hb => hs b hb.1) hsub (fun b hb => ?_) hr)
          have : b ∈ ds.flatMap F := by rw [← a2]; exact List.mem_flatten.2 ⟨f, hf, hb⟩
          obtain ⟨o, _, hb⟩ := List.mem_flatMap.1 this
          exact hs b (H.bd o b hb)
  | false =>
    obtain ⟨Fn, a1, a2⟩ := abs_shal (w' := w) (S' := fun b => True) H hv ha (fun _ _ => rfl) (fun _ _ => trivial) (fun _ _ _ _ => ⟨trivial, rfl⟩)
    refine ⟨Fn, fun b hb => by rw [a2] at hb; simp at hb, fun _ => by rw [a2]; simp, fun b hb => by rw [a2] at hb; simp at hb, fun _ => a2, fun w1 F' hs hsub hds => ?_⟩
    obtain ⟨Fn', b1, b2⟩ := abs_shal (w' := w1) (S' := Sof F' w1) H hv ha (fun b hb => hs b hb.1) hsub (fun o ho b hb => ⟨hds o ho b hb rfl, hs b (H.bd o b hb)⟩)
    have e : ∀ (A B : List (List Nat)), A.flatten = [] → B.flatten = [] → A.length = B.length → A = B := by
      intro A
      induction A with
      | nil => intro B _ _ hl; cases B with | nil => rfl | cons b B => simp at hl
      | cons a A ih =>
        intro B hA hB hl
        cases B with
        | nil => simp at hl
        | cons b B =>
          simp at hA hB hl
          rw [hA.1, hB.1, ih B (by simpa using hA.2) (by simpa using hB.2) hl]
    rw [e Fn Fn' a2 b2 (by have := a1.length; have := b1.length; omega)]
    exact b1

theorem absCs_len {d : Bool} : ∀ {cs cs' : List (CV Δ)} {ds : List Nat}, absCs X d h cs = some (cs', ds) → cs'.length = cs.length
  | [], cs', ds, e => by simp [absCs] at e; simp [e.1.symm]
  | c :: cs, cs', ds, e => by
    simp only [absCs] at e
    split at e
    · cases e
    · split at e
      · cases e
      · rename_i h2; cases e; simp [absCs_len h2]
/-- the elements of a slice that is built -/
theorem elems_ok (xok : Xok X) (H : HRel X σ F h w) {d : Bool} {k : Kd} : ∀ {ps : List (Nat × AV Δ)} {n : Nat} {xs : List (k.T Δ)} {ds : List Nat} {vs : List Value}, elemsOf X d h k n ps = some (xs, ds) → All2 (AR X h σ w (Sof F w)) vs (ps.map (·.2)) →
    ∃ Fn, xs.length = ps.length ∧ (∀ v ∈ vs, v.cells.size = ksz X k) ∧ (∀ j p, ps[j]? = some p → p.1 = n + j) ∧ (∀ b ∈ Fn.flatten, ∃ o ∈ ds, b ∈ F o) ∧ (ds.Nodup → Fn.flatten.Nodup) ∧ (∀ b ∈ Fn.flatten, b ∈ ds.flatMap F) ∧ (d = false → Fn.flatten = []) ∧
      ∀ (w1 : World) (F' : Nat → List Nat), (∀ b, b < w.heap.size → w1.heap[b]? = w.heap[b]?) → (∀ b, Sof F w b → Sof F' w1 b) → (∀ o ∈ ds, ∀ b ∈ F o, d = false → Sof F' w1 b) → All3 (Rel X (own1 d).inner w1 (Sof F' w1)) (vs.flatMap (·.cells.toList)) (xs.flatMap (cells X k)) Fn
  | [], n, xs, ds, vs, he, hv => by
    simp [elemsOf] at he
    obtain ⟨rfl, rfl⟩ := he
    cases hv
    exact ⟨[], rfl, by simp, by simp, by simp, by simp, by simp, by simp, fun _ _ _ _ _ => .nil⟩
  | (i, a) :: ps, n, xs, ds, vs, he, hv => by
    cases hv with
    | cons h1 h2 =>
      rename_i v vs
      simp only [elemsOf] at he
      split at he
      · rename_i cs hi hc
        have hi := Nat.eq_of_beq_eq_true hi
        split at he
        · rename_i cs' d1 habs
          split at he
          · rename_i x xs' ds' hx hrest
            cases he
            obtain ⟨Fr, r1, r2, r3, r4, r5, r7, r8, r6⟩ := elems_ok xok H hrest h2
            obtain ⟨us, v1, v2, v3⟩ := pv_ok H h1 hc
            obtain ⟨Fc, c1, c2, c4, c5, c3⟩ := abs_any xok H v2 habs
            have hcx := ofCells_cells xok hx
            have hlen : us.length = ksz X k := by
              rw [← cells_len xok k x, hcx]
              have hn := (NN_norm (kcs X k) cs').length
              have := absCs_len habs
              have := v2.length
              omega
            refine ⟨Fc ++ Fr, by simp [r1], fun u hu => ?_, fun j p hp => ?_, fun b hb => ?_, fun hn => ?_, fun b hb => ?_, fun hd => by rw [List.flatten_append, c5 hd, r8 hd]; rfl, fun w1 F' hs hsub hds => ?_⟩
            · rcases List.mem_cons.1 hu with rfl | hu
              · rw [v1]; simpa using hlen
              · exact r2 u hu
            · cases j with
              | zero => simp at hp; subst hp; exact hi
              | succ j => have := r3 j p (by simpa using hp); omega
            · rw [List.flatten_append] at hb
              rcases List.mem_append.1 hb with hb | hb
              · obtain ⟨o, ho, hb⟩ := c1 b hb; exact ⟨o, by simp [ho], hb⟩
              · obtain ⟨o, ho, hb⟩ := r4 b hb; exact ⟨o, by simp [ho], hb⟩
            · obtain ⟨n1, n2, n3⟩ := List.nodup_append.1 hn
              rw [List.flatten_append]
              refine List.nodup_append.2 ⟨c2 n1, r5 n2, fun a ha b hb e => ?_⟩
              subst e
              obtain ⟨o, ho, hao⟩ := c1 a ha
              obtain ⟨o', ho', hbo⟩ := r4 a hb
              exact H.dj o o' (fun e => n3 o ho o' ho' e) a hao hbo
            · rw [List.flatten_append] at hb
              rw [List.flatMap_append]
              rcases List.mem_append.1 hb with hb | hb
              · exact List.mem_append.2 (.inl (c4 b hb))
              · exact List.mem_append.2 (.inr (r7 b hb))
            · rw [List.flatMap_cons, List.flatMap_cons]
              refine All3.append ?_ (r6 w1 F' hs hsub fun o ho => hds o (by simp [ho]))
              have := c3 w1 F' hs hsub fun o ho => hds o (by simp [ho])
              rw [v1]
              refine RN_rel (by simpa using this) ?_ (data_cells xok k x)
              rw [hcx]
              exact NN_norm _ _
          · cases he
        · cases he
      · cases he
end
end Go.Ev

/- Slices that are built or made. -/
set_option linter.unusedVariables false
set_option linter.unusedSimpArgs false
namespace Go.Ev
variable {Δ : Nat → Type} {X : Cx Δ} {P : Program}
theorem setAt_setAt {α : Type} : ∀ (l : List α) (o : Nat) (vs us : List α), o + vs.length ≤ l.length → setAt (setAt l o vs) (o + vs.length) us = setAt l o (vs ++ us)
  | l, o, [], us, _ => by simp [setAt_nil]
  | [], o, v :: vs, us, h => by simp at h
  | a :: l, 0, v :: vs, us, h => by
    have := setAt_setAt l 0 vs us (by simp at h ⊢; omega)
    cases us with
    | nil => simp [setAt_nil]
    | cons u us => simp only [setAt, List.length_cons, Nat.zero_add, List.cons_append]; simp at this; simp [setAt, this]
  | a :: l, o + 1, v :: vs, us, h => by
    have := setAt_setAt l o (v :: vs) us (by simp at h ⊢; omega)
    cases us with
    | nil => simp [setAt_nil]
    | cons u us =>
      rw [show o + 1 + (v :: vs).length = (o + (v :: vs).length) + 1 by simp; omega]
      simp only [setAt, List.cons_append] at this ⊢
      rw [this]
theorem setAt_all {α : Type} (l vs : List α) (h : vs.length = l.length) : setAt l 0 vs = vs := by
  rw [setAt_eq _ _ _ (by omega)]; simp [h]
theorem fold_set (off : Nat) : ∀ (vs : List Value) (j : Nat) (cs : Array Value), off + j + vs.length ≤ cs.size →
    (vs.zipIdx j).foldl (fun (cs : Array Value) (x : Value × Nat) => cs.setIfInBounds (off + x.2) x.1) cs = (setAt cs.toList (off + j) vs).toArray
  | [], j, cs, _ => by simp [setAt_nil]
  | v :: vs, j, cs, h => by
    rw [List.zipIdx_cons, List.foldl_cons, fold_set off vs (j + 1) _ (by simp at h ⊢; omega)]
    congr 1
    have e1 : (cs.setIfInBounds (off + j) v).toList = setAt cs.toList (off + j) [v] := by
      rw [Array.toList_setIfInBounds, setAt_eq _ _ _ (by simp at h ⊢; omega), List.set_eq_take_append_cons_drop, if_pos (by simp at h ⊢; omega)]
      simp
    rw [e1, show off + (j + 1) = (off + j) + [v].length by simp; omega, setAt_setAt _ _ _ _ (by simp at h ⊢; omega)]
    rfl
theorem fill_ok (size : Nat) : ∀ (ps : List (Nat × Value)) (n : Nat) (cs : Array Value), (∀ j p, ps[j]? = some p → p.1 = n + j) → (∀ p ∈ ps, p.2.cells.size = size) → n * size + ps.length * size ≤ cs.size →
    Instr.fill (fun i => some (i * size, size)) cs ps = some (setAt cs.toList (n * size) (ps.flatMap (fun p => p.2.cells.toList))).toArray
  | [], n, cs, _, _, _ => by simp [Instr.fill, setAt_nil]
  | (i, v) :: ps, n, cs, hi, hs, hl => by
    have hin : i = n := by have := hi 0 _ rfl; simpa using this
    have hv : v.cells.size = size := hs _ (List.mem_cons_self ..)
    subst hin
    have hl' : i * size + size + ps.length * size ≤ cs.size := by simp [Nat.succ_mul] at hl; omega
    have hfold : Array.foldl (fun (cs : Array Value) (x : Value × Nat) => cs.setIfInBounds (i * size + x.2) x.1) cs v.cells.zipIdx = (setAt cs.toList (i * size) v.cells.toList).toArray := by
      have := fold_set (i * size) v.cells.toList 0 cs (by simp; omega)
      rw [← Array.foldl_toList, Array.toList_zipIdx]
      simpa using this
    simp only [Instr.fill]
    rw [if_neg (by simp; omega)]
    have hf2 : Array.foldl (fun (cs : Array Value) x => match x with | (c, j) => cs.setIfInBounds (i * size + j) c) cs v.cells.zipIdx = (setAt cs.toList (i * size) v.cells.toList).toArray := hfold
    rw [hf2, fill_ok size ps (i + 1) _ (fun j p hp => by have := hi (j + 1) p (by simpa using hp); omega) (fun p hp => hs p (by simp [hp])) (by simp [setAt_len, Nat.succ_mul]; omega)]
    have := setAt_setAt cs.toList (i * size) v.cells.toList (ps.flatMap fun p => p.2.cells.toList) (by simp; omega)
    simp only [Array.length_toList, hv] at this
    rw [Nat.succ_mul, List.flatMap_cons, ← this]
section
variable {σ σ' : Nat → Option Value} {F F' : Nat → List Nat} {h h' : Heap Δ} {w w' : World} {S : Nat → Prop}
theorem rhoPs_ok {env : Env Δ} {a : Act} (E : ER X h σ w S env a) : ∀ {ps : List (Nat × Operand)} {vs : List (Nat × AV Δ)}, rhoPs env ps = some vs → All2 (AR X h σ w S) (ps.map fun p => a.eval p.2) (vs.map (·.2)) ∧ ps.map (·.1) = vs.map (·.1)
  | [], vs, hx => by simp [rhoPs] at hx; subst hx; exact ⟨.nil, rfl⟩
  | (i, x) :: r, vs, hx => by
    simp only [rhoPs] at hx
    split at hx
    · rename_i v vs' h1 h2
      cases hx
      obtain ⟨a1, a2⟩ := rhoPs_ok E h2
      exact ⟨.cons (rho_ok E h1) a1, by simp [a2]⟩
    · cases hx

theorem op_buildSlice_ok (pok : Pok X P) {t e : Nat} {i te : TI} (ht : TIok P Δ i t) (hd : i.d = .slice e) (hte : TIok P Δ te e) (hteok : teOk X te = true) (H : HRel X σ F h w) {used : List Nat} (hused : ∀ o, σ o ≠ none → isIn used o = true)
    {dst : Option Nat} {deep : Bool} {len : Nat} {ps : List (Nat × AV Δ)} {vals : List (Nat × Value)} (hv : All2 (AR X h σ w (Sof F w)) (vals.map (·.2)) (ps.map (·.2))) (hi : vals.map (·.1) = ps.map (·.1))
    {gs : List Bool} {ef : Eff Δ} (he : opBuildSlice X deep used dst h te len ps = some (gs, ef)) :
    OpOk X ((do Pure.pure (Next.value (← Instr.buildSlice t len vals.toArray)) : Sem Next).run P w) σ F h w ef := by
  have hu := ht.und
  rw [hd] at hu
  have hu : P.underlying t = some (.slice e) := hu
  simp only [teOk, Bool.and_eq_true] at hteok
  have hksz : ksz X te.kd = te.sz := Nat.eq_of_beq_eq_true hteok.1.2
  unfold opBuildSlice at he
  split at he
  · rename_i xs ds hel
    split at he
    · rename_i hlen hnd hle
      have hlen := Nat.eq_of_beq_eq_true hlen
      have hle : len * te.sz ≤ 1000 := Nat.le_of_ble_eq_true hle
      obtain ⟨Fn, r1, r2, r3, r4, r5, _, r8, r6⟩ := elems_ok pok.xok H hel hv
      obtain ⟨inf, z, i1, i2, i3, i4, i5⟩ := hte.inf
      have hvl : vals.length = ps.length := by simpa using congrArg List.length hi
      have hzs : len * te.sz ≠ 0 → z.cells.size = te.sz ∨ True := fun _ => .inr trivial
      have hvs : ∀ p ∈ vals, p.2.cells.size = te.sz := fun p hp => by rw [← hksz]; exact r2 _ (List.mem_map.2 ⟨p, hp, rfl⟩)
      have hidx : ∀ j p, vals[j]? = some p → p.1 = 0 + j := by
        intro j p hp
        have : (vals.map (·.1))[j]? = some p.1 := by simp [hp]
        rw [hi, List.getElem?_map] at this
        cases hq : ps[j]? with
        | none => rw [hq] at this; simp at this
        | some q => rw [hq] at this; simp at this; rw [← this]; exact r3 j q hq
      have hfl : (vals.flatMap fun p => p.2.cells.toList).length = len * te.sz := by
        have : ∀ (l : List (Nat × Value)), (∀ p ∈ l, p.2.cells.size = te.sz) → (l.flatMap fun p => p.2.cells.toList).length = l.length * te.sz := by
          intro l
          induction l with
          | nil => simp
          | cons p l ih => intro hp; rw [List.flatMap_cons, List.length_append, ih fun q hq => hp q (by simp [hq])]; simp [hp p (by simp), Nat.succ_mul]; omega
        rw [this vals hvs, hvl, ← r1, hlen]
      have hfill : ∀ (cs : Array Value), cs.size = len * te.sz → Instr.fill (fun i => some (i * te.sz, te.sz)) cs vals = some (vals.flatMap fun p => p.2.cells.toList).toArray := by
        intro cs hcs
        have := fill_ok te.sz vals 0 cs hidx hvs (by rw [hcs, hvl, ← r1, hlen]; omega)
        rw [this, Nat.zero_mul, setAt_all _ _ (by rw [hfl]; simpa using hcs.symm)]
      have hrun : (Instr.buildSlice t len vals.toArray).run P w = .ok (.slice (some ⟨w.heap.size, 0, none⟩) len len) (w.alloc (.cells (vals.flatMap fun p => p.2.cells.toList).toArray e)) := by
        have hbig : ¬ (16777216 < len * te.sz) := by omega
        by_cases h0 : len * te.sz = 0
        · have hf := hfill #[] (by simp [h0])
          have hl0 : ∀ (f : Nat → Value), (Array.map f (Array.range (len * te.sz))) = #[] := by intro f; simp [h0]
          have hn0 : (vals.flatMap fun p => p.2.cells.toList) = [] := List.eq_nil_of_length_eq_zero (by rw [hfl, h0])
          rw [hn0] at hf ⊢
          have hr0 : (Array.map (fun (x : Nat) => (default : Value)) (Array.range 0)) = #[] := by simp
          simp [Instr.buildSlice, run_und hu, run_size hte, h0]
          rw [hr0, hf]
          simp [newRow]
        · have hf := hfill (Array.map (fun x => z.cells[x % z.cells.size]!) (Array.range (len * te.sz))) (by simp)
          simp [Instr.buildSlice, run_und hu, run_size hte, h0, hbig, zeroValue, typeInfo, i1, i4, hf, newRow]
      refine arr_new_ok pok.xok H hused he (Fs := Fn) (c := (vals.flatMap fun p => p.2.cells.toList).toArray) (et := e) (cap := len) (w0 := w) rfl (by rw [hlen]; exact run_v hrun) (by omega) (by rw [hksz]; simp [hfl]) (r5 (nodup_ok hnd)) r4 ?_
      intro w1 F' hs hsub hds
      have := r6 w1 F' hs hsub (fun o ho b hb hdf => hds o ho b hb (by
        rw [r8 hdf]
        have := H.bd o b hb
        simp; omega))
      have e : (vals.flatMap fun p => p.2.cells.toList).toArray.toList.take (xs.length * ksz X te.kd) = (vals.map (·.2)).flatMap (·.cells.toList) := by
        rw [List.flatMap_map, hlen, hksz, ← hfl]
        exact List.take_length
      rw [e]
      exact this
    · cases he
  · cases he

theorem op_buildOne_ok (pok : Pok X P) {t e : Nat} {i te : TI} (ht : TIok P Δ i t) (hd : i.d = .slice e) (hte : TIok P Δ te e) (hteok : teOk X te = true) (H : HRel X σ F h w) {used : List Nat} (hused : ∀ o, σ o ≠ none → isIn used o = true)
    {dst : Option Nat} {len : Nat} {ps : List (Nat × AV Δ)} {vals : List (Nat × Value)} (hv : All2 (AR X h σ w (Sof F w)) (vals.map (·.2)) (ps.map (·.2))) (hi : vals.map (·.1) = ps.map (·.1))
    {gs : List Bool} {ef : Eff Δ} (he : opBuildOne used dst h te len ps = some (gs, ef)) :
    OpOk X ((do Pure.pure (Next.value (← Instr.buildSlice t len vals.toArray)) : Sem Next).run P w) σ F h w ef := by
  have hu := ht.und
  rw [hd] at hu
  have hu : P.underlying t = some (.slice e) := hu
  unfold opBuildOne at he
  split at he
  · rename_i o
    split at he
    · rename_i d k l ver hg
      split at he
      · rename_i hk hlen hsz
        have hlen := Nat.eq_of_beq_eq_true hlen
        have hsz := Nat.eq_of_beq_eq_true hsz
        subst hlen
        obtain ⟨inf, z, i1, i2, i3, i4, i5⟩ := hte.inf
        obtain ⟨j, u, rfl⟩ : ∃ j u, vals = [(j, u)] := by
          have := congrArg List.length hi
          cases vals with
          | nil => simp at this
          | cons a r =>
            cases r with
            | nil => exact ⟨a.1, a.2, rfl⟩
            | cons b r => simp at this
        have hj : j = 0 := by simpa using hi
        subst hj
        have hu1 : VR X h σ w (Sof F w) u (.own o) := by
          cases hv with
          | cons a1 _ => exact a1
        obtain ⟨rv, r1, r2⟩ := H.ob o _ hg
        rw [show σ o = some u from hu1] at r1; cases r1
        have huc : u.cells = #[u] := by
          rcases (Rel.shs_iff X).1 r2 with ⟨e, _, _⟩ | ⟨b, off, cap, c, t, fr, Fs, e1, _⟩
          · rw [Emp.own e]; rfl
          · rw [e1]; rfl
        have hfill : ∀ (cs : Array Value), cs.size = 1 → Instr.fill (fun i => some (i * te.sz, te.sz)) cs [(0, u)] = some #[u] := by
          intro cs hcs
          have := fill_ok te.sz [(0, u)] 0 cs (by intro j p hp; cases j with
            | zero => simp at hp; subst hp; rfl
            | succ j => simp at hp) (by intro p hp; simp at hp; subst hp; rw [hsz, huc]; rfl) (by simp [hsz, hcs])
          rw [this]
          simp only [List.flatMap_cons, List.flatMap_nil, huc]
          rw [Nat.zero_mul, setAt_all _ _ (by simp [hcs])]
          rfl
        have hrun : (Instr.buildSlice t 1 #[(0, u)]).run P w = .ok (.slice (some ⟨w.heap.size, 0, none⟩) 1 1) (w.alloc (.cells #[u] e)) := by
          have hf := hfill (Array.map (fun x => z.cells[x % z.cells.size]!) (Array.range (1 * te.sz))) (by simp [hsz])
          rw [Nat.one_mul] at hf
          have h0 : ¬ (te.sz = 0) := by omega
          have hbig : ¬ (16777216 < te.sz) := by omega
          simp [Instr.buildSlice, run_und hu, run_size hte, h0, hbig, zeroValue, typeInfo, i1, i4, hf, newRow]
        refine new_ok H hused he (r := _) (root := .slice (some ⟨w.heap.size, 0, none⟩) 1 1) (w1 := w.alloc (.cells #[u] e)) (run_v hrun) rfl (Fn := [w.heap.size]) (by simp) (fun b hb _ => alloc_old w _ hb) (fun b hb => ?_) (by simp) (fun id h' σ' F' vr sub _ hs => ?_) (fun id h' σ' S' hs => hs)
        · simp at hb; subst hb; exact ⟨by simp, .inr (Nat.le_refl _)⟩
        · exact .inr (.inr ⟨rfl, w.heap.size, #[u], e, 1, u, hs, rfl, alloc_new w _, ⟨by decide, by simp, rfl⟩, .cons (vr _ _ hu1) .nil⟩)
      · cases he
    · cases he
  · cases he

theorem rep_cells {k : Kd} (z : k.T Δ) : ∀ (n : Nat) (zs : List Value), zs.length = (cells X k z).length → 0 < zs.length →
    ((List.range (n * zs.length)).map fun j => zs.toArray[j % zs.length]!) = (List.replicate n zs).flatten := by
  intro n zs hz hp
  induction n with
  | zero => simp
  | succ n ih =>
    rw [List.replicate_succ', List.flatten_append, ← ih, Nat.succ_mul, List.range_add, List.map_append]
    congr 1
    apply List.ext_getElem?
    intro j
    by_cases hj : j < zs.length
    · have : (n * zs.length + j) % zs.length = j := by rw [Nat.add_comm, Nat.add_mul_mod_self_right, Nat.mod_eq_of_lt hj]
      simp [this, hj]
    · simp [hj]
theorem rep_all3 {R : Value → CV Δ → List Nat → Prop} {vs : List Value} {cs : List (CV Δ)} {Fs : List (List Nat)} (hh : All3 R vs cs Fs) : ∀ n, All3 R (List.replicate n vs).flatten (List.replicate n cs).flatten (List.replicate n Fs).flatten
  | 0 => by simpa using All3.nil
  | n + 1 => by simp only [List.replicate_succ, List.flatten_cons]; exact hh.append (rep_all3 hh n)

theorem op_makeSlice_ok (pok : Pok X P) {t e : Nat} {i te : TI} (ht : TIok P Δ i t) (hd : i.d = .slice e) (hte : TIok P Δ te e) (hteok : teOk X te = true) (H : HRel X σ F h w) {used : List Nat} (hused : ∀ o, σ o ≠ none → isIn used o = true)
    {dst : Option Nat} {deep : Bool} {la ca : AV Δ} {lv cv : Value} (hl : AR X h σ w (Sof F w) lv la) (hc : AR X h σ w (Sof F w) cv ca)
    {gs : List Bool} {ef : Eff Δ} (he : opMakeSlice X deep used dst te la ca = some (gs, ef)) (hgs : ∀ g ∈ gs, g = true) :
    OpOk X ((do Pure.pure (Next.value (← Instr.makeSlice t lv cv)) : Sem Next).run P w) σ F h w ef := by
  have hu := ht.und
  rw [hd] at hu
  have hu : P.underlying t = some (.slice e) := hu
  simp only [teOk, Bool.and_eq_true] at hteok
  have hksz : ksz X te.kd = te.sz := Nat.eq_of_beq_eq_true hteok.1.2
  have hbytes : te.bytes ≤ 1000 := Nat.le_of_ble_eq_true hteok.1.1
  unfold opMakeSlice at he
  split at he
  · rename_i kl n kc m
    split at he
    · cases he
    · rename_i zs hzs
      split at he
      · cases he
      · rename_i z hz
        obtain ⟨rfl, rfl⟩ : lv = .int kl n ∧ cv = .int kc m := ⟨((Rel.int X).1 hl).1, ((Rel.int X).1 hc).1⟩
        obtain ⟨_, _, _, _, hgeq, _⟩ := newObj_some he
        rw [hgeq] at hgs
        have g1 : n = m := by simpa using hgs (decide (n = m)) (by simp)
        have g2 : 0 ≤ n := by simpa using hgs (decide (0 ≤ n)) (by simp)
        have g3 : n < most := by simpa using hgs (decide (n < most)) (by simp)
        subst g1
        obtain ⟨inf, zv, i1, i2, i3, i4, i5⟩ := hte.inf
        have hzall := ofVals_ok (X := X) (h := h) (σ := σ) (w := w) (S := Sof F w) hzs
        have hcz := ofCells_cells pok.xok hz
        have hzl : te.zero.length = ksz X te.kd := by
          have := hzall.length
          have hn := (NN_norm (kcs X te.kd) zs).length
          rw [← cells_len pok.xok te.kd z, hcz]; omega
        have hpos := ksz_pos (X := X) pok.xok te.kd
        have hsz : zv.cells.size = te.sz := by rw [← Array.length_toList, i5, hzl, hksz]
        unfold most at g3
        have hwrap : IntKind.i64.wrap n = n := by
          unfold IntKind.wrap
          simp [IntKind.bits, IntKind.signed]
          omega
        have hb1 : ¬ (te.bytes : Int) * n > 2 ^ 48 := by
          have : (te.bytes : Int) * n ≤ 1000 * 68719476736 := Int.mul_le_mul (by omega) (by omega) g2 (by omega)
          omega
        obtain ⟨nn, rfl⟩ : ∃ k : Nat, n = k := ⟨n.toNat, by omega⟩
        have hrun : (Instr.makeSlice t (.int kl nn) (.int kc nn)).run P w = .ok (.slice (some ⟨w.heap.size, 0, none⟩) nn nn)
            (w.alloc (.cells ((Array.range (nn * te.sz)).map fun j => zv.cells[j % zv.cells.size]!) e)) := by
          have hb2 : ¬ (281474976710656 < (te.bytes : Int) * (nn : Int)) := by simpa using hb1
          have hn0 : ¬ ((nn : Int) < 0) := by omega
          by_cases h0 : nn * te.sz = 0
          · simp [Instr.makeSlice, run_und hu, asInt, asIntOf, typeInfo, i1, i3, hwrap, hb2, hn0, run_size hte, h0, newRow, (show Array.range 0 = #[] from rfl)]
          · simp [Instr.makeSlice, run_und hu, asInt, asIntOf, typeInfo, i1, i3, hwrap, hb2, hn0, run_size hte, h0, newRow, zeroValue, i4]
        have hlist : ((Array.range (nn * te.sz)).map fun j => zv.cells[j % zv.cells.size]!).toList = (List.replicate nn te.zero).flatten := by
          have := rep_cells (X := X) z nn te.zero (by rw [hzl, cells_len pok.xok]) (by omega)
          rw [← this, hzl, hksz, hsz, ← i5]
          simp
        have hFnil : (List.replicate nn ((te.zero).map fun _ => ([] : List Nat))).flatten.flatten = [] := by
          refine flatten_nil fun f hf => ?_
          obtain ⟨L, hL, hf⟩ := List.mem_flatten.1 hf
          rw [List.mem_replicate] at hL
          rw [hL.2] at hf
          simp at hf
          exact hf.2.symm ▸ rfl
        refine arr_new_ok pok.xok H hused he (Fs := (List.replicate nn ((te.zero).map fun _ => ([] : List Nat))).flatten) (c := (Array.range (nn * te.sz)).map fun j => zv.cells[j % zv.cells.size]!) (et := e) (cap := nn) (w0 := w) rfl
          (by simpa using run_v hrun) (by simp) (by rw [hksz]; simp) (by rw [hFnil]; simp) (by rw [hFnil]; simp) ?_
        intro w1 F' hs hsub hds
        rw [hlist, List.length_replicate, Int.toNat_natCast, List.take_of_length_le (by simp [hzl])]
        have e2 : (List.replicate nn z).flatMap (cells X te.kd) = (List.replicate nn (cells X te.kd z)).flatten := by
          rw [List.flatMap, List.map_replicate]
        rw [e2]
        refine rep_all3 ?_ nn
        have hvals : All2 (VR X h σ w1 (Sof F' w1)) te.zero zs := ofVals_ok hzs
        have : All3 (RN X (own1 deep).inner w1 (Sof F' w1)) te.zero zs (te.zero.map fun _ => []) := by
          have hok : ∀ {v : Value} {c : CV Δ}, ofVal v = some c → RN X (own1 deep).inner w1 (Sof F' w1) v c [] := by
            intro v c hc
            unfold ofVal at hc
            split at hc <;> first | (cases hc; done) | skip
            all_goals cases hc
            · exact .inr ((Rel.int X).2 ⟨rfl, rfl⟩)
            · exact .inr ((Rel.bool X).2 ⟨rfl, rfl⟩)
            · rename_i s; exact .inr ((Rel.str X).2 ⟨by cases s; simp, rfl⟩)
            · exact .inl ⟨rfl, rfl, rfl⟩
            · exact .inr ((Rel.errT X).2 ⟨rfl, rfl⟩)
          have gen : ∀ (l : List Value) (cs : List (CV Δ)), ofVals l = some cs → All3 (RN X (own1 deep).inner w1 (Sof F' w1)) l cs (l.map fun _ => []) := by
            intro l
            induction l with
            | nil => intro cs e; simp [ofVals] at e; subst e; exact .nil
            | cons v l ih =>
              intro cs e
              simp only [ofVals] at e
              split at e
              · cases e
              · rename_i c h1
                split at e
                · cases e
                · rename_i cs' h2; cases e; exact .cons (hok h1) (ih _ h2)
          exact gen _ _ hzs
        exact RN_rel this (by rw [hcz]; exact NN_norm _ _) (data_cells pok.xok te.kd z)
  · cases he
end
end Go.Ev

/- What a slice holds, as a source; append. -/
set_option linter.unusedVariables false
set_option linter.unusedSimpArgs false
namespace Go.Ev
variable {Δ : Nat → Type} {X : Cx Δ} {P : Program}
section
variable {σ σ' : Nat → Option Value} {F F' : Nat → List Nat} {h h' : Heap Δ} {w w' : World} {S : Nat → Prop}

/-- a slice's value, and the values it leads to -/
def Src (X : Cx Δ) (w : World) (S : Nat → Prop) (v : Value) (k : Kd) (l : List (k.T Δ)) (m : Own) (news : List Value) (Gs : List (List Nat)) : Prop :=
  ∃ a cap, v = .slice a l.length cap ∧ (∀ j u, news[j]? = some u → ∃ a', a = some a' ∧ w.cell? (a'.add j) = some u) ∧ (a = none → l = []) ∧ All3 (Rel X m w S) news (l.flatMap (cells X k)) Gs

theorem All3.one_cell {m : Own} {V : List Value} {cs : List (CV Δ)} {Gs : List (List Nat)} (hh : All3 (Rel X m w S) V cs Gs) : ∀ u ∈ V, u.oneCell' = true := by
  induction hh with
  | nil => simp
  | cons h1 _ ih =>
    intro u hu
    rcases List.mem_cons.1 hu with rfl | hu
    · exact Rel.one h1
    · exact ih u hu

theorem Src.run (xok : Xok X) {v : Value} {k : Kd} {l : List (k.T Δ)} {m : Own} {news : List Value} {Gs : List (List Nat)} (hs : Src X w S v k l m news Gs) {w0 : World} (h0 : w0.heap = w.heap) :
    (Builtin.lenOf v).run P w0 = .ok l.length w0 ∧ (Builtin.firstCells (ksz X k) l.length v).run P w0 = .ok news.toArray w0 ∧ news.length = l.length * ksz X k ∧ ∀ u ∈ news, u.oneCell' = true := by
  obtain ⟨a, cap, rfl, h1, h2, h3⟩ := hs
  have hl : news.length = l.length * ksz X k := by rw [h3.length.1, flat_len xok]
  refine ⟨rfl, ?_, hl, h3.one_cell⟩
  cases a with
  | none =>
    have := h2 rfl
    subst this
    have : news = [] := List.eq_nil_of_length_eq_zero (by simpa using hl)
    subst this
    simp [Builtin.firstCells]
  | some a =>
    refine run_firstCells_some (P := P) w0 (ksz X k) l.length a l.length cap news hl fun j u hj => ?_
    obtain ⟨a', e, hc⟩ := h1 j u hj
    cases e
    rw [← hc]
    simp [World.cell?, h0]

theorem Rel.src {m : Own} {v : Value} {k : Kd} {l : List (k.T Δ)} {Fv : List Nat} (hr : Rel X m w S v (.shs k l) Fv) :
    ∃ news Gs, Src X w S v k l m.inner news Gs ∧ (∀ b ∈ Gs.flatten, b ∈ Fv) ∧ (Fv.Nodup → Gs.flatten.Nodup) := by
  rcases (Rel.shs_iff X).1 hr with ⟨he, rfl, rfl⟩ | ⟨b, off, cap, c, t, fr, Fs, e1, e2, e3, e4, e5, e6⟩
  · obtain ⟨a, rfl⟩ := he.shape
    exact ⟨[], [], ⟨a, 0, rfl, by simp, by simp, .nil⟩, by simp, by simp⟩
  · refine ⟨_, Fs, ⟨some ⟨b, off, none⟩, cap, e1, fun j u hj => ⟨_, rfl, ?_⟩, by simp, e6⟩, fun y hy => ?_, fun hn => ?_⟩
    · rw [add_off _ _ rfl]
      rw [List.getElem?_take] at hj
      split at hj
      · have : c[off + j]? = some u := by simpa [List.getElem?_drop] using hj
        simp [World.cell?, e2, this]
      · cases hj
    · cases m with
      | sh => rw [e5.2]; exact hy
      | _ => rw [e5.2]; simp [hy]
    · cases m with
      | sh => rw [← e5.2]; exact hn
      | _ => rw [e5.2] at hn; exact (List.nodup_cons.1 hn).2

theorem Src.any (xok : Xok X) {v : Value} {k : Kd} {l : List (k.T Δ)} {m m' : Own} {news : List Value} {Gs : List (List Nat)} (hs : Src X w S v k l m news Gs) (hf : flat X k = true) : Gs.flatten = [] ∧ Src X w S v k l m' news Gs := by
  obtain ⟨a, cap, h1, h2, h3, h4⟩ := hs
  refine ⟨?_, a, cap, h1, h2, h3, flat_dp xok hf (fun _ h => h) h4⟩
  have := flat_dp (m' := .sh) xok hf (fun _ h => h) h4
  refine flatten_nil fun g hg => ?_
  obtain ⟨j, hj⟩ := List.getElem?_of_mem hg
  have hjl : j < (l.flatMap (cells X k)).length := by have := (List.getElem?_eq_some_iff.1 hj).1; have := this; have := h4.length.2; omega
  obtain ⟨_, g', _, hg', hr⟩ := this.get (List.getElem?_eq_getElem hjl)
  rw [hj] at hg'; cases hg'
  exact hr.sh_nil

theorem flat_take (xok : Xok X) (k : Kd) (l : List (k.T Δ)) (n : Nat) : (l.take n).flatMap (cells X k) = (l.flatMap (cells X k)).take (n * ksz X k) := by
  induction l generalizing n with
  | nil => simp
  | cons a l ih =>
    cases n with
    | zero => simp
    | succ n =>
      rw [List.take_succ_cons, List.flatMap_cons, List.flatMap_cons, ih, List.take_append, cells_len xok, Nat.succ_mul, List.take_of_length_le (l := cells X k a) (by rw [cells_len xok]; omega), Nat.add_sub_cancel]
theorem flat_sub (xok : Xok X) (k : Kd) (l : List (k.T Δ)) (lo hi : Int) : (sub l lo hi).flatMap (cells X k) = ((l.flatMap (cells X k)).drop (lo.toNat * ksz X k)).take ((hi - lo).toNat * ksz X k) := by
  rw [sub, flat_take xok, ← flat_drop xok]
theorem sub_len {α : Type} (l : List α) {lo hi : Int} (h0 : 0 ≤ lo) (h1 : lo ≤ hi) (h2 : hi ≤ l.length) : (sub l lo hi).length = (hi - lo).toNat := by
  simp [sub]; omega

/-- a part of a slice -/
theorem Src.sub (xok : Xok X) {a : Option Addr} {cap : Nat} {k : Kd} {l : List (k.T Δ)} {m : Own} {news : List Value} {Gs : List (List Nat)} (hs : Src X w S (.slice a l.length cap) k l m news Gs) (hsp : ∀ x, a = some x → x.spot = none) {lo hi : Int} (h0 : 0 ≤ lo) (h1 : lo ≤ hi) (h2 : hi ≤ l.length) (hcap : l.length ≤ cap) :
    Src X w S (.slice (if cap = lo.toNat then a else a.map (·.add (lo.toNat * ksz X k))) (hi.toNat - lo.toNat) (cap - lo.toNat)) k (Ev.sub l lo hi) m ((news.drop (lo.toNat * ksz X k)).take ((hi - lo).toNat * ksz X k)) ((Gs.drop (lo.toNat * ksz X k)).take ((hi - lo).toNat * ksz X k)) := by
  obtain ⟨a', cap', e, g1, g2, g3⟩ := hs
  cases e
  have hsl := sub_len l h0 h1 h2
  have hlen : (Ev.sub l lo hi).length = hi.toNat - lo.toNat := by omega
  refine ⟨_, _, by rw [hlen], fun j u hj => ?_, fun hn => ?_, ?_⟩
  · have hj2 : news[lo.toNat * ksz X k + j]? = some u := by
      rw [List.getElem?_take] at hj
      split at hj
      · simpa [List.getElem?_drop] using hj
      · cases hj
    have hjl : j < (hi - lo).toNat * ksz X k := by
      rw [List.getElem?_take] at hj
      split at hj
      · assumption
      · cases hj
    obtain ⟨x, rfl, hc⟩ := g1 _ _ hj2
    have hne : ¬ cap = lo.toNat := by
      intro e
      have : (hi - lo).toNat = 0 := by omega
      rw [this] at hjl; omega
    refine ⟨_, by rw [if_neg hne]; rfl, ?_⟩
    have hx := hsp x rfl
    show w.cell? ((x.add (lo.toNat * ksz X k)).add j) = some u
    rw [add_off x _ hx] at hc
    rw [add_off x _ hx, add_off _ _ rfl]
    simp only [Nat.add_assoc] at hc ⊢
    exact hc
  · split at hn
    · have := g2 hn; subst this; simp [Ev.sub]
    · cases a with
      | none => have := g2 rfl; subst this; simp [Ev.sub]
      | some x => simp at hn
  · rw [flat_sub xok]
    exact (g3.drop _).take _

/-- own slices read as shared ones: what they lead to -/
theorem lend_src (xok : Xok X) (H : HRel X σ F h w) {v : Value} {c : CV Δ} (hv : VR X h σ w (Sof F w) v c) {k : Kd} {l : List (k.T Δ)} {os : List Nat} (hl : lendC X h c = some (.shs k l, os)) :
    ∃ m news Gs, Src X w (Sof F w) v k l m news Gs ∧ (os = [] → m = .sh ∧ Gs.flatten = []) ∧ (∀ b ∈ Gs.flatten, ∃ o ∈ os, b ∈ F o) := by
  cases c with
  | own o =>
    simp only [lendC] at hl
    split at hl
    · rename_i d k' l' ver hg
      cases hl
      obtain ⟨rv, r1, r2⟩ := H.ob o _ hg
      rw [show σ o = some v from hv] at r1; cases r1
      obtain ⟨news, Gs, s1, s2, s3⟩ := r2.src
      exact ⟨_, news, Gs, s1, by simp, fun b hb => ⟨o, by simp, s2 b hb⟩⟩
    · cases hl
  | ovw o k0 lo hi =>
    simp only [lendC] at hl
    split at hl
    · rename_i d k' l' ver hg
      split at hl
      · rename_i hk
        have hk : k0 = k' := by simpa using hk
        subst hk
        cases hl
        obtain ⟨rv, r1, r2⟩ := H.ob o _ hg
        obtain ⟨h0, h1, a, len, cap, h2, h3, h4⟩ := hv
        rw [h2] at r1; cases r1
        obtain ⟨news, Gs, s1, s2, s3⟩ := r2.src
        have hshape : len = l'.length ∧ (l'.length ≤ cap) ∧ ∀ x, a = some x → x.spot = none := by
          rcases (Rel.shs_iff X).1 r2 with ⟨e, rfl, _⟩ | ⟨b, off, cap', c, t, fr, Fs, e1, e2, e3, e4, e5, e6⟩
          · cases (Emp.own e); simp
          · cases e1; exact ⟨rfl, e4, fun x hx => by cases hx; rfl⟩
        obtain ⟨rfl, hcap, hsp⟩ := hshape
        subst h4
        have hs := Src.sub xok s1 hsp h0 h1 h3 hcap
        refine ⟨_, _, _, hs, by simp, fun b hb => ⟨o, by simp, s2 b ?_⟩⟩
        obtain ⟨f, hf, hb⟩ := List.mem_flatten.1 hb
        exact List.mem_flatten.2 ⟨f, List.mem_of_mem_drop (List.mem_of_mem_take hf), hb⟩
      · cases hl
    · cases hl
  | dsl o ver' k' i off =>
    simp only [lendC] at hl
    split at hl
    · rename_i k0 l0 ver hg
      split at hl
      · rename_i k2 l2 hk hver hx
        have hk : k' = k0 := by simpa using hk
        have hver := Nat.eq_of_beq_eq_true hver
        subst hk hver
        cases hl
        obtain ⟨_, _, hv2⟩ := hv
        obtain ⟨h0, h1, b, base, len, cap, h2, h3⟩ := (hv2 l0 ver' hg).2 rfl
        obtain ⟨F2, r1, r2⟩ := nested_open xok H hg h0 h1 hx h2 h3
        obtain ⟨news, Gs, s1, s2, s3⟩ := r1.src
        exact ⟨_, news, Gs, s1, by simp, fun b hb => ⟨o, by simp, r2 b (s2 b hb)⟩⟩
      · cases hl
    · cases hl
  | shs k l =>
    simp only [lendC] at hl
    cases hl
    obtain ⟨news, Gs, s1, s2, s3⟩ := Rel.src (X := X) hv
    have : Gs.flatten = [] := List.eq_nil_iff_forall_not_mem.2 fun b hb => by have := s2 b hb; simp at this
    exact ⟨_, news, Gs, s1, fun _ => ⟨rfl, this⟩, by rw [this]; simp⟩
  | _ => simp [lendC] at hl

theorem asList_src (xok : Xok X) (H : HRel X σ F h w) {v : Value} {a : AV Δ} (hv : AR X h σ w (Sof F w) v a) {s : Lst Δ} (hl : asList X h a = some s) :
    ∃ m news Gs, Src X w (Sof F w) v s.k s.l m news Gs ∧ (s.os = [] → m = .sh ∧ Gs.flatten = []) ∧ (∀ b ∈ Gs.flatten, ∃ o ∈ s.os, b ∈ F o) := by
  unfold asList at hl
  split at hl
  · rename_i c
    split at hl
    · rename_i k l os hc
      cases hl
      exact lend_src xok H hv hc
    · cases hl
  · cases hl
end
end Go.Ev

/- append. -/
set_option linter.unusedVariables false
set_option linter.unusedSimpArgs false
namespace Go.Ev
variable {Δ : Nat → Type} {X : Cx Δ} {P : Program}
section
variable {σ σ' : Nat → Option Value} {F F' : Nat → List Nat} {h h' : Heap Δ} {w w' : World} {S : Nat → Prop}

theorem append_room {st xt e e2 : Nat} {te : TI} {argTypes : Array TypeId} {ty : TypeId} (a0 : argTypes[0]? = some st) (a1 : argTypes[1]? = some xt) (hst : P.underlying st = some (.slice e)) (hxt : P.underlying xt = some (.slice e2)) (hte : TIok P Δ te e)
    {g o sLen sCap n : Nat} {cur : Array Value} {et : TypeId} (hg : w.heap[g]? = some (.cells cur et (0, 0))) {bv : Value} {news : List Value} (hn : (Builtin.lenOf bv).run P w = .ok n w) (hf : (Builtin.firstCells te.sz n bv).run P w = .ok news.toArray w)
    (hroom : sLen + n ≤ sCap) (hfit : o + sLen * te.sz + news.length ≤ cur.size) (h1 : ∀ u ∈ news, u.oneCell' = true) :
    (Builtin.append_ argTypes ty #[.slice (some ⟨g, o, none⟩) sLen sCap, bv]).run P w = .ok (.slice (some ⟨g, o, none⟩) (sLen + n) sCap) (w.setRow g (setAt cur.toList (o + sLen * te.sz) news).toArray) := by
  have hst2 := run_storeCells_at P g (o + sLen * te.sz) et news 0 cur w hg (by simpa using hfit) h1
  simp only [Nat.add_zero] at hst2
  rw [← setAt_eq _ _ _ (by simpa using hfit)] at hst2
  simp [Builtin.append_, a0, a1, run_und hst, run_und hxt, run_size hte, hn, hroom, hf, add_off, hst2]
theorem append_none {st xt e e2 : Nat} {te : TI} {argTypes : Array TypeId} {ty : TypeId} (a0 : argTypes[0]? = some st) (a1 : argTypes[1]? = some xt) (hst : P.underlying st = some (.slice e)) (hxt : P.underlying xt = some (.slice e2)) (hte : TIok P Δ te e)
    {bv : Value} (hn : (Builtin.lenOf bv).run P w = .ok 0 w) (hf : (Builtin.firstCells te.sz 0 bv).run P w = .ok #[] w) :
    (Builtin.append_ argTypes ty #[.slice none 0 0, bv]).run P w = .ok (.slice none 0 0) w := by
  simp [Builtin.append_, a0, a1, run_und hst, run_und hxt, run_size hte, hn, hf]
theorem append_grow {st xt e e2 : Nat} {te : TI} {argTypes : Array TypeId} {ty : TypeId} (a0 : argTypes[0]? = some st) (a1 : argTypes[1]? = some xt) (hst : P.underlying st = some (.slice e)) (hxt : P.underlying xt = some (.slice e2)) (hte : TIok P Δ te e) (hz : te.zero.length = te.sz)
    {a : Option Addr} {sLen sCap n : Nat} {bv : Value} {olds news : List Value} (hn : (Builtin.lenOf bv).run P w = .ok n w) (hf : (Builtin.firstCells te.sz n bv).run P w.drew = .ok news.toArray w.drew)
    (ho : (Builtin.firstCells te.sz sLen (.slice a sLen sCap)).run P w.drew = .ok olds.toArray w.drew) (hroom : sCap < sLen + n) (hm : sLen + n < most) (hb : te.bytes ≤ 1000) :
    ∃ cap rest, sLen + n ≤ cap ∧ rest.length = (cap - (sLen + n)) * te.sz ∧ (Builtin.append_ argTypes ty #[.slice a sLen sCap, bv]).run P w = .ok (.slice (some ⟨w.heap.size, 0, none⟩) (sLen + n) cap) (w.drew.alloc (.cells (olds ++ news ++ rest).toArray e)) := by
  obtain ⟨inf, z, i1, i2, i3, i4, i5⟩ := hte.inf
  have hbm : (sLen + n) * te.bytes ≤ 68719476736 * 1000 := Nat.mul_le_mul (Nat.le_of_lt hm) hb
  have hfit := growslice_fits (need := sLen + n) (old := sCap) (bytes := te.bytes) hroom (by omega)
  have h1 : ¬ (sLen + n ≤ sCap) := by omega
  have h63 : ¬ (9223372036854775807 < ((sLen : Int) + (n : Int))) := by unfold most at hm; omega
  have h48 : ¬ (281474976710656 < Builtin.nextslicecap (sLen + n) sCap * te.bytes) := by omega
  refine ⟨grownCap w (sLen + n) sCap e, (Builtin.zeroCells z.cells (grownCap w (sLen + n) sCap e - (sLen + n))).toList, grownCap_ge w _ _ _, ?_, ?_⟩
  · rw [Array.length_toList, size_zeroCells, ← Array.length_toList, i5, hz]
  · simp [Builtin.append_, a0, a1, run_und hst, run_und hxt, run_size hte, hn, h1, typeInfo, i1, i3, h63, h48, Question.forced, ho, hf, zeroValue, i4, newRow, grownCap]
    congr 2
    apply Array.ext'
    simp

theorem All3.of_append {α β γ : Type} {R : α → β → γ → Prop} {as : List α} {bs : List β} {cs : List γ} (h : All3 R as bs cs) : True := trivial

/-- an append onto what is owned (or nil) -/
theorem append_core (pok : Pok X P) {st xt e e2 : Nat} {te : TI} {argTypes : Array TypeId} {ty : TypeId} (a0 : argTypes[0]? = some st) (a1 : argTypes[1]? = some xt) (hst : P.underlying st = some (.slice e)) (hxt : P.underlying xt = some (.slice e2)) (hte : TIok P Δ te e) (hteok : teOk X te = true)
    (hz : te.zero.length = te.sz) (H : HRel X σ F h w) {used : List Nat} (hused : ∀ o, σ o ≠ none → isIn used o = true) {dst : Option Nat} {dp : Bool} {l l' : List (te.kd.T Δ)} {dels : List Nat} {g gs : List Bool} {reads : List Nat} {ef : Eff Δ}
    (he : newObj used dst CV.own (.arr dp te.kd (l ++ l') 0) dels g reads = some (gs, ef)) {sv bv : Value} {Fp : List Nat} (hbase : Rel X (own1 dp) w (Sof F w) sv (.shs te.kd l) Fp) (hFp : ∀ b ∈ Fp, ∃ o ∈ dels, b ∈ F o) (hFpn : Fp.Nodup)
    {m2 : Own} {news : List Value} {Gs Gs' : List (List Nat)} (hsrc : Src X w (Sof F w) bv te.kd l' m2 news Gs) (hGs : ∀ b ∈ Gs'.flatten, ∃ o ∈ dels, b ∈ F o) (hGn : Gs'.flatten.Nodup) (hdis : ∀ b ∈ Fp, b ∉ Gs'.flatten) (hGl : Gs'.length = l'.length * ksz X te.kd) (hm : l.length + l'.length < most)
    (hrel : ∀ (w1 : World) (F' : Nat → List Nat) (g : Nat), (∀ b, b < w.heap.size → b ∉ Fp → w1.heap[b]? = w.heap[b]?) → (∀ b, Sof F w b → Sof F' w1 b) →
      (∀ o ∈ dels, ∀ b ∈ F o, b ∉ Fp → b ∉ Gs'.flatten → Sof F' w1 b) → All3 (Rel X (own1 dp).inner w1 (Sof F' w1)) news (l'.flatMap (cells X te.kd)) Gs') :
    OpOk X ((do Pure.pure (Next.value (← Builtin.append_ argTypes ty #[sv, bv])) : Sem Next).run P w) σ F h w ef := by
  have hteok' := hteok
  simp only [teOk, Bool.and_eq_true] at hteok
  have hksz : ksz X te.kd = te.sz := Nat.eq_of_beq_eq_true hteok.1.2
  have hbytes : te.bytes ≤ 1000 := Nat.le_of_ble_eq_true hteok.1.1
  obtain ⟨r1, r2, r3, r4⟩ := hsrc.run (P := P) pok.xok (w0 := w) rfl
  obtain ⟨q1, q2, _, _⟩ := hsrc.run (P := P) pok.xok (w0 := w.drew) rfl
  rw [hksz] at r2 q2
  -- the growing case
  have grow : ∀ (a : Option Addr) (sCap : Nat) (olds : List Value) (Fs : List (List Nat)), sv = .slice a l.length sCap → (Builtin.firstCells te.sz l.length (.slice a l.length sCap)).run P w.drew = .ok olds.toArray w.drew → sCap < l.length + l'.length →
      All3 (Rel X (own1 dp).inner w (Sof F w)) olds (l.flatMap (cells X te.kd)) Fs → (∀ b ∈ Fs.flatten, b ∈ Fp) → Fs.flatten.Nodup → OpOk X ((do Pure.pure (Next.value (← Builtin.append_ argTypes ty #[sv, bv])) : Sem Next).run P w) σ F h w ef := by
    intro a sCap olds Fs hsv hfo hcap hall hFs hFsn
    subst hsv
    obtain ⟨cap, rest, c1, c2, c3⟩ := append_grow (P := P) (w := w) a0 a1 hst hxt hte hz r1 q2 hfo hcap hm hbytes
    have hol : olds.length = l.length * te.sz := by rw [hall.length.1, flat_len pok.xok, hksz]
    have hnl : news.length = l'.length * te.sz := by rw [r3, hksz]
    have hbad : ∀ b ∈ (Fs ++ Gs').flatten, ∃ o ∈ dels, b ∈ F o := fun b hb => by
      rw [List.flatten_append] at hb
      rcases List.mem_append.1 hb with hb | hb
      · exact hFp b (hFs b hb)
      · exact hGs b hb
    have hnd : (Fs ++ Gs').flatten.Nodup := by
      rw [List.flatten_append]
      exact List.nodup_append.2 ⟨hFsn, hGn, fun x hx y hy e => hdis x (hFs x hx) (e ▸ hy)⟩
    refine arr_new_ok pok.xok H hused he (Fs := Fs ++ Gs') (c := (olds ++ news ++ rest).toArray) (et := e) (cap := cap) (w0 := w.drew) rfl (by simpa using run_v c3) (by simpa using c1) ?_ hnd hbad ?_
    · rw [hksz]; simp [hol, hnl, c2]
      rw [← Nat.add_mul, ← Nat.add_mul]
      exact Nat.mul_le_mul_right _ (by omega)
    · intro w1 F' hs hsub hds
      have hsz : (l ++ l').length * ksz X te.kd = (olds ++ news).length := by simp [hol, hnl, hksz, Nat.add_mul]
      have e1 : ((olds ++ news ++ rest).toArray.toList.take ((l ++ l').length * ksz X te.kd)) = olds ++ news := by
        rw [hsz]
        show List.take _ (olds ++ news ++ rest) = _
        exact List.take_left
      rw [e1, List.flatMap_append]
      refine All3.append ?_ ?_
      · refine hall.mono fun a c f hf hr => Rel.frame X (fun b hb => hs b hb.1) hsub (fun b hb => ?_) hr
        obtain ⟨o, _, hb⟩ := hFp b (hFs b (List.mem_flatten.2 ⟨f, hf, hb⟩))
        exact hs b (H.bd o b hb)
      · refine hrel w1 F' 0 (fun b hb _ => hs b hb) hsub fun o ho b hb hn1 hn2 => hds o ho b hb ?_
        have := H.bd o b hb
        simp only [List.mem_cons, List.flatten_append, List.mem_append, not_or]
        exact ⟨by omega, fun e => hn1 (hFs b e), hn2⟩
  rcases (Rel.shs_iff X).1 hbase with ⟨e0, rfl, rfl⟩ | ⟨b, off, cap, c, t, fr, Fs, e1, e2, e3, e4, e5, e6⟩
  · -- nil
    obtain rfl := Emp.own e0
    by_cases hn0 : l'.length = 0
    · have hl0 : l' = [] := List.eq_nil_of_length_eq_zero hn0
      subst hl0
      have hnews : news = [] := List.eq_nil_of_length_eq_zero (by simpa using r3)
      subst hnews
      have hrun := append_none (P := P) (w := w) (ty := ty) a0 a1 hst hxt hte (bv := bv) (by simpa using r1) (by simpa using r2)
      refine new_ok H hused he (run_v hrun) rfl (Fn := []) (Nat.le_refl _) (fun _ _ _ => rfl) (by simp) (by simp) (fun id h' σ' F' vr sub hds hs => ⟨_, hs, (Rel.shs_iff X).2 (.inl ⟨.inl rfl, by simp, rfl⟩)⟩) (fun id h' σ' S' hs => hs)
    · exact grow none 0 [] [] rfl (by simp [Builtin.firstCells]) (by simp; omega) .nil (by simp) (by simp)
  · subst e1
    have e5' : fr = (0, 0) ∧ Fp = b :: Fs.flatten := by cases dp <;> exact e5
    obtain ⟨rfl, rfl⟩ := e5'
    have holds : ∀ j u, ((c.toList.drop off).take (l.length * ksz X te.kd))[j]? = some u → w.cell? ((⟨b, off, none⟩ : Addr).add j) = some u := by
      intro j u hj
      rw [add_off _ _ rfl]
      rw [List.getElem?_take] at hj
      split at hj
      · have : c[off + j]? = some u := by simpa [List.getElem?_drop] using hj
        simp [World.cell?, e2, this]
      · cases hj
    have hol : ((c.toList.drop off).take (l.length * ksz X te.kd)).length = l.length * te.sz := by rw [e6.length.1, flat_len pok.xok, hksz]
    have hnl : news.length = l'.length * te.sz := by rw [r3, hksz]
    by_cases hroom : l.length + l'.length ≤ cap
    · -- room
      have hfit : off + l.length * te.sz + news.length ≤ c.size := by
        have : (l.length + l'.length) * te.sz ≤ cap * te.sz := Nat.mul_le_mul_right _ hroom
        rw [Nat.add_mul] at this
        rw [hksz] at e3
        omega
      have hrun := append_room (P := P) (w := w) (ty := ty) a0 a1 hst hxt hte e2 r1 r2 hroom hfit r4
      obtain ⟨hbn, hFsn⟩ := List.nodup_cons.1 hFpn
      have hsz : (w.setRow b (setAt c.toList (off + l.length * te.sz) news).toArray).heap.size = w.heap.size := heap_setRow ..
      have hother : ∀ y, y ≠ b → (w.setRow b (setAt c.toList (off + l.length * te.sz) news).toArray).heap[y]? = w.heap[y]? := fun y hy => setRow_other w b y _ hy
      have hrow := setRow_heap w b c (setAt c.toList (off + l.length * te.sz) news).toArray t (0, 0) e2
      have hnd : (b :: (Fs ++ Gs').flatten).Nodup := by
        rw [List.flatten_append]
        refine List.nodup_cons.2 ⟨fun hb => ?_, List.nodup_append.2 ⟨hFsn, hGn, fun x hx y hy e => hdis x (by simp [hx]) (e ▸ hy)⟩⟩
        rcases List.mem_append.1 hb with hb | hb
        · exact hbn hb
        · exact hdis b (by simp) hb
      refine new_ok H hused he (run_v hrun) rfl (Fn := b :: (Fs ++ Gs').flatten) (Nat.le_of_eq hsz.symm) (fun y _ hy => hother y fun e => ?_) (fun y hy => ?_) hnd (fun id h' σ' F' vr sub hds hs => ?_) (fun id h' σ' S' hs => hs)
      · subst e
        obtain ⟨o, ho, hb⟩ := hFp y (by simp)
        exact hy o ho hb
      · rw [List.flatten_append] at hy
        have : ∃ o ∈ dels, y ∈ F o := by
          rcases List.mem_cons.1 hy with rfl | hy
          · exact hFp _ (by simp)
          · rcases List.mem_append.1 hy with hy | hy
            · exact hFp _ (by simp [hy])
            · exact hGs _ hy
        obtain ⟨o, ho, hb⟩ := this
        exact ⟨by rw [hsz]; exact H.bd o y hb, .inl ⟨o, ho, hb⟩⟩
      · have hSb : ∀ y, Sof F w y → y ≠ b := fun y hy e => by
          obtain ⟨o, _, hb⟩ := hFp b (by simp)
          exact hy.2 o (e ▸ hb)
        refine ⟨_, hs, (Rel.shs_iff X).2 (.inr ⟨b, off, cap, _, t, (0, 0), Fs ++ Gs', by simp, hrow, by simpa [setAt_len] using e3, by simpa using hroom, ?_, ?_⟩)⟩
        · cases dp <;> exact ⟨rfl, rfl⟩
        · have hV : (((setAt c.toList (off + l.length * te.sz) news).drop off).take ((l ++ l').length * ksz X te.kd)) = (c.toList.drop off).take (l.length * ksz X te.kd) ++ news := by
            rw [setAt_drop _ _ _ _ (by simpa using hfit), setAt_eq _ _ _ (by simp; omega), hksz]
            rw [List.append_assoc, List.take_append]
            rw [show (List.take (l.length * te.sz) (List.drop off c.toList)).length = l.length * te.sz by rw [← hksz]; rw [hksz]; exact (hksz ▸ hol)]
            rw [List.take_of_length_le (by rw [show (List.take (l.length * te.sz) (List.drop off c.toList)).length = l.length * te.sz from (hksz ▸ hol)]; simp [Nat.add_mul]), show (l ++ l').length * te.sz - l.length * te.sz = news.length by simp [Nat.add_mul, hnl], List.take_left']
            rfl
          simp only [hV, List.flatMap_append]
          refine All3.append ?_ ?_
          · exact e6.mono fun a x f hf hr => Rel.frame X (fun y hy => hother y (hSb y hy)) sub (fun y hy => hother y fun e => hbn (e ▸ List.mem_flatten.2 ⟨f, hf, hy⟩)) hr
          · exact hrel _ F' 0 (fun y hy hn => hother y fun e => hn (by simp [e])) sub fun o ho y hy hn1 hn2 => hds o ho y hy (by
              simp only [List.mem_cons, List.flatten_append, List.mem_append, not_or] at hn1 ⊢
              exact ⟨hn1.1, hn1.2, hn2⟩)
    · refine grow (some ⟨b, off, none⟩) cap _ Fs rfl ?_ (by omega) e6 (fun y hy => by simp [hy]) (List.nodup_cons.1 hFpn).2
      exact run_firstCells_some (P := P) w.drew te.sz l.length ⟨b, off, none⟩ l.length cap _ hol (fun j u hj => holds j u hj)
end
end Go.Ev

/- append, case by case. -/
set_option linter.unusedVariables false
set_option linter.unusedSimpArgs false
namespace Go.Ev
variable {Δ : Nat → Type} {X : Cx Δ} {P : Program}
section
variable {σ σ' : Nat → Option Value} {F F' : Nat → List Nat} {h h' : Heap Δ} {w w' : World} {S : Nat → Prop}

theorem all3_nils {α β : Type} {R : α → β → List Nat → Prop} {V : List α} {cs : List β} {Gs : List (List Nat)} (hh : All3 (fun a c _ => R a c []) V cs Gs) : All3 R V cs (Gs.map fun _ => []) := by
  induction hh with
  | nil => exact .nil
  | cons h1 _ ih => exact .cons h1 ih
/-- how what is appended fits into the array -/
def Fit (X : Cx Δ) (w : World) (F : Nat → List Nat) (dp : Bool) (dels : List Nat) (Fp : List Nat) (k : Kd) (l' : List (k.T Δ)) (news : List Value) : Prop :=
  ∃ Gs', (∀ b ∈ Gs'.flatten, ∃ o ∈ dels, b ∈ F o) ∧ Gs'.flatten.Nodup ∧ (∀ b ∈ Fp, b ∉ Gs'.flatten) ∧ Gs'.length = l'.length * ksz X k ∧
    ∀ (w1 : World) (F' : Nat → List Nat) (g : Nat), (∀ b, b < w.heap.size → b ∉ Fp → w1.heap[b]? = w.heap[b]?) → (∀ b, Sof F w b → Sof F' w1 b) →
      (∀ o ∈ dels, ∀ b ∈ F o, b ∉ Fp → b ∉ Gs'.flatten → Sof F' w1 b) → All3 (Rel X (own1 dp).inner w1 (Sof F' w1)) news (l'.flatMap (cells X k)) Gs'
theorem fitA (xok : Xok X) (H : HRel X σ F h w) {dp : Bool} {dels Fp : List Nat} (hFp : ∀ b ∈ Fp, ∃ o ∈ dels, b ∈ F o) {k : Kd} {l' : List (k.T Δ)} {news : List Value} {Gs : List (List Nat)} {bv : Value}
    (hs : Src X w (Sof F w) bv k l' (own1 dp).inner news Gs) (hG : Gs.flatten = []) : Fit X w F dp dels Fp k l' news := by
  obtain ⟨a, cap, _, _, _, hall⟩ := hs
  refine ⟨Gs, by rw [hG]; simp, by rw [hG]; simp, by rw [hG]; simp, by rw [hall.length.2, flat_len xok], fun w1 F' g hsm hsub _ => ?_⟩
  refine hall.mono fun a c f hf hr => Rel.frame X (fun b hb => hsm b hb.1 fun hbp => ?_) hsub (fun b hb => ?_) hr
  · obtain ⟨o, _, ho⟩ := hFp b hbp; exact hb.2 o ho
  · have : b ∈ Gs.flatten := List.mem_flatten.2 ⟨f, hf, hb⟩
    rw [hG] at this; simp at this
theorem fitB (xok : Xok X) (H : HRel X σ F h w) {dels Fp : List Nat} (hFp : ∀ b ∈ Fp, ∃ o ∈ dels, b ∈ F o) {k : Kd} {l' : List (k.T Δ)} {news : List Value} {Gs : List (List Nat)} {bv : Value} {q : Nat}
    (hs : Src X w (Sof F w) bv k l' .dp news Gs) (hG : ∀ b ∈ Gs.flatten, b ∈ F q) (hn : Gs.flatten.Nodup) (hq : q ∈ dels) (hd : ∀ b ∈ Fp, b ∉ F q) : Fit X w F true dels Fp k l' news := by
  obtain ⟨a, cap, _, _, _, hall⟩ := hs
  refine ⟨Gs, fun b hb => ⟨q, hq, hG b hb⟩, hn, fun b hb hb' => hd b hb (hG b hb'), by rw [hall.length.2, flat_len xok], fun w1 F' g hsm hsub _ => ?_⟩
  refine hall.mono fun a c f hf hr => Rel.frame X (fun b hb => hsm b hb.1 fun hbp => ?_) hsub (fun b hb => ?_) hr
  · obtain ⟨o, _, ho⟩ := hFp b hbp; exact hb.2 o ho
  · have : b ∈ F q := hG b (List.mem_flatten.2 ⟨f, hf, hb⟩)
    exact hsm b (H.bd q b this) fun hbp => hd b hbp this
theorem fitC (xok : Xok X) (H : HRel X σ F h w) {dels Fp : List Nat} (hFp : ∀ b ∈ Fp, ∃ o ∈ dels, b ∈ F o) {k : Kd} {l' : List (k.T Δ)} {news : List Value} {Gs : List (List Nat)} {bv : Value} {q : Nat} {m : Own}
    (hs : Src X w (Sof F w) bv k l' m news Gs) (hG : ∀ b ∈ Gs.flatten, b ∈ F q) (hq : q ∈ dels) (hd : ∀ b ∈ Fp, b ∉ F q) : Fit X w F false dels Fp k l' news := by
  obtain ⟨a, cap, _, _, _, hall⟩ := hs
  have e0 : (Gs.map fun _ => ([] : List Nat)).flatten = [] := flatten_nil (by simp)
  refine ⟨Gs.map fun _ => [], by rw [e0]; simp, by rw [e0]; simp, by rw [e0]; simp, by rw [List.length_map, hall.length.2, flat_len xok], fun w1 F' g hsm hsub hds => ?_⟩
  have hh := hall.mono (R' := fun a c f => Rel X .sh w1 (Sof F' w1) a c []) fun a c f hf hr => by
    have hin : ∀ b ∈ f, b ∈ F q := fun b hb => hG b (List.mem_flatten.2 ⟨f, hf, hb⟩)
    refine (Rel.frame (S' := Sof F' w1) X (fun b hb => hsm b hb.1 fun hbp => ?_) hsub (fun b hb => ?_) hr).share X (fun _ h => h) fun b hb => ?_
    · obtain ⟨o, _, ho⟩ := hFp b hbp; exact hb.2 o ho
    · exact hsm b (H.bd q b (hin b hb)) fun hbp => hd b hbp (hin b hb)
    · exact hds q hq b (hin b hb) (fun hbp => hd b hbp (hin b hb)) (by rw [e0]; simp)
  exact all3_nils hh

theorem castL_some {a b : Kd} {l : List (a.T Δ)} {l' : List (b.T Δ)} (hc : castL a b l = some l') : ∃ e : a = b, l' = e ▸ l := by
  unfold castL at hc
  split at hc
  · rename_i e; cases hc; exact ⟨e, rfl⟩
  · cases hc

/-- what is appended, from an object of its own -/
theorem fit_own (xok : Xok X) (H : HRel X σ F h w) {dp d : Bool} {dels Fp : List Nat} (hFp : ∀ b ∈ Fp, ∃ o ∈ dels, b ∈ F o) {q : Nat} {k : Kd} {l : List (k.T Δ)} {ver : Nat} (hg : hget h q = some (.arr d k l ver)) {bv : Value} (hb : σ q = some bv)
    (hc : (dp && !d && !flat X k) = false) (hdel : (d && !flat X k) = true → q ∈ dels) (hd : ∀ b ∈ Fp, b ∉ F q) : ∃ m news Gs, Src X w (Sof F w) bv k l m news Gs ∧ Fit X w F dp dels Fp k l news := by
  obtain ⟨rv, r1, r2⟩ := H.ob q _ hg
  rw [hb] at r1; cases r1
  obtain ⟨news, Gs, s1, s2, s3⟩ := r2.src
  refine ⟨_, news, Gs, s1, ?_⟩
  cases hf : flat X k with
  | true =>
    obtain ⟨a1, a2⟩ := s1.any xok (m' := (own1 dp).inner) hf
    exact fitA xok H hFp a2 a1
  | false =>
    cases d with
    | true =>
      have hq := hdel (by simp [hf])
      cases dp with
      | true => exact fitB xok H hFp s1 s2 (s3 (H.nd q)) hq hd
      | false => exact fitC xok H hFp s1 s2 hq hd
    | false =>
      cases dp with
      | true => simp [hf] at hc
      | false =>
        have : Gs.flatten = [] := by
          obtain ⟨_, _, _, _, _, hall⟩ := s1
          refine flatten_nil fun g hg => ?_
          obtain ⟨j, hj⟩ := List.getElem?_of_mem hg
          have hjl : j < (l.flatMap (cells X k)).length := by have := (List.getElem?_eq_some_iff.1 hj).1; have := hall.length.2; omega
          obtain ⟨_, g', _, hg', hr⟩ := hall.get (List.getElem?_eq_getElem hjl)
          rw [hj] at hg'; cases hg'
          exact hr.sh_nil
        exact fitA xok H hFp s1 this
/-- a part of an array whose elements are shared, read as a list -/
theorem flatV_src (xok : Xok X) (H : HRel X σ F h w) {v : Value} {a : AV Δ} (hv : AR X h σ w (Sof F w) v a) {s : Lst Δ} (hl : asList X h a = some s) (hf : flatV h a = true) :
    ∃ news Gs, Src X w (Sof F w) v s.k s.l .sh news Gs ∧ Gs.flatten = [] := by
  unfold flatV at hf
  split at hf
  · rename_i o k0 lo hi
    split at hf
    · rename_i k' l' ver hg
      unfold asList lendC at hl
      simp only [hg] at hl
      by_cases hk : k0 = k'
      · subst hk
        simp only [decide_true] at hl
        cases hl
        obtain ⟨rv, r1, r2⟩ := H.ob o _ hg
        obtain ⟨h0, h1, a, len, cap, h2, h3, h4⟩ := hv
        rw [h2] at r1; cases r1
        obtain ⟨news, Gs, s1, s2, s3⟩ := r2.src
        have hshape : len = l'.length ∧ (l'.length ≤ cap) ∧ ∀ x, a = some x → x.spot = none := by
          rcases (Rel.shs_iff X).1 r2 with ⟨e, rfl, _⟩ | ⟨b, off, cap', c, t, fr, Fs, e1, e2, e3, e4, e5, e6⟩
          · cases (Emp.own e); simp
          · cases e1; exact ⟨rfl, e4, fun x hx => by cases hx; rfl⟩
        obtain ⟨rfl, hcap, hsp⟩ := hshape
        subst h4
        have hs := Src.sub xok s1 hsp h0 h1 h3 hcap
        refine ⟨_, _, hs, ?_⟩
        obtain ⟨_, _, _, _, _, hall⟩ := hs
        refine flatten_nil fun g hg => ?_
        obtain ⟨j, hj⟩ := List.getElem?_of_mem hg
        have hjl : j < ((sub l' lo hi).flatMap (cells X k0)).length := by have := (List.getElem?_eq_some_iff.1 hj).1; have := hall.length.2; omega
        obtain ⟨_, g', _, hg', hr⟩ := hall.get (List.getElem?_eq_getElem hjl)
        rw [hj] at hg'; cases hg'
        exact hr.sh_nil
      · simp [hk] at hl
    · cases hf
  · cases hf
theorem fit_list (xok : Xok X) (H : HRel X σ F h w) {dp : Bool} {dels Fp : List Nat} (hFp : ∀ b ∈ Fp, ∃ o ∈ dels, b ∈ F o) {bv : Value} {a : AV Δ} (hv : AR X h σ w (Sof F w) bv a) {s : Lst Δ} (hl : asList X h a = some s)
    (hc : ((dp || (!noneL s.os && !flatV h a)) && !flat X s.k) = false) : ∃ m news Gs, Src X w (Sof F w) bv s.k s.l m news Gs ∧ Fit X w F dp dels Fp s.k s.l news := by
  cases hf : flat X s.k with
  | true =>
    obtain ⟨m, news, Gs, s1, s2, s3⟩ := asList_src xok H hv hl
    refine ⟨m, news, Gs, s1, ?_⟩
    obtain ⟨a1, a2⟩ := s1.any xok (m' := (own1 dp).inner) hf
    exact fitA xok H hFp a2 a1
  | false =>
    cases dp with
    | true => simp [hf] at hc
    | false =>
      cases hv2 : flatV h a with
      | true =>
        obtain ⟨news, Gs, s1, hG⟩ := flatV_src xok H hv hl hv2
        exact ⟨_, news, Gs, s1, fitA xok H hFp s1 hG⟩
      | false =>
        obtain ⟨m, news, Gs, s1, s2, s3⟩ := asList_src xok H hv hl
        refine ⟨m, news, Gs, s1, ?_⟩
        have hos : s.os = [] := by
          cases ho : s.os with
          | nil => rfl
          | cons a r => simp [hf, ho, noneL, hv2] at hc
        obtain ⟨rfl, hG⟩ := s2 hos
        exact fitA xok H hFp s1 hG

/-- the beginning of what is owned -/
theorem rel_prefix (xok : Xok X) {d : Bool} {a : Option Addr} {len cap : Nat} {k : Kd} {l : List (k.T Δ)} {Fv : List Nat} (hr : Rel X (own1 d) w S (.slice a len cap) (.shs k l) Fv) {hi : Int} (h0 : 0 ≤ hi) (h1 : hi ≤ len) :
    len = l.length ∧ (if cap = (0 : Int).toNat then a else a.map (·.add ((0 : Int).toNat * ksz X k))) = a ∧ ∃ Fv', Rel X (own1 d) w S (.slice a hi.toNat cap) (.shs k (sub l 0 hi)) Fv' ∧ (∀ b ∈ Fv', b ∈ Fv) ∧ (Fv.Nodup → Fv'.Nodup) := by
  rcases (Rel.shs_iff X).1 hr with ⟨e, rfl, rfl⟩ | ⟨b, off, c0, c, t, fr, Fs, e1, e2, e3, e4, e5, e6⟩
  · cases (Emp.own e)
    have : hi = 0 := by omega
    subst this
    refine ⟨rfl, by simp, [], (Rel.shs_iff X).2 (.inl ⟨.inl (by simp), by simp [sub], rfl⟩), by simp, by simp⟩
  · cases e1
    have hsl := sub_len l (Int.le_refl 0) h0 h1
    have hsl2 : (sub l 0 hi).length = hi.toNat := by rw [hsl]; omega
    refine ⟨rfl, by split <;> simp [Addr.add], (match own1 d with | .sh => (Fs.take (hi.toNat * ksz X k)).flatten | _ => b :: (Fs.take (hi.toNat * ksz X k)).flatten), (Rel.shs_iff X).2 (.inr ⟨b, off, cap, c, t, fr, Fs.take (hi.toNat * ksz X k), by rw [hsl2], e2, e3, by omega, ?_, ?_⟩), ?_, ?_⟩
    · cases d <;> exact ⟨e5.1, rfl⟩
    · have := e6.take (hi.toNat * ksz X k)
      rw [List.take_take, Nat.min_eq_left (Nat.mul_le_mul_right _ (by omega))] at this
      rw [hsl2]
      have e7 : (sub l 0 hi).flatMap (cells X k) = (l.flatMap (cells X k)).take (hi.toNat * ksz X k) := by rw [flat_sub xok]; simp
      rw [e7]
      exact this
    · have key : ∀ y ∈ (Fs.take (hi.toNat * ksz X k)).flatten, y ∈ Fs.flatten := fun y hy => by
        obtain ⟨f, hf, hy⟩ := List.mem_flatten.1 hy; exact List.mem_flatten.2 ⟨f, List.mem_of_mem_take hf, hy⟩
      cases d <;> · intro y hy; rw [show Fv = b :: Fs.flatten from e5.2]; rcases List.mem_cons.1 hy with rfl | hy; · simp
                    · simp [key y hy]
    · have key : Fs.flatten.Nodup → (Fs.take (hi.toNat * ksz X k)).flatten.Nodup := fun hn => by
        have : Fs.flatten = (Fs.take (hi.toNat * ksz X k)).flatten ++ (Fs.drop (hi.toNat * ksz X k)).flatten := by rw [← List.flatten_append, List.take_append_drop]
        rw [this] at hn
        exact (List.nodup_append.1 hn).1
      have key2 : ∀ y ∈ (Fs.take (hi.toNat * ksz X k)).flatten, y ∈ Fs.flatten := fun y hy => by
        obtain ⟨f, hf, hy⟩ := List.mem_flatten.1 hy; exact List.mem_flatten.2 ⟨f, List.mem_of_mem_take hf, hy⟩
      cases d <;> · intro hn; rw [show Fv = b :: Fs.flatten from e5.2] at hn; obtain ⟨n1, n2⟩ := List.nodup_cons.1 hn; exact List.nodup_cons.2 ⟨fun hy => n1 (key2 b hy), key n2⟩

theorem op_append_ok (pok : Pok X P) {st xt e e2 : Nat} {te : TI} {argTypes : Array TypeId} {ty : TypeId} (a0 : argTypes[0]? = some st) (a1 : argTypes[1]? = some xt) (hst : P.underlying st = some (.slice e)) (hxt : P.underlying xt = some (.slice e2)) (hte : TIok P Δ te e) (hteok : teOk X te = true)
    (H : HRel X σ F h w) {used : List Nat} (hused : ∀ o, σ o ≠ none → isIn used o = true) {dst : Option Nat} {deep : Bool} {a b : AV Δ} {sv bv : Value} (hsv : AR X h σ w (Sof F w) sv a) (hbv : AR X h σ w (Sof F w) bv b)
    {gs : List Bool} {ef : Eff Δ} (he : opAppend X deep used dst h te a b = some (gs, ef)) (hgs : ∀ g ∈ gs, g = true) :
    OpOk X ((do Pure.pure (Next.value (← Builtin.append_ argTypes ty #[sv, bv])) : Sem Next).run P w) σ F h w ef := by
  have hz : te.zero.length = te.sz := by
    simp only [teOk, Bool.and_eq_true] at hteok; exact Nat.eq_of_beq_eq_true hteok.2
  have core : ∀ {dp : Bool} {l l' : List (te.kd.T Δ)} {dels : List Nat} {g : List Bool} {reads : List Nat} {sv : Value} {Fp : List Nat}, newObj used dst CV.own (.arr dp te.kd (l ++ l') 0) dels g reads = some (gs, ef) →
      Rel X (own1 dp) w (Sof F w) sv (.shs te.kd l) Fp → (∀ b ∈ Fp, ∃ o ∈ dels, b ∈ F o) → Fp.Nodup → (∃ m news Gs, Src X w (Sof F w) bv te.kd l' m news Gs ∧ Fit X w F dp dels Fp te.kd l' news) → l.length + l'.length < most →
      OpOk X ((do Pure.pure (Next.value (← Builtin.append_ argTypes ty #[sv, bv])) : Sem Next).run P w) σ F h w ef := by
    intro dp l l' dels g reads sv Fp he hb hFp hFpn ⟨m, news, Gs, s1, Gs', t1, t2, t3, t4, t5⟩ hm
    exact append_core pok a0 a1 hst hxt hte hteok hz H hused he hb hFp hFpn s1 t1 t2 t3 t4 hm t5
  have g1 : ∀ {ob : Ob Δ} {dels reads : List Nat} {g : List Bool}, newObj used dst CV.own ob dels g reads = some (gs, ef) → gs = g := fun he => (newObj_some he).choose_spec.2.2.2.1
  have hnil : ∀ {dp : Bool} {v : Value}, v = .slice none 0 0 → Rel X (own1 dp) w (Sof F w) v (.shs te.kd []) [] := fun e => (Rel.shs_iff X).2 (.inl ⟨.inl e, rfl, rfl⟩)
  have srcnil : ∀ {dp : Bool} {dels Fp : List Nat} (hFp : ∀ b ∈ Fp, ∃ o ∈ dels, b ∈ F o) {v : Value}, v = .slice none 0 0 → ∃ m news Gs, Src X w (Sof F w) v te.kd [] m news Gs ∧ Fit X w F dp dels Fp te.kd [] news := by
    intro dp dels Fp hFp v e
    have : Src X w (Sof F w) v te.kd [] (own1 dp).inner [] [] := ⟨none, 0, e, by simp, by simp, .nil⟩
    exact ⟨_, _, _, this, fitA pok.xok H hFp this rfl⟩
  unfold opAppend at he
  split at he
  · -- onto nil
    have hsv0 : sv = .slice none 0 0 := hsv
    split at he
    · exact core (l := []) (l' := []) he (hnil hsv0) (by simp) (by simp) (srcnil (by simp) hbv) (by simp [most])
    · rename_i q
      split at he
      · rename_i d k l ver hg
        split at he
        · rename_i l2 hc hcast
          obtain ⟨hkk, rfl⟩ := castL_some hcast
          subst hkk
          have hgs' := g1 he
          rw [hgs'] at hgs
          have hm : l.length < most := by simpa using hgs (decide (l.length < most)) (by simp)
          exact core (l := []) (l' := l) he (hnil hsv0) (by simp) (by simp) (fit_own pok.xok H (by simp) hg hbv hc (fun hd => by simp [hd]) (by simp)) (by simpa using hm)
        · cases he
      · cases he
    · split at he
      · rename_i s hs
        split at he
        · rename_i l2 hc hcast
          unfold castA at hcast
          obtain ⟨sk, sl, so⟩ := s
          obtain ⟨hk, rfl⟩ := castL_some hcast
          simp only at hk
          subst hk
          have hgs' := g1 he
          rw [hgs'] at hgs
          have hm : sl.length < most := by simpa using hgs (decide (sl.length < most)) (by simp)
          exact core (l := []) (l' := sl) he (hnil hsv0) (by simp) (by simp) (fit_list pok.xok H (by simp) hbv hs hc) (by simpa using hm)
        · cases he
      · cases he
  · -- onto an object
    rename_i p
    split at he
    · rename_i dp k l ver hg
      split at he
      · cases he
      · rename_i hk
        have hk : k = te.kd := by simpa using hk
        subst hk
        obtain ⟨rv, r1, r2⟩ := H.ob p _ hg
        rw [show σ p = some sv from hsv] at r1; cases r1
        have hFp : ∀ {ds : List Nat}, p ∈ ds → ∀ b ∈ F p, ∃ o ∈ ds, b ∈ F o := fun hp b hb => ⟨p, hp, hb⟩
        split at he
        · have hgs' := g1 he
          rw [hgs'] at hgs
          have hm : l.length < most := by simpa using hgs (decide (l.length < most)) (by simp)
          exact core (l := l) (l' := []) (by simpa using he) r2 (hFp (by simp)) (H.nd p) (srcnil (hFp (by simp)) hbv) (by simpa using hm)
        · rename_i q
          split at he
          · rename_i d k' l' ver' hg'
            split at he
            · rename_i l2 hc hcast hpq
              obtain ⟨hkk, rfl⟩ := castL_some hcast
              subst hkk
              have hpq : p ≠ q := Nat.ne_of_beq_eq_false hpq
              have hgs' := g1 he
              rw [hgs'] at hgs
              have hm : l.length + l'.length < most := by simpa using hgs (decide (l.length + l'.length < most)) (by simp)
              exact core he r2 (hFp (by simp)) (H.nd p) (fit_own pok.xok H (hFp (by simp)) hg' hbv hc (fun hd => by simp [hd]) (H.dj p q hpq)) hm
            · cases he
          · cases he
        · split at he
          · rename_i s hs
            split at he
            · rename_i l2 hc hcast hin
              unfold castA at hcast
              obtain ⟨sk, sl, so⟩ := s
              obtain ⟨hkk, rfl⟩ := castL_some hcast
              simp only at hkk
              subst hkk
              have hgs' := g1 he
              rw [hgs'] at hgs
              have hm : l.length + sl.length < most := by simpa using hgs (decide (l.length + sl.length < most)) (by simp)
              exact core he r2 (hFp (by simp)) (H.nd p) (fit_list pok.xok H (hFp (by simp)) hbv hs hc) hm
            · cases he
          · cases he
    · cases he
  · -- onto the beginning of an object
    rename_i p ko lo hi
    split at he
    · rename_i dp k l ver hg
      split at he
      · rename_i hk hlo hko
        have hk : k = te.kd := by simpa using hk
        have hko : ko = k := by simpa using hko
        have hlo : lo = 0 := by simpa using hlo
        subst hk hlo hko
        obtain ⟨rv, r1, r2⟩ := H.ob p _ hg
        obtain ⟨h0, h1, a, len, cap, s1, s2, s3⟩ := hsv
        rw [s1] at r1; cases r1
        obtain ⟨hl, ha, Fv', p1, p2, p3⟩ := rel_prefix pok.xok r2 h1 s2
        have hFp : ∀ {ds : List Nat}, p ∈ ds → ∀ b ∈ Fv', ∃ o ∈ ds, b ∈ F o := fun hp b hb => ⟨p, hp, p2 b hb⟩
        have hsv' : sv = .slice a hi.toNat cap := by rw [s3, ha]; simp
        subst hsv'
        split at he
        · rename_i q
          split at he
          · rename_i d k' l' ver' hg'
            split at he
            · rename_i l2 hc hcast hpq
              obtain ⟨hkk, rfl⟩ := castL_some hcast
              subst hkk
              have hpq : p ≠ q := Nat.ne_of_beq_eq_false hpq
              have hgs' := g1 he
              rw [hgs'] at hgs
              have hm : (sub l 0 hi).length + l'.length < most := by simpa using hgs (decide ((sub l 0 hi).length + l'.length < most)) (by simp)
              exact core he p1 (hFp (by simp)) (p3 (H.nd p)) (fit_own pok.xok H (hFp (by simp)) hg' hbv hc (fun hd => by simp [hd]) (fun b hb => H.dj p q hpq b (p2 b hb))) hm
            · cases he
          · cases he
        · cases he
      · cases he
    · cases he
  · cases he
end
end Go.Ev

/- Slices of slices, lengths, indices, operators. -/
set_option linter.unusedVariables false
set_option linter.unusedSimpArgs false
namespace Go.Ev
variable {Δ : Nat → Type} {X : Cx Δ} {P : Program}
section
variable {σ σ' : Nat → Option Value} {F F' : Nat → List Nat} {h h' : Heap Δ} {w w' : World} {S : Nat → Prop}

def AO (X : Cx Δ) (h : Heap Δ) (σ : Nat → Option Value) (w : World) (S : Nat → Prop) : Option Value → Option (AV Δ) → Prop
  | none, none => True
  | some v, some a => AR X h σ w S v a
  | _, _ => False
theorem avOpt_ok {env : Env Δ} {a : Act} (E : ER X h σ w S env a) {x : Option Operand} {r : Option (AV Δ)} (hx : avOpt env x = some r) : AO X h σ w S (x.map a.eval) r := by
  cases x with
  | none => simp [avOpt] at hx; subst hx; trivial
  | some x =>
    simp only [avOpt] at hx
    split at hx
    · rename_i v hv; cases hx; exact rho_ok E hv
    · cases hx

theorem AR.int {v : Value} {k : IntKind} {n : Int} (hv : AR X h σ w S v (.v (.one (.int k n)))) : v = .int k n := ((Rel.int X).1 hv).1
theorem AR.bool {v : Value} {n : Bool} (hv : AR X h σ w S v (.v (.one (.bool n)))) : v = .bool n := ((Rel.bool X).1 hv).1
theorem AR.str {v : Value} {s : List UInt8} (hv : AR X h σ w S v (.v (.one (.str s)))) : v = .string ⟨s.toArray⟩ := ((Rel.str X).1 hv).1

theorem run_bounds {isS : Bool} {n cap : Nat} {lo hi : Option Value} {al ah : Option (AV Δ)} (h1 : AO X h σ w S lo al) (h2 : AO X h σ w S hi ah) {a b : Int}
    (hb : boundsOf n al ah = some (a, b)) (h0 : 0 ≤ a) (hab : a ≤ b) (hbn : b ≤ n) (hn : n ≤ cap) :
    (Instr.sliceBounds isS n cap lo hi none).run P w = .ok (a.toNat, b.toNat, cap) w := by
  have hbc : b ≤ cap := by omega
  have hb0 : 0 ≤ b := by omega
  cases al with
  | none =>
    cases lo with
    | some v => exact h1.elim
    | none =>
    cases ah with
    | none =>
      cases hi with
      | some v => exact h2.elim
      | none => simp only [boundsOf] at hb; cases hb; simp [Instr.sliceBounds]
    | some ah =>
      cases hi with
      | none => exact h2.elim
      | some v =>
        match ah, hb, h2 with
        | .v (.one (.int k b')), hb, h2 =>
          simp only [boundsOf] at hb
          cases hb
          have : v = .int k b := AR.int (h := h) (σ := σ) h2
          subst this
          simp [Instr.sliceBounds, Instr.sliceBound, asIntOf, hb0, hbc]
  | some al =>
    cases lo with
    | none => exact h1.elim
    | some v1 =>
    cases ah with
    | none =>
      cases hi with
      | some v => exact h2.elim
      | none =>
        match al, hb, h1 with
        | .v (.one (.int k b')), hb, h1 =>
          simp only [boundsOf] at hb
          cases hb
          have : v1 = .int k a := AR.int (h := h) (σ := σ) h1
          subst this
          simp [Instr.sliceBounds, Instr.sliceBound, asIntOf, h0, hab]
    | some ah =>
      cases hi with
      | none => exact h2.elim
      | some v =>
        match al, ah, hb, h1, h2 with
        | .v (.one (.int k a')), .v (.one (.int k' b')), hb, h1, h2 =>
          simp only [boundsOf] at hb
          cases hb
          have : v1 = .int k a := AR.int (h := h) (σ := σ) h1
          subst this
          have : v = .int k' b := AR.int (h := h) (σ := σ) h2
          subst this
          have : max b 0 = b := by omega
          simp [Instr.sliceBounds, Instr.sliceBound, asIntOf, h0, hab, hb0, hbc, this]

/-- a part of shared data is shared data -/
theorem rel_sub (xok : Xok X) {a : Option Addr} {cap : Nat} {k : Kd} {l : List (k.T Δ)} (hr : Rel X .sh w S (.slice a l.length cap) (.shs k l) []) {lo hi : Int} (h0 : 0 ≤ lo) (h1 : lo ≤ hi) (h2 : hi ≤ l.length) :
    l.length ≤ cap ∧ Rel X .sh w S (.slice (if cap = lo.toNat then a else a.map (·.add (lo.toNat * ksz X k))) (hi.toNat - lo.toNat) (cap - lo.toNat)) (.shs k (Ev.sub l lo hi)) [] := by
  rcases (Rel.shs_iff X).1 hr with ⟨e, rfl, _⟩ | ⟨b, off, cap', c, t, fr, Fs, e1, e2, e3, e4, e5, e6⟩
  · obtain ⟨_, rfl⟩ := Emp.zero e
    have : lo = 0 := by simp at h2; omega
    have : hi = 0 := by simp at h2; omega
    subst lo hi
    refine ⟨Nat.le_refl _, (Rel.shs_iff X).2 (.inl ⟨?_, by simp [Ev.sub], rfl⟩)⟩
    rcases e with e | ⟨_, x, e⟩
    · cases e; exact .inl (by simp)
    · cases e; exact .inr ⟨rfl, x, by simp⟩
  · cases e1
    refine ⟨e4, (Rel.shs_iff X).2 (.inr ?_)⟩
    have hsl := sub_len l h0 h1 h2
    have hlen : hi.toNat - lo.toNat = (Ev.sub l lo hi).length := by omega
    by_cases hc : cap = lo.toNat
    · have hz : hi.toNat - lo.toNat = 0 := by omega
      have hz2 : Ev.sub l lo hi = [] := List.eq_nil_of_length_eq_zero (by omega)
      refine ⟨b, off, cap - lo.toNat, c, t, fr, [], by rw [if_pos hc, hlen], e2, ?_, by omega, ⟨e5.1, rfl⟩, ?_⟩
      · have : cap - lo.toNat = 0 := by omega
        rw [this]; omega
      · rw [hz2]; simpa using All3.nil
    · refine ⟨b, off + lo.toNat * ksz X k, cap - lo.toNat, c, t, fr, ((Fs.drop (lo.toNat * ksz X k)).take ((hi - lo).toNat * ksz X k)), by rw [if_neg hc, hlen, Option.map_some, add_off _ _ rfl], e2, ?_, by omega, ⟨e5.1, ?_⟩, ?_⟩
      · have : (lo.toNat + (cap - lo.toNat)) * ksz X k = cap * ksz X k := by congr 1; omega
        rw [Nat.add_mul] at this
        omega
      · refine (flatten_nil fun x hx => ?_).symm
        exact List.flatten_eq_nil_iff.1 e5.2.symm x (List.mem_of_mem_drop (List.mem_of_mem_take hx))
      · rw [flat_sub xok]
        have e6' := (e6.drop (lo.toNat * ksz X k)).take ((hi - lo).toNat * ksz X k)
        rw [hsl]
        have : (((List.drop off c.toList).take (l.length * ksz X k)).drop (lo.toNat * ksz X k)).take ((hi - lo).toNat * ksz X k) = ((c.toList.drop (off + lo.toNat * ksz X k)).take ((hi - lo).toNat * ksz X k)) := by
          refine drop_take_sub _ _ _ _ _ ?_
          rw [← Nat.add_mul]
          exact Nat.mul_le_mul_right _ (by omega)
        rw [this] at e6'
        exact e6'

theorem ba_size (s : List UInt8) : (⟨s.toArray⟩ : ByteArray).size = s.length := by simp [ByteArray.size]
theorem ba_sub (s : List UInt8) (a b : Nat) : (⟨s.toArray⟩ : ByteArray).extract a b = ⟨((s.drop a).take (b - a)).toArray⟩ := by
  apply ByteArray.ext
  simp [ByteArray.data_extract]

theorem op_sliceS_ok {t : Nat} (ht : P.underlying t = some .string) (H : HRel X σ F h w) {v : Value} {lo hi : Option Value} {a : AV Δ} {al ah : Option (AV Δ)} (hv : AR X h σ w (Sof F w) v a) (h1 : AO X h σ w (Sof F w) lo al) (h2 : AO X h σ w (Sof F w) hi ah)
    {gs : List Bool} {ef : Eff Δ} (he : opSliceS a al ah = some (gs, ef)) (hgs : ∀ g ∈ gs, g = true) :
    OpOk X ((do Pure.pure (Next.value (← Instr.sliceAt t v lo hi none)) : Sem Next).run P w) σ F h w ef := by
  unfold opSliceS at he
  split at he
  · rename_i s
    split at he
    · rename_i x y hb
      cases he
      simp at hgs
      obtain ⟨g0, g1, g2⟩ := hgs
      have := AR.str hv; subst this
      have hbd := run_bounds (P := P) (isS := false) h1 h2 hb g0 g1 g2 (Nat.le_refl _)
      refine OpOk.pure H rfl (run_v ?_) (v := .string ⟨((s.drop x.toNat).take (y.toNat - x.toNat)).toArray⟩) ?_
      · simp [Instr.sliceAt, Instr.slice, run_und ht, ba_size, hbd, ba_sub]
      · refine (Rel.str X).2 ⟨?_, rfl⟩
        rw [sub]
        have : (y - x).toNat = y.toNat - x.toNat := by omega
        rw [this]
    · cases he
  · cases he

theorem op_slice_ok (pok : Pok X P) {t e : Nat} {te : TI} (ht : P.underlying t = some (.slice e)) (hte : TIok P Δ te e) (H : HRel X σ F h w) {v : Value} {lo hi : Option Value} {a : AV Δ} {al ah : Option (AV Δ)} (hv : AR X h σ w (Sof F w) v a) (h1 : AO X h σ w (Sof F w) lo al) (h2 : AO X h σ w (Sof F w) hi ah)
    {gs : List Bool} {ef : Eff Δ} (he : opSlice X te.sz h a al ah = some (gs, ef)) (hgs : ∀ g ∈ gs, g = true) :
    OpOk X ((do Pure.pure (Next.value (← Instr.sliceAt t v lo hi none)) : Sem Next).run P w) σ F h w ef := by
  have go : ∀ {base : Option Addr} {len cap : Nat} {k : Kd} {x y : Int}, ksz X k = te.sz → boundsOf len al ah = some (x, y) → 0 ≤ x → x ≤ y → y ≤ len → len ≤ cap →
      (Instr.sliceAt t (.slice base len cap) lo hi none).run P w = .ok (.slice (if cap = x.toNat then base else base.map (·.add (x.toNat * ksz X k))) (y.toNat - x.toNat) (cap - x.toNat)) w := by
    intro base len cap k x y hk hb g0 g1 g2 hc
    have hbd := run_bounds (P := P) (isS := true) h1 h2 hb g0 g1 g2 hc
    simp [Instr.sliceAt, Instr.slice, run_und ht, hbd, run_size hte, hk]
  unfold opSlice at he
  split at he
  · rename_i k l
    split at he
    · rename_i x y hb hk
      cases he
      simp at hgs
      obtain ⟨g0, g1, g2⟩ := hgs
      have hk := Nat.eq_of_beq_eq_true hk
      have hshape : ∃ base cap, v = .slice base l.length cap := by
        rcases (Rel.shs_iff X).1 (show Rel X .sh w (Sof F w) v (.shs k l) [] from hv) with ⟨e, rfl, _⟩ | ⟨b, off, cap', c, t, fr, Fs, e1, e2, e3, e4, e5, e6⟩
        · obtain ⟨a, e⟩ := e.shape; exact ⟨a, 0, e⟩
        · exact ⟨_, _, e1⟩
      obtain ⟨base, cap, rfl⟩ := hshape
      obtain ⟨hc, hr⟩ := rel_sub pok.xok hv g0 g1 g2
      exact OpOk.pure H rfl (run_v (go hk hb g0 g1 g2 hc)) hr
    · cases he
  · rename_i p
    split at he
    · rename_i d k l ver hg
      split at he
      · rename_i x y hb hk
        cases he
        simp at hgs
        obtain ⟨g0, g1, g2⟩ := hgs
        have hk := Nat.eq_of_beq_eq_true hk
        obtain ⟨rv, r1, r2⟩ := H.ob p _ hg
        have hpv : σ p = some v := hv
        rw [hpv] at r1; cases r1
        have hshape : ∃ base cap, v = .slice base l.length cap ∧ l.length ≤ cap := by
          rcases (Rel.shs_iff X).1 r2 with ⟨e, rfl, _⟩ | ⟨b, off, cap', c, t, fr, Fs, e1, e2, e3, e4, e5, e6⟩
          · exact ⟨none, 0, Emp.own e, Nat.le_refl _⟩
          · exact ⟨_, _, e1, e4⟩
        obtain ⟨base, cap, rfl, hc⟩ := hshape
        exact OpOk.pure H rfl (run_v (go hk hb g0 g1 g2 hc)) ⟨g0, g1, base, _, cap, hpv, g2, rfl⟩
      · cases he
    · cases he
  · cases he

theorem addr_add0 (a : Option Addr) (s : Nat) : a.map (·.add (0 * s)) = a := by
  cases a with
  | none => rfl
  | some a => simp [Addr.add]
/-- shared data may be told to have less room -/
theorem rel_cap {a : Option Addr} {n cap c : Nat} {k : Kd} {l : List (k.T Δ)} (hr : Rel X .sh w S (.slice a n cap) (.shs k l) []) (h1 : n ≤ c) (h2 : c ≤ cap) : Rel X .sh w S (.slice a n c) (.shs k l) [] := by
  rcases (Rel.shs_iff X).1 hr with ⟨e, rfl, e3⟩ | ⟨b, off, cap', cs, t, fr, Fs, e1, e2, e3, e4, e5, e6⟩
  · obtain ⟨_, hz⟩ := Emp.zero e
    cases hz
    have : c = 0 := by omega
    subst this
    exact hr
  · cases e1
    refine (Rel.shs_iff X).2 (.inr ⟨b, off, c, cs, t, fr, Fs, rfl, e2, ?_, h1, e5, e6⟩)
    have := Nat.mul_le_mul_right (ksz X k) h2
    omega
theorem op_slice3_ok (pok : Pok X P) {t e : Nat} {te : TI} (ht : P.underlying t = some (.slice e)) (hte : TIok P Δ te e) (H : HRel X σ F h w) {v mv : Value} {hi : Option Value} {a am : AV Δ} {ah : Option (AV Δ)} (hv : AR X h σ w (Sof F w) v a) (h2 : AO X h σ w (Sof F w) hi ah) (hm : AR X h σ w (Sof F w) mv am)
    {gs : List Bool} {ef : Eff Δ} (he : opSlice3 X te.sz a ah am = some (gs, ef)) (hgs : ∀ g ∈ gs, g = true) :
    OpOk X ((do Pure.pure (Next.value (← Instr.sliceAt t v none hi (some mv))) : Sem Next).run P w) σ F h w ef := by
  unfold opSlice3 at he
  split at he
  · rename_i k l kb b kc c
    split at he
    · rename_i hk
      cases he
      simp at hgs
      obtain ⟨g0, g1, g2⟩ := hgs
      have hk := Nat.eq_of_beq_eq_true hk
      cases hi with
      | none => exact h2.elim
      | some hv' =>
        have e1 : hv' = .int kb b := AR.int (h := h) (σ := σ) h2
        have e2 : mv = .int kc c := AR.int (h := h) (σ := σ) hm
        subst e1 e2
        have hshape : ∃ base cap, v = .slice base l.length cap := by
          rcases (Rel.shs_iff X).1 (show Rel X .sh w (Sof F w) v (.shs k l) [] from hv) with ⟨e, rfl, _⟩ | ⟨b, off, cap', c, t, fr, Fs, e1, e2, e3, e4, e5, e6⟩
          · obtain ⟨a, e⟩ := e.shape; exact ⟨a, 0, e⟩
          · exact ⟨_, _, e1⟩
        obtain ⟨base, cap, rfl⟩ := hshape
        obtain ⟨hc, hr⟩ := rel_sub pok.xok hv (Int.le_refl 0) g0 (show b ≤ l.length by omega)
        have hbase : (if cap = (0 : Int).toNat then base else base.map (·.add ((0 : Int).toNat * ksz X k))) = base := by
          split
          · rfl
          · exact addr_add0 base _
        rw [hbase] at hr
        have hr' := rel_cap (c := c.toNat) hr (by show b.toNat - 0 ≤ c.toNat; omega) (by show c.toNat ≤ cap - 0; omega)
        have hbase2 : (if c.toNat = 0 then base else base.map (·.add (0 * te.sz))) = base := by
          split
          · rfl
          · exact addr_add0 base _
        have run : (Instr.sliceAt t (.slice base l.length cap) none (some (.int kb b)) (some (.int kc c))).run P w = .ok (.slice base (b.toNat - 0) c.toNat) w := by
          have hc0 : 0 ≤ c := by omega
          have hcc : c ≤ cap := by omega
          have hm1 : max c 0 = c := by omega
          simp [Instr.sliceAt, Instr.slice, run_und ht, Instr.sliceBounds, Instr.sliceBound, asIntOf, g0, g1, hc0, hcc, hm1, run_size hte]
          rw [Nat.zero_mul] at hbase2
          first | exact hbase2 | (intro hne; cases base <;> simp [Addr.add])
        exact OpOk.pure H rfl (run_v run) hr'
    · cases he
  · cases he

theorem op_len_ok (pok : Pok X P) {t : Nat} {i : TI} (ht : TIok P Δ i t) (H : HRel X σ F h w) {argTypes : Array TypeId} {ty : TypeId} (a0 : argTypes[0]? = some t) {str : Bool} (hs : (str = true ∧ i.d = .str) ∨ (str = false ∧ ∃ e, i.d = .slice e)) {v : Value} {a : AV Δ} (hv : AR X h σ w (Sof F w) v a)
    {gs : List Bool} {ef : Eff Δ} (he : opLen X str h a = some (gs, ef)) :
    OpOk X ((do Pure.pure (Next.value (← Builtin.len_ argTypes ty #[v])) : Sem Next).run P w) σ F h w ef := by
  have hu := ht.und
  rcases hs with ⟨rfl, hd⟩ | ⟨rfl, e, hd⟩
  · rw [hd] at hu
    have hu : P.underlying t = some .string := hu
    simp only [opLen] at he
    split at he
    · rename_i s
      cases he
      have := AR.str hv; subst this
      refine OpOk.pure H rfl (run_v ?_) (v := .int .i64 s.length) ((Rel.int X).2 ⟨rfl, rfl⟩)
      simp [Builtin.len_, a0, run_und hu, goInt, ba_size]
    · cases he
  · rw [hd] at hu
    have hu : P.underlying t = some (.slice e) := hu
    have go : ∀ {base : Option Addr} {n cap : Nat}, (Builtin.len_ argTypes ty #[.slice base n cap]).run P w = .ok (.int .i64 n) w := by
      intro base n cap
      simp [Builtin.len_, a0, run_und hu, goInt]
    simp only [opLen] at he
    split at he
    · cases he
      have : v = .slice none 0 0 := hv
      subst this
      exact OpOk.pure H rfl (run_v go) ((Rel.int X).2 ⟨rfl, rfl⟩)
    · split at he
      · rename_i s hl
        cases he
        obtain ⟨m, news, Gs, ⟨a', cap, rfl, _⟩, _⟩ := asList_src pok.xok H hv hl
        exact OpOk.pure H rfl (run_v go) ((Rel.int X).2 ⟨rfl, rfl⟩)
      · cases he

theorem op_index_ok {t : Nat} (ht : P.underlying t = some .string) (H : HRel X σ F h w) {v u : Value} {a b : AV Δ} (hv : AR X h σ w (Sof F w) v a) (hu : AR X h σ w (Sof F w) u b)
    {gs : List Bool} {ef : Eff Δ} (he : opIndex a b = some (gs, ef)) (hgs : ∀ g ∈ gs, g = true) :
    OpOk X ((do Pure.pure (Next.value (← Instr.index t v u)) : Sem Next).run P w) σ F h w ef := by
  unfold opIndex at he
  split at he
  · rename_i s k i
    cases he
    simp at hgs
    obtain ⟨g0, g1⟩ := hgs
    have := AR.str hv; subst this
    have := AR.int hu; subst this
    have hi : i.toNat < s.length := by omega
    refine OpOk.pure H rfl (run_v ?_) (v := .int .u8 (s.getD i.toNat 0).toNat) ((Rel.int X).2 ⟨rfl, rfl⟩)
    have hg : (⟨s.toArray⟩ : ByteArray)[i.toNat]? = some (s.getD i.toNat 0) := by
      rw [getElem?_pos (⟨s.toArray⟩ : ByteArray) i.toNat (by rw [ba_size]; exact hi)]
      simp [List.getD, hi]
      rfl
    simp [Instr.index, asIntOf, run_und ht, g0, hg]
  · cases he
end
end Go.Ev

/- Operators, fields, conversions. -/
set_option linter.unusedVariables false
set_option linter.unusedSimpArgs false
namespace Go.Ev
variable {Δ : Nat → Type} {X : Cx Δ} {P : Program}
section
variable {σ σ' : Nat → Option Value} {F F' : Nat → List Nat} {h h' : Heap Δ} {w w' : World} {S : Nat → Prop}

theorem ba_add (s r : List UInt8) : (⟨s.toArray⟩ : ByteArray) ++ ⟨r.toArray⟩ = ⟨(s ++ r).toArray⟩ := by
  apply ByteArray.ext
  simp
theorem ba_toList (s : List UInt8) : (⟨s.toArray⟩ : ByteArray).toList = s := by
  rw [ByteArray.toList_eq]

theorem equal_bool {t : Nat} (ht : P.underlying t = some .bool) {a b : Bool} : (Op.equal t (.bool a) (.bool b)).run P w = .ok (a == b) w := run_equalIn_bool w 9999 t a b ht
theorem equal_nil {t : Nat} {ms} (ht : P.underlying t = some (.interface ms)) : (Op.equal t .nilIface .nilIface).run P w = .ok true w ∧ ∀ tx vx, (Op.equal t (.iface tx vx) .nilIface).run P w = .ok false w := by
  have g : ∀ d, (Op.equalIn (d + 1) t .nilIface .nilIface).run P w = .ok true w ∧ ∀ tx vx, (Op.equalIn (d + 1) t (.iface tx vx) .nilIface).run P w = .ok false w := fun d => by
    simp [Op.equalIn, run_und ht]
  exact g 9999
theorem eqC_sc {c d : CV Δ} {b : Bool} (he : eqC c d = some b) {v u : Value} (hv : VR X h σ w S v c) (hu : VR X h σ w S u d) : Sc v c ∧ Sc u d := by
  unfold eqC at he
  split at he
  · exact ⟨((Rel.int X).1 hv).1, ((Rel.int X).1 hu).1⟩
  · exact ⟨((Rel.bool X).1 hv).1, ((Rel.bool X).1 hu).1⟩
  · exact ⟨((Rel.str X).1 hv).1, ((Rel.str X).1 hu).1⟩
  · cases he
theorem eqCs_sc : ∀ {cs ds : List (CV Δ)} {b : Bool}, eqCs cs ds = some b → ∀ {vs us : List Value}, All2 (VR X h σ w S) vs cs → All2 (VR X h σ w S) us ds → All2 Sc vs cs ∧ All2 Sc us ds
  | [], ds, b, he => by simp [eqCs] at he
  | [c], [], b, he => by simp [eqCs] at he
  | [c], [d], b, he => by
    intro hv hu
    cases hv with | cons v1 v2 =>
    cases v2
    cases hu with | cons u1 u2 =>
    cases u2
    obtain ⟨a1, a2⟩ := eqC_sc (by simpa [eqCs] using he) v1 u1
    exact ⟨.cons a1 .nil, .cons a2 .nil⟩
  | [c], d :: d2 :: ds, b, he => by
    simp [eqCs] at he
  | c :: c2 :: cs, [], b, he => by simp [eqCs] at he
  | c :: c2 :: cs, d :: ds, b, he => by
    intro hv hu
    have he : (match eqC c d, eqCs (c2 :: cs) ds with | some a, some b => some (a && b) | _, _ => none) = some b := by
      rw [← he]; cases ds <;> simp [eqCs] <;> rfl
    split at he
    · rename_i a b' h1 h2
      cases hv with | cons v1 v2 =>
      cases hu with | cons u1 u2 =>
      obtain ⟨a1, a2⟩ := eqC_sc h1 v1 u1
      obtain ⟨b1, b2⟩ := eqCs_sc h2 v2 u2
      exact ⟨.cons a1 b1, .cons a2 b2⟩
    · cases he

theorem op_bin_ok {t : Nat} {i : TI} (ht : TIok P Δ i t) (H : HRel X σ F h w) {op : BinOp} {x y : Operand} {nilc : Bool} (hn : nilc = true → y = .const .nilIface) {v u : Value} {a b : AV Δ} (hv : AR X h σ w (Sof F w) v a) (hu : AR X h σ w (Sof F w) u b)
    {gs : List Bool} {ef : Eff Δ} (he : opBin i nilc op a b = some (gs, ef)) (hgs : ∀ g ∈ gs, g = true) :
    OpOk X ((do Pure.pure (Next.value (← (do eqGuard op t x y v u; binOp op t v u))) : Sem Next).run P w) σ F h w ef := by
  have int : ∀ {k : IntKind} {n : Int}, AR X h σ w (Sof F w) (.int k n) (.c (.int k n)) := (Rel.int X).2 ⟨rfl, rfl⟩
  have bool : ∀ {n : Bool}, AR X h σ w (Sof F w) (.bool n) (.c (.bool n)) := (Rel.bool X).2 ⟨rfl, rfl⟩
  have str : ∀ {n : List UInt8}, AR X h σ w (Sof F w) (.string ⟨n.toArray⟩) (.c (.str n)) := (Rel.str X).2 ⟨rfl, rfl⟩
  have und := ht.und
  unfold opBin at he
  split at he
  · rename_i k n k' m
    have := AR.int hv; subst this
    have := AR.int hu; subst this
    have hg : (eqGuard op t x y (.int k n) (.int k' m)).run P w = .ok () w := by
      cases op <;> simp [eqGuard]
    split at he
    · cases he
      simp at hgs
      exact OpOk.pure H rfl (run_v (by simp [hg, binOp, Op.shift, show ¬ m < 0 by omega])) int
    · cases he
      simp at hgs
      exact OpOk.pure H rfl (run_v (by simp [hg, binOp, Op.shift, show ¬ m < 0 by omega])) int
    · split at he
      · cases he
      · rename_i hk
        have hk : k = k' := by simpa using hk
        subst hk
        split at he
        case h_4 => cases he; simp at hgs; exact OpOk.pure H rfl (run_v (by simp [hg, binOp, Op.intDiv, hgs])) int
        case h_5 => cases he; simp at hgs; exact OpOk.pure H rfl (run_v (by simp [hg, binOp, Op.intDiv, hgs])) int
        case h_12 =>
          split at he
          · rename_i z hz
            cases he
            unfold bitsOf at hz
            split at hz
            · cases hz; exact OpOk.pure H rfl (run_v (by simp [hg, binOp, Op.intBits, band, bor, bxor])) int
            · cases hz; exact OpOk.pure H rfl (run_v (by simp [hg, binOp, Op.intBits, band, bor, bxor])) int
            · cases hz; exact OpOk.pure H rfl (run_v (by simp [hg, binOp, Op.intBits, band, bor, bxor])) int
            · cases hz
          · cases he
        all_goals (cases he; first | exact OpOk.pure H rfl (run_v (by simp [hg, binOp, Op.intArith])) int | exact OpOk.pure H rfl (run_v (by simp [hg, binOp, Op.intCmp]; rfl)) bool | exact OpOk.pure H rfl (run_v (by simp [hg, binOp, Op.intCmp])) bool)
  · rename_i s r
    have := AR.str hv; subst this
    have := AR.str hu; subst this
    have hg : (eqGuard op t x y (.string ⟨s.toArray⟩) (.string ⟨r.toArray⟩)).run P w = .ok () w := by
      cases op <;> simp [eqGuard]
    split at he
    · cases he
      simp at hgs
      refine OpOk.pure H rfl (run_v ?_) str
      have : ¬ (((s.length + r.length : Nat) : Int) > IntKind.i64.max) := by
        have : IntKind.i64.max = 9223372036854775807 := by decide
        simp [most] at hgs
        omega
      simp only [hg, binOp, Op.stringOp, ba_size, if_neg this, ba_add]
      simp [hg, ba_size, ba_add]
    · cases he
      exact OpOk.pure H rfl (run_v (by simp [hg, binOp, Op.stringOp, ba_toList])) bool
    · cases he
      exact OpOk.pure H rfl (run_v (by simp [hg, binOp, Op.stringOp, ba_toList])) bool
    · cases he
  · rename_i p q
    have := AR.bool hv; subst this
    have := AR.bool hu; subst this
    have hg : (eqGuard op t x y (.bool p) (.bool q)).run P w = .ok () w := by
      cases op <;> simp [eqGuard]
    split at he
    · rename_i hd
      rw [hd] at und
      have und : P.underlying t = some .bool := und
      cases he
      exact OpOk.pure H rfl (run_v (by simp [hg, binOp, equal_bool und])) bool
    · rename_i hd
      rw [hd] at und
      have und : P.underlying t = some .bool := und
      cases he
      exact OpOk.pure H rfl (run_v (by simp [hg, binOp, equal_bool und])) bool
    · cases he
  · rename_i xs ys
    split at he
    · rename_i b hq hl hb
      cases he
      obtain ⟨vs, rfl, hvs⟩ := hv
      obtain ⟨us, rfl, hus⟩ := hu
      obtain ⟨s1, s2⟩ := eqCs_sc hb hvs hus
      have := (ht.eqs hq vs us xs ys b w x y hl s1 s2 hb).1
      exact OpOk.pure H rfl (run_v this) bool
    · rename_i b hq hl hb
      cases he
      obtain ⟨vs, rfl, hvs⟩ := hv
      obtain ⟨us, rfl, hus⟩ := hu
      obtain ⟨s1, s2⟩ := eqCs_sc hb hvs hus
      have := (ht.eqs hq vs us xs ys b w x y hl s1 s2 hb).2
      exact OpOk.pure H rfl (run_v this) bool
    · cases he
  · rename_i p
    split at he
    · rename_i hd
      rw [hd] at und
      obtain ⟨ms, und⟩ : ∃ e, P.underlying t = some (.interface e) := und
      have := hn rfl; subst this
      have : u = .nilIface := ((Rel.errT X).1 hu).1
      subst this
      cases he
      cases p with
      | true =>
        have : v = .nilIface := ((Rel.errT X).1 hv).1
        subst this
        exact OpOk.pure H rfl (run_v (v := .bool true) (by simp [eqGuard, binOp, equal_nil und])) bool
      | false =>
        obtain ⟨t', x', hx⟩ := ((Rel.errF X).1 hv).1
        subst hx
        exact OpOk.pure H rfl (run_v (v := .bool false) (by simp [eqGuard, binOp, equal_nil und])) bool
    · rename_i hd
      rw [hd] at und
      obtain ⟨ms, und⟩ : ∃ e, P.underlying t = some (.interface e) := und
      have := hn rfl; subst this
      have : u = .nilIface := ((Rel.errT X).1 hu).1
      subst this
      cases he
      cases p with
      | true =>
        have : v = .nilIface := ((Rel.errT X).1 hv).1
        subst this
        exact OpOk.pure H rfl (run_v (v := .bool false) (by simp [eqGuard, binOp, equal_nil und])) bool
      | false =>
        obtain ⟨t', x', hx⟩ := ((Rel.errF X).1 hv).1
        subst hx
        exact OpOk.pure H rfl (run_v (v := .bool true) (by simp [eqGuard, binOp, equal_nil und])) bool
    · cases he
  · cases he
end
end Go.Ev

/- Fields, places, parts, conversions. -/
set_option linter.unusedVariables false
set_option linter.unusedSimpArgs false
namespace Go.Ev
variable {Δ : Nat → Type} {X : Cx Δ} {P : Program}
section
variable {σ σ' : Nat → Option Value} {F F' : Nat → List Nat} {h h' : Heap Δ} {w w' : World} {S : Nat → Prop}

theorem op_field_ok {t ft off f : Nat} {i ts : TI} (ht : TIok P Δ i t) {fs : List (Nat × Nat)} (hd : i.d = .struct fs) (hf : fs[f]? = some (off, ft)) (hts : TIok P Δ ts ft) (H : HRel X σ F h w) {v : Value} {a : AV Δ} (hv : AR X h σ w (Sof F w) v a)
    {gs : List Bool} {ef : Eff Δ} (he : opField fs ts f a = some (gs, ef)) :
    OpOk X ((do Pure.pure (Next.value (← Instr.field t v f)) : Sem Next).run P w) σ F h w ef := by
  have hu := ht.und
  rw [hd] at hu
  obtain ⟨fa, hu, rfl, _⟩ := hu
  unfold opField at he
  split at he
  · rename_i off' ft' cs h1
    rw [hf] at h1
    cases h1
    split at he
    · rename_i av hw
      cases he
      obtain ⟨vs, rfl, hvs⟩ := hv
      rw [List.getElem?_map] at hf
      obtain ⟨fld, hfld, hfe⟩ := Option.map_eq_some_iff.1 hf
      cases hfe
      have hfa : fa[f]? = some fld := by simpa using hfld
      have hl := wrap_len hw
      have hl2 : vs.length = cs.length := hvs.length
      unfold wrapL at hw
      split at hw
      · cases hw
      · split at hw
        · rename_i ha
          cases hw
          refine OpOk.pure H rfl (run_v (v := .agg ((vs.drop fld.offset).take ts.sz).toArray) ?_) ⟨_, rfl, (hvs.drop _).take _⟩
          simp [Instr.field, run_und hu, hfa, asAgg, part, run_isAgg hts, ha, run_size hts]
        · rename_i ha
          split at hw
          · rename_i c hc
            cases hw
            have hvt := (hvs.drop fld.offset).take ts.sz
            rw [hc] at hvt
            generalize hV : (vs.drop fld.offset).take ts.sz = V at hvt
            cases hvt with
            | cons v1 v2 =>
              cases v2
              rename_i u
              have hget : vs[fld.offset]? = some u := by
                have : ((vs.drop fld.offset).take ts.sz)[0]? = some u := by rw [hV]; rfl
                rw [List.getElem?_take] at this
                split at this
                · simpa [List.getElem?_drop] using this
                · cases this
              refine OpOk.pure H rfl (run_v (v := u) ?_) v1
              simp [Instr.field, run_und hu, hfa, asAgg, part, run_isAgg hts, ha, hget]
          · cases hw
    · cases he
  · cases he

theorem VR.off {v : Value} {b off n : Nat} (e : v = .pointer (some ⟨b, off, none⟩)) : (⟨b, off, none⟩ : Addr).add n = ⟨b, off + n, none⟩ := add_off _ _ rfl

theorem op_fieldAddr_ok {t f : Nat} {i : TI} (ht : TIok P Δ i t) {fs : List (Nat × Nat)} (hd : i.d = .struct fs) (H : HRel X σ F h w) {v : Value} {a : AV Δ} (hv : AR X h σ w (Sof F w) v a)
    {gs : List Bool} {ef : Eff Δ} (he : opFieldAddr h fs f a = some (gs, ef)) :
    OpOk X ((do Pure.pure (Next.value (← Instr.fieldAt t v f)) : Sem Next).run P w) σ F h w ef := by
  have hu := ht.und
  rw [hd] at hu
  obtain ⟨fa, hu, rfl, hsz⟩ := hu
  unfold opFieldAddr at he
  split at he
  · cases he
  · rename_i off' ft hf
    rw [List.getElem?_map] at hf
    obtain ⟨fld, hfld, hfe⟩ := Option.map_eq_some_iff.1 hf
    cases hfe
    have hfa : fa[f]? = some fld := by simpa using hfld
    obtain ⟨inf, hi1, hi2⟩ := hsz fld (List.mem_of_getElem? hfld)
    have go : ∀ {b off : Nat}, (Instr.fieldAt t (.pointer (some ⟨b, off, none⟩)) f).run P w = .ok (.pointer (some ⟨b, off + fld.offset, none⟩)) w := by
      intro b off
      simp [Instr.fieldAt, run_und hu, hfa, Instr.sureAddr, fieldPlace, sizeOf, typeInfo, hi1, hi2, add_off]
    split at he
    · rename_i p off
      split at he
      · rename_i t' cs hg
        split at he
        · rename_i hm
          cases he
          obtain ⟨b, c, g1, g2, g3, g4⟩ := (H.ob p _ hg).box hm
          obtain ⟨r, h1, h2⟩ := hv
          rw [g1] at h1; cases h1
          rw [h2.ptr]
          exact OpOk.pure H rfl (run_v go) ⟨_, g1, .inl ⟨_, rfl, rfl⟩⟩
        · cases he
      · cases he
    · rename_i k l j off
      cases he
      obtain ⟨h0, h1, b, base, cap, h2, rfl⟩ := hv
      exact OpOk.pure H rfl (run_v go) ⟨h0, h1, b, base, cap, h2, by rw [Nat.add_assoc]; rfl⟩
    · rename_i p k j off
      cases he
      obtain ⟨h0, b, base, len, cap, h1, h2, rfl⟩ := hv
      exact OpOk.pure H rfl (run_v go) ⟨h0, b, base, len, cap, h1, h2, by rw [Nat.add_assoc]; rfl⟩
    · rename_i p vr k j off k2 i2 off2
      split at he
      · rename_i k' l ver hg
        split at he
        · rename_i hk hver
          have hk : k = k' := by simpa using hk
          subst hk
          have hver := Nat.eq_of_beq_eq_true hver
          subst hver
          cases he
          obtain ⟨v1, v2, v3⟩ := hv
          obtain ⟨q0, q1, b, base, len, cap, b2, base2, len2, cap2, q2, q3, q4, q5, rfl⟩ := (v3 l vr hg).2 rfl
          refine OpOk.pure H rfl (run_v go) ⟨rfl, v2, fun l' ver2 hg2 => ?_⟩
          rw [hg] at hg2; cases hg2
          exact ⟨Nat.le_refl _, fun _ => ⟨q0, q1, b, base, len, cap, b2, base2, len2, cap2, q2, q3, q4, q5, by rw [Nat.add_assoc]; rfl⟩⟩
        · cases he
      · cases he
    · cases he

theorem op_indexAddr_ok (pok : Pok X P) {t e : Nat} {te : TI} (ht : P.underlying t = some (.slice e)) (hte : TIok P Δ te e) (H : HRel X σ F h w) {v u : Value} {a ix : AV Δ} (hv : AR X h σ w (Sof F w) v a) (hix : AR X h σ w (Sof F w) u ix)
    {gs : List Bool} {ef : Eff Δ} (he : opIndexAddr X h te a ix = some (gs, ef)) (hgs : ∀ g ∈ gs, g = true) :
    OpOk X ((do Pure.pure (Next.value (← Instr.indexAt t v u)) : Sem Next).run P w) σ F h w ef := by
  unfold opIndexAddr at he
  split at he
  · rename_i ik i
    have := AR.int hix; subst this
    have go : ∀ {b off len cap : Nat} {k : Kd}, ksz X k = te.sz → 0 ≤ i → i < len → (Instr.indexAt t (.slice (some ⟨b, off, none⟩) len cap) (.int ik i)).run P w = .ok (.pointer (some ⟨b, off + i.toNat * ksz X k, none⟩)) w := by
      intro b off len cap k hk h0 h1
      simp [Instr.indexAt, asIntOf, run_und ht, h0, h1, run_size hte, hk, add_off]
    split at he
    · rename_i k l
      split at he
      · rename_i hk
        have hk := Nat.eq_of_beq_eq_true hk
        cases he
        simp at hgs
        obtain ⟨g0, g1⟩ := hgs
        have hv' : Rel X .sh w (Sof F w) v (.shs k l) [] := hv
        rcases (Rel.shs_iff X).1 hv' with ⟨e, rfl, _⟩ | ⟨b, off, cap', c, t', fr, Fs, e1, _⟩
        · simp at g1; omega
        · subst e1
          exact OpOk.pure H rfl (run_v (go hk g0 g1)) ⟨g0, g1, b, off, cap', hv', rfl⟩
      · cases he
    · rename_i p
      split at he
      · rename_i d k l ver hg
        split at he
        · rename_i hk
          have hk := Nat.eq_of_beq_eq_true hk
          cases he
          simp at hgs
          obtain ⟨g0, g1⟩ := hgs
          have hl : l ≠ [] := by rintro rfl; simp at g1; omega
          obtain ⟨b, off, cap, c, t', Fs, a1, _⟩ := arr_open H hg hl
          have hp : σ p = some v := hv
          rw [hp] at a1; cases a1
          exact OpOk.pure H rfl (run_v (go hk g0 g1)) ⟨g0, b, off, _, cap, hp, g1, rfl⟩
        · cases he
      · cases he
    · rename_i p ver' k' j off
      split at he
      · rename_i k l ver hg
        split at he
        · rename_i k2 l2 hk' hver hx
          have hk' : k' = k := by simpa using hk'
          subst hk'
          have hver := Nat.eq_of_beq_eq_true hver
          subst hver
          split at he
          · rename_i hk
            have hk := Nat.eq_of_beq_eq_true hk
            cases he
            simp at hgs
            obtain ⟨g0, g1⟩ := hgs
            obtain ⟨v1, v2, v3⟩ := hv
            obtain ⟨q0, q1, b, base, len, cap, q2, q3⟩ := (v3 l ver' hg).2 rfl
            obtain ⟨F2, r1, r2⟩ := nested_open pok.xok H hg q0 q1 hx q2 q3
            rcases (Rel.shs_iff X).1 r1 with ⟨e, rfl, _⟩ | ⟨b2, off2, cap2, c2, t2, fr, Fs, e1, _⟩
            · simp at g1; omega
            · subst e1
              refine OpOk.pure H rfl (run_v (go hk g0 g1)) ⟨rfl, v2, fun l' ver2 hg2 => ?_⟩
              rw [hg] at hg2; cases hg2
              exact ⟨Nat.le_refl _, fun _ => ⟨q0, q1, b, base, len, cap, b2, off2, _, cap2, q2, q3, g0, g1, rfl⟩⟩
          · cases he
        · cases he
      · cases he
    · cases he
  · cases he

theorem op_extract_ok (H : HRel X σ F h w) {v : Value} {a : AV Δ} {i : Nat} (hv : AR X h σ w (Sof F w) v a)
    {gs : List Bool} {ef : Eff Δ} (he : opExtract a i = some (gs, ef)) :
    OpOk X ((do Pure.pure (Next.value (← Instr.extract v i)) : Sem Next).run P w) σ F h w ef := by
  unfold opExtract at he
  split at he
  · rename_i ps
    split at he
    · rename_i p hp
      cases he
      obtain ⟨vs, rfl, hvs⟩ := hv
      obtain ⟨u, hu, hr⟩ := hvs.get hp
      exact OpOk.pure H rfl (run_v (v := u) (by simp [Instr.extract, hu])) hr
    · cases he
  · cases he

theorem op_convert_ok (pok : Pok X P) {s d : Nat} {si di : TI} (hs : TIok P Δ si s) (hd : TIok P Δ di d) (H : HRel X σ F h w) {v : Value} {a : AV Δ} {ed : TyD} (hed : ∀ e, si.d = .slice e → ed = .int .u8 → P.underlying e = some (.int .u8)) (hv : AR X h σ w (Sof F w) v a)
    {gs : List Bool} {ef : Eff Δ} (he : opConvert X h si.d ed di.d a = some (gs, ef)) :
    OpOk X ((do Pure.pure (Next.value (← convert s d v)) : Sem Next).run P w) σ F h w ef := by
  have hus := hs.und
  have hud := hd.und
  unfold opConvert at he
  split at he
  · rename_i k hk
    rw [hk] at hud
    have hud : P.underlying d = some (.int k) := hud
    split at he
    · rename_i k' n
      cases he
      have := AR.int hv; subst this
      refine OpOk.pure H rfl (run_v (v := .int k (k.wrap n)) ?_) ((Rel.int X).2 ⟨rfl, rfl⟩)
      have : ∃ ud, P.underlying s = some ud := by
        unfold UndOk at hus
        split at hus
        case h_5 => obtain ⟨fa, h1, _⟩ := hus; exact ⟨_, h1⟩
        case h_6 => obtain ⟨fa, h1⟩ := hus; exact ⟨_, h1⟩
        case h_7 => obtain ⟨fa, h1⟩ := hus; exact ⟨_, h1⟩
        case h_8 => obtain ⟨fa, h1, _⟩ := hus; exact ⟨_, h1⟩
        case h_9 => exact ⟨_, hus.1⟩
        all_goals exact ⟨_, hus⟩
      obtain ⟨ud, h1⟩ := this
      simp [convert, run_und h1, run_und hud, Conv.intToInt]
    · cases he
  · rename_i hk
    rw [hk] at hud
    have hud : P.underlying d = some .string := hud
    split at he
    · rename_i hsd
      rw [hsd] at hus
      have hus : P.underlying s = some .string := hus
      split at he
      · rename_i str
        cases he
        have := AR.str hv; subst this
        refine OpOk.pure H rfl (run_v (v := .string ⟨str.toArray⟩) ?_) ((Rel.str X).2 ⟨rfl, rfl⟩)
        simp [convert, run_und hus, run_und hud]
      · cases he
    · rename_i e hsd
      rw [hsd] at hus
      have hus : P.underlying s = some (.slice e) := hus
      split at he
      · have hue := hed e hsd rfl
        split at he
        · rename_i l os hl
          cases he
          obtain ⟨m, news, Gs, hsrc, _⟩ := asList_src pok.xok H hv hl
          obtain ⟨r1, r2, r3, r4⟩ := hsrc.run (P := P) pok.xok (w0 := w) rfl
          obtain ⟨a', cap, rfl, q1, q2, q3⟩ := hsrc
          have hn : ∀ (l : List Int) (news : List Value) (Gs : List (List Nat)), All3 (Rel X m w (Sof F w)) news (l.flatMap (fun x => [CV.int IntKind.u8 x])) Gs → news = l.map (Value.int .u8) := by
            intro l
            induction l with
            | nil => intro news Gs q; cases q; rfl
            | cons x l ih =>
              intro news Gs q
              cases q with
              | cons c1 c2 =>
                rw [((Rel.int X).1 c1).1, ih _ _ c2]; rfl
          have hnews : news = l.map (Value.int .u8) := hn l news Gs q3
          have hfold : ∀ (l : List Int) (acc : List UInt8), l.foldl (fun r n => ByteArray.push r (UInt8.ofNat n.toNat)) ⟨acc.toArray⟩ = ⟨(acc ++ bytesOf l).toArray⟩ := by
            intro l
            induction l with
            | nil => intro acc; simp [bytesOf]
            | cons x l ih =>
              intro acc
              have : ByteArray.push ⟨acc.toArray⟩ (UInt8.ofNat x.toNat) = ⟨(acc ++ [UInt8.ofNat x.toNat]).toArray⟩ := by
                apply ByteArray.ext; simp [ByteArray.push]
              simp only [List.foldl_cons, this]
              rw [ih]
              simp [bytesOf]
          refine OpOk.pure H rfl (run_v (v := .string ⟨(bytesOf l).toArray⟩) ?_) ((Rel.str X).2 ⟨rfl, rfl⟩)
          rw [run_convert_bytes_string w s d e _ _ _ hus hue hud]
          cases a' with
          | none =>
            have q2 : l = [] := q2 rfl
            simp [Conv.bytesToString, bytesOf, q2]
            rfl
          | some ad =>
            simp only [Builtin.firstCells] at r2
            rw [show l.length * ksz X (.int .u8) = l.length by simp [ksz, kcs]] at r2
            rw [run_bytesToString w ad l.length cap l (by rw [r2, hnews])]
            have := hfold l []
            simp only [List.nil_append] at this
            rw [← this]
            rfl
        · cases he
      · cases he
    · cases he
  · cases he
end
end Go.Ev

/- Every operation but calls of functions: what the machine does is what the evaluator says. -/
set_option linter.unusedVariables false
set_option linter.unusedSimpArgs false
namespace Go.Ev
variable {Δ : Nat → Type} {X : Cx Δ} {P : Program}
section
variable {σ σ' : Nat → Option Value} {F F' : Nat → List Nat} {h h' : Heap Δ} {w w' : World} {S : Nat → Prop}

theorem fill_any (pok : Pok X P) (H : HRel X σ F h w) {fs : List (Nat × Nat)} {place : Nat → Option (Nat × Nat)} (hpl : ∀ i off ft ts, fs[i]? = some (off, ft) → TIok P Δ ts ft → place i = some (off, ts.sz)) :
    ∀ (ps : List (Nat × AV Δ)) (vals : List (Nat × Value)) (cs cs' : List (CV Δ)) (zs : Array Value), All2 (AR X h σ w (Sof F w)) (vals.map (·.2)) (ps.map (·.2)) → vals.map (·.1) = ps.map (·.1) → All2 (VR X h σ w (Sof F w)) zs.toList cs → opBuild X fs cs ps = some cs' →
      ∃ zs', Instr.fill place zs vals = some zs' ∧ All2 (VR X h σ w (Sof F w)) zs'.toList cs'
  | [], vals, cs, cs', zs, hv, hi, hz, he => by
    have : vals = [] := by simpa using hi
    subst this
    simp [opBuild] at he; subst he
    exact ⟨zs, rfl, hz⟩
  | (i, a) :: ps, vals, cs, cs', zs, hv, hi, hz, he => by
    cases vals with
    | nil => simp at hi
    | cons q vals =>
      obtain ⟨j, v⟩ := q
      simp at hi
      obtain ⟨rfl, hi⟩ := hi
      cases hv with
      | cons v1 v2 =>
        simp only [opBuild] at he
        split at he
        · rename_i off ft vs hf hc
          split at he
          · rename_i ts hts
            split at he
            · rename_i hl hoff
              have hl := Nat.eq_of_beq_eq_true hl
              have hoff := Nat.le_of_ble_eq_true hoff
              have hoff : off + ts.sz ≤ cs.length := hoff
              obtain ⟨us, u1, u2, u3⟩ := pv_ok H v1 hc
              have hul := u2.length
              have hzl := hz.length
              simp at hzl
              have hsz : v.cells.size = ts.sz := by rw [u1]; simp; omega
              have hfold : Array.foldl (fun (cs : Array Value) x => match x with | (c, j) => cs.setIfInBounds (off + j) c) zs v.cells.zipIdx = (setAt zs.toList off us).toArray := by
                have := fold_set off us 0 zs (by simp; omega)
                rw [← Array.foldl_toList, Array.toList_zipIdx, u1]
                simpa using this
              simp only [Instr.fill, hpl j off ft ts hf (pok.ti _ _ hts)]
              rw [if_neg (by simp; omega), hfold]
              exact fill_any pok H hpl ps vals _ _ _ v2 hi (by simpa using hz.setAt u2 off) he
            · cases he
          · cases he
        · cases he

theorem op_build_ok (pok : Pok X P) {t : Nat} {i : TI} (ht : TIok P Δ i t) {fs : List (Nat × Nat)} (hd : i.d = .struct fs) (H : HRel X σ F h w) {ps : List (Nat × AV Δ)} {vals : List (Nat × Value)} (hv : All2 (AR X h σ w (Sof F w)) (vals.map (·.2)) (ps.map (·.2))) (hi : vals.map (·.1) = ps.map (·.1))
    {zs cs : List (CV Δ)} (hz : ofVals i.zero = some zs) (he : opBuild X fs zs ps = some cs) {ef : Eff Δ} (hef : ef = { val := .v (.agg cs) }) :
    OpOk X ((do Pure.pure (Next.value (← Instr.build t vals.toArray)) : Sem Next).run P w) σ F h w ef := by
  subst hef
  have hu := ht.und
  rw [hd] at hu
  obtain ⟨fa, hu, rfl, hsz⟩ := hu
  obtain ⟨inf, z, h1, h2, h3, h4, h5⟩ := ht.inf
  have hmap : ∃ pl : Array (Nat × Nat), (fa.mapM fun (f : Field) => Prod.mk f.offset <$> sizeOf f.type : Sem _).run P w = .ok pl w ∧ ∀ (i off ft : Nat) (ts : TI), (fa.toList.map fun f => (f.offset, f.type))[i]? = some (off, ft) → TIok P Δ ts ft → pl[i]? = some (off, ts.sz) := by
    have : ∀ (L : List Field), (∀ f ∈ L, ∃ inf, P.info? f.type = some inf ∧ inf.size ≠ 0) → ∃ pl : List (Nat × Nat), (L.mapM fun (f : Field) => Prod.mk f.offset <$> sizeOf f.type : Sem _).run P w = .ok pl w ∧ ∀ (i off ft : Nat) (ts : TI), (L.map fun f => (f.offset, f.type))[i]? = some (off, ft) → TIok P Δ ts ft → pl[i]? = some (off, ts.sz) := by
      intro L
      induction L with
      | nil => intro _; exact ⟨[], by simp, by simp⟩
      | cons f L ih =>
        intro hL
        obtain ⟨pl, p1, p2⟩ := ih fun f hf => hL f (by simp [hf])
        obtain ⟨inf, q1, q2⟩ := hL f (by simp)
        refine ⟨(f.offset, inf.size) :: pl, ?_, fun i off ft ts hi hts => ?_⟩
        · rw [List.mapM_cons]
          simp only [Sem.run_bind, sizeOf, typeInfo] at p1 ⊢
          simp [q1] at p1 ⊢
          simp [p1]
        · cases i with
          | zero =>
            simp at hi
            obtain ⟨rfl, rfl⟩ := hi
            obtain ⟨inf', z', e1, e2, _⟩ := hts.inf
            rw [q1] at e1; cases e1
            simp [e2]
          | succ i => simpa using p2 i off ft ts (by simpa using hi) hts
    obtain ⟨pl, p1, p2⟩ := this fa.toList hsz
    refine ⟨pl.toArray, ?_, fun i off ft ts hi hts => by simpa using p2 i off ft ts hi hts⟩
    rw [Array.mapM_eq_mapM_toList]
    simp [p1]
  obtain ⟨pl, p1, p2⟩ := hmap
  obtain ⟨zs', f1, f2⟩ := fill_any pok H (place := (pl[·]?)) p2 ps vals zs cs z.cells hv hi (by rw [h5]; exact ofVals_ok hz) he
  refine OpOk.pure H rfl (run_v (v := .agg zs') ?_) ⟨zs'.toList, by simp, f2⟩
  simp [Instr.build, zeroValue, typeInfo, h1, h4, run_und hu, p1, f1]

theorem minmax_ok (mx : Bool) : ∀ {as : List (AV Δ)} {vs : List Value} {a r : AV Δ} {v : Value}, All2 (AR X h σ w S) vs as → AR X h σ w S v a → minmax mx a as = some r → ∃ u, (vs.foldlM (match mx with | true => Builtin.max2 | false => Builtin.min2) v).run P w = .ok u w ∧ AR X h σ w S u r
  | [], vs, a, r, v, hv, ha, he => by
    cases hv
    simp [minmax] at he; subst he
    exact ⟨v, by simp, ha⟩
  | b :: as, vs, a, r, v, hv, ha, he => by
    cases hv with
    | cons v1 v2 =>
      simp only [minmax] at he
      split at he
      · rename_i k x k' y
        have := AR.int ha; subst this
        have := AR.int v1; subst this
        cases mx with
        | true =>
          obtain ⟨u, u1, u2⟩ := minmax_ok true v2 (v := .int k (cond (decide (y > x)) y x)) (a := .c (.int k _)) ((Rel.int X).2 ⟨rfl, rfl⟩) he
          refine ⟨u, ?_, u2⟩
          rw [List.foldlM_cons]
          have : (Builtin.max2 (.int k x) (.int k' y)).run P w = .ok (.int k (cond (decide (y > x)) y x)) w := by
            by_cases hh : y > x <;> simp [Builtin.max2, hh]
          simp only [Sem.run_bind, this, Result.andThen_ok]; exact u1
        | false =>
          obtain ⟨u, u1, u2⟩ := minmax_ok false v2 (v := .int k (cond (decide (y < x)) y x)) (a := .c (.int k _)) ((Rel.int X).2 ⟨rfl, rfl⟩) he
          refine ⟨u, ?_, u2⟩
          rw [List.foldlM_cons]
          have : (Builtin.min2 (.int k x) (.int k' y)).run P w = .ok (.int k (cond (decide (y < x)) y x)) w := by
            by_cases hh : y < x <;> simp [Builtin.min2, hh]
          simp only [Sem.run_bind, this, Result.andThen_ok]; exact u1
      · cases he

theorem op_store_ok (pok : Pok X P) {t : Nat} {i : TI} (ht : TIok P Δ i t) (H : HRel X σ F h w) {a v : Value} {aa av : AV Δ} (ha : AR X h σ w (Sof F w) a aa) (hv : AR X h σ w (Sof F w) v av)
    {gs : List Bool} {ef : Eff Δ} (he : opStore X h i aa av = some (gs, ef)) :
    OpOk X ((do Instr.storeAt t a v; Pure.pure Next.skip : Sem Next).run P w) σ F h w ef := by
  unfold opStore at he
  split at he
  · cases he
  · rename_i vs hc
    split at he
    · cases he
    · rename_i hl
      have hl := Nat.eq_of_beq_eq_true hl
      split at he
      · rename_i p off
        split at he
        · rename_i t' cs hg
          split at he
          · rename_i hm hoff
            have hoff : off + i.sz ≤ cs.length := Nat.le_of_ble_eq_true hoff
            cases he
            obtain ⟨w', r1, r2⟩ := store_box_ok H ht hg hm ha hv hc hl hoff
            exact ⟨undef, w', _, _, .inr ⟨run_u r1, rfl⟩, r2, trivial, fun o ho => .inl ho⟩
          · cases he
        · cases he
      · rename_i p k' ix off
        split at he
        · rename_i d k l ver hg
          split at he
          · rename_i vs' dels hk habs
            have hk : k' = k := by simpa using hk
            subst hk
            split at he
            · rename_i x hp hnd hoff hx
              have hoff : off + i.sz ≤ ksz X k' := Nat.le_of_ble_eq_true hoff
              cases he
              obtain ⟨w', F', r1, r2⟩ := store_arr_ok pok.xok H ht hg ha hv hc hl hoff habs (isIn_not.1 hp) (nodup_ok hnd) hx
              exact ⟨undef, w', _, _, .inr ⟨run_u r1, rfl⟩, r2, trivial, fun o ho => .inl ho⟩
            · cases he
          · cases he
        · cases he
      · rename_i p ver' k' ix off k2 i2 off2
        split at he
        · rename_i k l ver hg
          split at he
          · rename_i k2' l2 hk hver hx0
            have hk : k' = k := by simpa using hk
            subst hk
            have hver := Nat.eq_of_beq_eq_true hver
            subst hver
            split at he
            · rename_i vs' hk2 hfl habs
              have hk2 : k2 = k2' := by simpa using hk2
              subst hk2
              split at he
              · rename_i x2 hoff hx2
                have hoff : off2 + i.sz ≤ ksz X k2 := Nat.le_of_ble_eq_true hoff
                split at he
                · rename_i x hx
                  cases he
                  obtain ⟨w', F', r1, r2⟩ := store_dpp_ok pok.xok H ht hg ha hv hc hl hx0 hfl hoff habs hx2 hx
                  exact ⟨undef, w', _, _, .inr ⟨run_u r1, rfl⟩, r2, trivial, fun o ho => .inl ho⟩
                · cases he
              · cases he
            · cases he
          · cases he
        · cases he
      · cases he
end
end Go.Ev

/- Maps of truths by numbers: making one, asking it, putting into it; the check of a pointer. -/
set_option linter.unusedVariables false
set_option linter.unusedSimpArgs false
namespace Go.Ev
variable {Δ : Nat → Type} {X : Cx Δ} {P : Program}
section
variable {σ σ' : Nat → Option Value} {F F' : Nat → List Nat} {h h' : Heap Δ} {w w' : World} {S : Nat → Prop}

theorem op_nilCheck_ok (H : HRel X σ F h w) {v : Value} {a : AV Δ} (hv : AR X h σ w (Sof F w) v a) {gs : List Bool} {ef : Eff Δ} (he : opNilCheck h a = some (gs, ef)) :
    ∃ b off, v = .pointer (some ⟨b, off, none⟩) ∧ ef.writes = [] ∧ AR X h σ w (Sof F w) v ef.val := by
  unfold opNilCheck at he
  split at he
  · rename_i p off
    split at he
    · rename_i t' cs hg
      split at he
      · rename_i hm
        cases he
        obtain ⟨b, c, g1, g2, g3, g4⟩ := (H.ob p _ hg).box hm
        obtain ⟨r, h1, h2⟩ := hv
        rw [g1] at h1; cases h1
        exact ⟨b, off, h2.ptr, rfl, ⟨_, g1, h2⟩⟩
      · cases he
    · cases he
  · cases he

theorem mapD_ok (pok : Pok X P) {t : Nat} {i : TI} (ht : TIok P Δ i t) (hd : isMapD X i = true) :
    ∃ k e, P.underlying t = some (.map k e) ∧ P.underlying k = some (.int .i64) ∧ ∀ w, (zeroValue e).run P w = .ok (.bool false) w := by
  unfold isMapD at hd
  split at hd
  · rename_i k e he
    split at hd
    · rename_i ik ie hk hie
      split at hd
      · rename_i d1 d3
        have hu := ht.und
        rw [he] at hu
        have hu2 := (pok.ti _ _ hk).und
        rw [d1] at hu2
        obtain ⟨hu, inf, h1, h4⟩ := hu
        refine ⟨k, e, hu, hu2, fun w => ?_⟩
        simp [zeroValue, typeInfo, h1, h4]
      · cases hd
    · cases hd
  · cases hd
theorem find_ok (n : Int) : ∀ (es : List MapEntry) (l : List Int) (i : Nat), es.map (fun e => (e.key, e.val)) = l.map (fun n => (Value.int .i64 n, Value.bool true)) →
    (Instr.findNow (.int .i64) (.int .i64 n) es i = some none ∧ mapHas l n = false) ∨ ∃ j, Instr.findNow (.int .i64) (.int .i64 n) es i = some (some (i + j, .bool true)) ∧ mapHas l n = true ∧ l[j]? = some n
  | [], [], i, _ => .inl ⟨rfl, rfl⟩
  | [], _ :: _, _, h => by cases h
  | _ :: _, [], _, h => by cases h
  | e :: es, a :: l, i, h => by
    simp only [List.map_cons, List.cons.injEq, Prod.mk.injEq] at h
    obtain ⟨⟨h1, h2⟩, h3⟩ := h
    by_cases hn : n = a
    · subst hn
      exact .inr ⟨0, by simp [Instr.findNow, h1, h2, Instr.sameNow], by simp [mapHas], rfl⟩
    · have hb : (n == a) = false := by simpa using hn
      rcases find_ok n es l (i + 1) h3 with ⟨g1, g2⟩ | ⟨j, g1, g2, g3⟩
      · exact .inl ⟨by simp [Instr.findNow, h1, Instr.sameNow, hb, g1], by simp [mapHas, hb, g2]⟩
      · exact .inr ⟨j + 1, by simp [Instr.findNow, h1, Instr.sameNow, hb, g1]; omega, by simp [mapHas, hb, g2], by simpa using g3⟩
theorem checkKey_int {k : Nat} (hk : P.underlying k = some (.int .i64)) (b : Bool) (n : Int) (w : World) : (Instr.checkKey b 10000 k (.int .i64 n)).run P w = .ok () w := by
  have : ∀ m : Nat, (Instr.checkKey b (m + 1) k (.int .i64 n)).run P w = .ok () w := fun m => by simp [Instr.checkKey, run_und hk]
  exact this 9999
/-- the keys of a map -/
theorem mapKeys_ok (H : HRel X σ F h w) {v : Value} {a : AV Δ} (hv : AR X h σ w (Sof F w) v a) {p : Nat} {l : List Int} (he : mapKeys h a = some (p, l)) :
    ∃ b es ck, hget h p = some (.box mapTag [.shs (.int .i64) l]) ∧ v = .map (some b) ∧ σ p = some (.map (some b)) ∧ F p = [b] ∧ w.heap[b]? = some (.map es ck) ∧ es.toList.map (fun e => (e.key, e.val)) = l.map fun n => (.int .i64 n, .bool true) := by
  unfold mapKeys at he
  split at he
  · rename_i p'
    split at he
    · rename_i t' k l' hg
      split at he
      · rename_i l2 hm hc
        cases he
        have hk : k = .int .i64 := by
          unfold castL at hc
          split at hc
          · assumption
          · cases hc
        subst hk
        have hl : l' = l := by
          unfold castL at hc
          simpa using hc
        subst hl
        have ht : t' = mapTag := Nat.eq_of_beq_eq_true hm
        subst ht
        have hx : ObR X h σ w (Sof F w) (F p) p (.box mapTag [.shs (.int .i64) l']) := H.ob p _ hg
        obtain ⟨r, r1, r2⟩ := hv
        rcases hx with ⟨g0, _⟩ | ⟨_, b, g1, g2, l3, es, ck, g3, g4, g5⟩ | ⟨g0, _⟩
        · cases g0
        · rw [g1] at r1; cases r1
          cases g3
          exact ⟨b, es, ck, hg, r2.map, g1, g2, g4, g5⟩
        · cases g0
      · cases he
    · cases he
  · cases he
theorem op_makeMap_ok (pok : Pok X P) {t : Nat} {i : TI} (ht : TIok P Δ i t) (H : HRel X σ F h w) {used : List Nat} (hused : ∀ o, σ o ≠ none → isIn used o = true) {dst : Option Nat}
    {gs : List Bool} {e : Eff Δ} (he : opMakeMap X used dst i = some (gs, e)) : OpOk X ((do Pure.pure (Next.value (← Instr.makeMap t none)) : Sem Next).run P w) σ F h w e := by
  unfold opMakeMap at he
  split at he
  · refine new_ok H hused he (r := _) (root := .map (some w.heap.size)) (w1 := w.alloc (.map #[] 0)) (run_v (by simp [Instr.makeMap])) rfl (Fn := [w.heap.size]) (by simp) (fun b hb _ => alloc_old w _ hb) (fun b hb => ?_) (by simp) (fun id h' σ' F' vr sub _ hs => ?_) (fun id h' σ' S' hs => ⟨_, hs, .inr ⟨_, rfl, rfl, rfl⟩⟩)
    · simp at hb; subst hb; exact ⟨by simp, .inr (Nat.le_refl _)⟩
    · exact .inr (.inl ⟨rfl, w.heap.size, hs, rfl, [], #[], 0, rfl, alloc_new w _, rfl⟩)
  · cases he
theorem op_lookup_ok (pok : Pok X P) {t : Nat} {i : TI} (ht : TIok P Δ i t) (H : HRel X σ F h w) {v u : Value} {a ix : AV Δ} (hv : AR X h σ w (Sof F w) v a) (hu : AR X h σ w (Sof F w) u ix)
    {gs : List Bool} {e : Eff Δ} (he : opLookup X h i a ix = some (gs, e)) : OpOk X ((do Pure.pure (Next.value (← Instr.lookup t v u false)) : Sem Next).run P w) σ F h w e := by
  unfold opLookup at he
  split at he
  · rename_i p l n hd hk
    cases he
    obtain ⟨k, el, u1, u2, u3⟩ := mapD_ok pok ht hd
    obtain ⟨b, es, ck, g1, g2, g3, g4, g5, g6⟩ := mapKeys_ok H hv hk
    have hn := AR.int hu
    subst g2 hn
    refine OpOk.pure H rfl (v := .bool (mapHas l n)) (run_v ?_) ((Rel.bool X).2 ⟨rfl, rfl⟩)
    rcases find_ok n es.toList l 0 g6 with ⟨f1, f2⟩ | ⟨j, f1, f2, _⟩
    · simp [Instr.lookup, run_und u1, MapKept.run_getObj_map g5, checkKey_int u2, Instr.findKey, run_und u2, f1, f2, u3]
    · simp [Instr.lookup, run_und u1, MapKept.run_getObj_map g5, checkKey_int u2, Instr.findKey, run_und u2, f1, f2]
  · cases he
theorem setObj_heap (w : World) (b : Nat) (o o' : Obj) (hb : w.heap[b]? = some o) : ({ w with heap := w.heap.setIfInBounds b o' } : World).heap[b]? = some o' := by
  have hlt : b < w.heap.size := (Array.getElem?_eq_some_iff.1 hb).1
  show (w.heap.setIfInBounds b o')[b]? = _
  simp [Array.getElem?_setIfInBounds, hlt]
theorem op_mapUpdate_ok (pok : Pok X P) {t : Nat} {i : TI} (ht : TIok P Δ i t) (H : HRel X σ F h w) {v u x : Value} {a ix av : AV Δ} (hv : AR X h σ w (Sof F w) v a) (hu : AR X h σ w (Sof F w) u ix) (hx : AR X h σ w (Sof F w) x av)
    {gs : List Bool} {e : Eff Δ} (he : opMapUpdate X h i a ix av = some (gs, e)) : OpOk X ((do Instr.mapUpdate t v u x; Pure.pure Next.skip : Sem Next).run P w) σ F h w e := by
  unfold opMapUpdate at he
  split at he
  · rename_i p l n hd hk
    cases he
    obtain ⟨k, el, u1, u2, u3⟩ := mapD_ok pok ht hd
    obtain ⟨b, es, ck, g1, g2, g3, g4, g5, g6⟩ := mapKeys_ok H hv hk
    have hn := AR.int hu
    have hb := AR.bool hx
    subst g2 hn hb
    have upd : ∀ (es' : Array MapEntry) (ck' : Nat) (l' : List Int), es'.toList.map (fun e => (e.key, e.val)) = l'.map (fun n => (Value.int .i64 n, Value.bool true)) →
        Stp X σ F h w σ (fun x => if x = p then F p else F x) ((p, some (.box mapTag [.shs (.int .i64) l'])) :: h) { w with heap := w.heap.setIfInBounds b (.map es' ck') } := by
      intro es' ck' l' he'
      have := stp_upd H (p := p) (dels := []) (ob := .box mapTag [.shs (.int .i64) l']) (Fn := F p) (w1 := { w with heap := w.heap.setIfInBounds b (.map es' ck') }) (by simp) (by simp) g1 (by simp)
        (fun b' _ hb' => by
          have hne : b' ≠ b := fun e => hb' (by rw [g4, e]; simp)
          show (w.heap.setIfInBounds b _)[b']? = _
          simp [Array.getElem?_setIfInBounds, Ne.symm hne]) (fun b' hb' => .inl hb') (H.nd p) (fun k l ver e => by cases e)
        (fun h' F' vr sub _ => .inr (.inl ⟨rfl, b, g3, g4, l', es', ck', rfl, setObj_heap w b _ _ g5, he'⟩))
      simpa using this
    rcases find_ok n es.toList l 0 g6 with ⟨f1, f2⟩ | ⟨j, f1, f2, f3⟩
    · refine ⟨undef, _, _, _, .inr ⟨run_u (w' := { w with heap := w.heap.setIfInBounds b (.map (es.push { key := .int .i64 n, val := .bool true, born := ck }) (ck + 1)) }) ?_, rfl⟩, by
        have := upd (es.push { key := .int .i64 n, val := .bool true, born := ck }) (ck + 1) (l ++ [n]) (by simp [g6])
        simpa [mapPut, f2] using this, trivial, fun o ho => .inl ho⟩
      simp [Instr.mapUpdate, run_und u1, MapKept.run_getObj_map g5, checkKey_int u2, Instr.findKey, run_und u2, f1, MapKept.run_setObj_map _ g5]
    · have hl : es.toList.length = l.length := by simpa using congrArg List.length g6
      have hj : j < l.length := (List.getElem?_eq_some_iff.1 f3).1
      have hj' : j < es.size := by rw [← Array.length_toList, hl]; exact hj
      have hkey : es[j].key = .int .i64 n ∧ es[j].val = .bool true := by
        have := congrArg (fun l => l[j]?) g6
        simp only [List.getElem?_map, f3] at this
        simpa [hj'] using this
      refine ⟨undef, _, _, _, .inr ⟨run_u (w' := { w with heap := w.heap.setIfInBounds b (.map (es.modify j fun e => { e with key := .int .i64 n, val := .bool true }) ck) }) ?_, rfl⟩, by
        have := upd (es.modify j fun e => { e with key := .int .i64 n, val := .bool true }) ck l (by
          rw [← g6]
          apply List.ext_getElem?
          intro i
          simp only [List.getElem?_map, Array.getElem?_toList, Array.getElem?_modify]
          by_cases hi : j = i
          · subst hi
            simp [hj', hkey.1, hkey.2]
          · simp [hi])
        simpa [mapPut, f2] using this, trivial, fun o ho => .inl ho⟩
      have hsb : Instr.sameBits 10000 (.int .i64 n) (.int .i64 n) = true := by
        have : ∀ m : Nat, Instr.sameBits m (.int .i64 n) (.int .i64 n) = true := fun m => by cases m <;> simp [Instr.sameBits]
        exact this 10000
      simp [Instr.mapUpdate, run_und u1, MapKept.run_getObj_map g5, checkKey_int u2, Instr.findKey, run_und u2, f1, Instr.keyThatStays, hj', hkey.1, hsb, MapKept.run_setObj_map _ g5]
  · cases he
end
end Go.Ev

/- Every operation but calls of functions, put together. -/
set_option linter.unusedVariables false
set_option linter.unusedSimpArgs false
namespace Go.Ev
variable {Δ : Nat → Type} {X : Cx Δ} {P : Program}
section
variable {σ σ' : Nat → Option Value} {F F' : Nat → List Nat} {h h' : Heap Δ} {w w' : World} {S : Nat → Prop}

theorem pickV_ok {t : Bool} {u v : Value} {x y : AV Δ} (r2 : AR X h σ w S u x) (r3 : AR X h σ w S v y) : AR X h σ w S (if t then u else v) (pickV t x y) := by
  by_cases hh : ∃ p q, x = .v (.one (.bool p)) ∧ y = .v (.one (.bool q))
  · obtain ⟨p, q, rfl, rfl⟩ := hh
    rw [AR.bool r2, AR.bool r3]
    refine (Rel.bool X).2 ⟨?_, rfl⟩
    cases t <;> rfl
  · have : pickV t x y = cond t x y := by
      unfold pickV
      split
      · exact absurd ⟨_, _, rfl, rfl⟩ hh
      · rfl
    rw [this]
    cases t
    · exact r3
    · exact r2
theorem run_next {s : Sem Value} : ((s.run P w).andThen fun a w' => Result.ok (Next.value a) w') = (do Pure.pure (Next.value (← s)) : Sem Next).run P w := by simp
theorem op1_ok (pok : Pok X P) (H : HRel X σ F h w) {used : List Nat} (hused : ∀ o, σ o ≠ none → isIn used o = true) {env : Env Δ} {a : Act} (E : ER X h σ w (Sof F w) env a) {dp : Nat → Bool} {o : Oper}
    {gs : List Bool} {ef : Eff Δ} (he : op1 X dp used o env h = some (gs, ef)) (hgs : ∀ g ∈ gs, g = true) : OpOk X ((execOp a.eval o).run P w) σ F h w ef := by
  unfold op1 at he
  split at he <;> rename_i ho <;> simp only [execOp, ho]
  · split at he
    · rename_i v hv; cases he; exact OpOk.pure H rfl (by simp) (rho_ok E hv)
    · cases he
  · split at he
    · rename_i v hv; cases he; exact OpOk.pure H rfl (by simp) (rho_ok E hv)
    · cases he
  · -- pick
    rename_i oc ox oy
    split at he
    · rename_i t x y h1 h2 h3
      cases he
      have := AR.bool (rho_ok E h1)
      exact OpOk.pure H rfl (v := if t then a.eval ox else a.eval oy) (by rw [this]; simp [asBool]) (pickV_ok (rho_ok E h2) (rho_ok E h3))
    · cases he
  · -- alloc
    split at he
    · rename_i i hi
      split at he
      · rename_i cs hz hm
        exact op_alloc_ok hm (pok.ti _ _ hi) H hused hz he
      · cases he
    · cases he
  · -- box
    split at he
    · rename_i i v hi hv
      split at he
      · rename_i cs hc
        split at he
        · rename_i hl hm
          exact op_box_ok hm (pok.ti _ _ hi) H hused (rho_ok E hv) hc he
        · cases he
      · cases he
    · cases he
  · -- build
    rename_i bt ps
    split at he
    · rename_i i vs hi hv
      split at he
      · rename_i fs zs hd hz
        split at he
        · rename_i cs hb
          cases he
          obtain ⟨b1, b2⟩ := rhoPs_ok E hv
          have := op_build_ok pok (pok.ti _ _ hi) hd H (vals := ps.toList.map fun (i, x) => (i, a.eval x)) (ps := vs) (by simpa [Function.comp_def] using b1) (by simpa [Function.comp_def] using b2) hz hb rfl
          simpa [← List.map_toArray] using this
        · cases he
      · cases he
    · cases he
  · -- buildSlice
    rename_i bt bn ps
    split at he
    · rename_i i vs hi hv
      split at he
      · rename_i e hd
        split at he
        · rename_i te d hte hdst
          split at he
          · rename_i hok
            obtain ⟨b1, b2⟩ := rhoPs_ok E hv
            split at he
            · have := op_buildOne_ok pok (pok.ti _ _ hi) hd (pok.ti _ _ hte) hok H hused (vals := ps.toList.map fun (i, x) => (i, a.eval x)) (ps := vs) (by simpa [Function.comp_def] using b1) (by simpa [Function.comp_def] using b2) he
              simpa [← List.map_toArray] using this
            · have := op_buildSlice_ok pok (pok.ti _ _ hi) hd (pok.ti _ _ hte) hok H hused (vals := ps.toList.map fun (i, x) => (i, a.eval x)) (ps := vs) (by simpa [Function.comp_def] using b1) (by simpa [Function.comp_def] using b2) he
              simpa [← List.map_toArray] using this
          · cases he
        · cases he
      · cases he
    · cases he
  · -- load
    split at he
    · rename_i i v hi hv
      obtain ⟨e1, e2, u, e3, e4⟩ := load_ok pok.xok H (pok.ti _ _ hi) he (rho_ok E hv)
      exact OpOk.pure H e1 (run_v e3) e4
    · cases he
  · -- store
    split at he
    · rename_i i x v hi hx hv
      exact op_store_ok pok (pok.ti _ _ hi) H (rho_ok E hx) (rho_ok E hv) he
    · cases he
  · -- nilCheck
    split at he
    · rename_i v hv
      obtain ⟨b, off, h2, h3, h4⟩ := op_nilCheck_ok H (rho_ok E hv) he
      rw [h2] at h4 ⊢
      exact OpOk.pure H h3 (by simp) h4
    · cases he
  · -- fieldAddr
    split at he
    · rename_i i v hi hv
      split at he
      · rename_i fs hd
        exact op_fieldAddr_ok (pok.ti _ _ hi) hd H (rho_ok E hv) he
      · cases he
    · cases he
  · -- field
    split at he
    · rename_i i v hi hv
      split at he
      · rename_i fs hd
        split at he
        · rename_i ft hf
          split at he
          · rename_i ts hts
            exact op_field_ok (pok.ti _ _ hi) hd hf (pok.ti _ _ hts) H (rho_ok E hv) he
          · cases he
        · cases he
      · cases he
    · cases he
  · -- indexAddr
    split at he
    · rename_i i x v hi hx hv
      split at he
      · rename_i e hd
        split at he
        · rename_i te hte
          have hu := (pok.ti _ _ hi).und
          rw [hd] at hu
          exact op_indexAddr_ok pok hu (pok.ti _ _ hte) H (rho_ok E hx) (rho_ok E hv) he hgs
        · cases he
      · cases he
    · cases he
  · -- index
    split at he
    · rename_i i x v hi hx hv
      split at he
      · rename_i hd
        have hu := (pok.ti _ _ hi).und
        rw [hd] at hu
        exact op_index_ok hu H (rho_ok E hx) (rho_ok E hv) he hgs
      · cases he
    · cases he
  · -- binOp
    split at he
    · rename_i i x v hi hx hv
      refine op_bin_ok (pok.ti _ _ hi) H (nilc := _) ?_ (rho_ok E hx) (rho_ok E hv) he hgs
      intro hn
      split at hn
      · rfl
      · cases hn
    · cases he
  · -- unOp
    split at he
    · rename_i b hv
      cases he
      have := AR.bool (rho_ok E hv)
      exact OpOk.pure H rfl (v := .bool (!b)) (run_v (by rw [this]; simp [Op.unary])) ((Rel.bool X).2 ⟨rfl, rfl⟩)
    · rename_i k n hv
      cases he
      have := AR.int (rho_ok E hv)
      exact OpOk.pure H rfl (v := .int k (k.wrap (0 - n))) (run_v (by rw [this]; simp [Op.unary, Op.intArith])) ((Rel.int X).2 ⟨rfl, rfl⟩)
    · cases he
  · -- convert
    split at he
    · rename_i si di x hsi hdi hx
      refine op_convert_ok pok (pok.ti _ _ hsi) (pok.ti _ _ hdi) H ?_ (rho_ok E hx) he
      intro e hd hed
      rw [hd] at hed
      have hed : (match tyi X e with | some te => te.d | none => TyD.other) = .int .u8 := hed
      split at hed
      · rename_i te hte
        have := (pok.ti _ _ hte).und
        rw [hed] at this
        exact this
      · cases hed
    · cases he
  · -- makeSlice
    split at he
    · rename_i i x y hi hx hy
      split at he
      · rename_i e hd
        split at he
        · rename_i te d hte hdst
          split at he
          · rename_i hok
            exact op_makeSlice_ok pok (pok.ti _ _ hi) hd (pok.ti _ _ hte) hok H hused (rho_ok E hx) (rho_ok E hy) he hgs
          · cases he
        · cases he
      · cases he
    · cases he
  · -- slice
    split at he
    · rename_i i x lo hi hti hx hlo hhi
      have hu := (pok.ti _ _ hti).und
      split at he
      · rename_i hd
        rw [hd] at hu
        exact op_sliceS_ok hu H (rho_ok E hx) (avOpt_ok E hlo) (avOpt_ok E hhi) he hgs
      · rename_i e hd
        rw [hd] at hu
        split at he
        · rename_i te hte
          exact op_slice_ok pok hu (pok.ti _ _ hte) H (rho_ok E hx) (avOpt_ok E hlo) (avOpt_ok E hhi) he hgs
        · cases he
      · cases he
    · cases he
  · -- slice with a bound
    split at he
    · rename_i i x hi m hti hx hhi hmx
      have hu := (pok.ti _ _ hti).und
      split at he
      · rename_i e hd
        rw [hd] at hu
        split at he
        · rename_i te hte
          exact op_slice3_ok pok hu (pok.ti _ _ hte) H (rho_ok E hx) (avOpt_ok E hhi) (rho_ok E hmx) he hgs
        · cases he
      · cases he
    · cases he
  · -- makeMap
    split at he
    · rename_i i hi
      exact op_makeMap_ok pok (pok.ti _ _ hi) H hused he
    · cases he
  · -- lookup
    split at he
    · rename_i i x v hi hx hv
      exact op_lookup_ok pok (pok.ti _ _ hi) H (rho_ok E hx) (rho_ok E hv) he
    · cases he
  · -- mapUpdate
    split at he
    · rename_i i x v u hi hx hv hu
      exact op_mapUpdate_ok pok (pok.ti _ _ hi) H (rho_ok E hx) (rho_ok E hv) (rho_ok E hu) he
    · cases he
  · -- extract
    split at he
    · rename_i x hx
      exact op_extract_ok H (rho_ok E hx) he
    · cases he
  · -- builtins
    rename_i c
    have hargs : ∀ {vs : List (AV Δ)}, rhos env c.args.toList = some vs → All2 (AR X h σ w (Sof F w)) (c.args.toList.map a.eval) vs := fun hv => rhos_ok E hv
    have hmap : (c.args.map a.eval) = (c.args.toList.map a.eval).toArray := by rw [← Array.toList_map]
    split at he
    · rename_i v hc hv
      have := hargs hv
      generalize c.args.toList.map a.eval = L at this hmap
      cases this with
      | cons v1 v2 =>
      cases v2
      simp only [resolve, hc, hmap, Sem.run_bind, Sem.run_pure, Result.andThen_ok, invoke, builtin]
      rw [run_next]
      split at he
      · rename_i t ts hat
        split at he
        · rename_i i hi
          split at he
          · rename_i hd
            exact op_len_ok pok (pok.ti _ _ hi) H (by rw [← Array.getElem?_toList, hat]; rfl) (.inl ⟨rfl, hd⟩) v1 he
          · rename_i e hd
            exact op_len_ok pok (pok.ti _ _ hi) H (by rw [← Array.getElem?_toList, hat]; rfl) (.inr ⟨rfl, e, hd⟩) v1 he
          · cases he
        · cases he
      · cases he
    · rename_i v vs hc hv
      have := hargs hv
      generalize c.args.toList.map a.eval = L at this hmap
      cases this with
      | cons v1 v2 =>
      simp only [resolve, hc, hmap, Sem.run_bind, Sem.run_pure, Result.andThen_ok, invoke, builtin]
      rw [run_next]
      split at he
      · rename_i r hr
        cases he
        obtain ⟨u, u1, u2⟩ := minmax_ok false v2 v1 hr
        exact OpOk.pure H rfl (run_v (by simpa [Builtin.min_] using u1)) u2
      · cases he
    · rename_i v vs hc hv
      have := hargs hv
      generalize c.args.toList.map a.eval = L at this hmap
      cases this with
      | cons v1 v2 =>
      simp only [resolve, hc, hmap, Sem.run_bind, Sem.run_pure, Result.andThen_ok, invoke, builtin]
      rw [run_next]
      split at he
      · rename_i r hr
        cases he
        obtain ⟨u, u1, u2⟩ := minmax_ok true v2 v1 hr
        exact OpOk.pure H rfl (run_v (by simpa [Builtin.max_] using u1)) u2
      · cases he
    · rename_i x y hc hv
      have := hargs hv
      generalize c.args.toList.map a.eval = L at this hmap
      cases this with
      | cons v1 v2 =>
      cases v2 with
      | cons v2 v3 =>
      cases v3
      simp only [resolve, hc, hmap, Sem.run_bind, Sem.run_pure, Result.andThen_ok, invoke, builtin]
      rw [run_next]
      split at he
      · rename_i st xt ts hat
        split at he
        · rename_i i xi hi hxi
          split at he
          · rename_i e e2 hd hd2
            split at he
            · rename_i te d hte hdst
              split at he
              · rename_i hok
                have hu := (pok.ti _ _ hi).und
                rw [hd] at hu
                have hu2 := (pok.ti _ _ hxi).und
                rw [hd2] at hu2
                exact op_append_ok pok (by rw [← Array.getElem?_toList, hat]; rfl) (by rw [← Array.getElem?_toList, hat]; rfl) hu hu2 (pok.ti _ _ hte) hok H hused v1 v2 he hgs
              · cases he
            · cases he
          · cases he
        · cases he
      · cases he
    · cases he
  · cases he
end
end Go.Ev

/- What an operation looks at: its result hangs on nothing else. -/
set_option linter.unusedVariables false
set_option linter.unusedSimpArgs false
namespace Go.Ev
variable {Δ : Nat → Type} {X : Cx Δ}
section
variable {h h' : Heap Δ}

theorem lendC_loc {c c' : CV Δ} {os : List Nat} (he : lendC X h c = some (c', os)) (hr : ∀ p ∈ os, hget h' p = hget h p) : lendC X h' c = some (c', os) := by
  cases c with
  | own o =>
    simp only [lendC] at he ⊢
    split at he
    · rename_i hg; cases he; rw [hr o (by simp), hg]
    · cases he
  | ovw o k lo hi =>
    simp only [lendC] at he ⊢
    split at he
    · rename_i hg
      split at he
      · rename_i hk; cases he; rw [hr o (by simp), hg]; simp only [hk]
      · cases he
    · cases he
  | dsl o ver k i off =>
    simp only [lendC] at he ⊢
    split at he
    · rename_i hg
      split at he
      · rename_i h1 h2 h3; cases he; rw [hr o (by simp), hg]; simp only [h1, h2, h3]
      · cases he
    · cases he
  | _ => first | simpa [lendC] using he | (simp [lendC] at he; done)
theorem asList_loc {a : AV Δ} {s : Lst Δ} (he : asList X h a = some s) (hr : ∀ p ∈ s.os, hget h' p = hget h p) : asList X h' a = some s := by
  unfold asList at he ⊢
  split at he
  · split at he
    · rename_i hl; cases he; simp only [lendC_loc hl hr]
    · cases he
  · cases he
theorem flatV_loc {a : AV Δ} {s : Lst Δ} (he : asList X h a = some s) (hr : ∀ p ∈ s.os, hget h' p = hget h p) : flatV h' a = flatV h a := by
  unfold flatV
  split
  · rename_i o k lo hi
    simp only [asList, lendC] at he
    split at he
    · rename_i k2 l2 os hc
      cases he
      split at hc
      · split at hc
        · cases hc
          rw [hr o (by simp)]
        · cases hc
      · cases hc
    · cases he
  · rfl
theorem absC_loc {d : Bool} {c c' : CV Δ} {os : List Nat} (he : absC X d h c = some (c', os)) (hr : ∀ p ∈ os, hget h' p = hget h p) : absC X d h' c = some (c', os) := by
  cases c with
  | own o =>
    simp only [absC] at he ⊢
    split at he
    · rename_i hg
      split at he
      · cases he
      · rename_i hk; cases he; rw [hr o (by simp), hg]; simp only [hk]
    · cases he
  | _ => first | simpa [absC] using he | (simp [absC] at he; done)
theorem absCs_loc {d : Bool} : ∀ {cs cs' : List (CV Δ)} {os : List Nat}, absCs X d h cs = some (cs', os) → (∀ p ∈ os, hget h' p = hget h p) → absCs X d h' cs = some (cs', os)
  | [], _, _, he, _ => by simpa [absCs] using he
  | c :: r, cs', os, he, hr => by
    simp only [absCs] at he ⊢
    split at he
    · cases he
    · rename_i h1
      split at he
      · cases he
      · rename_i h2
        cases he
        simp only [absC_loc h1 fun p hp => hr p (by simp [hp]), absCs_loc h2 fun p hp => hr p (by simp [hp])]
theorem elemsOf_loc {d : Bool} {k : Kd} : ∀ {n : Nat} {ps : List (Nat × AV Δ)} {xs : List (k.T Δ)} {os : List Nat}, elemsOf X d h k n ps = some (xs, os) → (∀ p ∈ os, hget h' p = hget h p) → elemsOf X d h' k n ps = some (xs, os)
  | _, [], _, _, he, _ => by simpa [elemsOf] using he
  | n, (i, v) :: r, xs, os, he, hr => by
    simp only [elemsOf] at he ⊢
    split at he
    · rename_i h1 h2
      split at he
      · rename_i h3
        split at he
        · rename_i h4 h5
          cases he
          simp only [h1, h2, absCs_loc h3 fun p hp => hr p (by simp [hp]), h4, elemsOf_loc h5 fun p hp => hr p (by simp [hp])]
        · cases he
      · cases he
    · cases he

theorem opLoad_loc {t : TI} {a : AV Δ} {gs : List Bool} {e : Eff Δ} (he : opLoad X h t a = some (gs, e)) (hr : ∀ p ∈ e.reads, hget h' p = hget h p) : opLoad X h' t a = some (gs, e) := by
  unfold opLoad at he ⊢
  split at he
  · split at he
    · rename_i hg
      split at he
      · rename_i h0 h1; cases he; simp only [hr _ (List.mem_singleton.2 rfl), hg, h0, h1]
      · cases he
    · cases he
  · exact he
  · split at he
    · rename_i hg
      split at he
      · rename_i h1 h2; cases he; simp only [hr _ (List.mem_singleton.2 rfl), hg, h1, h2]
      · cases he
    · rename_i hg
      split at he
      · rename_i h1 h2; cases he; simp only [hr _ (List.mem_singleton.2 rfl), hg, h1, h2]
      · cases he
    · cases he
  · split at he
    · rename_i hg
      split at he
      · rename_i h1 h2 h3
        split at he
        · rename_i h4 h5 h6; cases he; simp only [hr _ (List.mem_singleton.2 rfl), hg, h1, h2, h3, h4, h5, h6]
        · cases he
      · cases he
    · cases he
  · cases he

theorem opStore_loc {t : TI} {a v : AV Δ} {gs : List Bool} {e : Eff Δ} (he : opStore X h t a v = some (gs, e)) (hr : ∀ p ∈ e.reads, hget h' p = hget h p) : opStore X h' t a v = some (gs, e) := by
  unfold opStore at he ⊢
  split at he
  · cases he
  · rename_i hv
    split at he
    · cases he
    · rename_i hl
      try simp only [hv, hl]
      split at he
      · split at he
        · rename_i hg
          split at he
          · rename_i h0 h1; cases he; simp only [hr _ (List.mem_singleton.2 rfl), hg, h0, h1]
          · cases he
        · cases he
      · split at he
        · rename_i hg
          split at he
          · rename_i h1 h2
            split at he
            · rename_i h3 h4 h5 h6
              cases he
              simp only [hr _ (List.mem_cons_self ..), hg, h1, absCs_loc h2 fun p hp => hr p (List.mem_cons_of_mem _ hp), h3, h4, h5, h6]
            · cases he
          · cases he
        · cases he
      · split at he
        · rename_i hg
          split at he
          · rename_i h1 h2 h3
            split at he
            · rename_i h4 h5 h6
              split at he
              · rename_i h7 h8
                split at he
                · rename_i h9
                  cases he
                  simp only [hr _ (List.mem_singleton.2 rfl), hg, h1, h2, h3, h4, h5, absCs_loc h6 (by simp), h7, h8, h9]
                · cases he
              · cases he
            · cases he
          · cases he
        · cases he
      · cases he

theorem opIndexAddr_loc {te : TI} {a ix : AV Δ} {gs : List Bool} {e : Eff Δ} (he : opIndexAddr X h te a ix = some (gs, e)) (hr : ∀ p ∈ e.reads, hget h' p = hget h p) : opIndexAddr X h' te a ix = some (gs, e) := by
  unfold opIndexAddr at he ⊢
  split at he
  · split at he
    · exact he
    · split at he
      · rename_i hg
        split at he
        · rename_i h1; cases he; simp only [hr _ (List.mem_singleton.2 rfl), hg, h1]
        · cases he
      · cases he
    · split at he
      · rename_i hg
        split at he
        · rename_i h1 h2 h3
          split at he
          · rename_i h4; cases he; simp only [hr _ (List.mem_singleton.2 rfl), hg, h1, h2, h3, h4]
          · cases he
        · cases he
      · cases he
    · cases he
  · cases he
theorem opNilCheck_loc {a : AV Δ} {gs : List Bool} {e : Eff Δ} (he : opNilCheck h a = some (gs, e)) (hr : ∀ p ∈ e.reads, hget h' p = hget h p) : opNilCheck h' a = some (gs, e) := by
  unfold opNilCheck at he ⊢
  split at he
  · split at he
    · rename_i hg
      split at he
      · rename_i h1; cases he; simp only [hr _ (List.mem_singleton.2 rfl), hg, h1]
      · cases he
    · cases he
  · cases he
theorem mapKeys_loc {a : AV Δ} {p : Nat} {l : List Int} (he : mapKeys h a = some (p, l)) (hr : hget h' p = hget h p) : mapKeys h' a = some (p, l) := by
  unfold mapKeys at he ⊢
  split at he
  · split at he
    · rename_i hg
      split at he
      · rename_i h1 h2; cases he; simp only [hr, hg, h1, h2]
      · cases he
    · cases he
  · cases he
theorem opLookup_loc {t : TI} {a ix : AV Δ} {gs : List Bool} {e : Eff Δ} (he : opLookup X h t a ix = some (gs, e)) (hr : ∀ p ∈ e.reads, hget h' p = hget h p) : opLookup X h' t a ix = some (gs, e) := by
  unfold opLookup at he ⊢
  split at he
  · rename_i h1 h2; cases he; simp only [h1, mapKeys_loc h2 (hr _ (List.mem_singleton.2 rfl))]
  · cases he
theorem opMapUpdate_loc {t : TI} {a ix v : AV Δ} {gs : List Bool} {e : Eff Δ} (he : opMapUpdate X h t a ix v = some (gs, e)) (hr : ∀ p ∈ e.reads, hget h' p = hget h p) : opMapUpdate X h' t a ix v = some (gs, e) := by
  unfold opMapUpdate at he ⊢
  split at he
  · rename_i h1 h2; cases he; simp only [h1, mapKeys_loc h2 (hr _ (List.mem_singleton.2 rfl))]
  · cases he
theorem opFieldAddr_loc {fs : List (Nat × Nat)} {f : Nat} {a : AV Δ} {gs : List Bool} {e : Eff Δ} (he : opFieldAddr h fs f a = some (gs, e)) (hr : ∀ p ∈ e.reads, hget h' p = hget h p) : opFieldAddr h' fs f a = some (gs, e) := by
  unfold opFieldAddr at he ⊢
  split at he
  · cases he
  · rename_i hf
    try simp only [hf]
    split at he
    · split at he
      · rename_i hg
        split at he
        · rename_i h1; cases he; simp only [hr _ (List.mem_singleton.2 rfl), hg, h1]
        · cases he
      · cases he
    · exact he
    · exact he
    · split at he
      · rename_i hg
        split at he
        · rename_i h1 h2; cases he; simp only [hr _ (List.mem_singleton.2 rfl), hg, h1, h2]
        · cases he
      · cases he
    · cases he
theorem opSlice_loc {sz : Nat} {a : AV Δ} {lo hi : Option (AV Δ)} {gs : List Bool} {e : Eff Δ} (he : opSlice X sz h a lo hi = some (gs, e)) (hr : ∀ p ∈ e.reads, hget h' p = hget h p) : opSlice X sz h' a lo hi = some (gs, e) := by
  unfold opSlice at he ⊢
  split at he
  · exact he
  · split at he
    · rename_i hg
      split at he
      · rename_i h1 h2; cases he; simp only [hr _ (List.mem_singleton.2 rfl), hg, h1, h2]
      · cases he
    · cases he
  · cases he
theorem opLen_loc {str : Bool} {a : AV Δ} {gs : List Bool} {e : Eff Δ} (he : opLen X str h a = some (gs, e)) (hr : ∀ p ∈ e.reads, hget h' p = hget h p) : opLen X str h' a = some (gs, e) := by
  unfold opLen at he ⊢
  split at he
  · exact he
  · split at he
    · exact he
    · split at he
      · rename_i hl; cases he; simp only [asList_loc hl hr]
      · cases he
theorem opConvert_loc {sd ed dd : TyD} {a : AV Δ} {gs : List Bool} {e : Eff Δ} (he : opConvert X h sd ed dd a = some (gs, e)) (hr : ∀ p ∈ e.reads, hget h' p = hget h p) : opConvert X h' sd ed dd a = some (gs, e) := by
  unfold opConvert at he ⊢
  split at he
  · exact he
  · split at he
    · exact he
    · split at he
      · split at he
        · rename_i hl; cases he; simp only [asList_loc hl hr]
        · cases he
      · cases he
    · cases he
  · cases he
theorem newObj_loc {used used' : List Nat} {dst : Option Nat} {mk : Nat → CV Δ} {ob : Ob Δ} {dels : List Nat} {g gs : List Bool} {reads : List Nat} {e : Eff Δ} (he : newObj used dst mk ob dels g reads = some (gs, e)) (hn : ∀ x ∈ e.news, isIn used' x = false) :
    newObj used' dst mk ob dels g reads = some (gs, e) := by
  unfold newObj at he ⊢
  split at he
  · cases he
  · split at he
    · cases he
    · rename_i hu; cases he; simp only [hn _ (List.mem_singleton.2 rfl), (Bool.or_eq_false_iff.1 hu).2, Bool.or_self]
theorem newObj_reads {used : List Nat} {dst : Option Nat} {mk : Nat → CV Δ} {ob : Ob Δ} {dels : List Nat} {g gs : List Bool} {reads : List Nat} {e : Eff Δ} (he : newObj used dst mk ob dels g reads = some (gs, e)) : e.reads = reads ∧ ∀ x ∈ e.news, isIn used x = false := by
  unfold newObj at he
  split at he
  · cases he
  · split at he
    · cases he
    · rename_i hu; cases he; exact ⟨rfl, by simpa using (Bool.or_eq_false_iff.1 hu).1⟩
theorem opBuildOne_loc {used used' : List Nat} {dst : Option Nat} {te : TI} {len : Nat} {ps : List (Nat × AV Δ)} {gs : List Bool} {e : Eff Δ} (he : opBuildOne used dst h te len ps = some (gs, e)) (hr : ∀ p ∈ e.reads, hget h' p = hget h p) (hn : ∀ x ∈ e.news, isIn used' x = false) : opBuildOne used' dst h' te len ps = some (gs, e) := by
  unfold opBuildOne at he ⊢
  split at he
  · rename_i o
    split at he
    · rename_i d k l ver hg
      split at he
      · rename_i h1 h2 h3
        have := (newObj_reads he).1
        simp only [hr o (by rw [this]; simp), hg, h1, h2, h3, newObj_loc he hn]
      · cases he
    · cases he
  · cases he
theorem opBuildSlice_loc {d : Bool} {used used' : List Nat} {dst : Option Nat} {te : TI} {len : Nat} {ps : List (Nat × AV Δ)} {gs : List Bool} {e : Eff Δ} (he : opBuildSlice X d used dst h te len ps = some (gs, e)) (hr : ∀ p ∈ e.reads, hget h' p = hget h p) (hn : ∀ x ∈ e.news, isIn used' x = false) : opBuildSlice X d used' dst h' te len ps = some (gs, e) := by
  unfold opBuildSlice at he ⊢
  split at he
  · rename_i hel
    split at he
    · rename_i h1 h2 h3
      have := newObj_reads he
      simp only [elemsOf_loc hel (by rw [← this.1]; exact hr), h1, h2, h3, newObj_loc he hn]
    · cases he
  · cases he
theorem opMakeSlice_loc {d : Bool} {used used' : List Nat} {dst : Option Nat} {te : TI} {l c : AV Δ} {gs : List Bool} {e : Eff Δ} (he : opMakeSlice X d used dst te l c = some (gs, e)) (hn : ∀ x ∈ e.news, isIn used' x = false) : opMakeSlice X d used' dst te l c = some (gs, e) := by
  unfold opMakeSlice at he ⊢
  split at he
  · split at he
    · cases he
    · rename_i h1
      try simp only [h1]
      split at he
      · cases he
      · exact newObj_loc he hn
  · cases he
theorem opAppend_loc {d : Bool} {used used' : List Nat} {dst : Option Nat} {te : TI} {a b : AV Δ} {gs : List Bool} {e : Eff Δ} (he : opAppend X d used dst h te a b = some (gs, e)) (hr : ∀ p ∈ e.reads, hget h' p = hget h p) (hn : ∀ x ∈ e.news, isIn used' x = false) : opAppend X d used' dst h' te a b = some (gs, e) := by
  unfold opAppend at he ⊢
  split at he
  · split at he
    · exact newObj_loc he hn
    · rename_i q
      split at he
      · rename_i hg
        split at he
        · rename_i h1 h2
          have := (newObj_reads he).1
          simp only [hr q (by rw [this]; simp), hg, h1, h2, newObj_loc he hn]
        · cases he
      · cases he
    · rename_i hb1 hb2
      split at he
      · rename_i hl
        split at he
        · rename_i h1 h2
          have := (newObj_reads he).1
          have hl' := asList_loc hl (h' := h') (by rw [← this]; exact hr)
          rw [← flatV_loc hl (h' := h') (by rw [← this]; exact hr)] at h1
          first | (simp only [hl', h1, h2, newObj_loc he hn]; done) | (split <;> first | (exfalso; exact hb1 rfl) | (exfalso; exact hb2 _ rfl) | (exfalso; apply hb1; assumption) | (exfalso; apply hb2; assumption) | (simp only [hl', h1, h2, newObj_loc he hn]; done))
        · cases he
      · cases he
  · rename_i p
    split at he
    · rename_i hg
      split at he
      · cases he
      · rename_i hk
        split at he
        · have := (newObj_reads he).1
          simp only [hr p (by rw [this]; simp), hg, hk, newObj_loc he hn]
        · rename_i q
          split at he
          · rename_i hg2
            split at he
            · rename_i h1 h2 h3
              have := (newObj_reads he).1
              simp only [hr p (by rw [this]; simp), hr q (by rw [this]; simp), hg, hk, hg2, h1, h2, h3, newObj_loc he hn]
            · cases he
          · cases he
        · rename_i hb1 hb2
          split at he
          · rename_i hl
            split at he
            · rename_i h1 h2 h3
              have := (newObj_reads he).1
              have hl' := asList_loc hl (h' := h') (fun p hp => hr p (by rw [this]; simp [hp]))
              rw [← flatV_loc hl (h' := h') (fun p hp => hr p (by rw [this]; simp [hp]))] at h1
              simp only [hr p (by rw [this]; simp), hg, hk]
              first | (simp only [hl', h1, h2, h3, newObj_loc he hn]; done) | (split <;> first | (exfalso; exact hb1 rfl) | (exfalso; exact hb2 _ rfl) | (exfalso; apply hb1; assumption) | (exfalso; apply hb2; assumption) | (simp only [hl', h1, h2, h3, newObj_loc he hn]; done))
            · cases he
          · cases he
    · cases he
  · rename_i p ko lo hi
    split at he
    · rename_i hg
      split at he
      · rename_i h1 h2 h3
        split at he
        · rename_i q
          split at he
          · rename_i hg2
            split at he
            · rename_i h4 h5 h6
              have := (newObj_reads he).1
              simp only [hr p (by rw [this]; simp), hr q (by rw [this]; simp), hg, h1, h2, h3, hg2, h4, h5, h6, newObj_loc he hn]
            · cases he
          · cases he
        · cases he
      · cases he
    · cases he
  · cases he
end
end Go.Ev

/- What an operation looks at, put together. -/
set_option linter.unusedVariables false
set_option linter.unusedSimpArgs false
set_option maxHeartbeats 1000000
namespace Go.Ev
variable {Δ : Nat → Type} {X : Cx Δ}
section
variable {h h' : Heap Δ}

theorem op1_heap {dp : Nat → Bool} {used used' : List Nat} {o : Oper} {env : Env Δ} {gs : List Bool} {e : Eff Δ} (he : op1 X dp used o env h = some (gs, e)) (hr : ∀ p ∈ e.reads, hget h' p = hget h p) (hn : ∀ x ∈ e.news, isIn used' x = false) :
    op1 X dp used' o env h' = some (gs, e) := by
  unfold op1 at he ⊢
  split at he <;> rename_i ho <;> (try simp only [ho])
  · exact he
  · exact he
  · exact he
  · -- alloc
    split at he
    · rename_i hi
      split at he
      · rename_i hz hm; (try simp only [hi, hz, hm]); exact newObj_loc he hn
      · cases he
    · cases he
  · -- box
    split at he
    · rename_i hi hv
      split at he
      · rename_i hc
        split at he
        · rename_i hl hm; (try simp only [hi, hv, hc, hl, hm]); exact newObj_loc he hn
        · cases he
      · cases he
    · cases he
  · exact he
  · -- buildSlice
    split at he
    · rename_i hi hv
      split at he
      · rename_i hd
        split at he
        · rename_i hte hdst
          split at he
          · rename_i hok
            split at he
            · rename_i hone; (try simp only [hi, hv, hd, hte, hdst, hok, hone]); rw [hdst] at he; exact opBuildOne_loc he hr hn
            · rename_i hone; (try simp only [hi, hv, hd, hte, hdst, hok, hone]); rw [hdst] at he; exact opBuildSlice_loc he hr hn
          · cases he
        · cases he
      · cases he
    · cases he
  · -- load
    split at he
    · rename_i hi hv; (try simp only [hi, hv]); exact opLoad_loc he hr
    · cases he
  · -- store
    split at he
    · rename_i hi hx hv; (try simp only [hi, hx, hv]); exact opStore_loc he hr
    · cases he
  · -- nilCheck
    split at he
    · rename_i hv; (try simp only [hv]); exact opNilCheck_loc he hr
    · cases he
  · -- fieldAddr
    split at he
    · rename_i hi hv
      split at he
      · rename_i hd; (try simp only [hi, hv, hd]); exact opFieldAddr_loc he hr
      · cases he
    · cases he
  · exact he
  · -- indexAddr
    split at he
    · rename_i hi hx hv
      split at he
      · rename_i hd
        split at he
        · rename_i hte; (try simp only [hi, hx, hv, hd, hte]); exact opIndexAddr_loc he hr
        · cases he
      · cases he
    · cases he
  · exact he
  · exact he
  · exact he
  · -- convert
    split at he
    · rename_i hsi hdi hx; (try simp only [hsi, hdi, hx]); exact opConvert_loc he hr
    · cases he
  · -- makeSlice
    split at he
    · rename_i hi hx hy
      split at he
      · rename_i hd
        split at he
        · rename_i hte hdst
          split at he
          · rename_i hok; (try simp only [hi, hx, hy, hd, hte, hdst, hok]); rw [hdst] at he; exact opMakeSlice_loc he hn
          · cases he
        · cases he
      · cases he
    · cases he
  · -- slice
    split at he
    · rename_i hti hx hlo hhi
      try simp only [hti, hx, hlo, hhi]
      split at he
      · exact he
      · split at he
        · rename_i hte; (try simp only [hte]); exact opSlice_loc he hr
        · cases he
      · cases he
    · cases he
  · -- slice with a bound
    split at he
    · rename_i hti hx hhi hmx
      try simp only [hti, hx, hhi, hmx]
      exact he
    · cases he
  · -- makeMap
    split at he
    · rename_i hi
      try simp only [hi]
      unfold opMakeMap at he ⊢
      split at he
      · rename_i hd; (try simp only [hd]); exact newObj_loc he hn
      · cases he
    · cases he
  · -- lookup
    split at he
    · rename_i hi hx hv; (try simp only [hi, hx, hv]); exact opLookup_loc he hr
    · cases he
  · -- mapUpdate
    split at he
    · rename_i hi hx hv hu; (try simp only [hi, hx, hv, hu]); exact opMapUpdate_loc he hr
    · cases he
  · exact he
  · -- builtins
    split at he
    · rename_i hc hv
      split at he
      · rename_i hat
        split at he
        · rename_i hi
          try simp only [hc, hv, hat, hi]
          split at he
          · exact opLen_loc he hr
          · exact opLen_loc he hr
          · cases he
        · cases he
      · cases he
    · rename_i hc hv; (try simp only [hc, hv]); exact he
    · rename_i hc hv; (try simp only [hc, hv]); exact he
    · rename_i hc hv
      split at he
      · rename_i hat
        split at he
        · rename_i hi hxi
          split at he
          · rename_i hd hd2
            split at he
            · rename_i hte hdst
              split at he
              · rename_i hok; (try simp only [hc, hv, hat, hi, hxi, hd, hd2, hte, hdst, hok]); rw [hdst] at he; exact opAppend_loc he hr hn
              · cases he
            · cases he
          · cases he
        · cases he
      · cases he
    · cases he
  · cases he

theorem rhos_env {env env' : Env Δ} : ∀ {xs : List Operand}, (∀ x ∈ xs, rho env' x = rho env x) → rhos env' xs = rhos env xs
  | [], _ => rfl
  | x :: r, hh => by simp only [rhos, hh x (by simp), rhos_env (xs := r) fun y hy => hh y (by simp [hy])]
theorem rhoPs_env {env env' : Env Δ} : ∀ {xs : List (Nat × Operand)}, (∀ x ∈ xs, rho env' x.2 = rho env x.2) → rhoPs env' xs = rhoPs env xs
  | [], _ => rfl
  | (i, x) :: r, hh => by simp only [rhoPs, hh (i, x) (by simp), rhoPs_env (xs := r) fun y hy => hh y (by simp [hy])]
theorem avOpt_env {env env' : Env Δ} {x : Option Operand} (hh : ∀ y, x = some y → rho env' y = rho env y) : avOpt env' x = avOpt env x := by
  cases x with
  | none => rfl
  | some y => simp only [avOpt, hh y rfl]
theorem op1_env {dp : Nat → Bool} {used : List Nat} {o : Oper} {env env' : Env Δ} (hh : ∀ x ∈ o.op.operands, rho env' x = rho env x) : op1 X dp used o env' h = op1 X dp used o env h := by
  obtain ⟨dst, op, ty, pos, after, guard⟩ := o
  cases op <;> simp only [Op.operands] at hh <;> try (unfold op1; rfl)
  case build t ps =>
    have : rhoPs env' ps.toList = rhoPs env ps.toList := rhoPs_env fun x hx => hh x.2 (by simp; exact ⟨x.1, by simpa using hx⟩)
    unfold op1; simp only [this]
  case buildSlice t n ps =>
    have : rhoPs env' ps.toList = rhoPs env ps.toList := rhoPs_env fun x hx => hh x.2 (by simp; exact ⟨x.1, by simpa using hx⟩)
    unfold op1; simp only [this]
  case slice t x lo hi mx =>
    have h1 : rho env' x = rho env x := hh x (by simp)
    have h2 : avOpt env' lo = avOpt env lo := avOpt_env fun y hy => hh y (by subst hy; simp)
    have h3 : avOpt env' hi = avOpt env hi := avOpt_env fun y hy => hh y (by subst hy; simp)
    cases mx with
    | none => unfold op1; simp only [h1, h2, h3]
    | some m =>
      have h4 : rho env' m = rho env m := hh m (by simp)
      cases lo <;> (unfold op1; simp only [h1, h3, h4])
  case call c =>
    have : rhos env' c.args.toList = rhos env c.args.toList := rhos_env fun x hx => hh x (by have hx : x ∈ c.args := (by simpa using hx); simp [Call.operands, hx])
    unfold op1; simp only [this]
  case makeMap t r => unfold op1; cases r <;> rfl
  case lookup t x y b =>
    have h1 : rho env' x = rho env x := hh x (by simp)
    have h2 : rho env' y = rho env y := hh y (by simp)
    unfold op1; cases b <;> simp only [h1, h2]
  all_goals (unfold op1; simp [hh])
end
end Go.Ev
