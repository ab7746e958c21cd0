/- Effects: stores, appends, map updates. -/
import Derived.Test.YtlealdhgajomhaaAiWrite
namespace Go.AI
set_option linter.unusedVariables false
set_option linter.unusedSimpArgs false

section
variable {w0 : World} {P : Program} {μ : Mp} {σ : St} {w : World}

/-! ### stretches of lists -/
theorem putAt_length : ∀ (xs cs : List Value) (off : Nat), (putAt cs off xs).length = cs.length
  | [], _, _ => rfl
  | x :: xs, cs, off => by rw [putAt, putAt_length xs]; simp

theorem putAt_get : ∀ (xs cs : List Value) (off i : Nat), off + xs.length ≤ cs.length → (putAt cs off xs)[i]? = if off ≤ i ∧ i < off + xs.length then xs[i - off]? else cs[i]? := by
  intro xs
  induction xs with
  | nil => intro cs off i _; rw [putAt, if_neg (by simp)]
  | cons x xs ih =>
    intro cs off i h
    simp only [List.length_cons] at h
    rw [putAt, ih _ _ _ (by simp; omega)]
    by_cases h1 : off + 1 ≤ i ∧ i < off + 1 + xs.length
    · rw [if_pos h1, if_pos (by simp; omega)]
      rw [show i - off = (i - (off + 1)) + 1 by omega]; simp
    · rw [if_neg h1]
      by_cases h2 : i = off
      · subst h2
        rw [if_pos (by simp), List.getElem?_set_self (by omega)]; simp
      · rw [if_neg (by simp; omega), List.getElem?_set_ne (by omega)]

theorem seg_get (l us : List Value) (a k : Nat) (h : a + us.length ≤ l.length) :
    (l.take a ++ us ++ l.drop (a + us.length))[k]? = if a ≤ k ∧ k < a + us.length then us[k - a]? else l[k]? := by
  have hl : (l.take a).length = a := by simp; omega
  rw [List.append_assoc, List.getElem?_append]
  split
  · rename_i h1
    rw [hl] at h1
    rw [if_neg (by omega), List.getElem?_take, if_pos h1]
  · rename_i h1
    rw [hl] at h1 ⊢
    rw [List.getElem?_append]
    split
    · rename_i h2
      rw [if_pos (by omega)]
    · rename_i h2
      rw [if_neg (by omega), List.getElem?_drop]
      congr 1; omega

theorem seg_length (l us : List Value) (a : Nat) (h : a + us.length ≤ l.length) : (l.take a ++ us ++ l.drop (a + us.length)).length = l.length := by simp; omega

/-- a row that a write does not touch -/
theorem RowAt.other {q : Place} {ds : List Value} {n : Mta} (R : RowAt w0 μ w q ds n) {b : Nat} {C C' : Array Value} {t : TypeId} (hC : w.heap[b]? = some (.cells C t (0, 0))) (hsz : C'.size = C.size)
    (h : q.b = b → ∀ i, i < ds.length → C'[q.o + i]? = C[q.o + i]?) : RowAt w0 μ (w.setRow b C') q ds n := by
  obtain ⟨⟨D, u, fr, hD, hds, htip⟩, h2, h3, h4⟩ := R
  refine ⟨?_, h2, h3, h4⟩
  by_cases hb : q.b = b
  · rw [hb, hC] at hD
    cases hD
    refine ⟨C', _, _, by rw [hb]; exact setRow_heap w b C C' _ _ hC, fun i v hi => ?_, fun ht => by rw [hsz]; exact htip ht⟩
    obtain ⟨u, hu, hr⟩ := hds i v hi
    have hlt : i < ds.length := by
      rcases Nat.lt_or_ge i ds.length with h' | h'
      · exact h'
      · rw [List.getElem?_eq_none h'] at hi; cases hi
    exact ⟨u, by rw [h hb i hlt]; exact hu, hr⟩
  · exact ⟨D, u, fr, by rw [setRow_other _ _ _ _ hb]; exact hD, hds, htip⟩

theorem MapAt.other {q : Place} {es : List (Value × Value)} (R : MapAt w0 μ w q es) {b : Nat} {C C' : Array Value} {t : TypeId} (hC : w.heap[b]? = some (.cells C t (0, 0))) : MapAt w0 μ (w.setRow b C') q es := by
  obtain ⟨⟨ES, c, h, h1, h2⟩, h3⟩ := R
  have hb : q.b ≠ b := by intro e; rw [e, hC] at h; cases h
  exact ⟨⟨ES, c, by rw [setRow_other _ _ _ _ hb]; exact h, h1, h2⟩, h3⟩

theorem Kept.setRow (K : Kept w0 w) {b : Nat} (hb : w0.heap.size ≤ b) (C' : Array Value) : Kept w0 (w.setRow b C') := by
  refine ⟨K.os, K.output, by rw [setRow_size]; exact K.size, fun k hk => by rw [setRow_other _ _ _ _ (by omega)]; exact K.old k hk, fun k C t fr hk h => ?_⟩
  by_cases e : k = b
  · subst e
    simp only [World.setRow, Array.getElem?_modify, if_true] at h
    cases hq : w.heap[k]? with
    | none => simp [hq] at h
    | some o =>
      cases o with
      | cells C0 t0 fr0 => simp [hq] at h; rw [← h.2.2]; exact K.new k C0 t0 fr0 hk hq
      | _ => simp [hq] at h
  · rw [setRow_other _ _ _ _ e] at h; exact K.new k C t fr hk h

/-! ### a store -/
/-- What a store into the row 'id' leaves: 'σ'' is 'σ' with the row's new cells; the rows that may share memory with it are no longer good. -/
theorem Sim.write (S : Sim w0 P μ σ w) {id : Nat} {p : Place} {cs : List Value} {m m' : Mta} {σ' : St} {C : Array Value} {t : TypeId} (hp : μ id = some p) (hg : σ.get id = some (.cells cs m)) (hgood : σ.good m = true)
    (hwr : m.wr = true) (hC : w.heap[p.b]? = some (.cells C t (0, 0))) {off : Nat} {xs us : List Value} (hxs : VRL μ xs us) (hlen : off + xs.length ≤ cs.length)
    (hnext : σ'.next = σ.next) (hid : σ'.get id = some (.cells (putAt cs off xs) m')) (hne : ∀ k, k ≠ id → σ'.get k = σ.get k)
    (hm' : m'.wr = m.wr ∧ m'.tip = m.tip ∧ m'.z = m.z ∧ (∀ n, sameGrp m' n ↔ sameGrp m n) ∧ (∀ n, sameGrp n m' ↔ sameGrp n m))
    (hgd : ∀ k ds n, k ≠ id → σ.get k = some (.cells ds n) → σ'.good n = true → σ.good n = true ∧ ¬ sameGrp m n)
    (hvers : ∀ k ds n g v, σ'.get k = some (.cells ds n) → n.grp = some (g, v) → v ≤ σ'.ver g) :
    Sim w0 P μ σ' (w.setRow p.b (C.toList.take (p.o + off) ++ us ++ C.toList.drop (p.o + off + us.length)).toArray) := by
  have R := S.row id p cs m hp hg hgood
  have hin : xs.length = 0 ∨ p.o + off + us.length ≤ C.toList.length := by
    rcases Nat.eq_zero_or_pos xs.length with h | h
    · exact .inl h
    · right
      obtain ⟨D, u, fr, hD, hds, _⟩ := R.row
      rw [hC] at hD; cases hD
      have : off + xs.length - 1 < cs.length := by omega
      obtain ⟨x, hx, _⟩ := hds _ _ (List.getElem?_eq_getElem this)
      have := (Array.getElem?_eq_some_iff.1 hx).1
      rw [← hxs.1]; simp; omega
  generalize hC' : (C.toList.take (p.o + off) ++ us ++ C.toList.drop (p.o + off + us.length)).toArray = C'
  have hget : ∀ k, C'[k]? = if p.o + off ≤ k ∧ k < p.o + off + us.length then us[k - (p.o + off)]? else C[k]? := by
    intro k
    rw [← hC']
    rcases hin with h | h
    · have hu : us = [] := by have := hxs.1; rw [h] at this; exact List.eq_nil_of_length_eq_zero this.symm
      subst hu
      rw [if_neg (by simp)]
      simp
    · have := seg_get C.toList us (p.o + off) k h
      simpa using this
  have hsz : C'.size = C.size := by
    rw [← hC']
    rcases hin with h | h
    · have hu : us = [] := by have := hxs.1; rw [h] at this; exact List.eq_nil_of_length_eq_zero this.symm
      subst hu; simp
    · have := seg_length C.toList us (p.o + off) h
      simpa using this
  have hlp : (putAt cs off xs).length = cs.length := putAt_length _ _ _
  -- the row itself
  have Rid : RowAt w0 μ (w.setRow p.b C') p (putAt cs off xs) m' := by
    obtain ⟨⟨D, u, fr, hD, hds, htip⟩, h2, h3, h4⟩ := R
    rw [hC] at hD; cases hD
    refine ⟨⟨C', _, _, setRow_heap w p.b C C' _ _ hC, fun i v hi => ?_, fun ht => ?_⟩, fun h => h2 (hm'.1 ▸ h), fun h => by rw [hlp]; exact h3 (hm'.2.1 ▸ h), by rw [hm'.2.2.1]; exact h4⟩
    · rw [putAt_get _ _ _ _ hlen] at hi
      rw [hget]
      split at hi
      · rename_i h1
        rw [if_pos (by have := hxs.1; omega)]
        obtain ⟨u, hu, hr⟩ := hxs.get hi
        exact ⟨u, by rw [show p.o + i - (p.o + off) = i - off by omega]; exact hu, hr⟩
      · rename_i h1
        rw [if_neg (by have := hxs.1; omega)]
        exact hds i v hi
    · rw [hsz]; exact htip (hm'.2.1 ▸ ht)
  have Roth : ∀ k q ds n, k ≠ id → μ k = some q → σ.get k = some (.cells ds n) → σ.good n = true → ¬ sameGrp m n → RowAt w0 μ (w.setRow p.b C') q ds n := by
    intro k q ds n hk hq hgk hgn hs
    refine (S.row k q ds n hq hgk hgn).other hC hsz (fun hb i hi => ?_)
    rw [hget, if_neg]
    intro h1
    exact S.off id k p q cs ds m n (Ne.symm hk) hp hq hg hgk hgood hgn hwr hs hb.symm (q.o + i) (by have := hxs.1; omega) (by have := hxs.1; omega) (by omega) (by omega)
  have old : ∀ {k q ds n}, k ≠ id → μ k = some q → σ'.get k = some (.cells ds n) → σ'.good n = true → σ.get k = some (.cells ds n) ∧ σ.good n = true ∧ ¬ sameGrp m n := by
    intro k q ds n hk hq hg' hgd'
    rw [hne k hk] at hg'
    obtain ⟨h1, h2⟩ := hgd k ds n hk hg' hgd'
    exact ⟨hg', h1, h2⟩
  refine ⟨S.kept.setRow (R.wr hwr) C', fun k hk => S.dom k (hnext ▸ hk), S.glob, ?_, ?_, ?_, ?_, ?_, hvers⟩
  · intro k q ds n hq hg' hgn
    by_cases hk : k = id
    · subst hk
      rw [hp] at hq; cases hq
      rw [hid] at hg'; cases hg'
      exact Rid
    · obtain ⟨h1, h2, h3⟩ := old hk hq hg' hgn
      exact Roth k q ds n hk hq h1 h2 h3
  · intro k q es hq hg'
    have hk : k ≠ id := by intro e; subst e; rw [hid] at hg'; cases hg'
    rw [hne k hk] at hg'
    exact (S.map k q es hq hg').other hC
  · intro i j a b as bs n1 n2 hij ha hb hga hgb h1 h2 hw hs
    by_cases hi : i = id
    · subst hi
      rw [hp] at ha; cases ha
      rw [hid] at hga; cases hga
      obtain ⟨g1, g2, g3⟩ := old (Ne.symm hij) hb hgb h2
      rw [hlp]
      exact S.off i j p b cs bs m n2 hij hp hb hg g1 hgood g2 hwr g3
    · obtain ⟨f1, f2, f3⟩ := old hi ha hga h1
      by_cases hj : j = id
      · subst hj
        rw [hp] at hb; cases hb
        rw [hid] at hgb; cases hgb
        rw [hlp]
        exact S.off i j a p as cs n1 m hij ha hp f1 hg f2 hgood hw (fun h => hs ((hm'.2.2.2.2 n1).2 h))
      · obtain ⟨g1, g2, g3⟩ := old hj hb hgb h2
        exact S.off i j a b as bs n1 n2 hij ha hb f1 g1 f2 g2 hw hs
  · intro i j a b as bs n1 n2 hij ha hb hga hgb h1 h2 hw
    by_cases hi : i = id
    · subst hi
      rw [hp] at ha; cases ha
      rw [hid] at hga; cases hga
      obtain ⟨g1, g2, g3⟩ := old (Ne.symm hij) hb hgb h2
      rw [hlp]
      exact S.tip i j p b cs bs m n2 hij hp hb hg g1 hgood g2 (hm'.2.1 ▸ hw)
    · obtain ⟨f1, f2, f3⟩ := old hi ha hga h1
      by_cases hj : j = id
      · subst hj
        rw [hp] at hb; cases hb
        rw [hid] at hgb; cases hgb
        rw [hlp]
        have := S.tip i j a p as cs n1 m hij ha hp f1 hg f2 hgood hw
        exact ⟨this.1, fun h => this.2 (hm'.2.1 ▸ h)⟩
      · obtain ⟨g1, g2, g3⟩ := old hj hb hgb h2
        exact S.tip i j a b as bs n1 n2 hij ha hb f1 g1 f2 g2 hw
  · intro i j a b es fs hij ha hb hga hgb
    have hi : i ≠ id := by intro e; subst e; rw [hid] at hga; cases hga
    have hj : j ≠ id := by intro e; subst e; rw [hid] at hgb; cases hgb
    rw [hne i hi] at hga
    rw [hne j hj] at hgb
    exact S.maps i j a b es fs hij ha hb hga hgb

theorem one_cell' (v : Value) : v.oneCell' = one v := by cases v <;> rfl

theorem astore_ok {t : TypeId} {a b x y : Value} {σ' : St} (S : Sim w0 P μ σ w) (ra : VR μ a b) (rx : VR μ x y) (h : astore P σ t a x = some σ') :
    ∃ w', (Instr.storeAt t b y).run P w = .ok () w' ∧ Sim w0 P μ σ' w' ∧ σ'.next = σ.next := by
  unfold astore at h
  split at h <;> try cases h
  rename_i id off
  obtain ⟨p, hp, rfl⟩ := ra.ptr_inv
  split at h <;> try cases h
  rename_i cs m n hrow hn
  obtain ⟨hg, hgood⟩ := St.row_some hrow
  cases hc : (m.wr && Nat.beq x.cells.size n && Nat.ble (off + n) cs.length && x.cells.toList.all one) with
  | false => rw [hc] at h; cases h
  | true =>
    rw [hc] at h
    simp only [Bool.and_eq_true, nble, nbeq, decide_eq_true_eq] at hc
    obtain ⟨⟨⟨hwr, hsz⟩, hle⟩, hone⟩ := hc
    simp only [cond_true] at h
    have R := S.row id p cs m hp hg hgood
    obtain ⟨C, ty, fr, hC, hcs, _⟩ := R.row
    have hfr := S.kept.new p.b C ty fr (R.wr hwr) hC
    subst hfr
    have hxs := rx.cells
    have hxl : x.cells.toList.length = n := by simpa using hsz
    have hone' : ∀ v ∈ y.cells.toList, v.oneCell' = true := by
      intro v hv
      rw [one_cell']
      have := hxs.one_eq
      rw [hone] at this
      exact List.all_eq_true.1 this v hv
    have hfit : p.o + off + y.cells.toList.length ≤ C.size ∨ y.cells.toList = [] := by
      rcases Nat.eq_zero_or_pos n with h0 | h0
      · right; apply List.eq_nil_of_length_eq_zero; rw [← hxs.1, hxl, h0]
      · left
        have : off + n - 1 < cs.length := by omega
        obtain ⟨u, hu, _⟩ := hcs _ _ (List.getElem?_eq_getElem this)
        have := (Array.getElem?_eq_some_iff.1 hu).1
        rw [← hxs.1, hxl]; omega
    have hrun : (Instr.storeAt t (.pointer (some ⟨p.b, p.o + off, none⟩)) y).run P w =
        .ok () (w.setRow p.b (C.toList.take (p.o + off) ++ y.cells.toList ++ C.toList.drop (p.o + off + y.cells.toList.length)).toArray) := by
      unfold Instr.storeAt storeVar
      have hsy : ¬ (y.cells.size ≠ n) := by have := hxs.size; omega
      simp only [Instr.sureAddr, Sem.run_bind, Sem.run_pure, Result.andThen_ok, still_run (w := w) (show still P (Go.sizeOf t) = some n by rw [still_sizeOf]; exact hn), if_neg hsy]
      rcases hfit with hf | hf
      · have := run_storeCells_at P p.b (p.o + off) ty y.cells.toList 0 C w hC (by simpa using hf) hone'
        simpa using this
      · rw [hf]
        simp only [storeCells, List.append_nil, List.length_nil, Nat.add_zero, List.take_append_drop, Array.toArray_toList]
        rw [setRow_self w p.b C ty (0, 0) hC]; rfl
    refine ⟨_, hrun, ?_⟩
    cases hgr : m.grp with
    | none =>
      simp only [hgr, Option.some.injEq] at h
      subst h
      have hns : ∀ n, ¬ sameGrp m n := fun n ⟨g, v, v', e, _⟩ => by rw [hgr] at e; cases e
      refine ⟨S.write hp hg hgood hwr hC hxs (by rw [hxl]; exact hle) rfl (m' := m) (by rw [St.get_put, if_pos rfl]) (fun k hk => by rw [St.get_put, if_neg hk]) ⟨rfl, rfl, rfl, fun _ => Iff.rfl, fun _ => Iff.rfl⟩
        (fun k ds n _ _ hgn => ⟨hgn, hns n⟩) (fun k ds n g v hk hgr' => ?_), rfl⟩
      rw [St.get_put] at hk
      split at hk
      · cases hk; rw [hgr] at hgr'; cases hgr'
      · exact S.vers k ds n g v hk hgr'
    | some gv =>
      obtain ⟨g, v⟩ := gv
      simp only [hgr, Option.some.injEq] at h
      subst h
      have hver : σ.ver g = v := (St.good_iff σ m).1 hgood g v hgr
      refine ⟨S.write hp hg hgood hwr hC hxs (by rw [hxl]; exact hle) rfl (m' := { m with grp := some (g, v + 1) }) (by rw [St.get_bump, St.get_put, if_pos rfl]) (fun k hk => by rw [St.get_bump, St.get_put, if_neg hk])
        ⟨rfl, rfl, rfl, fun n => ?_, fun n => ?_⟩ (fun k ds n hk hgk hgn => ?_) (fun k ds n g' v' hk hgr' => ?_), rfl⟩
      · constructor
        · rintro ⟨g1, v1, v2, e1, e2⟩; cases e1; exact ⟨_, _, _, hgr, e2⟩
        · rintro ⟨g1, v1, v2, e1, e2⟩; rw [hgr] at e1; cases e1; exact ⟨_, _, _, rfl, e2⟩
      · constructor
        · rintro ⟨g1, v1, v2, e1, e2⟩; cases e2; exact ⟨_, _, _, e1, hgr⟩
        · rintro ⟨g1, v1, v2, e1, e2⟩; rw [hgr] at e2; cases e2; exact ⟨_, _, _, e1, rfl⟩
      · rw [St.good_iff] at hgn
        have hnot : ∀ v', n.grp ≠ some (g, v') := by
          intro v' e
          have h1 := hgn g v' e
          rw [St.ver_bump, if_pos rfl] at h1
          have h2 := S.vers k ds n g v' hgk e
          omega
        refine ⟨(St.good_iff σ n).2 fun g' v' e => ?_, ?_⟩
        · have h1 := hgn g' v' e
          rw [St.ver_bump] at h1
          split at h1
          · rename_i eg; subst eg; exact absurd e (hnot v')
          · exact h1
        · rintro ⟨g1, v1, v2, e1, e2⟩
          rw [hgr] at e1; cases e1
          exact hnot v2 e2
      · rw [St.get_bump, St.get_put] at hk
        rw [St.ver_bump]
        split at hk
        · cases hk; cases hgr'; rw [if_pos rfl]; exact Nat.le_refl _
        · have := S.vers k ds n g' v' hk hgr'
          split
          · rename_i eg; subst eg; omega
          · exact this

/-! ### a map is written -/
theorem Sim.setMap (S : Sim w0 P μ σ w) {id : Nat} {p : Place} {es es' : List (Value × Value)} {ES' : Array MapEntry} {c' : Nat} (hp : μ id = some p) (hg : σ.get id = some (.map es))
    (hk : VRL μ (es'.map (·.1)) (ES'.toList.map (·.key))) (hv : VRL μ (es'.map (·.2)) (ES'.toList.map (·.val))) :
    Sim w0 P μ (σ.put id (.map es')) { w with heap := w.heap.setIfInBounds p.b (.map ES' c') } := by
  have M := S.map id p es hp hg
  obtain ⟨ES, c, hC, _⟩ := M.map
  have hlt : p.b < w.heap.size := (Array.getElem?_eq_some_iff.1 hC).1
  have hsame : (w.heap.setIfInBounds p.b (.map ES' c'))[p.b]? = some (.map ES' c') := by simp [hlt]
  have hoth : ∀ k, k ≠ p.b → (w.heap.setIfInBounds p.b (.map ES' c'))[k]? = w.heap[k]? := by
    intro k hk; rw [Array.getElem?_setIfInBounds_ne (Ne.symm hk)]
  have hne : ∀ {k ob}, (σ.put id (.map es')).get k = some ob → k = id ∨ (k ≠ id ∧ σ.get k = some ob) := by
    intro k ob h
    rw [St.get_put] at h
    by_cases e : k = id
    · exact .inl e
    · rw [if_neg e] at h; exact .inr ⟨e, h⟩
  have hcell : ∀ {k cs m}, (σ.put id (.map es')).get k = some (.cells cs m) → σ.get k = some (.cells cs m) := by
    intro k cs m h
    rcases hne h with rfl | ⟨_, h'⟩
    · rw [St.get_put, if_pos rfl] at h; cases h
    · exact h'
  refine ⟨⟨S.kept.os, S.kept.output, by simpa using S.kept.size, fun k hk => ?_, fun k C t fr hk h => ?_⟩, S.dom, S.glob, ?_, ?_, ?_, ?_, ?_, ?_⟩
  · show (w.heap.setIfInBounds p.b (.map ES' c'))[k]? = _
    rw [hoth k (by have := M.wr; omega)]; exact S.kept.old k hk
  · change (w.heap.setIfInBounds p.b (.map ES' c'))[k]? = _ at h
    by_cases e : k = p.b
    · subst e; rw [hsame] at h; cases h
    · rw [hoth k e] at h; exact S.kept.new k C t fr hk h
  · intro k q cs m hq hgk hgd
    have hgk' := hcell hgk
    obtain ⟨⟨D, t, fr, hD, hds, htip⟩, h2, h3, h4⟩ := S.row k q cs m hq hgk' hgd
    refine ⟨⟨D, t, fr, ?_, hds, htip⟩, h2, h3, h4⟩
    show (w.heap.setIfInBounds p.b (.map ES' c'))[q.b]? = _
    rw [hoth q.b (by intro e; rw [e, hC] at hD; cases hD)]; exact hD
  · intro k q fs hq hgk
    rcases hne hgk with rfl | ⟨hk', hgk'⟩
    · rw [hp] at hq; cases hq
      rw [St.get_put, if_pos rfl] at hgk; cases hgk
      exact ⟨⟨ES', c', hsame, hk, hv⟩, M.wr⟩
    · obtain ⟨⟨fs0, cf, hF, h1, h2⟩, h3⟩ := S.map k q fs hq hgk'
      refine ⟨⟨fs0, cf, ?_, h1, h2⟩, h3⟩
      show (w.heap.setIfInBounds p.b (.map ES' c'))[q.b]? = _
      rw [hoth q.b (Ne.symm (S.maps id k p q es fs (Ne.symm hk') hp hq hg hgk'))]; exact hF
  · intro i j a b cs ds m n hij ha hb h1 h2; exact S.off i j a b cs ds m n hij ha hb (hcell h1) (hcell h2)
  · intro i j a b cs ds m n hij ha hb h1 h2; exact S.tip i j a b cs ds m n hij ha hb (hcell h1) (hcell h2)
  · intro i j a b fs gs hij ha hb h1 h2
    rcases hne h1 with rfl | ⟨hi, h1'⟩
    · rw [hp] at ha; cases ha
      rcases hne h2 with rfl | ⟨hj, h2'⟩
      · exact absurd rfl hij
      · exact S.maps i j p b es gs hij hp hb hg h2'
    · rcases hne h2 with rfl | ⟨hj, h2'⟩
      · rw [hp] at hb; cases hb
        exact S.maps i j a p fs es hij ha hp h1' hg
      · exact S.maps i j a b fs gs hij ha hb h1' h2'
  · intro k cs m g v h1; exact S.vers k cs m g v (hcell h1)

theorem VRL.modify {xs us : List Value} (r : VRL μ xs us) {x u : Value} (h : VR μ x u) (n : Nat) : VRL μ (xs.modify n fun _ => x) (us.modify n fun _ => u) := by
  refine ⟨by simp [r.1], fun i y v hy hv => ?_⟩
  rw [List.getElem?_modify] at hy hv
  by_cases e : n = i
  · subst e
    simp only [if_true, Option.map_eq_map, Option.map_eq_some_iff] at hy hv
    obtain ⟨_, _, rfl⟩ := hy
    obtain ⟨_, _, rfl⟩ := hv
    exact h
  · simp only [if_neg e, id_map] at hy hv
    exact r.2 i y v (by simpa using hy) (by simpa using hv)

theorem map_modify {α β : Type} (f : α → β) (l : List α) (n : Nat) (g : α → α) (g' : β → β) (h : ∀ x, f (g x) = g' (f x)) : (l.modify n g).map f = (l.map f).modify n g' := by
  apply List.ext_getElem?
  intro i
  simp only [List.getElem?_map, List.getElem?_modify]
  cases l[i]? with
  | none => simp
  | some x => by_cases e : n = i <;> simp [e, h]

theorem run_setObj_map {w : World} {b : Nat} {ES : Array MapEntry} {c : Nat} {o : Obj} (h : w.heap[b]? = some (.map ES c)) : (setObj b o).run P w = .ok () { w with heap := w.heap.setIfInBounds b o } := by
  simp [setObj, Sem.run, h]

theorem amapUpdate_ok {t : TypeId} {m m' k k' x y : Value} {σ' : St} (S : Sim w0 P μ σ w) (rm : VR μ m m') (rk : VR μ k k') (rx : VR μ x y) (h : amapUpdate P σ t m k x = some σ') :
    ∃ w', (Instr.mapUpdate t m' k' y).run P w = .ok () w' ∧ Sim w0 P μ σ' w' ∧ σ'.next = σ.next := by
  unfold amapUpdate at h
  split at h <;> try cases h
  rename_i kt et hu
  split at h <;> try cases h
  rename_i id
  split at h <;> try cases h
  rename_i es hg
  cases rm with
  | same _ h => simp [plain0] at h
  | mp _ p hp =>
    obtain ⟨ES, c, hC, hk, hv⟩ := (S.map id p es hp hg).map
    unfold Instr.mapUpdate
    simp only [Sem.run_bind, still_run (w := w) (show still P (underlying t) = some (.map kt et) by rw [still_underlying]; exact hu), Result.andThen_ok, run_getObj_map hC]
    cases hf : afind P kt k es with
    | none => simp [hf] at h
    | some r =>
      obtain ⟨hpk, hpks, hchk, r', hfind, hFR⟩ := afind_ok (ES := ES.toList) hk hv hf
      obtain rfl := rk.eq1 hpk
      simp only [hf] at h
      simp only [Sem.run_bind, still_run (w := w) (hchk false), still_run (w := w) hfind, Result.andThen_ok]
      cases r with
      | none =>
        cases r' with
        | some _ => exact hFR.elim
        | none =>
          simp only [Option.some.injEq] at h
          subst h
          refine ⟨_, run_setObj_map hC, S.setMap hp hg ?_ ?_, rfl⟩
          · simpa using hk.append (.cons (.same1 hpk) .nil)
          · simpa using hv.append (.cons rx .nil)
      | some iv =>
        obtain ⟨i, val⟩ := iv
        cases r' with
        | none => exact hFR.elim
        | some ju =>
          obtain ⟨j, u⟩ := ju
          obtain ⟨rfl, _⟩ := hFR
          simp only at h
          cases hb : Instr.sameBits 10000 ((es[i]?.map (·.1)).getD k') k' with
          | false => rw [hb] at h; cases h
          | true =>
            rw [hb] at h
            simp only [cond_true, Option.some.injEq] at h
            subst h
            have hkeys : ES.toList.map (·.key) = es.map (·.1) := by
              clear hf hfind hb hchk
              have : ∀ (l : List (Value × Value)) (us : List Value), VRL μ (l.map (·.1)) us → l.all (fun e => plain1 e.1) = true → us = l.map (·.1) := by
                intro l
                induction l with
                | nil => intro us hr _; exact hr.nil_inv
                | cons e l ih =>
                  intro us hr ha
                  simp only [List.map_cons] at hr
                  obtain ⟨u, us', rfl, h1, h2⟩ := hr.cons_inv
                  simp only [List.all_cons, Bool.and_eq_true] at ha
                  rw [h1.eq1 ha.1, ih us' h2 ha.2]; rfl
              exact this es _ hk hpks
            have hold : (Option.map (fun x => x.key) ES[i]?).getD k' = (es[i]?.map (·.1)).getD k' := by
              have h1 : (ES.toList.map (·.key))[i]? = (es.map (·.1))[i]? := by rw [hkeys]
              rw [List.getElem?_map, List.getElem?_map] at h1
              have h2 : ES.toList[i]? = ES[i]? := by simp
              rw [h2] at h1
              rw [h1]
            have hstay : (Instr.keyThatStays ((Option.map (fun x => x.key) ES[i]?).getD k') k').run P w = .ok k' w := by
              unfold Instr.keyThatStays
              rw [hold, if_pos hb]; rfl
            simp only [Sem.run_bind, hstay, Result.andThen_ok]
            refine ⟨_, run_setObj_map hC, S.setMap hp hg ?_ ?_, rfl⟩
            · rw [map_modify _ _ _ _ (fun _ => k') (fun _ => rfl), Array.toList_modify, map_modify _ _ _ _ (fun _ => k') (fun _ => rfl)]
              exact hk.modify (.same1 hpk) i
            · rw [map_modify _ _ _ _ (fun _ => x) (fun _ => rfl), Array.toList_modify, map_modify _ _ _ _ (fun _ => y) (fun _ => rfl)]
              exact hv.modify rx i

end
end Go.AI
