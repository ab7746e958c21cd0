/- append. -/
import Derived.Test.YtlealdhgajomhaaAiEff
namespace Go.AI
set_option linter.unusedVariables false
set_option linter.unusedSimpArgs false

section
variable {w0 : World} {P : Program} {μ : Mp} {σ : St} {w : World}

/-- a row that gives up what is free behind it -/
theorem Sim.untip (S : Sim w0 P μ σ w) {id : Nat} {cs : List Value} {m : Mta} (hg : σ.get id = some (.cells cs m)) : Sim w0 P μ (σ.put id (.cells cs { m with tip := false })) w := by
  have hget : ∀ {k ds n}, (σ.put id (.cells cs { m with tip := false })).get k = some (.cells ds n) → ∃ n', σ.get k = some (.cells ds n') ∧ n.wr = n'.wr ∧ n.z = n'.z ∧ n.grp = n'.grp ∧ (n.tip = true → n'.tip = true) := by
    intro k ds n h
    rw [St.get_put] at h
    split at h
    · rename_i e; subst e; cases h; exact ⟨m, hg, rfl, rfl, rfl, fun h => by cases h⟩
    · exact ⟨n, h, rfl, rfl, rfl, fun h => h⟩
  have hmap : ∀ {k es}, (σ.put id (.cells cs { m with tip := false })).get k = some (.map es) → σ.get k = some (.map es) := by
    intro k es h
    rw [St.get_put] at h
    split at h
    · cases h
    · exact h
  have hgood : ∀ {n n' : Mta}, n.grp = n'.grp → σ.good n = true → σ.good n' = true := by
    intro n n' e h; rw [St.good_iff] at h ⊢; intro g v e'; exact h g v (e.trans e')
  have hsame : ∀ {a a' b b' : Mta}, a.grp = a'.grp → b.grp = b'.grp → sameGrp a' b' → sameGrp a b := by
    rintro a a' b b' e1 e2 ⟨g, v, v', h1, h2⟩; exact ⟨g, v, v', e1.trans h1, e2.trans h2⟩
  refine ⟨S.kept, S.dom, S.glob, ?_, ?_, ?_, ?_, ?_, ?_⟩
  · intro k q ds n hq h hgd
    obtain ⟨n', h', e1, e2, e3, e4⟩ := hget h
    obtain ⟨⟨D, t, fr, hD, hds, htip⟩, h2, h3, h4⟩ := S.row k q ds n' hq h' (hgood e3 hgd)
    exact ⟨⟨D, t, fr, hD, hds, fun ht => htip (e4 ht)⟩, fun hw => h2 (e1 ▸ hw), fun ht => h3 (e4 ht), by rw [h4, e2]⟩
  · intro k q es hq h; exact S.map k q es hq (hmap h)
  · intro i j a b as bs n1 n2 hij ha hb h1 h2 g1 g2 hw hs
    obtain ⟨m1, f1, a1, a2, a3, a4⟩ := hget h1
    obtain ⟨m2, f2, b1, b2, b3, b4⟩ := hget h2
    exact S.off i j a b as bs m1 m2 hij ha hb f1 f2 (hgood a3 g1) (hgood b3 g2) (a1 ▸ hw) (fun h => hs (hsame a3 b3 h))
  · intro i j a b as bs n1 n2 hij ha hb h1 h2 g1 g2 hw
    obtain ⟨m1, f1, a1, a2, a3, a4⟩ := hget h1
    obtain ⟨m2, f2, b1, b2, b3, b4⟩ := hget h2
    have := S.tip i j a b as bs m1 m2 hij ha hb f1 f2 (hgood a3 g1) (hgood b3 g2) (a4 hw)
    exact ⟨this.1, fun h => this.2 (b4 h)⟩
  · intro i j a b es fs hij ha hb h1 h2; exact S.maps i j a b es fs hij ha hb (hmap h1) (hmap h2)
  · intro k ds n g v h e
    obtain ⟨n', h', _, _, e3, _⟩ := hget h
    exact S.vers k ds n' g v h' (e3 ▸ e)

/-- an append in place -/
theorem Sim.extend (S : Sim w0 P μ σ w) {id id' : Nat} {p : Place} {cs xs us : List Value} {m : Mta} {C : Array Value} {t : TypeId} {off : Nat} (hp : μ id = some p) (hg : σ.get id = some (.cells cs m)) (hgood : σ.good m = true)
    (htip : m.tip = true) (hwr : m.wr = true) (hgrp : m.grp.isSome = true) (hC : w.heap[p.b]? = some (.cells C t (0, 0))) (hoff : off ≤ cs.length) (hxs : VRL μ xs us) (hfit : p.o + cs.length + xs.length ≤ p.e)
    (hid : μ id' = none) (hlt : id' < σ.next) :
    Sim w0 P (upd μ id' ⟨p.b, p.o + off, p.e, p.z⟩) ((σ.put id (.cells cs { m with tip := false })).put id' (.cells (cs.drop off ++ xs) m))
      (w.setRow p.b (C.toList.take (p.o + cs.length) ++ us ++ C.toList.drop (p.o + cs.length + us.length)).toArray) := by
  have hne : id' ≠ id := by intro e; subst e; rw [hid] at hp; cases hp
  have hext := upd_ext (⟨p.b, p.o + off, p.e, p.z⟩ : Place) hid
  have R := S.row id p cs m hp hg hgood
  have hCe : p.e ≤ C.size := by
    obtain ⟨D, u, fr, hD, _, ht⟩ := R.row
    rw [hC] at hD; cases hD; exact ht htip
  have hin : p.o + cs.length + us.length ≤ C.toList.length := by have := hxs.1; simp; omega
  generalize hC' : (C.toList.take (p.o + cs.length) ++ us ++ C.toList.drop (p.o + cs.length + us.length)).toArray = C'
  have hget : ∀ k, C'[k]? = if p.o + cs.length ≤ k ∧ k < p.o + cs.length + us.length then us[k - (p.o + cs.length)]? else C[k]? := by
    intro k; rw [← hC']; have := seg_get C.toList us (p.o + cs.length) k hin; simpa using this
  have hsz : C'.size = C.size := by rw [← hC']; have := seg_length C.toList us (p.o + cs.length) hin; simpa using this
  have hul := hxs.1
  have hnl : (cs.drop off ++ xs).length = cs.length - off + xs.length := by simp
  -- the objects
  have hcase : ∀ {k q ds n}, upd μ id' ⟨p.b, p.o + off, p.e, p.z⟩ k = some q → ((σ.put id (.cells cs { m with tip := false })).put id' (.cells (cs.drop off ++ xs) m)).get k = some (.cells ds n) →
      (k = id' ∧ q = ⟨p.b, p.o + off, p.e, p.z⟩ ∧ ds = cs.drop off ++ xs ∧ n = m) ∨ (k = id ∧ q = p ∧ ds = cs ∧ n = { m with tip := false }) ∨ (k ≠ id' ∧ k ≠ id ∧ μ k = some q ∧ σ.get k = some (.cells ds n)) := by
    intro k q ds n hq h
    by_cases e : k = id'
    · subst e
      rw [upd_same] at hq; cases hq
      rw [St.get_put, if_pos rfl] at h; cases h
      exact .inl ⟨rfl, rfl, rfl, rfl⟩
    · rw [upd_ne e] at hq
      rw [St.get_put, if_neg e, St.get_put] at h
      by_cases e2 : k = id
      · subst e2
        rw [hp] at hq; cases hq
        rw [if_pos rfl] at h; cases h
        exact .inr (.inl ⟨rfl, rfl, rfl, rfl⟩)
      · rw [if_neg e2] at h
        exact .inr (.inr ⟨e, e2, hq, h⟩)
  have hcaseM : ∀ {k q es}, upd μ id' ⟨p.b, p.o + off, p.e, p.z⟩ k = some q → ((σ.put id (.cells cs { m with tip := false })).put id' (.cells (cs.drop off ++ xs) m)).get k = some (.map es) → μ k = some q ∧ σ.get k = some (.map es) := by
    intro k q es hq h
    rw [St.get_put] at h
    split at h
    · cases h
    · rename_i e
      rw [upd_ne e] at hq
      rw [St.get_put] at h
      split at h
      · cases h
      · exact ⟨hq, h⟩
  have hsg : sameGrp m { m with tip := false } := by
    obtain ⟨⟨g, v⟩, e⟩ := Option.isSome_iff_exists.1 hgrp
    exact ⟨g, v, v, e, e⟩
  have hsg' : sameGrp { m with tip := false } m := by
    obtain ⟨⟨g, v⟩, e⟩ := Option.isSome_iff_exists.1 hgrp
    exact ⟨g, v, v, e, e⟩
  refine ⟨S.kept.setRow (R.wr hwr) C', ?_, ?_, ?_, ?_, ?_, ?_, ?_, ?_⟩
  · intro k hk
    have hk' : σ.next ≤ k := hk
    rw [upd_ne (by omega)]; exact S.dom k hk'
  · intro g hg'
    obtain ⟨q, hq, h1, h2⟩ := S.glob g hg'
    exact ⟨q, hext g q hq, h1, h2⟩
  · intro k q ds n hq h hgd
    rcases hcase hq h with ⟨rfl, rfl, rfl, rfl⟩ | ⟨rfl, rfl, rfl, rfl⟩ | ⟨h1, h2, hq', h'⟩
    · obtain ⟨⟨D, u, fr, hD, hds, _⟩, h2, h3, h4⟩ := R
      rw [hC] at hD; cases hD
      refine ⟨⟨C', _, _, setRow_heap w p.b C C' _ _ hC, fun i v hi => ?_, fun _ => by rw [hsz]; exact hCe⟩, h2, fun _ => by rw [hnl]; show p.o + off + _ ≤ p.e; omega, h4⟩
      show ∃ u, C'[p.o + off + i]? = some u ∧ _
      rw [hget]
      rw [List.getElem?_append] at hi
      split at hi
      · rename_i hl
        rw [List.length_drop] at hl
        rw [if_neg (by omega)]
        rw [List.getElem?_drop] at hi
        obtain ⟨u, hu, hr⟩ := hds _ _ hi
        exact ⟨u, by rw [show p.o + off + i = p.o + (off + i) by omega]; exact hu, hr.mono' hext⟩
      · rename_i hl
        rw [List.length_drop] at hl hi
        have hix : i - (cs.length - off) < xs.length := by
          rcases Nat.lt_or_ge (i - (cs.length - off)) xs.length with h' | h'
          · exact h'
          · rw [List.getElem?_eq_none h'] at hi; cases hi
        rw [if_pos (by omega)]
        obtain ⟨u, hu, hr⟩ := hxs.get hi
        exact ⟨u, by rw [show p.o + off + i - (p.o + cs.length) = i - (cs.length - off) by omega]; exact hu, hr.mono' hext⟩
    · obtain ⟨⟨D, u, fr, hD, hds, _⟩, h2, h3, h4⟩ := R
      rw [hC] at hD; cases hD
      refine ⟨⟨C', _, _, setRow_heap w q.b C C' _ _ hC, fun i v hi => ?_, fun ht => by cases ht⟩, h2, (fun ht => by cases ht), h4⟩
      have hil : i < ds.length := by
        rcases Nat.lt_or_ge i ds.length with h' | h'
        · exact h'
        · rw [List.getElem?_eq_none h'] at hi; cases hi
      rw [hget, if_neg (by omega)]
      obtain ⟨u, hu, hr⟩ := hds i v hi
      exact ⟨u, hu, hr.mono' hext⟩
    · have Rk := (S.row k q ds n hq' h' hgd).other hC hsz (fun hb i hi => by
        rw [hget, if_neg]
        intro h3
        exact (S.tip id k p q cs ds m n (Ne.symm h2) hp hq' hg h' hgood hgd htip).1 hb.symm (q.o + i) (by omega) (by omega) (by omega) (by omega))
      obtain ⟨⟨D, u, fr, hD, hds, ht⟩, g2, g3, g4⟩ := Rk
      exact ⟨⟨D, u, fr, hD, fun i v hi => let ⟨u, hu, hr⟩ := hds i v hi; ⟨u, hu, hr.mono' hext⟩, ht⟩, g2, g3, g4⟩
  · intro k q es hq h
    obtain ⟨hq', h'⟩ := hcaseM hq h
    obtain ⟨⟨ES, c, h1, h2, h3⟩, h4⟩ := (S.map k q es hq' h').other hC (C' := C')
    exact ⟨⟨ES, c, h1, h2.mono' hext, h3.mono' hext⟩, h4⟩
  · intro i j a b as bs n1 n2 hij ha hb h1 h2 g1 g2 hw hs
    rcases hcase ha h1 with ⟨rfl, rfl, rfl, rfl⟩ | ⟨rfl, rfl, rfl, rfl⟩ | ⟨i1, i2, ha', h1'⟩
    · rcases hcase hb h2 with ⟨rfl, _⟩ | ⟨rfl, rfl, rfl, rfl⟩ | ⟨j1, j2, hb', h2'⟩
      · exact absurd rfl hij
      · exact absurd hsg hs
      · intro hbb x x1 x2 x3 x4
        rw [hnl] at x2
        simp only at x1 x2 hbb
        by_cases hx : x < p.o + cs.length
        · exact S.off id j p b cs bs n1 n2 (Ne.symm j2) hp hb' hg h2' hgood g2 hwr hs hbb x (by omega) hx x3 x4
        · exact (S.tip id j p b cs bs n1 n2 (Ne.symm j2) hp hb' hg h2' hgood g2 htip).1 hbb x (by omega) (by omega) x3 x4
    · rcases hcase hb h2 with ⟨rfl, rfl, rfl, rfl⟩ | ⟨rfl, _⟩ | ⟨j1, j2, hb', h2'⟩
      · exact absurd hsg' hs
      · exact absurd rfl hij
      · exact S.off i j _ b _ bs m n2 hij hp hb' hg h2' hgood g2 hwr (fun h => hs (by obtain ⟨g, v, v', e1, e2⟩ := h; exact ⟨g, v, v', e1, e2⟩))
    · rcases hcase hb h2 with ⟨rfl, rfl, rfl, rfl⟩ | ⟨rfl, rfl, rfl, rfl⟩ | ⟨j1, j2, hb', h2'⟩
      · intro hbb x x1 x2 x3 x4
        rw [hnl] at x4
        simp only at x3 x4 hbb
        by_cases hx : x < p.o + cs.length
        · exact S.off i id a p as cs n1 n2 i2 ha' hp h1' hg g1 hgood hw hs hbb x x1 x2 (by omega) hx
        · exact (S.tip id i p a cs as n2 n1 (Ne.symm i2) hp ha' hg h1' hgood g1 htip).1 hbb.symm x (by omega) (by omega) x1 x2
      · exact S.off i j a b as bs n1 m hij ha' hp h1' hg g1 hgood hw (fun h => hs (by obtain ⟨g, v, v', e1, e2⟩ := h; exact ⟨g, v, v', e1, e2⟩))
      · exact S.off i j a b as bs n1 n2 hij ha' hb' h1' h2' g1 g2 hw hs
  · intro i j a b as bs n1 n2 hij ha hb h1 h2 g1 g2 hw
    rcases hcase ha h1 with ⟨rfl, rfl, rfl, rfl⟩ | ⟨rfl, rfl, rfl, rfl⟩ | ⟨i1, i2, ha', h1'⟩
    · rcases hcase hb h2 with ⟨rfl, _⟩ | ⟨rfl, rfl, rfl, rfl⟩ | ⟨j1, j2, hb', h2'⟩
      · exact absurd rfl hij
      · refine ⟨fun hbb x x1 x2 x3 x4 => ?_, (fun h => by cases h)⟩
        rw [hnl] at x1
        simp only at x1
        omega
      · have T := S.tip id j p b cs bs n1 n2 (Ne.symm j2) hp hb' hg h2' hgood g2 htip
        refine ⟨fun hbb x x1 x2 x3 x4 => ?_, fun ht hbb x x1 x2 x3 x4 => ?_⟩
        · rw [hnl] at x1; simp only at x1 x2 hbb
          exact T.1 hbb x (by omega) x2 x3 x4
        · rw [hnl] at x1; simp only at x1 x2 hbb
          exact T.2 ht hbb x (by omega) x2 x3 x4
    · cases hw
    · rcases hcase hb h2 with ⟨rfl, rfl, rfl, rfl⟩ | ⟨rfl, rfl, rfl, rfl⟩ | ⟨j1, j2, hb', h2'⟩
      · have T := S.tip i id a p as cs n1 n2 i2 ha' hp h1' hg g1 hgood hw
        refine ⟨fun hbb x x1 x2 x3 x4 => ?_, fun ht hbb x x1 x2 x3 x4 => ?_⟩
        · rw [hnl] at x4; simp only at x3 x4 hbb
          by_cases hx : x < p.o + cs.length
          · exact T.1 hbb x x1 x2 (by omega) hx
          · exact T.2 htip hbb x x1 x2 (by omega) (by omega)
        · rw [hnl] at x3; simp only at x3 x4 hbb
          exact T.2 htip hbb x x1 x2 (by omega) x4
      · have T := S.tip i j a b as bs n1 m hij ha' hp h1' hg g1 hgood hw
        exact ⟨T.1, (fun h => by cases h)⟩
      · exact S.tip i j a b as bs n1 n2 hij ha' hb' h1' h2' g1 g2 hw
  · intro i j a b es fs hij ha hb h1 h2
    obtain ⟨a1, a2⟩ := hcaseM ha h1
    obtain ⟨b1, b2⟩ := hcaseM hb h2
    exact S.maps i j a b es fs hij a1 b1 a2 b2
  · intro k ds n g v h e
    rw [St.get_put] at h
    split at h
    · cases h; exact S.vers id _ _ g v hg e
    · rw [St.get_put] at h
      split at h
      · cases h; exact S.vers id _ _ g v hg e
      · exact S.vers k ds n g v h e

/-! ### the operation -/
theorem aSource_ok {z : Nat} {x x' : Value} {n : Nat} {xs : List Value} {t1 : TypeId} {u : TypeDesc} (S : Sim w0 P μ σ w) (r : VR μ x x') (hu : P.underlying t1 = some u)
    (hk : fits u x = true) (hone : xs.all one = true) (h : aSource σ z x = some (n, xs)) :
    ∃ news, Src P z t1 x' n news w ∧ VRL μ xs news := by
  unfold aSource at h
  split at h <;> try cases h
  · obtain ⟨rfl, rfl, rfl⟩ := r.nilslc_inv
    cases u <;> simp only [fits, isSlice, Bool.not_true, Bool.false_eq_true] at hk
    exact ⟨[], Src.ofNil w hu 0, .nil⟩
  · rename_i id off len c
    split at h <;> try cases h
    rename_i cs m' hrow
    rw [Option.map_eq_some_iff] at h
    obtain ⟨l, hl, he⟩ := h
    cases he
    obtain ⟨hg, hgood⟩ := St.row_some hrow
    obtain ⟨p, cap, hp, rfl, _⟩ := r.slc_inv
    obtain ⟨C, ty, fr, hC, hcs, _⟩ := (S.row id p cs _ hp hg hgood).row
    obtain ⟨rfl, hle⟩ := cut_some hl
    have hv := row_cut hcs hle
    cases u <;> simp only [fits, isSlice, Bool.not_true, Bool.false_eq_true] at hk
    refine ⟨_, Src.ofSlice w hu _ n cap _ (by rw [← hv.1]; simp; omega) (fun j v hj => ?_) (fun v hv' => ?_), hv⟩
    · rw [add_none, cell_eq hC]
      rw [List.getElem?_take] at hj
      split at hj
      · rw [List.getElem?_drop] at hj; simpa using hj
      · cases hj
    · rw [one_cell']
      have := hv.one_eq
      rw [hone] at this
      exact List.all_eq_true.1 this v hv'
  · rename_i s
    obtain rfl := r.string_inv
    rw [nbeq, Bool.cond_decide] at h
    split at h
    · rename_i hz
      cases h
      subst hz
      cases u <;> simp only [fits, isSlice, Bool.not_false, Bool.false_eq_true] at hk
      refine ⟨_, Src.ofString w hu s, VRL.same ?_⟩
      rw [List.all_eq_true]
      intro v hv
      obtain ⟨_, _, rfl⟩ := List.mem_map.1 hv
      rfl
    · cases h

theorem room_run {t tx ty e : TypeId} {i : TypeInfo} (ht : P.underlying t = some (.slice e)) (hi : P.info? e = some i) {b off sLen sCap : Nat} {x : Value} {n : Nat} {news : List Value} (hs : Src P i.size tx x n news w)
    (hroom : sLen + n ≤ sCap) {cur : Array Value} {te : TypeId} (hC : w.heap[b]? = some (.cells cur te (0, 0))) (hfit : off + sLen * i.size + news.length ≤ cur.size) :
    (Builtin.append_ #[t, tx] ty #[.slice (some ⟨b, off, none⟩) sLen sCap, x]).run P w =
      .ok (.slice (some ⟨b, off, none⟩) (sLen + n) sCap) (w.setRow b (cur.toList.take (off + sLen * i.size) ++ news ++ cur.toList.drop (off + sLen * i.size + news.length)).toArray) := by
  have hst := run_storeCells_at P b (off + sLen * i.size) te news 0 cur w hC (by simpa using hfit) hs.one
  simp only [Nat.add_zero] at hst
  rcases hs.kind with ⟨e', hk⟩ | hk <;> simp [Builtin.append_, run_underlying ht, run_underlying hk, Go.sizeOf, typeInfo, hi, hs.len, hroom, hs.cells, Addr.add_lit, hst]

theorem zeroCells_size (z : Array Value) (n : Nat) : (Builtin.zeroCells z n).size = n * z.size := by simp [Builtin.zeroCells]

/-- the arm that makes a new row -/
theorem grow_ok {t tx ty e : TypeId} {i : TypeInfo} {z : Value} (S : Sim w0 P μ σ w) (ht : P.underlying t = some (.slice e)) (hi : P.info? e = some i) (hz : i.zero = some z) (hzs : z.cells.size = i.size)
    {base : Option Addr} {sLen sCap : Nat} {old olds : List Value} (hold : (Builtin.firstCells i.size sLen (.slice base sLen sCap)).run P w.drew = .ok olds.toArray w.drew) (hol : olds.length = sLen * i.size) (hor : VRL μ old olds)
    {x : Value} {n : Nat} {xs news : List Value} (hs : Src P i.size tx x n news w) (hxr : VRL μ xs news) (hg : sCap < sLen + n) (hb1 : 1 ≤ i.bytes) (hb : (sLen + n) * i.bytes ≤ 1073741824)
    {id' : Nat} {mt : Mta} (hid : μ id' = none) (hlt : id' < σ.next) (hmt : mt.z = i.size) (hob : σ.get id' = some (.cells (old ++ xs) mt)) :
    ∃ v' w' p, (Builtin.append_ #[t, tx] ty #[.slice base sLen sCap, x]).run P w = .ok v' w' ∧ VR (upd μ id' p) (.slice (some ⟨id', 0, none⟩) (sLen + n) (sLen + n + 1)) v' ∧ Sim w0 P (upd μ id' p) σ w' := by
  have hnl : sLen + n ≤ (sLen + n) * i.bytes := Nat.le_mul_of_pos_right _ (by omega)
  have hrun := run_append_grow_src w t tx ty e i z ht hi hz base sLen sCap olds hold x n news hs hg (by omega) (growslice_fits hg (by omega))
  have hcap := grownCap_ge w (sLen + n) sCap e
  refine ⟨_, _, ⟨w.heap.size, 0, grownCap w (sLen + n) sCap e * i.size, i.size⟩, hrun, .slc id' 0 _ _ _ _ (upd_same _ _ _) (fun e => by omega) hcap (by simp), ?_⟩
  refine (S.drawn (w.drawn + 1)).alloc hid hlt hob ⟨_, e, rfl, fun j v hj => ?_, fun _ => ?_, by simp [hmt]⟩ rfl rfl
  · obtain ⟨u, hu, hr⟩ := (hor.append hxr).get hj
    refine ⟨u, ?_, hr⟩
    have hjl : j < (olds ++ news).length := by
      rcases Nat.lt_or_ge j (olds ++ news).length with h' | h'
      · exact h'
      · rw [List.getElem?_eq_none h'] at hu; cases hu
    rw [Array.getElem?_append_left (by simpa using hjl)]
    simpa using hu
  · constructor
    · rw [(hor.append hxr).1]
      simp only [List.length_append, hol, hs.newsLen, ← Nat.add_mul]
      exact Nat.mul_le_mul_right _ hcap
    · simp only [Array.size_append, List.size_toArray, List.length_append, hol, hs.newsLen, zeroCells_size, hzs, ← Nat.add_mul]
      exact Nat.mul_le_mul_right _ (by omega)

theorem aappend_ok {c : Call} {ty : TypeId} {s s' x x' v : Value} {σ' : St} {id' : Nat} (S : Sim w0 P μ σ w) (rs : VR μ s s') (rx : VR μ x x') (hid : μ id' = none) (hlt : id' < σ.next) (h : aappend P σ id' c s x = some (v, σ')) :
    ∃ v' w' μ', (Builtin.append_ c.argTypes ty #[s', x']).run P w = .ok v' w' ∧ VR μ' v v' ∧ Sim w0 P μ' σ' w' ∧ (∀ k p, μ k = some p → μ' k = some p) ∧ (∀ k, k ≠ id' → μ' k = μ k) ∧ σ'.next = σ.next := by
  unfold aappend at h
  split at h <;> try cases h
  rename_i t t1 hts
  have hts' : c.argTypes = #[t, t1] := by
    apply Array.toList_inj.1; rw [hts]
  rw [hts']
  split at h <;> try cases h
  rename_i e u hu hu1
  cases hk : fits u x with
  | false => rw [hk] at h; cases h
  | true =>
    rw [hk] at h
    simp only [cond_true] at h
    split at h <;> try cases h
    rename_i info hi
    split at h <;> try cases h
    rename_i n xs z hsrc hz
    cases hc : (xs.all one && Nat.ble 1 info.size && Nat.ble 1 info.bytes && Nat.beq z.cells.size info.size && isSlice s) with
    | false => rw [hc] at h; cases h
    | true =>
      rw [hc] at h
      simp only [Bool.and_eq_true, nble, nbeq, decide_eq_true_eq] at hc
      obtain ⟨⟨⟨⟨hone, hz1⟩, hb1⟩, hzs⟩, hsl⟩ := hc
      simp only [cond_true] at h
      obtain ⟨news, hs, hxr⟩ := aSource_ok S rx hu1 hk hone hsrc
      rw [nbeq, Bool.cond_decide] at h
      split at h
      · rename_i hn
        subst hn
        simp only [Option.some.injEq, Prod.mk.injEq] at h
        obtain ⟨rfl, rfl⟩ := h
        have hnews : news = [] := by have := hs.newsLen; simpa using this
        subst hnews
        cases s <;> simp only [isSlice, Bool.false_eq_true] at hsl
        rename_i a l c'
        refine ⟨s', w, μ, ?_, rs, S, fun _ _ h => h, fun _ _ => rfl, rfl⟩
        have : ∃ base len cap, s' = .slice base len cap ∧ len ≤ cap := by
          cases a with
          | none => obtain ⟨rfl, rfl, rfl⟩ := rs.nilslc_inv; exact ⟨none, 0, 0, rfl, Nat.le_refl _⟩
          | some a =>
            cases rs with
            | same _ h => simp [plain0] at h
            | slc id off len c cap p h hc hl he => exact ⟨_, _, _, rfl, hl⟩
            | emp a cap => exact ⟨_, _, _, rfl, Nat.zero_le _⟩
        obtain ⟨base, len, cap, rfl, hle⟩ := this
        exact run_append_nothing w t t1 ty e info hu hi base len cap hle x' hs
      · rename_i hn
        unfold agrow at h
        split at h <;> try cases h
        · -- onto nil
          obtain ⟨rfl, rfl, rfl⟩ := rs.nilslc_inv
          rw [nble, Bool.cond_decide] at h
          split at h
          · rename_i hb
            simp only [Option.some.injEq, Prod.mk.injEq] at h
            obtain ⟨rfl, rfl⟩ := h
            have S1 : Sim w0 P μ (σ.put id' (.cells xs (tipMeta info.size id'))) w := S.put_new hid (fun cs m g v e1 e2 => by cases e1; simp only [tipMeta, Option.some.injEq, Prod.mk.injEq] at e2; omega)
            obtain ⟨v', w', p, h1, h2, h3⟩ := grow_ok (ty := ty) S1 hu hi hz hzs (base := none) (sLen := 0) (sCap := 0) (old := []) (olds := []) (run_firstCells_none _ _ _ _ _) (by simp) .nil hs hxr (by omega) hb1 (by simpa using hb) hid hlt (mt := tipMeta info.size id') rfl
              (by rw [St.get_put, if_pos rfl]; rfl)
            refine ⟨v', w', _, h1, by simpa using h2, h3, upd_ext p hid, fun k hk => upd_ne hk, rfl⟩
          · cases h
        · rename_i id off len k
          obtain ⟨p, cap, hp, rfl, hck, hlc, he⟩ := rs.slc_inv
          rw [nble, Bool.cond_decide] at h
          split at h
          · rename_i hb
            split at h <;> try cases h
            rename_i cs m hrow
            obtain ⟨hg, hgood⟩ := St.row_some hrow
            have R := S.row id p cs m hp hg hgood
            obtain ⟨C, te, fr, hC, hcs, htipC⟩ := R.row
            split at h <;> try cases h
            rename_i old hcut
            obtain ⟨rfl, hle⟩ := cut_some hcut
            have hor := row_cut hcs hle
            have hol : ((C.toList.drop (p.o + off)).take (len * info.size)).length = len * info.size := by rw [← hor.1]; simp; omega
            have hold : (Builtin.firstCells info.size len (.slice (some ⟨p.b, p.o + off, none⟩) len cap)).run P w.drew = .ok ((C.toList.drop (p.o + off)).take (len * info.size)).toArray w.drew :=
              run_firstCells_some _ _ _ _ _ _ _ hol (fun j v hj => by
                rw [add_none, cell_eq (w := w.drew) (show w.drew.heap[p.b]? = _ from hC)]
                rw [List.getElem?_take] at hj
                split at hj
                · rw [List.getElem?_drop] at hj; simpa using hj
                · cases hj)
            rw [nbeq, Bool.cond_decide] at h
            split at h
            · -- the capacity is known
              rename_i hkl
              have hcap := hck hkl
              simp only [Option.some.injEq, Prod.mk.injEq] at h
              obtain ⟨rfl, rfl⟩ := h
              have S1 : Sim w0 P μ (σ.put id' (.cells ((cs.drop off).take (len * info.size) ++ xs) (tipMeta info.size id'))) w := S.put_new hid (fun cs m g v e1 e2 => by cases e1; simp only [tipMeta, Option.some.injEq, Prod.mk.injEq] at e2; omega)
              obtain ⟨v', w', q, h1, h2, h3⟩ := grow_ok (ty := ty) S1 hu hi hz hzs hold hol hor hs hxr (by omega) hb1 hb hid hlt (mt := tipMeta info.size id') rfl (by rw [St.get_put, if_pos rfl])
              exact ⟨v', w', _, h1, h2, h3, upd_ext q hid, fun k hk => upd_ne hk, rfl⟩
            · cases hc2 : (m.tip && m.wr && Nat.beq m.z info.size && Nat.beq (off + len * info.size) cs.length && m.grp.isSome) with
              | false => rw [hc2] at h; cases h
              | true =>
                rw [hc2] at h
                simp only [Bool.and_eq_true, nbeq, decide_eq_true_eq] at hc2
                obtain ⟨⟨⟨⟨htip, hwr⟩, hmz⟩, hend⟩, hgrp⟩ := hc2
                simp only [cond_true, Option.some.injEq, Prod.mk.injEq] at h
                obtain ⟨rfl, rfl⟩ := h
                have hdrop : (cs.drop off).take (len * info.size) = cs.drop off := List.take_of_length_le (by simp; omega)
                have hpz : p.z = info.size := R.z.trans hmz
                by_cases hroom : len + n ≤ cap
                · -- in place
                  have hfr := S.kept.new p.b C te fr (R.wr hwr) hC
                  subst hfr
                  have hxl : xs.length = n * info.size := by rw [hxr.1]; exact hs.newsLen
                  have hmul : (len + n) * info.size ≤ cap * info.size := Nat.mul_le_mul_right _ hroom
                  rw [Nat.add_mul] at hmul
                  rw [hpz] at he
                  have hfit : p.o + cs.length + xs.length ≤ p.e := by rw [hxl]; omega
                  have hCe := htipC htip
                  have hrun := room_run (ty := ty) hu hi hs hroom hC (off := p.o + off) (by rw [hs.newsLen]; omega)
                  have hpos : p.o + off + len * info.size = p.o + cs.length := by omega
                  rw [hpos] at hrun
                  refine ⟨_, _, upd μ id' ⟨p.b, p.o + off, p.e, p.z⟩, hrun, ?_, ?_, upd_ext _ hid, fun k hk => upd_ne hk, rfl⟩
                  · exact .slc id' 0 (len + n) (len + n + 1) cap _ (upd_same _ _ _) (fun e => by omega) hroom (by rw [hpz]; simp; omega)
                  · rw [hdrop]
                    exact S.extend hp hg hgood htip hwr hgrp hC (by omega) hxr hfit hid hlt
                · -- a new row
                  have hne : id' ≠ id := by intro e; subst e; rw [hid] at hp; cases hp
                  have S1 : Sim w0 P μ ((σ.put id (.cells cs { m with tip := false })).put id' (.cells ((cs.drop off).take (len * info.size) ++ xs) m)) w :=
                    (S.untip hg).put_new hid (fun cs' m' g v e1 e2 => by cases e1; exact S.vers id cs m g v hg e2)
                  obtain ⟨v', w', q, h1, h2, h3⟩ := grow_ok (ty := ty) S1 hu hi hz hzs hold hol hor hs hxr (by omega) hb1 hb hid hlt (mt := m) hmz (by rw [St.get_put, if_pos rfl])
                  exact ⟨v', w', _, h1, h2, h3, upd_ext q hid, fun k hk => upd_ne hk, rfl⟩
          · cases h

end
end Go.AI
