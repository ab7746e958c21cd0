import Derived.Test.YtbggbjpobkkbaaaGreatDoorKl
set_option linter.unusedVariables false
set_option linter.unusedSimpArgs false
set_option linter.constructorNameAsVariable false
namespace Go.TV
open Go.AI Go.PI
section
variable {P : Program} {U : iP} {T : TP U.D} {c c0 : Cx} {β : Type} {r : β} {q p : PSt} {M : TM U.D}
theorem aET {x : Nat × Bool} : ∀ {rs : Rts}, leR.memW x rs = true → ∃ s, (x.1, s) ∈ rs ∧ (x.2 = true → s = true)
 | y :: ys, h => by
  simp only [leR.memW, Bool.or_eq_true, bjE, cN, djE, Bool.not_eq_true'] at h;rcases h with ⟨h1, h2⟩ | h
  ·refine ⟨y.2, by rw [h1]; exact mhE .., fun e => ?_⟩
   rcases h2 with h2 | h2
   ·rw [e] at h2; cases h2
   ·exact h2
  ·obtain ⟨s, h1, h2⟩ := aET h;exact ⟨s, mtE _ h1, h2⟩
theorem aES : ∀ {rs rs' : Rts}, leR rs rs' = true → ∀ o s, (o, s) ∈ rs → ∃ s', (o, s') ∈ rs' ∧ (s = true → s' = true)
 | x :: rs, rs', h, o, s, hm => by
  simp only [leR, bjE] at h;rcases List.mem_cons.1 hm with rfl | hm
  ·exact aET h.1
  ·exact aES h.2 o s hm
theorem aA6 {rs rs' : Rts} {cs : List (PV × Bool)} (h : leR rs rs' = true) (hb : rtB rs' cs) : rtB rs cs := fun o s hm => by
 obtain ⟨s', h1, h2⟩ := aES h o s hm;obtain ⟨x, h3, h4⟩ := hb o s' h1;exact ⟨x, h3, fun e => h4 (h2 e)⟩
theorem rtR_le {rs rs' : Rts} {pv : PV} {ow : Bool} (h : leR rs rs' = true) (hb : rtR rs' pv ow) : rtR rs pv ow := fun o s hm => by
 obtain ⟨s', h1, h2⟩ := aES h o s hm;rcases hb o s' h1 with h3 | ⟨h3, h4, h5, h6⟩
 ·exact .inl h3
 ·exact .inr ⟨h3, h4, h5, fun e => h6 (h2 e)⟩
theorem vV {bk : List Nat} (Mm : MR U q c0 c M p) : ∀ {l : List (Sh × Rts)} {j : Nat} {e : List (V U)} (rest : List (V U)), vW U bk M l j = some e → j + l.length ≤ bk.length →
    ∃ M0, unB U (cutOf.bxL l j) (e ++ rest) = some (M0, rest) ∧ (∀ i b, bI M0 i = some b → ∃ ce, mL c bk i = some ce ∧ bcR U (mL c bk) p ce b) ∧ (∀ i, i < l.length → bI M.bx (kG bk (j + i)) ≠ none)
 | [], j, e, rest, h, _ => by
  simp only [vW, ojE] at h;subst h;exact ⟨[], rfl, fun i b h => (by cases h), fun i h => (by simp at h)⟩
 | (s, rr) :: l, j, e, rest, h, hj => by
  simp only [lcS] at hj;unfold vW at h;split at h
  ·rename_i cont rs d hf hd;cases hb : leR rr rs with
   | false => rw [hb] at h; cases h
   | true =>
    rw [hb] at h;simp only [cdt] at h;obtain ⟨M0, g1, g2, g3⟩ := vV Mm rest hd (by omega)
    obtain ⟨ce, hce, id, cs, hid, hget, hcs, hrt⟩ := Mm.bx _ _ hf;have hcc : mL c bk j = some ce := by unfold mL; rw [if_pos (by omega)]; exact hce
    have hne : ∀ i, i < ((s, rr) :: l).length → bI M.bx (kG bk (j + i)) ≠ none := by
     intro i hi;cases i with
     | zero => rw [Nat.add_zero, hf]; exact fun e => by cases e
     | succ i => have := g3 i (by simpa using hi); rwa [show j + (i + 1) = j + 1 + i by omega]
    split at h
    ·rename_i t v;cases hv : v.t.beq t with
     | false => rw [hv] at h; cases h
     | true =>
      rw [hv] at h;simp only [cdt, ojE] at h;subst h;refine ⟨(j, .bx (.val v) rr) :: M0, ?_, ?_, hne⟩
      ·simp only [cutOf.bxL, cnA, unB, unV, hv, cdt, g1]
      ·intro i b hb';rw [dG] at hb';by_cases e1 : i = j
       ·rw [if_pos e1] at hb'; simp only [ojE] at hb'; subst hb'; subst e1;exact ⟨ce, hcc, id, cs, hid, hget, hcs, aA6 hb hrt⟩
       ·rw [if_neg e1] at hb'; exact g2 i b hb'
    ·rename_i f caps f' caps';cases hv : Nat.beq f f' && qL caps bk.length && zB (mapN (kG bk) caps) caps' with
     | false => rw [hv] at h; cases h
     | true =>
      rw [hv] at h;simp only [cdt, ojE] at h;subst h;simp only [bjE, cN, djE] at hv;obtain ⟨⟨rfl, h2⟩, h3⟩ := hv;obtain ⟨pv, bb, e1, ps, e2, e3⟩ := hcs;refine ⟨(j, .bx (.cl f caps) rr) :: M0, ?_, ?_, hne⟩
      ·simp only [cutOf.bxL, unB, unV, g1]
      ·intro i b hb';rw [dG] at hb';by_cases e4 : i = j
       ·rw [if_pos e4] at hb'; simp only [ojE] at hb'; subst hb'; subst e4;exact ⟨ce, hcc, id, cs, hid, hget, ⟨pv, bb, e1, ps, e2, (aAB h2).1 (by rw [nF h3]; exact e3)⟩, aA6 hb hrt⟩
       ·rw [if_neg e4] at hb'; exact g2 i b hb'
    ·cases h
  ·cases h
theorem aR : ∀ {ts : List Ty} {l : List (V U)} {r : DenL U.D ts}, dK ts l = some r → tvL ts r = l
 | [], [], r, h => rfl
 | t :: ts, v :: vs, r, h => by
  unfold dK at h;split at h
  ·rename_i x r' h1 h2;simp only [ojE] at h;subst h;rw [tvL, aR h2];have := jI h1;simp only;rw [← this]
  ·cases h
 | [], _ :: _, r, h => by cases h
 | _ :: _, [], r, h => by cases h
theorem obL_some {ts : List Ty} {a : Option (List (V U))} {K : DenL U.D ts → Option β} (h : obL ts a K = some r) : ∃ l x, a = some l ∧ tvL ts x = l ∧ K x = some r := by
 unfold obL at h;split at h
 ·rename_i l;split at h
  ·rename_i x hx;exact ⟨l, x, rfl, aR hx, h⟩
  ·cases h
 ·cases h
theorem oO : ∀ {l : List (Sh × Rts)} {rs : List Rts} {d : List (V U)} {m : List (X U)}, iL U l rs d = some m → m.length = l.length
 | [], [], [], m, h => by simp only [iL, ojE] at h; subst h; rfl
 | (.val t, rr) :: l, r :: rs, v :: d, m, h => by
  simp only [iL] at h;split at h
  ·rename_i m' hm; cases h; simp only [lcS, oO hm]
  ·cases h
 | (.cl f caps, rr) :: l, r :: rs, d, m, h => by
  simp only [iL] at h;split at h
  ·rename_i m' hm; cases h; simp only [lcS, oO hm]
  ·cases h
 | [], _ :: _, _, _, h => by simp [iL] at h
 | [], [], _ :: _, _, h => by simp [iL] at h
 | (s, rr) :: l, [], d, m, h => by cases s <;> simp [iL] at h
 | (.val t, rr) :: l, r :: rs, [], m, h => by simp [iL] at h
 | (.tup _, _) :: _, _ :: _, _, _, h => by simp [iL] at h
 | (.nl, _) :: _, _ :: _, _, _, h => by simp [iL] at h
 | (.lc _ _ _, _) :: _, _ :: _, _, _, h => by simp [iL] at h
 | (.ep _, _) :: _, _ :: _, _, _, h => by simp [iL] at h
 | (.rw _, _) :: _, _ :: _, _, _, h => by simp [iL] at h
 | (.nf, _) :: _, _ :: _, _, _, h => by simp [iL] at h
 | (.row _, _) :: _, _ :: _, _, _, h => by simp [iL] at h
theorem sF {bk : List Nat} (hn : bk.Nodup) : ∀ (m : List (X U)) (j0 : Nat) (B : List (Nat × BC U.D)), (∀ j, j < m.length → bI B (kG bk (j0 + j)) ≠ none) → j0 + m.length ≤ bk.length → ∀ k,
    (∃ j x, m[j]? = some x ∧ kG bk (j0 + j) = k ∧ bI (putB U bk m j0 B) k = some (.bx (renS U bk x.1) x.2)) ∨ ((∀ j, j < m.length → kG bk (j0 + j) ≠ k) ∧ bI (putB U bk m j0 B) k = bI B k)
 | [], j0, B, _, _, k => .inr ⟨fun j h => by simp at h, rfl⟩
 | x :: m, j0, B, hB, hl, k => by
  simp only [lcS] at hl;have h0 : bI B (kG bk j0) ≠ none := by have := hB 0 (by simp); rwa [Nat.add_zero] at this
  have hB' : ∀ j, j < m.length → bI (rM B (kG bk j0) (.bx (renS U bk x.1) x.2)) (kG bk (j0 + 1 + j)) ≠ none := by
   intro j hj;have := hB (j + 1) (by simpa using hj)
   rw [show j0 + (j + 1) = j0 + 1 + j by omega] at this
   rw [eT];split
   ·cases hh : bI B (kG bk j0) with
    | none => exact (h0 hh).elim
    | some b => exact fun e => by cases e
   ·exact this
  rcases sF hn m (j0 + 1) (rM B (kG bk j0) (.bx (renS U bk x.1) x.2)) hB' (by omega) k with ⟨j, y, h1, h2, h3⟩ | ⟨h1, h2⟩
  ·exact .inl ⟨j + 1, y, by rw [gcS]; exact h1, by rw [← h2]; congr 1; omega, h3⟩
  ·by_cases hk : kG bk j0 = k
   ·refine .inl ⟨0, x, rfl, by rw [Nat.add_zero]; exact hk, ?_⟩
    rw [putB, h2, eT, if_pos hk.symm];cases hh : bI B (kG bk j0) with
    | none => exact (h0 hh).elim
    | some b => rfl
   ·refine .inr ⟨fun j hj => ?_, ?_⟩
    ·cases j with
     | zero => rw [Nat.add_zero]; exact hk
     | succ j => have := h1 j (by simpa using hj); rwa [show j0 + (j + 1) = j0 + 1 + j by omega]
    ·rw [putB, h2, eT, if_neg (fun e => hk e.symm)]
theorem bcR_cc {bk : List Nat} {e : Ce} {x : X U} (h : bcR U (mL c bk) p e (.bx x.1 x.2)) : bcR U c p e (.bx (renS U bk x.1) x.2) := by
 obtain ⟨id, cs, h1, h2, h3, h4⟩ := h;exact ⟨id, cs, h1, h2, aFV h3, h4⟩
theorem MR.call (Mm : MR U q c0 c M p) {bk : List Nat} (hn : bk.Nodup) {m : List (X U)} (hm : m.length = bk.length) (hne : ∀ i, i < bk.length → bI M.bx (kG bk i) ≠ none) {p' : PSt}
    (hb : ∀ j x, m[j]? = some x → ∃ e, mL c bk j = some e ∧ bcR U (mL c bk) p' e (.bx x.1 x.2)) (hnx : p'.next = p.next)
    (hg : ∀ id, id < p.next → (∀ j e, mL c bk j = some e → e.id ≠ some id) → p'.get id = p.get id)
    (hg2 : ∀ id, id < p.next → id ∉ p'.dirty → p'.get id = p.get id)
    (hd : ∀ id, id ∈ p'.dirty → id ∈ p.dirty ∨ ∃ j e, mL c bk j = some e ∧ e.id = some id) (hd2 : ∀ id, id ∈ p.dirty → id ∈ p'.dirty)
    (hw : ∀ id, id ∈ p'.wr → id ∈ p.wr ∨ ∃ j e, mL c bk j = some e ∧ e.id = some id) :
    MR U q c0 c ⟨putB U bk m 0 M.bx, bk ++ M.wr⟩ p' ∧ (WR U c M p → WR U c ⟨putB U bk m 0 M.bx, bk ++ M.wr⟩ p') := by
 have hput := sF hn m 0 M.bx (fun j hj => by rw [Nat.zero_add]; exact hne j (by omega)) (by omega)
 simp only [Nat.zero_add] at hput;have cck : ∀ {j e}, mL c bk j = some e → j < bk.length ∧ c (kG bk j) = some e := by
  intro j e h;unfold mL at h;split at h
  ·rename_i hj; exact ⟨hj, h⟩
  ·cases h
 have bor : ∀ {j e id}, mL c bk j = some e → e.id = some id → id < q.next → ∃ k e, c0 k = some e ∧ e.id = some id := by
  intro j e id h1 h2 h3;obtain ⟨_, h4⟩ := cck h1;have hk : kG bk j < 100 := by
   rcases Nat.lt_or_ge (kG bk j) 100 with h | h
   ·exact h
   ·have := Mm.loc _ e id h4 h h2; omega
  exact ⟨_, e, Mm.bor _ e h4 hk, h2⟩
 refine ⟨⟨fun k h => ?_, fun k b h => ?_, fun k e id h1 h2 => by rw [hnx]; exact Mm.lt k e id h1 h2, Mm.inj, by rw [hnx]; exact Mm.next, Mm.bor, Mm.loc, fun id hi ho => ?_, fun id hi hlt => ?_, fun id hi => ?_⟩, fun hW id hi k e h1 h2 => ?_⟩
 ·simp only at h;rcases hput k with ⟨j, x, h1, h2, h3⟩ | ⟨h1, h2⟩
  ·rw [h3] at h; cases h
  ·rw [h2] at h; exact Mm.dom k h
 ·simp only at h;rcases hput k with ⟨j, x, h1, h2, h3⟩ | ⟨h1, h2⟩
  ·rw [h3] at h; cases h;obtain ⟨e, g1, g2⟩ := hb j x h1;obtain ⟨_, g3⟩ := cck g1;exact ⟨e, by rw [← h2]; exact g3, bcR_cc g2⟩
  ·rw [h2] at h;obtain ⟨e, g1, g2⟩ := Mm.bx k b h;refine ⟨e, g1, nM g2 fun id hid => hg id (Mm.lt k e id g1 hid) fun j e' h3 h4 => ?_⟩
   obtain ⟨g3, g4⟩ := cck h3;exact h1 j (by omega) (Mm.inj _ _ e' e id g4 g1 h4 hid)
 ·rw [hg2 id (Nat.lt_of_lt_of_le hi Mm.next) ho]
  exact Mm.old id hi fun h => ho (hd2 id h)
 ·rcases hd id hi with h | ⟨j, e, h1, h2⟩
  ·exact Mm.dirty id h hlt
  ·exact bor h1 h2 hlt
 ·rcases hw id hi with h | ⟨j, e, h1, h2⟩
  ·rw [hnx]; exact Mm.wr id h
  ·rw [hnx];exact ⟨Mm.lt _ e id (cck h1).2 h2, fun hlt => bor h1 h2 hlt⟩
 ·have happ : ∀ {l l' : List Nat}, bO k (l ++ l') = (bO k l || bO k l') := by
   intro l l';rw [Bool.eq_iff_iff, Bool.or_eq_true, fJ, fJ, fJ, List.mem_append]
  show bO k (bk ++ M.wr) = true;rw [happ, Bool.or_eq_true];rcases hw id hi with h | ⟨j, e', h3, h4⟩
  ·exact .inr (hW id h k e h1 h2)
  ·obtain ⟨h5, h6⟩ := cck h3;have := Mm.inj _ _ e e' id h1 h6 h2 h4;left;rw [fJ, this];exact List.mem_of_getElem? (oQ bk j h5)
theorem slR_cc {bk : List Nat} {own : Bool} {l : List (V U)} {y : PV × Bool} (h : slR U (mL c bk) (resV U own l) y) : slR U c (resV U own l) y := by
 unfold resV at h ⊢;split at h <;> exact h
theorem callK_ok (hU : eZ U) {tc : qT U.D} {pc : gK} (hc : eC U T tc pc) {take : Bool} {inst : Nat} {bk : List Nat} {S : TS U.D} {S' : PS} (F : frR U c S S') {cl : Call} {f : Operand} {K : X U → TS U.D → TM U.D → Option β}
    (hcl : cl.callee = .value f) (h : callK U T tc take inst bk S M (evT U S f).1 cl.args.toList K = some r) (Mm : MR U q c0 c M p) :
    ∃ x S2 M' v own p' g args, K x S2 M' = some r ∧ kN take S' cl = some (g, args) ∧ pc g args p = some (v, own, p') ∧ slR U c x (v, own) ∧ frR U c S2 (iR take S' cl.args.toList).2 ∧ MR U q c0 c M' p' ∧ (WR U c M p → WR U c M' p') ∧ p'.next = p.next := by
 have rf := (aV F f).1;unfold callK at h;split at h
 ·rename_i g caps s hf hs;rw [hf] at rf;obtain ⟨ps, e1, e2⟩ := rf;have e1 : pev S' f = .fn g [] ps := e1;split at h
  ·rename_i d e hd he;cases hb : Nat.beq g s.f && aEK bk && Nat.beq bk.length s.bx.length with
   | false => rw [hb] at h; cases h
   | true =>
    rw [hb] at h;simp only [cdt] at h;simp only [bjE, cN, djE] at hb;obtain ⟨⟨hg, hnd⟩, hlen⟩ := hb;have hnd := pQ hnd;obtain ⟨out, x, h1, h2, h⟩ := obL_some h;split at h
    ·rename_i m hm;obtain ⟨g1, g2⟩ := aBp (take := take) (args := cl.args.toList) F;have g3 := qJ g2 (aFW (take := take) e2);obtain ⟨k1, S0, k2, k3⟩ := vX hU 0 e hd g3;obtain ⟨M0, k4, k5, k6⟩ := vV Mm [] he (by omega)
     rw [apN] at k4;have hin : aCp U s (d ++ e) p (mL c bk) ((iR take S' cl.args.toList).1 ++ mY ps) S0 ⟨M0, []⟩ := by
      refine ⟨?_, k1, fun i y hy => ?_, k5, fun j hj => ?_, fun j e id h1 h2 => ?_, fun k k' e e' id h1 h2 h3 h4 => ?_, fun id hi => (Mm.wr id hi).1⟩
      ·simp only [unT', cutOf, k2, k4]
      ·have := k3 i y hy; rwa [Nat.zero_add] at this
      ·unfold mL; rw [if_neg (by omega)]
      ·unfold mL at h1;split at h1
       ·exact Mm.lt _ e id h1 h2
       ·cases h1
      ·unfold mL at h1 h2;split at h1
       ·rename_i hk;split at h2
        ·rename_i hk';exact nth_inj hnd hk hk' (Mm.inj _ _ e e' id h1 h2 h3 h4)
        ·cases h2
       ·cases h1
     obtain ⟨pv, own, p', j1, j2⟩ := hc inst s _ out hs h1 p (mL c bk) _ S0 _ hin;rw [h2] at hm h;obtain ⟨m', j3, j4⟩ := j2.out;rw [hm] at j3; cases j3;obtain ⟨j5, j6⟩ := Mm.call hnd (m := m) (by rw [oO hm, hlen]) (fun i hi => by have := k6 i (by omega); rwa [Nat.zero_add] at this) j4 j2.next j2.get j2.get2 j2.dirty j2.dirty2 j2.wr
     refine ⟨_, _, _, pv, own, p', s.f, _, h, ?_, j1, slR_cc j2.res, g1, j5, j6, j2.next⟩
     simp only [kN, hcl, e1, hg, mY, nlA]
    ·cases h
  ·cases h
 ·cases h
end
end Go.TV
namespace Go.TV
open Go.AI Go.PI
section
variable {P : Program} {U : iP} {T : TP U.D} {c c0 : Cx} {β : Type} {r : β} {q p : PSt} {M : TM U.D}
def Post (P : Program) (U : iP) (pc : gK) (sq take : Bool) (o : Oper) (S' : PS) (p q : PSt) (c0 c : Cx) (M : TM U.D) (K : X U → TS U.D → TM U.D → Option β) (r : β) : Prop :=
 ∃ c' x S2 M2 v own S2' p', K x S2 M2 = some r ∧ pop P pc sq o take S' p = some (v, own, S2', p') ∧ leC c c' ∧ slR U c' x (v, own) ∧ frR U c' S2 S2' ∧ MR U q c0 c' M2 p' ∧ (WR U c M p → WR U c' M2 p') ∧ p.next ≤ p'.next
theorem aCG {take : Bool} {p p' : PSt} {t : TypeId} {a v : PV} {own : Bool} (h : pI P take p t a = some (v, own, p')) : p.next ≤ p'.next := by
 have hm : (dN p a).1.next = p.next := by
  unfold dN;split
  ·split
   ·split <;> rfl
   ·rfl
  ·rfl
 unfold pI at h;split at h
 ·rename_i w _;cases hb : take && aDt w with
  | true => rw [hb] at h; simp only [cdt, ojE, pjE] at h; rw [← h.2.2, hm]; exact nlR _
  | false => rw [hb] at h; simp only [cdf, ojE, pjE] at h; rw [← h.2.2]; exact nlR _
 ·cases h
theorem zK {p p' : PSt} {t : TypeId} {a x : PV} {own : Bool} (h : iY P p t a x own = some p') : p.next ≤ p'.next := by
 unfold iY at h;simp only [Bool.cond_eq_ite] at h
 repeat' split at h
 all_goals first | (cases h; done) | (simp only [ojE] at h; rw [← h]; exact nlR _)
theorem kP {p p' : PSt} {S' : PS} {o : Oper} {v : PV} {own : Bool} (h : cK P p S' o = some (v, own, p')) : p.next ≤ p'.next := by
 unfold cK at h;simp only [Bool.cond_eq_ite] at h
 repeat' split at h
 all_goals first | (cases h; done) | (simp only [ojE, pjE] at h; rw [← h.2.2]; first | exact nlR _ | exact Nat.le_succ _)
theorem lenK_ok (hT : sS P U T) (Mm : MR U q c0 c M p) {t : TypeId} {x : SV U.D} {v : PV} {K : X U → Option β} (h : lenK U M (T.T.ty t) x K = some r) (ra : svR U c x v) :
    ∃ y w, K y = some r ∧ aEp P t v = some w ∧ slR U c y (w, false) := by
 unfold lenK at h;split at h
 ·rename_i k;split at h
  ·rename_i e e' l ht hf;cases he : e.beq e' with
   | false => rw [he] at h; cases h
   | true =>
    rw [he] at h;have := Ty.beq_eq he;subst this;obtain ⟨ce, g1, g2⟩ := ra;obtain ⟨ce', g1', hn, hz, _⟩ := Mm.bx _ _ hf;rw [g1] at g1'; cases g1';obtain ⟨eid, hu, _⟩ := hT.un t _ ht;refine ⟨_, i64 (l.length : Int), h, ?_, dV _ _, aE _ _⟩;rcases g2 with ⟨_, hn0, rfl⟩ | ⟨id, _, _, rfl⟩
    ·simp only [aEp, hu, lnN]; rw [← hn, hn0]
    ·simp only [aEp, hu]; rw [hn]
  ·cases h
 ·exact lenT_ok hT h ra
variable {pc : gK} {sq take : Bool} {o : Oper} {S : TS U.D} {S' : PS} {K : X U → TS U.D → TM U.D → Option β}
theorem vM (Mm : MR U q c0 c M p) (hk : aK o = .pure) {x : X U} {S2 : TS U.D} {v : PV} {own : Bool} {S2' : PS} (h : K x S2 M = some r) (hp : bT P take S' o = some (v, own, S2')) (hx : slR U c x (v, own)) (hF : frR U c S2 S2') : Post P U pc sq take o S' p q c0 c M K r :=
 ⟨c, x, S2, M, v, own, S2', p, h, by simp only [pop, hk, vL, hp, omS], leC.refl c, hx, hF, Mm, fun hw => hw, nlR _⟩
theorem dO (Mm : MR U q c0 c M p) (F : frR U c S S') (hk : aK o = .pure) {x : X U} {v : PV} (h : K x S M = some r) (hp : bT P take S' o = some (v, false, S')) (hx : slR U c x (v, false)) : Post P U pc sq take o S' p q c0 c M K r :=
 vM Mm hk h hp hx F
theorem aB5 (F : frR U c S S') : ∀ {l : List Operand} {ks : List Nat}, aFX U S l = some ks → zC c ks (wks (l.map (pev S')))
 | [], ks, h => by simp only [aFX, ojE] at h; subst h; trivial
 | x :: l, ks, h => by
  unfold aFX at h;split at h
  ·rename_i k ks' hx hl;simp only [ojE] at h;subst h;have h1 := (aV F x).1;rw [hx] at h1;obtain ⟨e, id, g1, g2, g3⟩ := h1;have g3 : pev S' x = .ptr id 0 := g3;refine ⟨⟨e, id, g1, g2, by rw [g3]; rfl⟩, aB5 F hl⟩
  ·cases h
variable (hU : eZ U) (hT : sS P U T)
include hU hT
theorem opT_ok {tc : qT U.D} (hc : eC U T tc pc) (F : frR U c S S') (Mm : MR U q c0 c M p) {inst : Nat} {bk : List Nat} (h : opT U T tc sq take inst bk o S M K = some r) : Post P U pc sq take o S' p q c0 c M K r := by
 obtain ⟨dst, op, ty, pos, aft, gd'⟩ := o;have mv : ∀ (x : Operand), (bif take then K (evT U S x) (rC U S x) M else K (oF U (evT U S x)) S M) = some r → (op = .move x ∨ op = .assign x) → Post P U pc sq take ⟨dst, op, ty, pos, aft, gd'⟩ S' p q c0 c M K r := by
  intro x h ho;cases take with
  | true =>
   refine vM Mm ?_ h (v := pev S' x) (own := jA S' x) (S2' := oR S' x) ?_ (aV F x) (mC F x)
   ·rcases ho with rfl | rfl <;> rfl
   ·rcases ho with rfl | rfl <;> rfl
  | false =>
   refine dO Mm F ?_ h (v := pev S' x) ?_ (lZ (aV F x))
   ·rcases ho with rfl | rfl <;> rfl
   ·rcases ho with rfl | rfl <;> rfl
 cases op with
 | move x => exact mv x h (.inl rfl)
 | assign x => exact mv x h (.inr rfl)
 | pick w a b =>
  simp only [opT] at h;split at h
  ·rename_i wb hw;have h1 := (aV F w).1;rw [hw] at h1;have h1 := of_bool h1;have h1 : pev S' w = .v (.bool wb) := h1;obtain ⟨x, h2, h3⟩ := pickT_ok h (aV F a) (aV F b);refine dO Mm F rfl h2 ?_ h3;simp only [bT, h1];cases wb <;> rfl
  ·cases h
 | build t parts =>
  simp only [opT] at h;split at h
  ·rename_i n ht;split at h
   ·rename_i l hl;obtain ⟨x, hx, h⟩ := hM h;obtain ⟨w, h1, h2⟩ := build_ok hU hT F ht hl hx;exact dO Mm F rfl h (by simp only [bT, h1, omS]) h2
   ·cases h
  ·cases h
 | nilCheck x =>
  simp only [opT] at h;have h1 := (aV F x).1;split at h
  ·rename_i k off path hx;rw [hx] at h1;have h2 := h1;obtain ⟨e, id, g1, g2, g3⟩ := h1;have g3 : pev S' x = .ptr id off := g3;exact dO Mm F rfl h (v := .ptr id off) (by simp only [bT, g3]) ⟨⟨e, id, g1, g2, rfl⟩, aE _ _⟩
  ·rename_i v hx;rw [hx] at h1;obtain ⟨es, i, off, e, g1, g2, g3⟩ := h1;have g1 : pev S' x = .pin es i off := g1;exact dO Mm F rfl h (v := .pin es i off) (by simp only [bT, g1]) ⟨⟨es, i, off, e, rfl, g2, g3⟩, aE _ _⟩
  ·rename_i k i off path hx;rw [hx] at h1;obtain ⟨e, id, g1, g2, g3, g4, g5⟩ := h1;have g5 : pev S' x = .ptr id (i.toNat * e.z + off) := g5;exact dO Mm F rfl h (v := .ptr id (i.toNat * e.z + off)) (by simp only [bT, g5]) ⟨⟨e, id, g1, g2, g3, g4, rfl⟩, aE _ _⟩
  ·cases h
 | binOp op t x y t' =>
  simp only [opT] at h;obtain ⟨v, w, h1, h2, h3⟩ := binT_ok hU hT (x := x) (y := y) h (zrV_ok hU (aV F x).1) (zrV_ok hU (aV F y).1);have h2 : oE P op t x y (pev S' x) (pev S' y) = some w := h2;exact dO Mm F rfl h1 (by simp only [bT, h2, omS]) ⟨h3, aE _ _⟩
 | unOp op t x =>
  simp only [opT] at h;obtain ⟨v, w, h1, h2, h3⟩ := unT_ok (P := P) h (aV F x).1;have h2 : pun P op (pev S' x) = some w := h2;exact dO Mm F rfl h1 (by simp only [bT, h2, omS]) ⟨h3, aE _ _⟩
 | convert s d x =>
  simp only [opT] at h;obtain ⟨v, w, h1, h2, h3⟩ := convT_ok hT h (aV F x).1;rcases h3 with h3 | ⟨hs, h3, h4⟩
  ·have h3 : qY P s d (pev S' x) = some w := h3;exact dO Mm F rfl h1 (by simp only [bT, h3, omS]) ⟨h2, aE _ _⟩
  ·have h3 : qY P s d (pev S' x) = none := h3;have h4 : rX P s d (pev S' x) = some w := h4;refine ⟨c, _, S, M, w, false, S', p, h1, ?_, leC.refl c, ⟨h2, aE _ _⟩, F, Mm, fun hw => hw, nlR _⟩
   rw [hs];simp only [pop, aK, vL, bT, h3, Option.map_none, cdt, h4, omS]
 | makeFunc fn first captured =>
  simp only [opT] at h;split at h
  ·rename_i f ks h1 h2;refine dO Mm F rfl h (v := .fn f (wks (first.toList.map (pev S'))) (wks (captured.toList.map (pev S')))) rfl ⟨⟨_, ?_, aB5 F h2⟩, aE _ _⟩
   rw [h1]; rfl
  ·cases h
 | fieldAddr s x f =>
  simp only [opT] at h;have h1 := (aV F x).1;split at h
  ·rename_i n k off path ht hx;rw [hx] at h1;obtain ⟨e, id, g1, g2, g3⟩ := h1;have g3 : pev S' x = .ptr id off := g3;cases hf : Nat.blt f (U.fs n).length with
   | false => rw [hf] at h; cases h
   | true =>
    rw [hf] at h;rw [hP, djE] at hf;have := (iE hU hT ht hf).1 id off;exact dO Mm F rfl h (by simp only [bT, g3, this, omS]) ⟨⟨e, id, g1, g2, rfl⟩, aE _ _⟩
  ·rename_i n v ht hx;rw [hx] at h1;cases hb : v.t.beq (.rc n) with
   | false => rw [hb] at h; cases h
   | true =>
    rw [hb] at h;simp only [cdt] at h;split at h
    ·rename_i w hw;obtain ⟨q1, h2, h3⟩ := wP hU hT ht hb hw h1;have h2 : dE P s (pev S' x) f = some q1 := h2;exact dO Mm F rfl h (by simp only [bT, h2, omS]) ⟨h3, aE _ _⟩
    ·cases h
  ·rename_i n k i off path ht hx;rw [hx] at h1;obtain ⟨e, id, g1, g2, g3, g4, g5⟩ := h1;have g5 : pev S' x = .ptr id (i.toNat * e.z + off) := g5;cases hf : Nat.blt f (U.fs n).length with
   | false => rw [hf] at h; cases h
   | true =>
    rw [hf] at h;rw [hP, djE] at hf;have := (iE hU hT ht hf).1 id (i.toNat * e.z + off);exact dO Mm F rfl h (v := .ptr id (i.toNat * e.z + off + oP U n f)) (by simp only [bT, g5, this, omS]) ⟨⟨e, id, g1, g2, g3, g4, by simp only [Nat.add_assoc]⟩, aE _ _⟩
  ·cases h
 | field t x f =>
  simp only [opT] at h;have h1 := aV F x;split at h
  ·rename_i n v rs ht hx;rw [hx] at h1;cases hb : v.t.beq (.rc n) with
   | false => rw [hb] at h; cases h
   | true =>
    rw [hb] at h;simp only [cdt] at h;split at h
    ·rename_i w hw;obtain ⟨q1, h2, h3⟩ := field_ok hU hT ht hb hw h1;exact dO Mm F rfl h (by simp only [bT, h2, omS]) h3
    ·cases h
  ·cases h
 | indexAddr t x i =>
  simp only [opT] at h;have h1 := (aV F x).1;have h2 := (aV F i).1;split at h
  ·rename_i e e' l k n ht hx hi;rw [hx] at h1;rw [hi] at h2;have h2 : pev S' i = .v (.int k n) := fH h2;cases he : e.beq e' with
   | false => rw [he] at h; cases h
   | true =>
    rw [he] at h;obtain ⟨y, hy, h⟩ := hM h;obtain ⟨q1, g1, g2⟩ := wG hU hT (k := k) ht he hy h1;have g1 : eQ P t (pev S' x) (.v (.int k n)) = some q1 := g1;exact dO Mm F rfl h (by simp only [bT, h2, g1, omS]) ⟨g2, aE _ _⟩
  ·rename_i e kk k n ht hx hi;rw [hx] at h1;rw [hi] at h2;have h2 : pev S' i = .v (.int k n) := fH h2;split at h
   ·rename_i e' l hf;cases he : e.beq e' with
    | false => rw [he] at h; cases h
    | true =>
     rw [he] at h;have := Ty.beq_eq he;subst this;obtain ⟨hin, h⟩ := cB h;obtain ⟨ce, g1, g2⟩ := h1;obtain ⟨ce', g1', hn, hz, _⟩ := Mm.bx _ _ hf;rw [g1] at g1'; cases g1';obtain ⟨eid, hu, hte, _⟩ := hT.un t _ ht;simp only [bH, bjE, djE] at hin;rcases g2 with ⟨_, hn0, _⟩ | ⟨id, g3, g4, g5⟩
     ·have b1 : (0 : Int) ≤ n := hin.1;have b2 : (n : Int) < (l.length : Int) := hin.2;omega
     ·have g5 : pev S' x = .rs id 0 ce.n := g5;have hin' : bH n ce.n = true := by rw [hn]; simp only [bH, bjE, djE]; exact hin
      refine dO Mm F rfl h (v := .ptr id (0 + Int.toNat n * szT U e)) ?_ ⟨⟨ce, id, g1, g3, hin.1, by rw [hn]; exact hin.2, by rw [hz, Nat.zero_add, Nat.add_zero]⟩, aE _ _⟩
      simp only [bT, h2, g5, eQ, hu, hT.sz _ _ hte, hin', cdt, omS]
   ·cases h
  ·cases h
 | index t x i =>
  simp only [opT] at h;have h1 := (aV F x).1;have h2 := (aV F i).1;split at h
  ·rename_i s k n ht hx hi;rw [hx] at h1;rw [hi] at h2;have h2 : pev S' i = .v (.int k n) := fH h2;obtain ⟨b, hb, h⟩ := hM h;have g1 := index_ok hT (k := k) ht hb h1;have g1 : rW P t (pev S' x) (.v (.int k n)) = some (.v (.int .u8 (b.toNat : Int))) := g1;exact dO Mm F rfl h (by simp only [bT, h2, g1, omS]) ⟨dV _ _, aE _ _⟩
  ·cases h
 | extract x i =>
  simp only [opT] at h;have h1 := (aV F x).1;split at h
  ·rename_i l hx;rw [hx] at h1;obtain ⟨ps, g1, g2⟩ := h1;have g1 : pev S' x = .tup ps := g1;split at h
   ·rename_i v hv;have g3 : ps[i]? = some (enV U v.t v.x) := by rw [g2, List.getElem?_map, hv]; rfl
    refine dO Mm F rfl h (by simp only [bT, g1, g3, omS]) ⟨⟨en_wk hU _ _, aDA (uG hU _ _)⟩, aE _ _⟩
   ·cases h
  ·cases h
 | load t a =>
  simp only [opT] at h;obtain ⟨x, M', v, own, p', h1, h2, h3, h4, h5⟩ := ldT_ok hU hT h (aV F a).1 Mm;refine ⟨c, x, S, M', v, own, S', p', h1, ?_, leC.refl c, h3, F, h4, h5, aCG h2⟩;have : iZ P p S' ⟨dst, .load t a, ty, pos, aft, gd'⟩ take = some (v, own, p') := by
   simp only [iZ];unfold pI at h2;exact h2
  simp only [pop, aK, this, omS]
 | slice t x lo hi mx =>
  simp only [opT] at h;obtain ⟨y, w, own, h1, h2, h3⟩ := slT_ok hT F (p := p) h (aV F x).1;have h2 : fY P p t (pev S' x) (lo.map (pev S')) (hi.map (pev S')) (mx.map (pev S')) = some (w, own) := h2;exact ⟨c, y, S, M, w, own, S', p, h1, by simp only [pop, aK, iZ, h2, omS], leC.refl c, h3, F, Mm, fun hw => hw, nlR _⟩
 | alloc t =>
  simp only [opT] at h;obtain ⟨c', x, M', v, p', h1, h2, h3, h4, h5, h6⟩ := alT_ok hU hT (S' := S') (o := ⟨dst, .alloc t, ty, pos, aft, gd'⟩) rfl h Mm;exact ⟨c', x, S, M', v, false, S', p', h1, by simp only [pop, aK, h2, omS], h3, h4, aE5 h3 F, h5, h6, kP h2⟩
 | box t x =>
  simp only [opT] at h;obtain ⟨c', x, M', v, p', h1, h2, h3, h4, h5, h6⟩ := bxT_ok hU F (P := P) (o := ⟨dst, .box t x, ty, pos, aft, gd'⟩) rfl h Mm;exact ⟨c', x, S, M', v, false, S', p', h1, by simp only [pop, aK, h2, omS], h3, h4, aE5 h3 F, h5, h6, kP h2⟩
 | buildSlice t len parts =>
  simp only [opT] at h;split at h
  ·rename_i e ht;cases hb : Nat.ble (len * szT U e) 1000000 with
   | false => rw [hb] at h; cases h
   | true =>
    rw [hb] at h;simp only [cdt] at h;split at h
    ·rename_i l hl;obtain ⟨w, h1, h2⟩ := uM hU hT F (p := p) (o := ⟨dst, .buildSlice t len parts, ty, pos, aft, gd'⟩) rfl ht hb hl;exact ⟨c, _, S, M, w, true, S', p, h, by simp only [pop, aK, h1, omS], leC.refl c, h2, F, Mm, fun hw => hw, nlR _⟩
    ·cases h
  ·cases h
 | makeSlice t l k =>
  simp only [opT] at h;obtain ⟨c', x, M', v, own, p', h1, h2, h3, h4, h5, h6⟩ := msT_ok hU hT F (o := ⟨dst, .makeSlice t l k, ty, pos, aft, gd'⟩) rfl h Mm;exact ⟨c', x, S, M', v, own, S', p', h1, by simp only [pop, aK, h2, omS], h3, h4, aE5 h3 F, h5, h6, kP h2⟩
 | store t a x =>
  simp only [opT] at h;obtain ⟨M', p', h1, h2, h3, h4⟩ := stT_ok hU hT h (aV F a).1 (aV F x) Mm;have h2 : iY P p t (pev S' a) (pev S' x) (jA S' x) = some p' := h2;exact ⟨c, _, _, M', .und, false, oR S' x, p', h1, by simp only [pop, aK, peff, h2, omS], leC.refl c, ⟨trivial, aE _ _⟩, mC F x, h3, h4, zK h2⟩
 | call cl =>
  simp only [opT] at h;split at h
  ·rename_i hcl;split at h
   ·rename_i t x ht hx;obtain ⟨y, w, h1, h2, h3⟩ := lenK_ok hT Mm h (aV F x).1;have h2 : aEp P t (pev S' x) = some w := h2;exact dO Mm F (by simp only [aK, hcl]) h1 (by simp only [bT, hcl, ht, hx, h2, omS]) h3
   ·cases h
  ·rename_i hcl;split at h
   ·rename_i x y hx;obtain ⟨z, w, h1, h2, h3⟩ := mmT_ok (P := P) (ts := cl.argTypes) (ty := ty) h (aV F x).1 (aV F y).1;have h2 : gZ P false cl.argTypes ty [pev S' x, pev S' y] = some w := h2;exact dO Mm F (by simp only [aK, hcl]) h1 (by simp only [bT, hcl, hx, mpC, List.map_nil, h2, omS]) h3
   ·cases h
  ·rename_i hcl;split at h
   ·rename_i x y hx;obtain ⟨z, w, h1, h2, h3⟩ := mmT_ok (P := P) (ts := cl.argTypes) (ty := ty) h (aV F x).1 (aV F y).1;have h2 : gZ P true cl.argTypes ty [pev S' x, pev S' y] = some w := h2;exact dO Mm F (by simp only [aK, hcl]) h1 (by simp only [bT, hcl, hx, mpC, List.map_nil, h2, omS]) h3
   ·cases h
  ·rename_i hcl;split at h
   ·rename_i s x hx;obtain ⟨y, v, own, h1, h2, h3⟩ := apT_ok hU hT F h;exact ⟨c, y, _, M, v, own, oR S' s, p, h1, by simp only [pop, aK, hcl, peff, hx, h2, omS], leC.refl c, h3, mC F s, Mm, fun hw => hw, nlR _⟩
   ·cases h
  ·rename_i f hcl;obtain ⟨x, S2, M', v, own, p', g, args, h1, h2, h3, h4, h5, h6, h7, h8⟩ := callK_ok hU hc F hcl h Mm;exact ⟨c, x, S2, M', v, own, _, p', h1, by simp only [pop, aK, hcl, peff, h2, h3, omS], leC.refl c, h4, h5, h6, h7, by rw [h8]; exact nlR _⟩
  ·cases h
 | _ => cases h
end
end Go.TV
namespace Go.TV
open Go.AI Go.PI
section
variable {P : Program} {U : iP} {T : TP U.D} {c c0 : Cx} {β : Type} {r : β} {q p : PSt} {M : TM U.D} {S : TS U.D} {S' : PS} {pc : gK}
theorem aDN : slR U c (.tup [], []) (.tup [], false) := ⟨⟨[], rfl, rfl⟩, aE _ _⟩
theorem guT_ok {ops : Array Oper} {o : Oper} {run skip : TS U.D → Option β} (h : guT U ops o S run skip = some r) (F : frR U c S S') :
    ∃ S1, frR U c S1 S' ∧ ((gF ops S' o = some true ∧ run S1 = some r) ∨ (gF ops S' o = some false ∧ skip S1 = some r)) := by
 unfold guT at h;split at h
 ·rename_i hg;exact ⟨S, F, .inl ⟨by simp only [gF, hg], h⟩⟩
 ·rename_i j want hg;split at h
  ·cases h
  ·rename_i d hd;have hs := F d;split at h
   ·rename_i b rr hx;rw [hx] at hs;have hb : (S'.at d).1 = .v (.bool b) := of_bool hs.1;have hpw : gF ops S' o = some (b == want) := by simp only [gF, hg, hd, omS, hb]
    have hF : ∀ b', b = b' → frR U c ((d, (.val ⟨.bool, b'⟩, rr)) :: S) S' := fun b' e => aBS F (by rw [← e]; exact hs)
    rcases uH h with ⟨rfl, h⟩ | ⟨rfl, h⟩
    ·cases want with
     | true => exact ⟨_, hF true rfl, .inl ⟨hpw, h⟩⟩
     | false => exact ⟨_, hF true rfl, .inr ⟨hpw, h⟩⟩
    ·cases want with
     | true => exact ⟨_, hF false rfl, .inr ⟨hpw, h⟩⟩
     | false => exact ⟨_, hF false rfl, .inl ⟨hpw, h⟩⟩
   ·rename_i rr hx;rw [hx] at hs;obtain ⟨ps, e1, e2⟩ := hs.1;have hb : (S'.at d).1 = .tup [] := by rw [e1, e2]; rfl
    exact ⟨S, F, .inr ⟨by simp only [gF, hg, hd, omS, hb], h⟩⟩
   ·cases h
variable (hU : eZ U) (hT : sS P U T)
include hU hT
theorem aF3 {oA oI oS : Oper} {K : TS U.D → Option β} (h : appT U T oA oI oS S K = some r) (F : frR U c S S') :
    ∃ S1 S1', K S1 = some r ∧ aCL P S' oA oI oS = some S1' ∧ frR U c S1 S1' := by
 unfold appT at h;split at h
 ·rename_i cl a t1 a' n b t2 b' x e1 e2 e3 e4 e5 e6;split at h
  ·rename_i s zz e7 e8;cases hb : Nat.beq a a' && Nat.beq b b' && !Nat.beq a b && !isT a n && !isT a x && !isT b x && oA.guard.isNone && oI.guard.isNone && oS.guard.isNone with
   | false => rw [hb] at h; cases h
   | true =>
    rw [hb] at h;simp only [cdt] at h;obtain ⟨y, w, v, h1, h2, h3, h4⟩ := ap1T_ok hU hT F h;refine ⟨_, ((oR S' s).put (some a) v true).put (some b) (pinL v) false, h1, by simp only [aCL, e1, e2, e3, e4, e5, e6, e7, e8, hb, cdt, h2, omS], ?_⟩
    exact kZ (kZ (mC F s) h3) ⟨h4, aE _ _⟩
  ·cases h
 ·cases h
theorem runT_ok {tc : qT U.D} (hc : eC U T tc pc) {ops : Array Oper} {K : TS U.D → TM U.D → Option β} : ∀ (sc : List TStep) (S : TS U.D) (M : TM U.D) (S' : PS) (p : PSt) (c : Cx), frR U c S S' → MR U q c0 c M p → runT U T tc ops sc S M K = some r →
    ∃ c' S1 M1 S1' p', K S1 M1 = some r ∧ yV P pc ops (sc.map TStep.un) S' p = some (S1', p') ∧ leC c c' ∧ frR U c' S1 S1' ∧ MR U q c0 c' M1 p' ∧ p.next ≤ p'.next
 | [], S, M, S', p, c, F, Mm, h => ⟨c, S, M, S', p, h, rfl, leC.refl c, F, Mm, nlR _⟩
 | .app a i s :: rest, S, M, S', p, c, F, Mm, h => by
  unfold runT at h;split at h
  ·rename_i oA oI oS e1 e2 e3;obtain ⟨S1, S1', h1, h2, h3⟩ := aF3 hU hT h F;obtain ⟨c', S2, M2, S2', p', g1, g2, g3⟩ := runT_ok hc rest S1 M S1' p c h3 Mm h1;refine ⟨c', S2, M2, S2', p', g1, ?_, g3⟩;simp only [mpC, TStep.un, yV, e1, e2, e3, h2, g2]
  ·cases h
 | .freeze t :: rest, S, M, S', p, c, F, Mm, h => by
  unfold runT at h;split at h
  ·rename_i R hR;obtain ⟨S1', p1, h1, h2, h3, h4⟩ := aE4 hU F hR Mm;obtain ⟨c', S2, M2, S2', p', g1, g2, g3, g4, g5, g6⟩ := runT_ok hc rest R.1 R.2 S1' p1 c h2 h3 h;refine ⟨c', S2, M2, S2', p', g1, ?_, g3, g4, g5, Nat.le_trans (pfreeze_next h1) g6⟩;simp only [mpC, TStep.un, yV, h1, g2]
  ·cases h
 | .op i take inst bk :: rest, S, M, S', p, c, F, Mm, h => by
  unfold runT at h;split at h
  ·cases h
  ·rename_i o ho;obtain ⟨S0, F0, h | h⟩ := guT_ok h F
   ·obtain ⟨hw, h⟩ := h;obtain ⟨c1, x, S1, M1, v, own, S1', p1, h1, h2, h3, h4, h5, h6, _, h7⟩ := opT_ok hU hT hc F0 Mm h;obtain ⟨c', S2, M2, S2', p', g1, g2, g3, g4, g5, g6⟩ := runT_ok hc rest _ M1 _ p1 c1 (pY h5 h4) h6 h1;refine ⟨c', S2, M2, S2', p', g1, ?_, leC.trans h3 g3, g4, g5, Nat.le_trans h7 g6⟩;simp only [mpC, TStep.un, yV, ho, hw, h2, g2]
   ·obtain ⟨hw, h⟩ := h;obtain ⟨c', S2, M2, S2', p', g1, g2, g3⟩ := runT_ok hc rest _ M _ p c (pY F0 aDN) Mm h;refine ⟨c', S2, M2, S2', p', g1, ?_, g3⟩;simp only [mpC, TStep.un, yV, ho, hw, g2]
where
 pfreeze_next {p p1 : PSt} {S' S1' : PS} {t : Nat} (h : fC p S' t = some (S1', p1)) : p.next ≤ p1.next := by
  unfold fC at h;split at h
  ·rename_i R hR;cases h;unfold frz at hR;simp only [Bool.cond_eq_ite] at hR
   repeat' split at hR
   all_goals first | (cases hR; done) | (simp only [ojE] at hR; rw [← hR]; exact nlR _)
  ·cases h
def pdR (c : Cx) : List TPd → List fV → Prop
 | [], [] => True
 | x :: l, y :: l' => (x.i = y.i ∧ x.stale = y.stale ∧ x.mr = fZ y.o ∧ (x.mr = false → ∃ e id, c x.k = some e ∧ e.id = some id ∧ cid y.o y.a y.v = some id)) ∧ pdR c l l'
 | _, _ => False
omit hU hT in
theorem aEt {c c' : Cx} (h : leC c c') : ∀ {l : List TPd} {l' : List fV}, pdR c l l' → pdR c' l l'
 | [], [], _ => trivial
 | x :: l, y :: l', ⟨⟨h1, h2, h3, h4⟩, h5⟩ => ⟨⟨h1, h2, h3, fun e => by obtain ⟨a, id, g1, g2⟩ := h4 e; exact ⟨a, id, h _ _ g1, g2⟩⟩, aEt h h5⟩
 | [], _ :: _, hh => hh.elim
 | _ :: _, [], hh => hh.elim
omit hU hT in
theorem tQ (hw : WR U c M p) : ∀ {l : List TPd} {l' : List fV}, pdR c l l' → okPd M.wr l = true → l'.all (kE P p) = true
 | [], [], _, _ => rfl
 | x :: l, y :: l', ⟨⟨h1, h2, h3, h4⟩, h5⟩, h => by
  simp only [okPd, bjE, Bool.or_eq_true, Bool.not_eq_true'] at h;rw [alC, tQ hw h5 h.2, bnA];unfold kE;rw [← h2];rcases h.1 with h6 | ⟨h6, h7⟩
  ·rw [h6]; rfl
  ·obtain ⟨e, id, g1, g2, g3⟩ := h4 h6;have : clean p (cid y.o y.a y.v) = true := by
    rw [g3];simp only [clean, Bool.not_eq_true', ← Bool.not_eq_true];intro hm;have := hw id (by simpa using hm) x.k e g1 g2
    rw [h7] at this; cases this
   rw [this, Bool.true_or, Bool.or_true]
 | [], _ :: _, hh, _ => hh.elim
 | _ :: _, [], hh, _ => hh.elim
omit hU hT in
theorem sY {ms : List Nat} {i : Nat} {ap : Bool} : ∀ {l : List TPd} {l' : List fV}, pdR c l l' → pdR c (aCx ms i ap l) ((l'.filter fun r => !bit (ms.getD i 0) r.i).map fun r => bif ap && !fZ r.o then r else { r with stale := true })
 | [], [], _ => trivial
 | x :: l, y :: l', ⟨⟨h1, h2, h3, h4⟩, h5⟩ => by
  have ih := sY (ms := ms) (i := i) (ap := ap) h5;simp only [aCx, List.filter_cons, h1];cases hb : bit (ms.getD i 0) y.i with
  | true => simpa using ih
  | false =>
   simp only [Bool.not_false, if_true, cdf, mpC];refine ⟨?_, ih⟩;rw [← h3];cases ap && !x.mr with
   | true => simp only [cdt]; exact ⟨h1, h2, h3, h4⟩
   | false => simp only [cdf]; exact ⟨trivial, trivial, h3, h4⟩
 | [], _ :: _, hh => hh.elim
 | _ :: _, [], hh => hh.elim
omit hU hT in
theorem aBs {ms : List Nat} {i : Nat} : ∀ {l : List TPd} {l' : List fV}, pdR c l l' → pdR c (aEE ms i l) (l'.filter fun r => !bit (ms.getD i 0) r.i)
 | [], [], _ => trivial
 | x :: l, y :: l', ⟨⟨h1, h2, h3, h4⟩, h5⟩ => by
  have ih := aBs (ms := ms) (i := i) h5;simp only [aEE, List.filter_cons, h1];cases hb : bit (ms.getD i 0) y.i with
  | true => simpa using ih
  | false => exact ⟨⟨h1, h2, h3, h4⟩, ih⟩
 | [], _ :: _, hh => hh.elim
 | _ :: _, [], hh => hh.elim
omit hU hT in
theorem aEJ {ms : List Nat} {i : Nat} : ∀ {l : List TPd} {l' : List fV}, pdR c l l' → noMk ms i l = true → (l'.filter fun r => !bit (ms.getD i 0) r.i).all (fun r => !fZ r.o) = true
 | [], [], _, _ => rfl
 | x :: l, y :: l', ⟨⟨h1, h2, h3, h4⟩, h5⟩, h => by
  simp only [noMk, bjE, Bool.or_eq_true, Bool.not_eq_true'] at h;have ih := aEJ (ms := ms) (i := i) h5 h.2;rw [List.filter_cons];cases hb : bit (ms.getD i 0) y.i with
  | true => simpa using ih
  | false =>
   rw [h1, hb] at h;rcases h.1 with h6 | h6
   ·cases h6
   ·simp only [Bool.not_false, if_true, alC, ih, bnA];rw [← h3, h6]; rfl
 | [], _ :: _, hh, _ => hh.elim
 | _ :: _, [], hh, _ => hh.elim
omit hU hT in
theorem pdT_ok {o : Oper} {x : X U} {i : Nat} {pend pend' : List TPd} {pl : List fV} {v : PV} {own : Bool} {c' : Cx} (h : pdT U o S x i pend = some pend') (F : frR U c S S') (hl : leC c c') (hx : slR U c' x (v, own)) (hp : pdR c' pend pl) :
    pdR c' pend' (bif fQ o S' then ⟨i, o, jL o S', v, false⟩ :: pl else pl) := by
 obtain ⟨dst, op, ty, pos, aft, gd'⟩ := o;have other : (∀ t a, op ≠ .load t a) → fQ ⟨dst, op, ty, pos, aft, gd'⟩ S' = false → pdT U ⟨dst, op, ty, pos, aft, gd'⟩ S x i pend = some pend → pdR c' pend' (bif fQ ⟨dst, op, ty, pos, aft, gd'⟩ S' then ⟨i, ⟨dst, op, ty, pos, aft, gd'⟩, jL ⟨dst, op, ty, pos, aft, gd'⟩ S', v, false⟩ :: pl else pl) := by
  intro _ h1 h2;rw [h2] at h; cases h;rw [h1]; exact hp
 have box : ∀ (k : Nat), (∃ off pth, x.1 = .lc k off pth) → fQ ⟨dst, op, ty, pos, aft, gd'⟩ S' = true → fZ ⟨dst, op, ty, pos, aft, gd'⟩ = false → (∀ a w, cid ⟨dst, op, ty, pos, aft, gd'⟩ a w = vid w) → pdR c' (⟨i, k, false, false⟩ :: pend) (bif fQ ⟨dst, op, ty, pos, aft, gd'⟩ S' then ⟨i, ⟨dst, op, ty, pos, aft, gd'⟩, jL ⟨dst, op, ty, pos, aft, gd'⟩ S', v, false⟩ :: pl else pl) := by
  intro k ⟨off, pth, hk⟩ h1 h2 h3;rw [h1];have h4 := hx.1;rw [hk] at h4;obtain ⟨e, id, g1, g2, g3⟩ := h4;have g3 : v = .ptr id off := g3;exact ⟨⟨rfl, rfl, h2.symm, fun _ => ⟨e, id, g1, g2, by simp only [h3]; rw [g3]; rfl⟩⟩, hp⟩
 cases op with
 | load t a =>
  have h1 := (aV F a).1;simp only [pdT] at h;split at h
  ·rename_i k off pth ha;rw [ha] at h1;obtain ⟨e, id, g1, g2, g3⟩ := h1;have g3 : pev S' a = .ptr id off := g3;cases h;simp only [fQ, g3, cdt];exact ⟨⟨rfl, rfl, rfl, fun _ => ⟨e, id, hl _ _ g1, g2, by simp only [cid, jL, g3, aid]⟩⟩, hp⟩
  ·rename_i k ii off pth ha;rw [ha] at h1;obtain ⟨e, id, g1, g2, _, _, g3⟩ := h1;have g3 : pev S' a = .ptr id (ii.toNat * e.z + off) := g3;cases h;simp only [fQ, g3, cdt];exact ⟨⟨rfl, rfl, rfl, fun _ => ⟨e, id, hl _ _ g1, g2, by simp only [cid, jL, g3, aid]⟩⟩, hp⟩
  ·rename_i w ha;rw [ha] at h1;obtain ⟨es, ii, off, e, g1, _⟩ := h1;have g1 : pev S' a = .pin es ii off := g1;cases h;simp only [fQ, g1, cdf];exact hp
  ·cases h
 | alloc t =>
  simp only [pdT] at h;split at h
  ·rename_i k off pth hk; cases h; exact box k ⟨off, pth, hk⟩ rfl rfl fun _ _ => rfl
  ·cases h
 | box t y =>
  simp only [pdT] at h;split at h
  ·rename_i k off pth hk; cases h; exact box k ⟨off, pth, hk⟩ rfl rfl fun _ _ => rfl
  ·cases h
 | makeSlice t l k =>
  simp only [pdT, ojE] at h;subst h;exact ⟨⟨rfl, rfl, rfl, fun e => by cases e⟩, hp⟩
 | _ => exact other (fun _ _ e => by cases e) rfl rfl
theorem jS {tc : qT U.D} (hc : eC U T tc pc) {ops : Array Oper} {ms : List Nat} {K : TS U.D → TM U.D → Option β} : ∀ (sc : List TStep) (pend : List TPd) (pl : List fV) (S : TS U.D) (M : TM U.D) (S' : PS) (p : PSt) (c : Cx), frR U c S S' → MR U q c0 c M p → WR U c M p → pdR c pend pl →
    oC U T tc ops ms sc pend S M K = some r →
    ∃ c' S1 M1 S1' p', K S1 M1 = some r ∧ gL P pc ops ms (sc.map TStep.un) pl S' p = some (S1', p') ∧ leC c c' ∧ frR U c' S1 S1' ∧ MR U q c0 c' M1 p' ∧ p.next ≤ p'.next
 | [], pend, pl, S, M, S', p, c, F, Mm, W, Pd, h => by
  unfold oC at h;cases hb : okPd M.wr pend with
  | false => rw [hb] at h; cases h
  | true =>
   rw [hb] at h;exact ⟨c, S, M, S', p, h, by simp only [List.map_nil, gL, tQ W Pd hb, cdt], leC.refl c, F, Mm, nlR _⟩
 | .app a i s :: rest, pend, pl, S, M, S', p, c, F, Mm, W, Pd, h => by
  unfold oC at h;split at h
  ·rename_i oA oI oS e1 e2 e3;obtain ⟨S1, S1', h1, h2, h3⟩ := aF3 hU hT h F;cases hb : okPd M.wr pend && noMk ms a pend with
   | false => rw [hb] at h1; cases h1
   | true =>
    rw [hb] at h1;simp only [bjE] at hb;have hpd := aBs (ms := ms) (i := s) (sY (ms := ms) (i := a) (ap := true) Pd);obtain ⟨c', S2, M2, S2', p', g1, g2, g3⟩ := jS hc rest _ _ S1 M S1' p c h3 Mm W hpd h1;refine ⟨c', S2, M2, S2', p', g1, ?_, g3⟩;simp only [mpC, TStep.un, gL, e1, e2, e3, h2, tQ W Pd hb.1, aEJ Pd hb.2, Bool.and_self, cdt];simpa using g2
  ·cases h
 | .freeze t :: rest, pend, pl, S, M, S', p, c, F, Mm, W, Pd, h => by
  unfold oC at h;split at h
  ·rename_i R hR;obtain ⟨S1', p1, h1, h2, h3, h4⟩ := aE4 hU F hR Mm;obtain ⟨c', S2, M2, S2', p', g1, g2, g3, g4, g5, g6⟩ := jS hc rest pend pl R.1 R.2 S1' p1 c h2 h3 (h4 W) Pd h;refine ⟨c', S2, M2, S2', p', g1, ?_, g3, g4, g5, Nat.le_trans (runT_ok.pfreeze_next h1) g6⟩;simp only [mpC, TStep.un, gL, h1, g2]
  ·cases h
 | .op i take inst bk :: rest, pend, pl, S, M, S', p, c, F, Mm, W, Pd, h => by
  unfold oC at h;split at h
  ·cases h
  ·rename_i o ho;obtain ⟨S0, F0, h | h⟩ := guT_ok h F
   ·obtain ⟨hw, h⟩ := h;obtain ⟨c1, x, S1, M1, v, own, S1', p1, h1, h2, h3, h4, h5, h6, hW, h7⟩ := opT_ok hU hT hc F0 Mm h;cases he : gM o with
    | true =>
     rw [he] at h1;simp only [cdt] at h1;cases hb : okPd M.wr pend with
     | false => rw [hb] at h1; cases h1
     | true =>
      rw [hb] at h1;have hpd := sY (ms := ms) (i := i) (ap := iC o) (aEt h3 Pd);obtain ⟨c', S2, M2, S2', p', g1, g2, g3, g4, g5, g6⟩ := jS hc rest _ _ _ M1 _ p1 c1 (pY h5 h4) h6 (hW W) hpd h1;refine ⟨c', S2, M2, S2', p', g1, ?_, leC.trans h3 g3, g4, g5, Nat.le_trans h7 g6⟩;simp only [mpC, TStep.un, gL, ho, hw, h2, he, tQ W Pd hb, cdt];exact g2
    | false =>
     rw [he] at h1;simp only [cdf] at h1;split at h1
     ·rename_i pend' hpe;have hpd := pdT_ok hpe F0 h3 h4 (aEt h3 Pd);obtain ⟨c', S2, M2, S2', p', g1, g2, g3, g4, g5, g6⟩ := jS hc rest _ _ _ M1 _ p1 c1 (pY h5 h4) h6 (hW W) hpd h1;refine ⟨c', S2, M2, S2', p', g1, ?_, leC.trans h3 g3, g4, g5, Nat.le_trans h7 g6⟩;simp only [mpC, TStep.un, gL, ho, hw, h2, he, cdf];exact g2
     ·cases h1
   ·obtain ⟨hw, h⟩ := h;obtain ⟨c', S2, M2, S2', p', g1, g2, g3⟩ := jS hc rest pend pl _ M _ p c (pY F0 aDN) Mm W Pd h;refine ⟨c', S2, M2, S2', p', g1, ?_, g3⟩;simp only [mpC, TStep.un, gL, ho, hw, g2]
end
end Go.TV
namespace Go.TV
open Go.AI Go.PI
section
variable {P : Program} {U : iP} {T : TP U.D} {c c0 : Cx} {β : Type} {r : β} {q p : PSt} {M : TM U.D} {S : TS U.D} {S' : PS} {pc : gK}
def onC (c : Cx) (l : List Nat) : Cx := fun k => bif bO k l then c k else none
theorem vS {c : Cx} {l : List Nat} {k : Nat} {e : Ce} (h : onC c l k = some e) : c k = some e ∧ bO k l = true := by
 unfold onC at h;cases hb : bO k l with
 | true => rw [hb] at h; exact ⟨h, rfl⟩
 | false => rw [hb] at h; cases h
theorem vR {c : Cx} {l : List Nat} {k : Nat} {e : Ce} (h : c k = some e) (hm : bO k l = true) : onC c l k = some e := by
 unfold onC; rw [hm]; exact h
theorem aAz {l : List Nat} : ∀ {caps : List Nat} {ps : List PV}, sQ caps l = true → zC c caps ps → zC (onC c l) caps ps
 | [], [], _, _ => trivial
 | k :: ks, x :: ps, h, ⟨⟨e, id, h1, h2, h3⟩, h4⟩ => by
  simp only [sQ, bjE] at h;exact ⟨⟨e, id, vR h1 h.1, h2, h3⟩, aAz h.2 h4⟩
 | [], _ :: _, _, h => h.elim
 | _ :: _, [], _, h => h.elim
theorem uZ : ∀ {l : List (V U)} {ts : List Ty}, aCz U l ts = true → l.length = ts.length
 | [], [], _ => rfl
 | v :: l, t :: ts, h => by
  simp only [aCz, bjE] at h;simp only [lcS, uZ h.2]
 | [], _ :: _, h => by cases h
 | _ :: _, [], h => by cases h
theorem fitV_ok (hU : eZ U) {l : List Nat} {sh : Sh} {s : SV U.D} {d : List (V U)} {pv : PV} (h : zA U l sh s = some d) (r : svR U c s pv) :
    ∃ s', (∀ rest, unV U sh (d ++ rest) = some (s', rest)) ∧ svR U (onC c l) s' pv := by
 cases sh with
 | val t =>
  simp only [zA] at h;split at h
  ·rename_i v hv;cases h;obtain ⟨h1, h2⟩ := gD hU hv r;refine ⟨.val v, fun rest => ?_, h2⟩
   simp only [sgA, unV, h1, Ty.beq_rfl, cdt]
  ·cases h
 | tup ts =>
  cases s with
  | tup vs =>
   simp only [zA] at h;cases hb : aCz U vs ts with
   | false => rw [hb] at h; cases h
   | true =>
    rw [hb] at h;simp only [cdt, ojE] at h;subst h;refine ⟨.tup vs, fun rest => ?_, r⟩
    have := uZ hb;simp only [unV, ← this, List.take_left, List.drop_left, hb, cdt]
  | _ => cases h
 | nl =>
  cases s with
  | nl => simp only [zA, ojE] at h; subst h; exact ⟨.nl, fun rest => rfl, r⟩
  | _ => cases h
 | lc k off path =>
  cases s with
  | lc k' off' path' =>
   simp only [zA] at h;cases hb : Nat.beq k k' && Nat.beq off off' && zB path path' && bO k l with
   | false => rw [hb] at h; cases h
   | true =>
    rw [hb] at h;simp only [cdt, ojE] at h;subst h;simp only [bjE, cN, djE] at hb;obtain ⟨⟨⟨rfl, rfl⟩, _⟩, hm⟩ := hb;obtain ⟨e, id, g1, g2, g3⟩ := r;exact ⟨.lc k off path, fun rest => rfl, e, id, vR g1 hm, g2, g3⟩
  | _ => cases h
 | ep t =>
  cases s with
  | ep v =>
   simp only [zA] at h;cases hb : v.t.beq t with
   | false => rw [hb] at h; cases h
   | true =>
    rw [hb] at h;simp only [cdt, ojE] at h;subst h;refine ⟨.ep v, fun rest => ?_, r⟩
    simp only [sgA, unV, hb, cdt]
  | _ => cases h
 | rw k =>
  cases s with
  | rw k' =>
   simp only [zA] at h;cases hb : Nat.beq k k' && bO k l with
   | false => rw [hb] at h; cases h
   | true =>
    rw [hb] at h;simp only [cdt, ojE] at h;subst h;simp only [bjE, cN, djE] at hb;obtain ⟨rfl, hm⟩ := hb;obtain ⟨e, g1, g2⟩ := r;exact ⟨.rw k, fun rest => rfl, e, vR g1 hm, g2⟩
  | _ => cases h
 | cl f caps =>
  cases s with
  | cl f' caps' =>
   simp only [zA] at h;cases hb : Nat.beq f f' && zB caps caps' && sQ caps l with
   | false => rw [hb] at h; cases h
   | true =>
    rw [hb] at h;simp only [cdt, ojE] at h;subst h;simp only [bjE, cN, djE] at hb;obtain ⟨⟨rfl, h2⟩, hm⟩ := hb;have := nF h2;subst this;obtain ⟨ps, g1, g2⟩ := r;exact ⟨.cl f caps, fun rest => rfl, ps, g1, aAz hm g2⟩
  | _ => cases h
 | nf =>
  cases s with
  | nf => simp only [zA, ojE] at h; subst h; exact ⟨.nf, fun rest => rfl, r⟩
  | _ => cases h
 | row t => cases h
 | no => simp only [zA, ojE] at h; subst h; exact ⟨.no, fun rest => rfl, trivial⟩
theorem aE8 (hU : eZ U) {bl : List Nat} (F : frR U c S S') : ∀ {l : List (Nat × Sh × Rts)} {d : List (V U)} (rest : List (V U)), fitS U bl S l = some d →
    ∃ S0, unS U l (d ++ rest) = some (S0, rest) ∧ frR U (onC c bl) S0 (keeps S' (l.map (·.1)))
 | [], d, rest, h => by
  simp only [fitS, ojE] at h;subst h;exact ⟨[], rfl, fun t => ⟨trivial, aE _ _⟩⟩
 | (t, s, rr) :: l, d, rest, h => by
  unfold fitS at h;split at h
  ·rename_i a d' ha hd;cases hb : leR rr (nW S t).2 with
   | false => rw [hb] at h; cases h
   | true =>
    rw [hb] at h;simp only [cdt, ojE] at h;subst h;obtain ⟨s', h1, h2⟩ := fitV_ok hU ha (F t).1;obtain ⟨S0, h3, h4⟩ := aE8 hU F rest hd;refine ⟨(t, (s', rr)) :: S0, ?_, ?_⟩
    ·rw [apA];simp only [unS, h1, h3]
    ·exact kZ h4 ⟨h2, rtR_le hb (F t).2⟩
  ·cases h
theorem aC4 {bl : List Nat} {sh : Sh} {s : SV U.D} {d : List (V U)} {cs : List (PV × Bool)} (h : zA U bl sh s = some d) (hn : sh ≠ .no) (r : jJ U c s cs) :
    ∃ s', (∀ rest, unV U sh (d ++ rest) = some (s', rest)) ∧ jJ U (onC c bl) s' cs := by
 cases sh with
 | val t =>
  simp only [zA] at h;split at h
  ·rename_i v hv;cases h;cases s with
   | val w =>
    simp only [asV] at hv;cases hb : w.t.beq t with
    | false => rw [hb] at hv; cases hv
    | true =>
     rw [hb] at hv; cases hv;refine ⟨.val v, fun rest => ?_, r⟩
     simp only [sgA, unV, hb, cdt]
   | nl => exact r.elim
   | zr _ => exact r.elim
   | _ => cases hv
  ·cases h
 | cl f caps =>
  cases s with
  | cl f' caps' =>
   simp only [zA] at h;cases hb : Nat.beq f f' && zB caps caps' && sQ caps bl with
   | false => rw [hb] at h; cases h
   | true =>
    rw [hb] at h;simp only [cdt, ojE] at h;subst h;simp only [bjE, cN, djE] at hb;obtain ⟨⟨rfl, h2⟩, hm⟩ := hb;have := nF h2;subst this;obtain ⟨pv, b, g0, ps, g1, g2⟩ := r;exact ⟨.cl f caps, fun rest => rfl, pv, b, g0, ps, g1, aAz hm g2⟩
  | _ => cases h
 | nf =>
  cases s with
  | nf => simp only [zA, ojE] at h; subst h; exact ⟨.nf, fun rest => rfl, r⟩
  | _ => cases h
 | no => exact (hn rfl).elim
 | row t => cases h
 | tup ts => cases s <;> first | exact r.elim | cases h
 | nl => cases s <;> first | exact r.elim | cases h
 | lc k off path => cases s <;> first | exact r.elim | cases h
 | ep t => cases s <;> first | exact r.elim | cases h
 | rw k => cases s <;> first | exact r.elim | cases h
theorem aFa (Mm : MR U q c0 c M p) {bl : List Nat} : ∀ {l : List (Nat × Sh × Rts)} {d : List (V U)} (rest : List (V U)), fitB U bl M.bx l = some d → (∀ k, bO k (l.map (·.1)) = true → bO k bl = true) →
    ∃ M0, unB U l (d ++ rest) = some (M0, rest) ∧ (∀ k, bI M0 k = none → bO k (l.map (·.1)) = false) ∧ (∀ k b, bI M0 k = some b → ∃ e, onC c bl k = some e ∧ bcR U (onC c bl) p e b)
 | [], d, rest, h, _ => by
  simp only [fitB, ojE] at h;subst h;exact ⟨[], rfl, fun _ _ => rfl, fun k b h => by cases h⟩
 | (k, s, rr) :: l, d, rest, h, hl => by
  have hl' : ∀ k, bO k (l.map (·.1)) = true → bO k bl = true := fun j hj => hl j (by simp only [mpC, bO, hj, Bool.or_true])
  have hk : bO k bl = true := hl k (by simp only [mpC, bO, Nat.beq_refl, Bool.true_or])
  have fin : ∀ (dv dl : List (V U)) (b : BC U.D), fitB U bl M.bx l = some dl → d = dv ++ dl → (∀ M1, unB U l (dl ++ rest) = some (M1, rest) → unB U ((k, s, rr) :: l) (dv ++ (dl ++ rest)) = some ((k, b) :: M1, rest)) → (∃ e, onC c bl k = some e ∧ bcR U (onC c bl) p e b) →
        ∃ M0, unB U ((k, s, rr) :: l) (d ++ rest) = some (M0, rest) ∧ (∀ j, bI M0 j = none → bO j (((k, s, rr) :: l).map (·.1)) = false) ∧ (∀ j b, bI M0 j = some b → ∃ e, onC c bl j = some e ∧ bcR U (onC c bl) p e b) := by
   intro dv dl b hd he hu hb;obtain ⟨M1, h1, h2, h3⟩ := aFa Mm rest hd hl';refine ⟨(k, b) :: M1, by rw [he, apA]; exact hu M1 h1, fun j hj => ?_, fun j b' hj => ?_⟩
   ·rw [dG] at hj;by_cases e1 : j = k
    ·rw [if_pos e1] at hj; cases hj
    ·rw [if_neg e1] at hj;simp only [mpC, bO, h2 j hj, Bool.or_false];exact beqF fun e => e1 e.symm
   ·rw [dG] at hj;by_cases e1 : j = k
    ·rw [if_pos e1] at hj; simp only [ojE] at hj; subst hj; rw [e1]; exact hb
    ·rw [if_neg e1] at hj; exact h3 j b' hj
  unfold fitB at h;split at h
  ·rename_i cont rs d' hf hd;obtain ⟨e, he, id, cs, hid, hget, hcs, hrt⟩ := Mm.bx k _ hf;split at h
   ·cases h
   ·cases h
   ·rename_i s0 hns hnn;split at h
    ·rename_i a ha;cases hb : leR rr rs with
     | false => rw [hb] at h; cases h
     | true =>
      rw [hb] at h;simp only [cdt, ojE] at h;obtain ⟨s', g1, g2⟩ := aC4 ha (fun e => hnn e) hcs
      have hun : ∀ M1, unB U l (d' ++ rest) = some (M1, rest) → unB U ((k, s, rr) :: l) (a ++ (d' ++ rest)) = some ((k, .bx s' rr) :: M1, rest) := by
       intro M1 hM1;have : ∀ d2, unB U ((k, s, rr) :: l) d2 = (match unV U s d2 with | some (x, d') => (match unB U l d' with | some (M, d'') => some ((k, .bx x rr) :: M, d'') | none => none) | none => none) := by
        intro d2;cases s with
        | row t => exact (hns t rfl).elim
        | _ => cases d2 <;> first | rfl | (simp only [unB])
       rw [this, g1];simp only [hM1]
      exact fin a d' (.bx s' rr) hd h.symm hun ⟨e, vR he hk, id, cs, hid, hget, g2, aA6 hb hrt⟩
    ·cases h
  ·rename_i et v d' hf hd;split at h
   ·rename_i t;cases hb : et.beq t with
    | false => rw [hb] at h; cases h
    | true =>
     rw [hb] at h;simp only [cdt, ojE] at h;obtain ⟨e, he, hr⟩ := Mm.bx k _ hf;refine fin [⟨.sl et, v⟩] d' (.row et v) hd h.symm (fun M1 hM1 => ?_) ⟨e, vR he hk, hr⟩
     simp only [sgA, unB, hb, cdt, hM1]
   ·cases h
  ·cases h
end
end Go.TV
namespace Go.TV
open Go.AI Go.PI
section
variable {P : Program} {U : iP} {T : TP U.D} {c c0 : Cx} {β : Type} {r : β} {q p : PSt} {M : TM U.D} {S : TS U.D} {S' : PS} {pc : gK}
theorem aAe (hU : eZ U) {ct : Cut} {d : List (V U)} (h : fitT U ct S M = some d) (F : frR U c S S') (Mm : MR U q c0 c M p) :
    ∃ S0 M0 c', unT' U ct d = some (S0, M0) ∧ frR U c' S0 (keeps S' ct.ts) ∧ MR U q c0 c' M0 p := by
 unfold fitT at h;split at h
 ·rename_i a b ha hb;cases h;obtain ⟨S0, h1, h2⟩ := aE8 hU F b ha;obtain ⟨M0, h3, h4, h5⟩ := aFa Mm [] hb (fun _ h => h)
  rw [apN] at h3;refine ⟨S0, ⟨M0, []⟩, onC c (ct.bx.map (·.1)), by simp only [unT', h1, h3], h2, ?_⟩
  refine ⟨fun k hk => ?_, h5, fun k e id g1 g2 => Mm.lt k e id (vS g1).1 g2, fun k k' e e' id g1 g2 g3 g4 => Mm.inj k k' e e' id (vS g1).1 (vS g2).1 g3 g4, Mm.next, fun k e g1 g2 => Mm.bor k e (vS g1).1 g2, fun k e id g1 g2 g3 => Mm.loc k e id (vS g1).1 g2 g3, Mm.old, Mm.dirty, Mm.wr⟩
  unfold onC;rw [h4 k hk]; rfl
 ·cases h
theorem MR.cln (Mm : MR U q c0 c M p) : MR U q c0 c ⟨M.bx, []⟩ (PI.cln p) :=
 ⟨Mm.dom, fun k b h => by obtain ⟨e, h1, h2⟩ := Mm.bx k b h; exact ⟨e, h1, nM h2 fun _ _ => rfl⟩, Mm.lt, Mm.inj, Mm.next, Mm.bor, Mm.loc, Mm.old, Mm.dirty, fun id hi => by cases hi⟩
theorem MR.dty {p' : PSt} (Mm : MR U q c0 c M p') {c1 : Cx} {M1 : TM U.D} (Mp : MR U q c0 c1 M1 p) (hn : p.next ≤ p'.next) : MR U q c0 c M (PI.dty p p') :=
 ⟨Mm.dom, fun k b h => by obtain ⟨e, h1, h2⟩ := Mm.bx k b h; exact ⟨e, h1, nM h2 fun _ _ => rfl⟩, Mm.lt, Mm.inj, Mm.next, Mm.bor, Mm.loc, Mm.old, Mm.dirty, fun id hi => by
  have hi : id ∈ p'.wr.foldr ins p.wr := hi;rw [bW] at hi;rcases hi with h | h
  ·exact Mm.wr id h
  ·obtain ⟨h1, h2⟩ := Mp.wr id h; exact ⟨Nat.lt_of_lt_of_le h1 hn, h2⟩⟩
variable (hU : eZ U) (hT : sS P U T)
include hU hT
def ExeOK (P : Program) (U : iP) (T : TP U.D) (q : PSt) (c0 : Cx) (run : {β : Type} → TS U.D → TM U.D → TK U.D β → Option β) (prun : PS → PSt → Option (Fl × PS × PSt)) : Prop :=
 ∀ (β : Type) (K : TK U.D β) (r : β) (S : TS U.D) (M : TM U.D) (S' : PS) (p : PSt) (c : Cx), frR U c S S' → MR U q c0 c M p → run S M K = some r →
  ∃ fl c' S1 M1 S1' p', K fl S1 M1 = some r ∧ prun S' p = some (fl, S1', p') ∧ frR U c' S1 S1' ∧ MR U q c0 c' M1 p' ∧ p.next ≤ p'.next
omit hU hT in
theorem aBC (hU : eZ U) {ct : Cut} {run : {β : Type} → TS U.D → TM U.D → TK U.D β → Option β} {prun : PS → PSt → Option (Fl × PS × PSt)} (hr : ExeOK P U T q c0 run prun) {K : TK U.D β} :
    ∀ (n : Nat) (d : List (V U)) (S0 : TS U.D) (M0 : TM U.D) (S' : PS) (p : PSt) (c : Cx), unT' U ct d = some (S0, M0) → frR U c S0 (keeps S' ct.ts) → MR U q c0 c M0 p → aCQ U ct (fun S M K => run S M K) K n d = some r →
    ∃ fl c' S1 M1 S1' p', K fl S1 M1 = some r ∧ tX (fun S p => prun (keeps S ct.ts) p) n S' p = some (fl, S1', p') ∧ frR U c' S1 S1' ∧ MR U q c0 c' M1 p' ∧ p.next ≤ p'.next
 | 0, d, S0, M0, S', p, c, hu, F, Mm, h => by cases h
 | n + 1, d, S0, M0, S', p, c, hu, F, Mm, h => by
  simp only [aCQ, pX, hu] at h;obtain ⟨fl, c1, S1, M1, S1', p1, h1, h2, h3, h4, h5⟩ := hr β _ r S0 M0 _ p c F Mm h;cases fl with
  | normal =>
   simp only [lpK] at h1;split at h1
   ·rename_i d' hd;obtain ⟨S2, M2, c2, g1, g2, g3⟩ := aAe hU hd h3 h4;obtain ⟨fl, c', S3, M3, S3', p3, k1, k2, k3, k4, k5⟩ := aBC hU hr n d' S2 M2 S1' p1 c2 g1 g2 g3 h1;exact ⟨fl, c', S3, M3, S3', p3, k1, by simp only [tX, h2, k2], k3, k4, Nat.le_trans h5 k5⟩
   ·cases h1
  | exit id => exact ⟨_, c1, S1, M1, S1', p1, h1, by simp only [tX, h2], h3, h4, h5⟩
  | ret => exact ⟨_, c1, S1, M1, S1', p1, h1, by simp only [tX, h2], h3, h4, h5⟩
omit hU hT in
theorem okTwT_ok {q : PSt} {c0 c : Cx} {ops : Array Oper} {S : TS U.D} {M : TM U.D} {S' : PS} {p : PSt} (F : frR U c S S') (Mm : MR U q c0 c M p) (h : aCN U ops S M = true) : zP ops S' p = true := by
 unfold aCN at h;unfold zP;split at h
 ·rename_i e; rw [e]
 ·rename_i s t e;rw [e];simp only;have r1 := (F s).1;have r2 := (F t).1;split at h
  ·rename_i v k o2 p2 e1 e2;rw [e1] at r1;rw [e2] at r2;obtain ⟨es, i, off, _, q1, _⟩ := r1;obtain ⟨e', id, q2, q3, q4⟩ := r2;rw [q1, q4];simp only;split at h
   ·rename_i bs br hf;obtain ⟨e2', q5, id', cs, q6, q7, _⟩ := Mm.bx k _ hf;rw [q2] at q5; cases q5;rw [q3] at q6; cases q6;rw [q7]
   ·cases h
  ·cases h
 ·cases h
theorem execT_ok {tc : qT U.D} (hc : eC U T tc pc) (L : Nat) : ∀ (code : TC), ExeOK P U T q c0 (fun {β} S M K => eU U T (β := β) tc L code S M K) (cQ P pc L code.pc) := by
 intro code;induction code with
 | skip => intro β K r S M S' p c F Mm h; exact ⟨.normal, c, S, M, S', p, h, rfl, F, Mm, nlR _⟩
 | label l => intro β K r S M S' p c F Mm h; exact ⟨.normal, c, S, M, S', p, h, rfl, F, Mm, nlR _⟩
 | region id ops draw ms sc =>
  intro β K r S M S' p c F Mm h;simp only [eU] at h;cases draw with
  | true =>
   obtain ⟨c', S1, M1, S1', p', h1, h2, h3, h4, h5, h6⟩ := jS hU hT hc sc [] [] S ⟨M.bx, []⟩ S' (PI.cln p) c F Mm.cln (fun id hi => by cases hi) trivial h
   obtain ⟨h1, htw⟩ : K .normal S1 M1 = some r ∧ aCN U ops S1 M1 = true := by
    cases hb : aCN U ops S1 M1 with
    | true => rw [hb, cdt] at h1; exact ⟨h1, rfl⟩
    | false => rw [hb] at h1; cases h1
   refine ⟨.normal, c', S1, M1, S1', PI.dty p p', h1, ?_, h4, h5.dty Mm h6, h6⟩;simp only [TC.pc, cQ, cdt, h2, fitP, okTwT_ok h4 h5 htw, omS]
  | false =>
   obtain ⟨c', S1, M1, S1', p', h1, h2, h3, h4, h5, h6⟩ := runT_ok hU hT hc sc S M S' p c F Mm h;refine ⟨.normal, c', S1, M1, S1', p', h1, ?_, h4, h5, h6⟩;simp only [TC.pc, cQ, cdf, h2, omS]
 | seq a b iha ihb =>
  intro β K r S M S' p c F Mm h;simp only [eU] at h;obtain ⟨fl, c1, S1, M1, S1', p1, h1, h2, h3, h4, h5⟩ := iha β _ r S M S' p c F Mm h;cases fl with
  | normal =>
   obtain ⟨fl, c2, S2, M2, S2', p2, g1, g2, g3, g4, g5⟩ := ihb β _ r S1 M1 S1' p1 c1 h3 h4 h1;exact ⟨fl, c2, S2, M2, S2', p2, g1, by simp only [TC.pc, cQ, h2, g2], g3, g4, Nat.le_trans h5 g5⟩
  | exit id => exact ⟨_, c1, S1, M1, S1', p1, h1, by simp only [TC.pc, cQ, h2], h3, h4, h5⟩
  | ret => exact ⟨_, c1, S1, M1, S1', p1, h1, by simp only [TC.pc, cQ, h2], h3, h4, h5⟩
 | cond x a b iha ihb =>
  intro β K r S M S' p c F Mm h;simp only [eU] at h;have h1 := (aV F x).1;split at h
  ·rename_i w hx;rw [hx] at h1;have h1 : pev S' x = .v (.bool w) := of_bool h1;rcases uH h with ⟨rfl, h⟩ | ⟨rfl, h⟩
   ·obtain ⟨fl, c1, S1, M1, S1', p1, g1, g2, g3⟩ := iha β _ r S M S' p c F Mm h;exact ⟨fl, c1, S1, M1, S1', p1, g1, by simp only [TC.pc, cQ, h1, g2], g3⟩
   ·obtain ⟨fl, c1, S1, M1, S1', p1, g1, g2, g3⟩ := ihb β _ r S M S' p c F Mm h;exact ⟨fl, c1, S1, M1, S1', p1, g1, by simp only [TC.pc, cQ, h1, g2], g3⟩
  ·cases h
 | block id a iha =>
  intro β K r S M S' p c F Mm h;simp only [eU] at h;obtain ⟨fl, c1, S1, M1, S1', p1, h1, h2, h3, h4, h5⟩ := iha β _ r S M S' p c F Mm h;cases fl with
  | normal => exact ⟨_, c1, S1, M1, S1', p1, h1, by simp only [TC.pc, cQ, h2], h3, h4, h5⟩
  | ret => exact ⟨_, c1, S1, M1, S1', p1, h1, by simp only [TC.pc, cQ, h2], h3, h4, h5⟩
  | exit n =>
   simp only [eJ] at h1;cases hb : Nat.beq n id with
   | true =>
    rw [hb] at h1;exact ⟨_, c1, S1, M1, S1', p1, h1, by simp only [TC.pc, cQ, h2, hb, cdt], h3, h4, h5⟩
   | false =>
    rw [hb] at h1;exact ⟨_, c1, S1, M1, S1', p1, h1, by simp only [TC.pc, cQ, h2, hb, cdf], h3, h4, h5⟩
 | loop ct a iha =>
  intro β K r S M S' p c F Mm h;simp only [eU] at h;split at h
  ·rename_i d hd;obtain ⟨S0, M0, c1, g1, g2, g3⟩ := aAe hU hd F Mm;obtain ⟨fl, c', S3, M3, S3', p3, k1, k2, k3⟩ := aBC hU iha L d S0 M0 S' p c1 g1 g2 g3 h;exact ⟨fl, c', S3, M3, S3', p3, k1, k2, k3⟩
  ·cases h
 | exit id => intro β K r S M S' p c F Mm h; exact ⟨.exit id, c, S, M, S', p, h, rfl, F, Mm, nlR _⟩
 | ret => intro β K r S M S' p c F Mm h; exact ⟨.ret, c, S, M, S', p, h, rfl, F, Mm, nlR _⟩
 | scope a iha => intro β K r S M S' p c F Mm h; exact iha β K r S M S' p c F Mm h
 | cut ct a iha =>
  intro β K r S M S' p c F Mm h;simp only [eU] at h;split at h
  ·rename_i d hd;obtain ⟨S0, M0, c1, g1, g2, g3⟩ := aAe hU hd F Mm;simp only [pX, g1] at h;exact iha β K r S0 M0 _ p c1 g2 g3 h
  ·cases h
 | ice t a iha =>
  intro β K r S M S' p c F Mm h;simp only [eU] at h;split at h
  ·rename_i R hR;obtain ⟨S1', p1, h1, h2, h3, h4⟩ := aE4 hU F hR Mm;obtain ⟨fl, c2, S2, M2, S2', p2, g1, g2, g3, g4, g5⟩ := iha β K r R.1 R.2 S1' p1 c h2 h3 h;exact ⟨fl, c2, S2, M2, S2', p2, g1, by simp only [TC.pc, cQ, h1, g2], g3, g4, Nat.le_trans (runT_ok.pfreeze_next h1) g5⟩
  ·cases h
 | other cd => intro β K r S M S' p c F Mm h; cases h
theorem zH (F : frR U c S S') (Mm : MR U q c0 c M p) : ∀ {rs : List ResultVar} {ts : List Ty} {l : List (V U)}, resT U T S M rs ts = some l →
    ∃ vs, dD P S' p rs = some vs ∧ List.map (fun x => wk x.1) vs = l.map (fun v => enV U v.t v.x) ∧ l.map (fun v => v.t) = ts ∧
      (∀ t v, rs = [.tmp t] → vs = [v] → v = S'.at t) ∧ (∀ v w, vs = [w] → l = [v] → VR U v.t v.x w.1)
 | [], [], l, h => by
  simp only [resT, ojE] at h;subst h;exact ⟨[], rfl, rfl, rfl, fun _ _ h => (by cases h), fun _ _ h => (by cases h)⟩
 | .tmp t :: rs, ty :: ts, l, h => by
  unfold resT at h;split at h
  ·rename_i v l' hv hl;cases h;obtain ⟨h1, h2⟩ := gD hU hv (F t).1;obtain ⟨vs, g1, g2, g3, _, _⟩ := zH F Mm hl;refine ⟨S'.at t :: vs, by simp only [dD, kM, g1], by rw [mpC, mpC, g2, h2.wk], by rw [mpC, h1, g3], fun t' v' e1 e2 => ?_, fun v' w e1 e2 => ?_⟩
   ·cases e1; cases e2; rfl
   ·cases e1; cases e2; exact h2
  ·cases h
 | .cell a t :: rs, ty :: ts, l, h => by
  unfold resT at h;split at h
  ·rename_i k off pth ty' l' hk hty hl;split at h
   ·rename_i cv rr hf;split at h
    ·rename_i w o hw;cases hb : w.t.beq ty && ty.beq ty' && Nat.beq o off with
     | false => rw [hb] at h; cases h
     | true =>
      rw [hb] at h;simp only [cdt, ojE] at h;subst h;simp only [bjE, cN, djE] at hb;obtain ⟨⟨hb1, hb2⟩, rfl⟩ := hb;have e1 := Ty.beq_eq hb1;have e2 := Ty.beq_eq hb2;subst e2;have hs := (F a).1;rw [hk] at hs;obtain ⟨e, id, m1, m2, m3⟩ := hs;obtain ⟨e', m1', id', cs, m2', hget, ⟨c1, c2, c3⟩, _⟩ := Mm.bx k _ hf;rw [m1] at m1'; cases m1';rw [m2] at m2'; cases m2';obtain ⟨wt, wx⟩ := w;have e1 : wt = ty := e1;subst e1;obtain ⟨g1, _⟩ := nC hU hw (⟨c1, c2⟩ : SR cv.t cv.x (cs.map (·.1)));obtain ⟨v, k1, k2, k3, k4⟩ := pK hU hT hty g1;have hl' : gG P p t (S'.at a).1 = some v := by rw [m3]; simp only [gG, hget]; exact k1
      obtain ⟨vs, g1, g2, g3, _, _⟩ := zH F Mm hl;refine ⟨(v, false) :: vs, by simp only [dD, kM, hl', omS, g1], by rw [mpC, mpC, g2, k2.wk], by rw [mpC, g3], fun t' v' e1 e2 => ?_, fun v' w e1 e2 => ?_⟩
      ·cases e1
      ·cases e1; cases e2; exact k2
    ·cases h
   ·cases h
  ·cases h
 | [], _ :: _, l, h => by cases h
 | .tmp _ :: _, [], l, h => by cases h
 | .cell _ _ :: _, [], l, h => by cases h
omit hU hT in
theorem aEz (Mm : MR U q c0 c M p) : ∀ {l : List (Sh × Rts)} {bo : List Rts} {j : Nat} {d : List (V U)}, outB U M l bo j = some d →
    ∃ m, iL U l bo d = some m ∧ (∀ i x, m[i]? = some x → ∃ e id cs, c (j + i) = some e ∧ e.id = some id ∧ p.get id = some (.box cs) ∧ jJ U c x.1 cs ∧ rtB x.2 cs)
 | [], [], j, d, h => by
  simp only [outB, ojE] at h;subst h;exact ⟨[], rfl, fun i x h => by simp at h⟩
 | (s, rr) :: l, r :: bo, j, d, h => by
  unfold outB at h;split at h
  ·rename_i cont rs d' hf hd;obtain ⟨e, he, id, cs, hid, hget, hcs, hrt⟩ := Mm.bx j _ hf;obtain ⟨m, g1, g2⟩ := aEz Mm hd;have next : ∀ x0 : X U, jJ U c x0.1 cs → rtB x0.2 cs → ∀ i x, (x0 :: m)[i]? = some x → ∃ e id cs, c (j + i) = some e ∧ e.id = some id ∧ p.get id = some (.box cs) ∧ jJ U c x.1 cs ∧ rtB x.2 cs := by
    intro x0 k1 k2 i x hx;cases i with
    | zero =>
     simp only [gcZ, ojE] at hx;subst hx;exact ⟨e, id, cs, he, hid, hget, k1, k2⟩
    | succ i =>
     rw [gcS] at hx;have := g2 i x hx
     rwa [show j + 1 + i = j + (i + 1) by omega] at this
   split at h
   ·rename_i t v;cases hb : v.t.beq t && leR r rs with
    | false => rw [hb] at h; cases h
    | true =>
     rw [hb] at h;simp only [cdt, ojE] at h;subst h;simp only [bjE] at hb;exact ⟨(.val v, r) :: m, by simp only [iL, g1], next _ hcs (aA6 hb.2 hrt)⟩
   ·rename_i f caps f' caps';cases hb : Nat.beq f f' && zB caps caps' with
    | false => rw [hb] at h; cases h
    | true =>
     rw [hb] at h;simp only [cdt, ojE] at h;subst h;simp only [bjE, cN, djE] at hb;have e2 := nF hb.2;rw [← hb.1, ← e2] at hcs;exact ⟨(.cl f caps, []) :: m, by simp only [iL, g1], next _ hcs fun _ _ h => by cases h⟩
   ·cases h
  ·cases h
 | [], _ :: _, j, d, h => by cases h
 | _ :: _, [], j, d, h => by cases h
end
end Go.TV
