import Derived.Test.YtbggbjpobkkbaaaGreatDoorKh
set_option linter.unusedVariables false
set_option linter.unusedSimpArgs false
set_option linter.constructorNameAsVariable false
namespace Go.PI
open Go.AI
section
variable {P : Program} {ν ν' : Nu} {γ γ1 γ' : Ga} {σ σ' : St} {S : PS} {A : Slots} {base : Nat}
theorem zL {o : Oper} (h : aL o = .pure) (S : PS) : fN o S = false := by
 obtain ⟨dst, op, ty, pos, af, g⟩ := o
 cases op <;> first | rfl | (simp [aL] at h)
theorem aDW {p p1 : PSt} {o : Oper} {take own : Bool} {v : PV} {u : Value} {i : Nat} (M : Mem ν γ p σ) (F : FR ν γ σ S A) (ho : o.op.operands.all (aH P) = true) (hp : jD P p S o take = some (v, own, p1)) (hn : fN o S = false)
    (hu : gP P σ (ev A) o = some u) : Stab P base ν σ ⟨i, o, A, u, none⟩ := by
 intro ν' σ' k m z
 have hsame : gP P σ' (ev A) o = some u → check P base σ' ⟨i, o, A, u, none⟩ = true := by
  intro h; simp only [check, h]; exact fJ u
 apply hsame
 replace ho := pK ho
 obtain ⟨dst, op, ty, pos, af, g⟩ := o
 cases op with
 | load t a =>
  simp only [Op.operands, alC, List.all_nil, bnA] at ho
  have ra := aQ F ho
  simp only [gP] at hu ⊢
  simp only [jD] at hp
  split at hp
  ·rename_i v' hl
   simp only [fN] at hn
   cases hpa : pev S a <;> rw [hpa] at hl hn ra <;> simp only [gF] at hl <;> (try cases hl) <;> (try cases hn)
   generalize ev A a = w at ra hu ⊢
   cases ra with
   | pin zz _ _ _ id b rcs mm hs hr hb hh =>
    obtain ⟨bb, hf⟩ := hr.keep k m
    simp only [eB, hr.1] at hu
    simp only [eB, hf.1]
    exact hu
  ·cases hp
 | slice t x lo hi mx =>
  simp only [gP] at hu ⊢
  simp only [Op.operands, Array.toList_append, List.all_append, bjE] at ho
  have rx := aQ F (P := P) (x := x) (by simpa using ho.1.1.1)
  simp only [jD, mjE, pjE] at hp
  obtain ⟨⟨w, own'⟩, hw, _⟩ := hp
  refine aC4 (fun id cs mm hr => ?_) (fun id off n c hxx => ?_) hu
  ·obtain ⟨h1, h2⟩ := bL hr
   obtain ⟨cs', b, h3⟩ := z id cs mm h1
   exact ⟨cs', _, row_of_get h3 (by rw [gO k.vers]; exact h2), rfl⟩
  ·rw [hxx] at rx
   generalize pev S x = xv at rx hw
   cases rx with
   | emp1 _ _ _ rcs m hr => exact ⟨_, _, hr.1⟩
   | sl _ _ _ _ _ rcs m hz hs hr hm hb hh => exact ⟨_, _, hr.1⟩
   | rs id' _ _ _ a hν =>
    obtain ⟨o', ho'⟩ := M.live _ _ hν
    have := M.get _ _ ho'
    cases o' with
    | box cs => obtain ⟨a', us, h1, h2, _⟩ := this; rw [hν] at h1; simp only [ojE] at h1; subst h1; exact ⟨_, _, row_of_get h2 rfl⟩
    | row z ag cs => obtain ⟨a', us, h1, h2, _⟩ := this; rw [hν] at h1; simp only [ojE] at h1; subst h1; exact ⟨_, _, row_of_get h2 rfl⟩
    | map es => exact this.elim
    | gone => rw [show ν id' = some none from this] at hν; cases hν
   | v _ hp => simp [aC] at hp
   | und _ =>
    unfold gM at hw
    split at hw
    ·simp at hw
    ·split at hw <;> simp at hw
    ·cases hw
   | rs0 id' _ _ _ a hν =>
    unfold gM at hw
    split at hw
    ·simp at hw
    ·split at hw
     ·split at hw
      ·split at hw
       ·rename_i hg
        obtain ⟨a', us, h1, _⟩ := M.get _ _ hg
        simp_all
       ·cases hw
      all_goals simp_all
     ·cases hw
    ·cases hw
 | _ => simp only [jD] at hp; cases hp
theorem slice_fz {v : PV} {id off n c : Nat} (r : R ν σ v (.slice (some ⟨id, off, none⟩) n c)) (hv : v = .emp ∨ ∃ z es, v = .sl z es) : ∀ k, ν k ≠ some (some id) := by
 rcases hv with rfl | ⟨z, es, rfl⟩
 ·cases r with | emp1 _ _ _ rcs m hr => exact hr.2
 ·cases r with | sl _ _ _ _ _ rcs m hz hs hr hm hb hh => exact hr.2
theorem mkSl_or (z : Nat) (es : List PV) : cU z es = .emp ∨ ∃ z' es', cU z es = .sl z' es' := by
 cases es with
 | nil => exact .inl rfl
 | cons e es => exact .inr ⟨z, _, rfl⟩
theorem runDP_ok {pc : gJ} {ac : FuncId → Array Value → St → Option (Value × St)} (hcall : jN pc ac) {ops : Array Oper} {ms : List Nat} (hops : ∀ o ∈ ops.toList, o.op.operands.all (aH P) = true) :
    ∀ (sc : List aCm) (Pl : List fS) (Rl : List iW) (ν : Nu) (γ : Ga) (S : PS) (p : PSt) (A : Slots) (σ : St) (S' : PS) (p' : PSt), (dU sc).Nodup → (∀ j ∈ dU sc, j < ops.size ∧ σ.get (base + j) = none) → base + ops.size ≤ σ.next →
      Inv P base ν p σ Pl Rl → Mem ν γ p σ → FR ν γ σ S A → gL P pc ops ms sc Pl S p = some (S', p') →
      ∃ A' σ' ν' γ', dG P ac ops ms base (dU sc) Rl A σ = some (A', σ') ∧ Mem ν' γ' p' σ' ∧ FR ν' γ' σ' S' A' ∧ Adv ν γ p σ ν' γ' p' σ' ∧ (∀ j, j < base → σ.get j = none → σ'.get j = none) := by
 intro sc
 induction sc with
 | nil =>
  intro Pl Rl ν γ S p A σ S' p' _ _ hb I M F h
  simp only [gL] at h
  cases hc : Pl.all (kG P p) with
  | false => rw [hc, cdf] at h; cases h
  | true =>
   rw [hc, cdt] at h
   simp only [ojE, pjE] at h
   obtain ⟨rfl, rfl⟩ := h
   refine ⟨A, σ, ν, γ, ?_, M, F, .refl ν γ p σ, fun j _ hj => hj⟩
   simp only [dU, dG, I.check M hc, cdt]
 | cons s sc ih =>
  intro Pl Rl ν γ S p A σ S' p' hnd hfree hb I M F h
  cases s with
  | freeze t =>
   simp only [gL] at h
   split at h
   ·rename_i S1 p1 h1
    obtain ⟨ν1, M1, F1, A1⟩ := mU M F h1
    obtain ⟨A', σ', ν', γ', k1, k2, k3, k4, k5⟩ := ih Pl Rl ν1 γ S1 p1 A σ S' p' hnd hfree hb (I.qt A1 (.refl σ) fun _ _ _ _ _ _ h => h) M1 F1 h
    exact ⟨A', σ', ν', γ', k1, k2, k3, A1.trans k4, k5⟩
   ·cases h
  | app a i s =>
   simp only [dU] at hnd hfree ⊢
   obtain ⟨ha, hfa⟩ := hfree a (by simp)
   obtain ⟨hi, hfi⟩ := hfree i (by simp)
   obtain ⟨hs, hfs⟩ := hfree s (by simp)
   simp only [List.nodup_cons, List.mem_cons, not_or] at hnd
   simp only [gL] at h
   have hopA : ops[a]? = some ops[a] := Array.getElem?_eq_getElem ha
   have hopI : ops[i]? = some ops[i] := Array.getElem?_eq_getElem hi
   have hopS : ops[s]? = some ops[s] := Array.getElem?_eq_getElem hs
   rw [hopA, hopI, hopS] at h
   simp only at h
   split at h
   ·rename_i S1 h1
    cases hc0 : Pl.all (kG P p) && (Pl.filter fun r => !bit (ms.getD a 0) r.i).all (fun r => !fX r.o) with
    | false => rw [hc0, cdf] at h; cases h
    | true =>
     rw [hc0, cdt] at h
     simp only [bjE] at hc0
     obtain ⟨hc, hmk⟩ := hc0
     rw [List.all_eq_true] at hmk
     obtain ⟨u1, u2, σ1, σ2, γ2, q1, q2, q3, q4, q5, q6, q7, q8, q9, q10, q11, M2, F2, A2, qt1, qt2, q12, q13⟩ := aBn (ac := ac) (base := base) (iA := a) (iI := i) (iS := s) M F hfa (by omega) (hops _ (by simp)) (hops _ (by simp)) (hops _ (by simp)) h1
     have hw : ∀ {o : Oper} {A0 : Slots}, o.guard = none → wanted ops A0 o = true := fun hg => by simp only [wanted, hg]
     have hfree' : ∀ j ∈ dU sc, j < ops.size ∧ σ2.get (base + j) = none := fun j hj => by
      obtain ⟨h2, h3⟩ := hfree j (by simp [hj])
      exact ⟨h2, (q13 _ (fun e => hnd.1.2.2 (by rw [show a = j by omega]; exact hj)) h3).2⟩
     have If := I.filter fun k => !bit (ms.getD a 0) k
     have hck : (Rl.filter fun r => !bit (ms.getD a 0) r.i).all (check P base σ1) = true := by
      rw [List.all_eq_true]
      intro r hr
      have hr0 := List.mem_filter.1 hr
      have hall := I.check M hc
      rw [List.all_eq_true] at hall
      have hcr := hall r hr0.1
      rcases If r hr with hst | ⟨q, hq, T⟩
      ·have hk3 : Keep ν g00 σ σ1 := by
        refine ⟨qt1.vers, by rw [q12]; exact nlR _, fun x hx => ?_, fun x hn cs m hg => ?_⟩
        ·cases hxx : σ.get x with
         | none => rfl
         | some ob =>
          rcases qt1.get x ob hxx with e | ⟨_, _, _, _, _, e⟩ <;> rw [hx] at e <;> cases e
        ·rcases qt1.get x _ hg with e | ⟨cs', m', b', e1, e2, e3⟩
         ·exact ⟨m.tip, e, fun h => h, fun _ => rfl⟩
         ·simp only [AObj.cells.injEq] at e1; obtain ⟨rfl, rfl⟩ := e1
          exact ⟨b', e3, fun h => (by rw [e2] at h; cases h), fun h => (by cases h)⟩
       exact hst ν σ1 hk3 (.refl σ ν) fun x cs m hx => by
        rcases qt1.get x _ hx with e | ⟨cs', m', b', e1, e2, e3⟩
        ·exact ⟨cs, m.tip, e⟩
        ·simp only [AObj.cells.injEq] at e1; obtain ⟨rfl, rfl⟩ := e1; exact ⟨_, b', e3⟩
      ·refine tY qt1 T.rd (fun ob hob b hb => ?_) hcr
       have hm : fX q.o = false := by simpa using hmk q hq
       obtain ⟨cs, rfl⟩ := T.box hm ob hob
       rcases qt1.get b _ hb with e | ⟨cs', m', b', e1, e2, _⟩
       ·exact e
       ·simp only [AObj.cells.injEq] at e1; obtain ⟨rfl, rfl⟩ := e1; cases e2
     have I2 := (If.some A2 qt2).filter fun k => !bit (ms.getD s 0) k
     obtain ⟨A', σ', ν', γ', j1, j2, j3, j4, j5⟩ := ih _ _ ν γ2 _ p _ σ2 S' p' hnd.2.2.2 hfree' (Nat.le_trans hb A2.keep.next) I2 M2 F2 h
     refine ⟨A', σ', ν', γ', ?_, j2, j3, A2.trans j4, fun j hj hn => j5 j hj (q13 j (by omega) hn).2⟩
     simp only [dG, hopA, hopI, hopS, hw q7, hw q8, hw q9, cdt, q4, q5, q6, I.check M hc, q1, q2, hck, q3]
     rw [q10]
     exact j1
   ·cases h
  | op i take =>
   simp only [dU] at hnd hfree ⊢
   rw [List.nodup_cons] at hnd
   obtain ⟨hi, hfi⟩ := hfree i (mhE ..)
   simp only [gL] at h
   have hop : ops[i]? = some ops[i] := Array.getElem?_eq_getElem hi
   rw [hop] at h
   simp only at h
   simp only [dG, hop]
   have hoi := hops ops[i] (by simp)
   generalize ops[i] = o at *
   split at h
   ·rename_i hw
    rw [jU F hw, cdt]
    split at h
    ·rename_i v own S1 p1 h1
     obtain ⟨u, σ1, ν1, γ1, k1, k2, k3, k4, k5, k6⟩ := aDV hcall M F hfi (by omega) hoi h1
     have hfree' : ∀ j ∈ dU sc, j < ops.size ∧ σ1.get (base + j) = none := fun j hj => by
      obtain ⟨h2, h3⟩ := hfree j (mtE _ hj)
      exact ⟨h2, k6 _ (by omega) (fun e => hnd.1 (by rw [show i = j by omega]; exact hj)) h3⟩
     have hb' := Nat.le_trans hb k5.keep.next
     have fin : ∀ {Pl' Rl'}, Inv P base ν1 p1 σ1 Pl' Rl' → gL P pc ops ms sc Pl' (S1.put o.dst v own) p1 = some (S', p') →
              ∃ A' σ' ν' γ', dG P ac ops ms base (dU sc) Rl' (A.store o.dst u) σ1 = some (A', σ') ∧ Mem ν' γ' p' σ' ∧ FR ν' γ' σ' S' A' ∧ Adv ν γ p σ ν' γ' p' σ' ∧ (∀ j, j < base → σ.get j = none → σ'.get j = none) := by
      intro Pl' Rl' I' h'
      obtain ⟨A', σ', ν', γ', j1, j2, j3, j4, j5⟩ := ih Pl' Rl' ν1 γ1 _ p1 _ σ1 S' p' hnd.2 hfree' hb' I' k3 k4 h'
      exact ⟨A', σ', ν', γ', j1, j2, j3, k5.trans j4, fun j hj hn => j5 j hj (k6 j (by omega) (by omega) hn)⟩
     cases hk : aL o with
     | pure =>
      simp only [aop, hk, mjE, pjE] at k1
      obtain ⟨u', hu', rfl, rfl⟩ := k1
      have hu : dK P (ev A) o = some u' := by
       simp only [pop, hk, mjE, pjE] at h1
       obtain ⟨⟨v', own', S''⟩, hp, rfl, rfl, rfl, rfl⟩ := h1
       unfold uY at hp
       split at hp
       ·rename_i r hpp
        obtain ⟨r1, r2, r3⟩ := r
        obtain ⟨u2, _, h2, _⟩ := aBg F hoi hpp
        unfold gQ at hu'
        rw [h2] at hu' ⊢
        exact hu'
       ·cases hp
      simp only [hu]
      rw [show gN o = false by simp [gN, hk]] at h
      simp only [cdf, zL hk S] at h
      exact fin (I.qt k5 (.refl σ) fun _ _ _ _ _ _ h => h) h
     | read =>
      simp only [aop, hk, mjE, pjE] at k1
      obtain ⟨u', hu, rfl, rfl⟩ := k1
      simp only [hu]
      rw [show gN o = false by simp [gN, hk]] at h
      simp only [cdf] at h
      have I' := I.qt k5 (.refl σ) fun _ _ _ _ _ _ h => h
      have hpr : ∃ own' p'', jD P p S o take = some (v, own', p'') := by
       simp only [pop, hk, mjE, pjE] at h1
       obtain ⟨⟨v', own', p''⟩, hp, rfl, rfl, rfl, rfl⟩ := h1
       exact ⟨_, _, hp⟩
      obtain ⟨own', p'', hpr⟩ := hpr
      cases hip : fN o S with
      | false =>
       rw [hip, cdf] at h
       exact fin (I'.cons ((aDW M F hoi hpr hip hu).adv k5)) h
      | true =>
       rw [hip, cdt] at h
       have hck : check P base σ ⟨i, o, A, u', none⟩ = true := by simp only [check, hu]; exact fJ u'
       refine fin (I'.cons2 ⟨fun id hid hd => ?_, rfl, fun _ => hck, fun _ ob hob => (by cases hob), fun _ => ?_, fun t a hoa => ?_⟩) h
       ·simp only [fN] at hip
        split at hip
        ·rename_i t a hoa
         simp only [cid, jM, hoa] at hid
         have hok : aH P a = true := by
          have := pK hoi
          rw [hoa] at this
          simpa [Op.operands] using this
         have hpl : ∃ v2, gF P p t (pev S a) = some v2 := by
          simp only [jD, hoa] at hpr
          split at hpr
          ·exact ⟨_, by assumption⟩
          ·cases hpr
         obtain ⟨v2, hpl⟩ := hpl
         have hvd : PI.vid (pev S a) = some id := by
          cases hh : pev S a <;> rw [hh] at hid <;> simp only [aid] at hid <;> first | exact hid | cases hid
         obtain ⟨b, hb1, hb2⟩ := R.vid M (aQ F hok) hvd (by
          cases hh : pev S a <;> rw [hh] at hid hpl <;> simp only [aid] at hid <;> try cases hid
          simp only [gF] at hpl
          split at hpl
          ·exact ⟨_, by assumption, by simp⟩
          ·exact ⟨_, by assumption, by simp⟩
          ·cases hpl)
         have hb3 := (k5.bx id b hb1 hd).2
         refine ⟨b, hb3, .inl ⟨rfl, t, a, ?_⟩, hck⟩
         rcases hb2 with ⟨off, e⟩ | ⟨off, n, c, e⟩
         ·exact ⟨off, hoa, e⟩
         ·exfalso
          have hr := aQ F hok
          rw [e] at hr
          cases hh : pev S a <;> rw [hh] at hid hr <;> simp only [aid] at hid <;> try cases hid
          cases hr
        ·rename_i e; simp [aL, e] at hk
        ·rename_i e; simp [aL, e] at hk
        ·rename_i e; simp [aL, e] at hk
        ·cases hip
       ·simp only [fN] at hip
        split at hip
        ·rename_i t a e; exact ⟨t, a, e⟩
        ·rename_i e; simp [aL, e] at hk
        ·rename_i e; simp [aL, e] at hk
        ·rename_i e; simp [aL, e] at hk
        ·cases hip
       refine ⟨rfl, rfl, ?_, k2⟩
       simp only at hoa
       simp only [jM, hoa]
       have : aH P a = true := by
        have := pK hoi
        rw [hoa] at this
        simpa [Op.operands] using this
       exact (aQ F this).keep k5.keep k5.mon
     | alloc =>
      simp only [aop, hk, mjE, pjE] at k1
      obtain ⟨⟨u', ob⟩, hu, rfl, rfl⟩ := k1
      simp only [hu]
      rw [show gN o = false by simp [gN, hk]] at h
      simp only [cdf] at h
      have I' := I.qt k5 (.put hfi) fun _ _ _ _ a ob h => by rw [aF, if_neg (fun e => by rw [e, hfi] at h; cases h)]; exact h
      have hck : check P base (σ.put (base + i) ob) ⟨i, o, A, u', some ob⟩ = true := by
       simp only [check, aF, if_true]; exact nS ob
      simp only [pop, hk, mjE, pjE] at h1
      obtain ⟨⟨v', own', p''⟩, hp, hv', rfl, rfl, rfl⟩ := h1
      simp only at hv'
      subst hv'
      have hcl : (∃ o2, p''.get p.next = some o2 ∧ o2 ≠ .gone) → ∀ id, PI.vid v' = some id → (PI.vid v' = some id → id = p.next) → ∃ a, ν1 id = some (some a) ∧ Looks base ⟨i, o, A, u', some ob⟩ a ∧ check P base (σ.put (base + i) ob) ⟨i, o, A, u', some ob⟩ = true := by
       intro hg id hid hid2
       have := hid2 hid
       subst this
       obtain ⟨b, hb1, hb2⟩ := R.vid k3 k2 hid hg
       exact ⟨b, hb1, .inr ⟨by simp, xR hu hb2⟩, hck⟩
      obtain ⟨dst, op, ty, pos, af, g⟩ := o
      cases op with
      | alloc t =>
       have hcl' : ∀ id, PI.vid v' = some id → id ∉ p''.wr → _ := fun id hid _ => hcl (by
        simp only [cJ] at hp
        split at hp <;> try cases hp
        exact ⟨_, by rw [fP, if_pos rfl], by simp⟩) id hid (fun _ => by
        simp only [cJ] at hp
        split at hp <;> try cases hp
        simp only [PI.vid, ojE] at hid; exact hid.symm)
       refine fin (I'.cons2 (q := ⟨i, ⟨dst, .alloc t, ty, pos, af, g⟩, jM ⟨dst, .alloc t, ty, pos, af, g⟩ S, v', false⟩) ⟨hcl', rfl, fun _ => hck, fun _ ob' hob => ?_, fun h => (by cases h), fun t a hoa => by cases hoa⟩) h
       simp only [ojE] at hob; subst hob
       simp only [cR] at hu
       split at hu
       ·rename_i zz _
        cases hc : zz.cells.toList.all aC with
        | false => rw [hc, cdf] at hu; cases hu
        | true => rw [hc, cdt] at hu; simp only [ojE, pjE] at hu; exact ⟨_, hu.2.symm⟩
       ·cases hu
      | box t x =>
       have hcl' : ∀ id, PI.vid v' = some id → id ∉ p''.wr → _ := fun id hid _ => hcl (by
        simp only [cJ] at hp
        have hp := fY hp
        simp only [ojE, pjE] at hp
        obtain ⟨_, _, rfl⟩ := hp
        exact ⟨_, by rw [fP, if_pos rfl], by simp⟩) id hid (fun _ => by
        simp only [cJ] at hp
        have hp := fY hp
        simp only [ojE, pjE] at hp
        obtain ⟨rfl, _, _⟩ := hp
        simp only [PI.vid, ojE] at hid; exact hid.symm)
       refine fin (I'.cons2 (q := ⟨i, ⟨dst, .box t x, ty, pos, af, g⟩, jM ⟨dst, .box t x, ty, pos, af, g⟩ S, v', false⟩) ⟨hcl', rfl, fun _ => hck, fun _ ob' hob => ?_, fun h => (by cases h), fun t a hoa => by cases hoa⟩) h
       simp only [ojE] at hob; subst hob
       simp only [cR] at hu
       cases hc : (ev A x).cells.toList.all one with
       | false => rw [hc, cdf] at hu; cases hu
       | true => rw [hc, cdt] at hu; simp only [ojE, pjE] at hu; exact ⟨_, hu.2.symm⟩
      | makeSlice t l c =>
       have hmk : ∀ id, PI.vid v' = some id → id = p.next ∧ ∃ o2, p''.get p.next = some o2 ∧ o2 ≠ .gone := by
        intro id hid
        simp only [cJ] at hp
        split at hp <;> try cases hp
        split at hp <;> try cases hp
        split at hp <;> try cases hp
        have hp := fY hp
        rcases bif_or hp with hp | hp
        ·simp only [ojE, pjE] at hp; obtain ⟨rfl, _, _⟩ := hp; simp only [PI.vid] at hid; cases hid
        ·have hp := fY hp
         simp only [ojE, pjE] at hp
         obtain ⟨rfl, _, rfl⟩ := hp
         simp only [PI.vid, ojE] at hid
         exact ⟨hid.symm, _, by rw [fP, if_pos rfl], by simp⟩
       exact fin (I'.cons2 (q := ⟨i, ⟨dst, .makeSlice t l c, ty, pos, af, g⟩, jM ⟨dst, .makeSlice t l c, ty, pos, af, g⟩ S, v', false⟩) ⟨fun id hid _ => hcl (hmk id hid).2 id hid (fun _ => (hmk id hid).1), rfl, fun _ => hck, fun hm => (by cases hm), fun h => (by cases h), fun t a hoa => by cases hoa⟩) h
      | buildSlice t len parts =>
       refine fin (I'.cons ?_) h
       have hob : ∃ cs s, ob = .cells cs (bR s) ∧ u' = .slice (some ⟨base + i, 0, none⟩) len len := by
        simp only [cR] at hu
        split at hu
        ·split at hu
         ·rename_i s _
          split at hu
          ·rename_i z _
           cases hc : z.cells.toList.all aC && Nat.ble (len * s) 1000000 && Nat.beq z.cells.size s && Nat.ble 1 s with
           | false => rw [hc, cdf] at hu; cases hu
           | true =>
            rw [hc, cdt] at hu
            simp only [mjE, pjE] at hu
            obtain ⟨cs, _, h2, h3⟩ := hu
            exact ⟨_, s, h3.symm, h2.symm⟩
          ·cases hu
         ·cases hu
        ·cases hu
       obtain ⟨cs, s, rfl, rfl⟩ := hob
       have hvs : v' = .emp ∨ ∃ z es, v' = .sl z es := by
        simp only [cJ] at hp
        split at hp
        ·split at hp
         ·rename_i s a z _ _ _
          cases hc : Nat.ble (len * s) 1000000 && Nat.beq z.length s && Nat.ble 1 s && (a || Nat.beq s 1) with
          | false => rw [hc, cdf] at hp; cases hp
          | true =>
           rw [hc, cdt] at hp
           split at hp
           ·simp only [ojE, pjE] at hp
            rw [← hp.1]; exact mkSl_or _ _
           ·cases hp
         ·cases hp
        ·cases hp
       have hno := slice_fz k2 hvs
       intro ν'' σ'' kk mm zz
       obtain ⟨b, hb1, hb2, _⟩ := kk.row (base + i) hno cs (bR s) (by rw [aF, if_pos rfl])
       have hbf := hb2 rfl
       subst hbf
       simp only [check, hb1]
       exact nS _
      | _ => simp only [cJ] at hp; cases hp
     | eff =>
      have k1' : xP P ac σ (ev A) o (base + i) = some (u, σ1) := by simpa only [aop, hk] using k1
      rw [show gN o = true by simp [gN, hk]] at h
      simp only [cdt] at h
      cases hc : Pl.all (kG P p) with
      | false => rw [hc, cdf] at h; cases h
      | true =>
       rw [hc, cdt] at h
       simp only [I.check M hc, cdt, k1']
       have If := I.filter fun k => !bit (ms.getD i 0) k
       cases ha : iF o with
       | false =>
        rw [ha] at h
        simp only [Bool.false_and, cdf] at h
        exact fin (If.stale k5) h
       | true =>
        rw [ha] at h
        simp only [Bool.true_and] at h
        have hqt : Qt σ σ1 := by
         obtain ⟨dst, op, ty, pos, af, g⟩ := o
         cases op <;> simp only [iF] at ha <;> (try cases ha)
         rename_i c
         obtain ⟨callee, cargs, ats⟩ := c
         cases callee with
         | builtin b =>
          cases b <;> (try cases ha)
          simp only [xP] at k1'
          split at k1'
          ·exact aDa hfi k1'
          ·cases k1'
         | _ => cases ha
        exact fin (If.some k5 hqt) h
    ·cases h
   ·rename_i hw
    rw [jU F hw, cdf]
    obtain ⟨γ1, M1, F1, A1⟩ := aDX M F o.dst
    obtain ⟨A', σ', ν', γ', j1, j2, j3, j4, j5⟩ := ih Pl Rl ν γ1 _ p _ σ S' p' hnd.2 (fun j hj => hfree j (mtE _ hj)) hb I M1 F1 h
    exact ⟨A', σ', ν', γ', j1, j2, j3, A1.trans j4, j5⟩
   ·cases h
end
end Go.PI
namespace Go.PI
open Go.AI
theorem cB {n : Nat} {xs : List PV} : fQ n xs = true ↔ ∀ x ∈ xs, below n x = true := by
 induction xs with
 | nil => simp [fQ]
 | cons x xs ih => simp [fQ, ih]
theorem uX {n : Nat} {x : PV} (h : x.pur = true) : below n x = true := by cases x <;> first | rfl | simp [PV.pur] at h
theorem aBS {es : List PV} (h : ∀ e ∈ es, e.cells.all PV.pur = true) {i : Nat} {x : PV} (hx : (eA es)[i]? = some x) : x.pur = true := by
 have := dE hx
 simp only [eA, List.mem_flatMap] at this
 obtain ⟨e, he, hx⟩ := this
 exact (List.all_eq_true.1 (h e he)) x hx
section
variable {P : Program} {ν ν' ν'' : Nu} {γ γ1 γ' : Ga} {σ σ' : St} {S : PS} {A : Slots}
theorem lY {α : Type} {us : List α} {xs : List PV} (hl : xs.length = us.length) {x : PV} (hx : x ∈ xs) : ∃ (i : Nat) (u : α), xs[i]? = some x ∧ us[i]? = some u := by
 obtain ⟨i, hi, rfl⟩ := List.mem_iff_getElem.1 hx
 exact ⟨i, us[i], geG hi, geG (by omega)⟩
theorem R.restrict {n : Nat} (hν : ∀ k, k < n → ν'' k = ν' k) (hsub : ∀ k a, ν'' k = some (some a) → ν' k = some (some a)) {x : PV} {u : Value} (r : R ν' σ x u) : PI.below n x = true → R ν'' σ x u := by
 have hfz : ∀ {id cs m}, Fz ν' σ id cs m → Fz ν'' σ id cs m := fun h => ⟨h.1, fun k hk => h.2 k (hsub k _ hk)⟩
 induction r with
 | und u => intro _; exact .und u
 | v x h => intro _; exact .v x h
 | str s => intro _; exact .str s
 | agg xs us hl _ ih =>
  intro hb
  simp only [PI.below] at hb
  rw [cB] at hb
  exact .agg xs us hl fun i x u hx hu => ih i x u hx hu (hb x (dE hx))
 | tup xs us hl _ ih =>
  intro hb
  simp only [PI.below] at hb
  rw [cB] at hb
  exact .tup xs us hl fun i x u hx hu => ih i x u hx hu (hb x (dE hx))
 | nil => intro _; exact .nil
 | emp0 => intro _; exact .emp0
 | emp1 id off c rcs m hr => intro _; exact .emp1 id off c rcs m (hfz hr)
 | emp2 b o s c => intro _; exact .emp2 b o s c
 | sl z es id off c rcs m hz hs hr hmz hb _ ih =>
  intro _
  exact .sl z es id off c rcs m hz hs (hfz hr) hmz hb fun i x u hx hu => ih i x u hx hu (uX (aBS (fun e he => (hs e he).2) hx))
 | pin z es i off id base rcs m hs hr hb _ ih =>
  intro _
  exact .pin z es i off id base rcs m hs (hfz hr) hb fun i x u hx hu => ih i x u hx hu (uX (aBS (fun e he => (hs e he).2) hx))
 | ptr id off a h =>
  intro hb
  simp only [PI.below, iC, djE] at hb
  exact .ptr id off a (by rw [hν id hb]; exact h)
 | ptr0 id off a h =>
  intro hb
  simp only [PI.below, iC, djE] at hb
  exact .ptr0 id off a (by rw [hν id hb]; exact h)
 | rs id off len c a h =>
  intro hb
  simp only [PI.below, iC, djE] at hb
  exact .rs id off len c a (by rw [hν id hb]; exact h)
 | rs0 id off len c a h =>
  intro hb
  simp only [PI.below, iC, djE] at hb
  exact .rs0 id off len c a (by rw [hν id hb]; exact h)
 | fn f xs ys us vs hl _ hl' _ ih ih' =>
  intro hb
  simp only [PI.below, bjE] at hb
  rw [cB, cB] at hb
  exact .fn f xs ys us vs hl (fun i x u hx hu => ih i x u hx hu (hb.1 x (dE hx))) hl' fun i x u hx hu => ih' i x u hx hu (hb.2 x (dE hx))
theorem R.low {n : Nat} (hν : ∀ k y, ν k = some y → k < n) {x : PV} {u : Value} (r : R ν σ x u) : PI.below n x = true := by
 induction r with
 | agg xs us hl _ ih =>
  simp only [PI.below]; rw [cB]; intro x hx
  obtain ⟨i, u, h1, h2⟩ := lY hl hx
  exact ih i x u h1 h2
 | tup xs us hl _ ih =>
  simp only [PI.below]; rw [cB]; intro x hx
  obtain ⟨i, u, h1, h2⟩ := lY hl hx
  exact ih i x u h1 h2
 | ptr id off a h => simp only [PI.below, iC, djE]; exact hν _ _ h
 | ptr0 id off a h => simp only [PI.below, iC, djE]; exact hν _ _ h
 | rs id off len c a h => simp only [PI.below, iC, djE]; exact hν _ _ h
 | rs0 id off len c a h => simp only [PI.below, iC, djE]; exact hν _ _ h
 | fn f xs ys us vs hl _ hl' _ ih ih' =>
  simp only [PI.below, bjE]; rw [cB, cB]
  refine ⟨fun x hx => ?_, fun x hx => ?_⟩
  ·obtain ⟨i, u, h1, h2⟩ := lY hl hx; exact ih i x u h1 h2
  ·obtain ⟨i, u, h1, h2⟩ := lY hl' hx; exact ih' i x u h1 h2
 | _ => rfl
theorem Ow.restrict {k : K} (hsub : ∀ k a, ν'' k = some (some a) → ν' k = some (some a)) {x : PV} {u : Value} (o : Ow ν' γ σ k x u) : Ow ν'' γ σ k x u := by
 have hfz : ∀ {id cs m}, Fz ν' σ id cs m → Fz ν'' σ id cs m := fun h => ⟨h.1, fun k hk => h.2 k (hsub k _ hk)⟩
 cases o with
 | nil => exact .nil x
 | exact _ id off len rcs m hr => exact .exact x id off len rcs m (hfz hr)
 | tip z es id off c rcs m hr ht hw hg hb hk => exact .tip z es id off c rcs m (hfz hr) ht hw hg hb hk
theorem ObjR.restrict {n id : Nat} (hν : ∀ k, k < n → ν'' k = ν' k) (hsub : ∀ k a, ν'' k = some (some a) → ν' k = some (some a)) (hid : id < n) {o : lC} (h : ObjR ν' γ σ id o) (hb : nW n o = true) : ObjR ν'' γ σ id o := by
 cases o with
 | box cs =>
  obtain ⟨a, us, h1, h2, h3, h4⟩ := h
  simp only [nW, List.all_eq_true] at hb
  refine ⟨a, us, by rw [hν id hid]; exact h1, h2, h3, fun i x b u hx hu => ?_⟩
  obtain ⟨h5, h6, h7⟩ := h4 i x b u hx hu
  exact ⟨h5.restrict hν hsub (hb _ (dE hx)), h6, fun hb' => (h7 hb').restrict hsub⟩
 | row z ag cs =>
  obtain ⟨a, us, h1, h2, h3, h5, h4⟩ := h
  simp only [nW] at hb
  rw [cB] at hb
  exact ⟨a, us, by rw [hν id hid]; exact h1, h2, h3, h5, fun i x u hx hu => (h4 i x u hx hu).restrict hν hsub (hb x (dE hx))⟩
 | map es => exact h
 | gone => show ν'' id = some none; rw [hν id hid]; exact h
theorem ObjR.low {n id : Nat} (hν : ∀ k y, ν k = some y → k < n) {o : lC} (h : ObjR ν γ σ id o) : nW n o = true := by
 cases o with
 | box cs =>
  obtain ⟨a, us, h1, h2, h3, h4⟩ := h
  simp only [nW, List.all_eq_true]
  intro c hc
  obtain ⟨i, hi, rfl⟩ := List.mem_iff_getElem.1 hc
  have hx : cs[i]? = some (cs[i].1, cs[i].2) := geG hi
  have hu : us[i]? = some (us[i]'(by omega)) := geG _
  exact (h4 i _ _ _ hx hu).1.low hν
 | row z ag cs =>
  obtain ⟨a, us, h1, h2, h3, h5, h4⟩ := h
  simp only [nW]
  rw [cB]
  intro x hx
  obtain ⟨i, u, e1, e2⟩ := lY h3.symm hx
  exact (h4 i x u e1 e2).low hν
 | map es => exact h.elim
 | gone => rfl
theorem cA {old d : List Nat} {k : Nat} : k ∈ old.foldr ins d ↔ k ∈ old ∨ k ∈ d := by
 induction old with
 | nil => simp
 | cons x old ih => simp only [List.foldr_cons, gG, ih, List.mem_cons, or_assoc]
theorem pW {mem q : Tr lC} {old : List Nat} (hf : ∀ id ∈ old, q.get id ≠ none) (k : Nat) : (old.foldr (back q) mem).get k = if k ∈ old then q.get k else mem.get k := by
 induction old with
 | nil => simp
 | cons x old ih =>
  simp only [List.foldr_cons]
  have ih := ih fun id hid => hf id (mtE _ hid)
  cases hx : q.get x with
  | none => exact absurd hx (hf x (mhE ..))
  | some o =>
   simp only [back, hx, Tr.get_set]
   by_cases e : k = x
   ·subst e; simp [hx]
   ·rw [if_neg e, ih]
    by_cases e2 : k ∈ old
    ·rw [if_pos e2, if_pos (mtE _ e2)]
    ·rw [if_neg e2, if_neg (by simp [e, e2])]
theorem aDZ {p p' : PSt} (M : Mem ν γ p σ) (M' : Mem ν' γ' p' σ') (adv : Adv ν γ (st0 p) σ ν' γ' p' σ') {v : PV} {u : Value} {own : Bool} (r : R ν' σ' v u) (ho : own = true → Ow ν' γ' σ' .hand v u) :
    ∃ ν'', R ν'' σ' v u ∧ (own = true → Ow ν'' γ' σ' .hand v u) ∧ Mem ν'' γ' (settle p v p') σ' ∧ Adv ν γ p σ ν'' γ' (settle p v p') σ' := by
 have hn : p.next ≤ p'.next := adv.dp.next
 have hmem : ∀ k, k < p.next → k ∉ p'.dirty → p'.mem.get k = p.mem.get k := adv.dp.mem
 unfold settle
 cases hc : below p.next v && (p'.dirty.filter fun id => Nat.blt id p.next).all (qC p.next p'.mem) with
 | false =>
  simp only [cdf]
  refine ⟨ν', r, ho, ⟨M'.le, M'.lt, M'.inj, M'.live, M'.get, M'.free, M'.ver⟩, ⟨adv.keep, adv.mon, adv.out, ⟨hn, fun id hid => cA.2 (.inr hid), fun id hid => cA.2 (.inr hid), fun k hk hd => ?_⟩, adv.rz, fun id a hi hd => adv.bx id a hi fun hh => hd (cA.2 (.inl (List.mem_filter.2 ⟨hh, by rw [iC]; simpa using M.le _ _ hi⟩)))⟩⟩
  refine hmem k hk fun hh => hd (cA.2 (.inl ?_))
  rw [List.mem_filter]; exact ⟨hh, by rw [iC]; simpa using hk⟩
 | true =>
  simp only [cdt]
  simp only [bjE, List.all_eq_true] at hc
  obtain ⟨hv, hold⟩ := hc
  have hmo : ∀ {k}, k ∈ (p'.dirty.filter fun id => Nat.blt id p.next) ↔ k ∈ p'.dirty ∧ k < p.next := by
   intro k; rw [List.mem_filter, iC]; simp
  generalize hO : (p'.dirty.filter fun id => Nat.blt id p.next) = old at *
  have hf : ∀ id ∈ old, p'.mem.get id ≠ none := fun id hid h => by
   have := hold id hid; simp only [qC, h] at this; cases this
  have hget : ∀ k, PSt.get ⟨old.foldr (back p'.mem) p.mem, p.next, old.foldr ins p.dirty, (p'.wr.filter fun id => Nat.blt id p.next).foldr ins p.wr⟩ k = if k < p.next then p'.mem.get k else none := by
   intro k
   simp only [PSt.get, iC, Bool.cond_decide]
   by_cases hk : k < p.next
   ·simp only [hk, if_true]
    rw [pW hf]
    by_cases e : k ∈ old
    ·rw [if_pos e]
    ·rw [if_neg e]
     exact (hmem k hk fun hh => e (hmo.2 ⟨hh, hk⟩)).symm
   ·simp [hk]
  have hp' : ∀ k, k < p.next → p'.get k = p'.mem.get k := by
   intro k hk
   simp only [PSt.get, iC, Bool.cond_decide]
   rw [if_pos (by omega)]
  have hνn : ∀ k, k < p.next → (fun k => if k < p.next then ν' k else none) k = ν' k := fun k hk => by simp [hk]
  have hsub : ∀ k a, (fun k => if k < p.next then ν' k else none) k = some (some a) → ν' k = some (some a) := fun k a h => by
   by_cases hk : k < p.next
   ·simpa [hk] using h
   ·simp [hk] at h
  refine ⟨fun k => if k < p.next then ν' k else none, r.restrict hνn hsub hv, fun h => (ho h).restrict hsub, ⟨fun k x hk => ?_, fun k a hk => M'.lt k a (hsub k a hk), fun i j a hi hj => M'.inj i j a (hsub i a hi) (hsub j a hj), fun k a hk => ?_, fun k o hk => ?_, M'.free, M'.ver⟩,
   ⟨adv.keep, ⟨fun id x hx => ?_, fun id a ha => adv.mon.2 id a (hsub id a ha)⟩, adv.out, ⟨nlR _, fun id hid => cA.2 (.inr hid), fun id hid => cA.2 (.inr hid), fun k hk hd => ?_⟩, adv.rz, fun id a hi hd => by
    have hlt := M.le _ _ hi
    obtain ⟨e1, e2⟩ := adv.bx id a hi fun hh => hd (cA.2 (.inl (List.mem_filter.2 ⟨hh, by rw [iC]; simpa using hlt⟩)))
    exact ⟨e1, by show (if id < p.next then ν' id else none) = _; rw [if_pos hlt]; exact e2⟩⟩⟩
  ·by_cases h : k < p.next
   ·exact h
   ·simp [h] at hk
  ·have h1 := hsub k a hk
   have hkn : k < p.next := by
    by_cases h : k < p.next
    ·exact h
    ·simp [h] at hk
   obtain ⟨o, ho'⟩ := M'.live k a h1
   rw [hp' k hkn] at ho'
   exact ⟨o, by rw [hget, if_pos hkn]; exact ho'⟩
  ·rw [hget] at hk
   by_cases hkn : k < p.next
   ·rw [if_pos hkn] at hk
    have hobj := M'.get k o (by rw [hp' k hkn]; exact hk)
    refine hobj.restrict hνn hsub hkn ?_
    by_cases e : k ∈ old
    ·have := hold k e
     simp only [qC, hk] at this; exact this
    ·have h0 : p.mem.get k = some o := by rw [← hmem k hkn fun hh => e (hmo.2 ⟨hh, hkn⟩)]; exact hk
     have : p.get k = some o := by
      simp only [PSt.get, iC, Bool.cond_decide]; rw [if_pos hkn]; exact h0
     exact (M.get k o this).low M.le
   ·rw [if_neg hkn] at hk; cases hk
  ·have hid := M.le id x hx
   rcases adv.mon.1 id x hx with h1 | h1
   ·left; show (if id < p.next then ν' id else none) = some x; rw [if_pos hid]; exact h1
   ·right; show (if id < p.next then ν' id else none) = some none; rw [if_pos hid]; exact h1
  ·rw [pW hf]
   rw [if_neg fun e => hd (cA.2 (.inl e))]
end
end Go.PI
namespace Go.PI
open Go.AI
def uH : PC → Prop
 | .region _ ops draw ms sc => if draw then ms = dV ops.toList [] ∧ dU sc = qU ops ms else dU sc = List.range ops.size
 | .seq a b => uH a ∧ uH b
 | .cond _ a b => uH a ∧ uH b
 | .block _ c => uH c
 | .loop c => uH c
 | .scope c => uH c
 | .drop _ c => uH c
 | .ice _ c => uH c
 | _ => True
theorem aCv {ops : Array Oper} {ms : List Nat} : ∀ {l done : List Nat}, topo ops ms l done = true → l.Nodup ∧ (∀ i ∈ l, i < ops.size ∧ i ∉ done) := by
 intro l
 induction l with
 | nil => intro done _; exact ⟨List.nodup_nil, fun i hi => by simp at hi⟩
 | cons i l ih =>
  intro done h
  simp only [topo, bjE] at h
  obtain ⟨⟨⟨⟨h1, h2⟩, h3⟩, h4⟩, h5⟩ := h
  obtain ⟨h6, h7⟩ := ih h5
  have hi : i < ops.size := by rw [iC] at h1; simpa using h1
  have hd : i ∉ done := by simpa using h2
  refine ⟨List.nodup_cons.2 ⟨fun hh => (h7 i hh).2 (mhE ..), h6⟩, fun j hj => ?_⟩
  rcases List.mem_cons.1 hj with rfl | hj
  ·exact ⟨hi, hd⟩
  ·exact ⟨(h7 j hj).1, fun hh => (h7 j hj).2 (mtE _ hh)⟩
section
variable {P : Program} {ν ν' ν'' : Nu} {γ γ1 γ' : Ga} {σ σ' : St} {S : PS} {A : Slots}
theorem tG {ops : Array Oper} (h : tH ops = true) : (qU ops (dV ops.toList [])).Nodup ∧ ∀ i ∈ qU ops (dV ops.toList []), i < ops.size ∧ i ∉ ([] : List Nat) := by
 unfold tH at h
 split at h
 ·simp only [vH, bjE] at h
  exact aCv h.1
 ·cases h
theorem aE3 {ops : Array Oper} {o : Option (PS × PSt)} {r : PS × PSt} (h : fitP ops o = some r) : o = some r ∧ zF ops r.1 r.2 = true := by
 unfold fitP at h
 split at h
 ·rename_i r'
  cases hb : zF ops r'.1 r'.2 with
  | true => rw [hb, cdt] at h; cases h; exact ⟨rfl, hb⟩
  | false => rw [hb] at h; cases h
 ·cases h
theorem okTw_ok {ops : Array Oper} {p : PSt} (M : Mem ν γ p σ) (F : FR ν γ σ S A) (h : zF ops S p = true) : okTw ops A σ = true := by
 unfold zF at h
 unfold okTw
 split at h
 ·rename_i e; rw [e]
 ·rename_i s t e
  rw [e]
  simp only
  have r1 := (F s).1
  have r2 := (F t).1
  split at h
  ·rename_i es i off id o2 e1 e2
   rw [e1] at r1
   rw [e2] at r2
   split at h
   ·rename_i cs hg
    obtain ⟨a, us, n1, n2, _⟩ := M.get _ _ hg
    show (match A.at s, A.at t with
     | .pointer (some ⟨i, _, none⟩), .pointer (some ⟨j, _, none⟩) => !Nat.beq i j && (match σ.get j with | some (.cells _ m) => m.grp.isNone | _ => false)
     | _, _ => false) = true
    generalize A.at s = u1 at *
    generalize A.at t = u2 at *
    cases r1 with
    | pin z _ _ _ id' base rcs m hs hr hb h =>
     cases r2 with
     | ptr _ _ a' hν =>
      rw [hν] at n1; simp only [ojE] at n1; subst n1
      have : id' ≠ a' := fun e => hr.2 _ (e ▸ hν)
      simp only [cN, decide_eq_false this, n2, boxMeta, Option.isNone_none, Bool.not_false, Bool.and_self]
     | ptr0 _ _ a' hν => rw [hν] at n1; cases n1
   ·cases h
  ·cases h
 ·cases h
theorem pO (n : Nat) : Keep ν fR σ { σ with next := σ.next + n } := ⟨rfl, Nat.le_add_right _ _, fun _ h => h, fun a _ cs m h => ⟨m.tip, h, fun h => h, fun _ => rfl⟩⟩
theorem Mem.more {p : PSt} (M : Mem ν γ p σ) (n : Nat) : Mem ν γ p { σ with next := σ.next + n } :=
 ⟨M.le, fun id a h => Nat.lt_of_lt_of_le (M.lt id a h) (Nat.le_add_right _ _), M.inj, M.live, fun id o h => (M.get id o h).keep (γ1 := fR) (pO n) (.refl σ ν) rfl (fun _ _ => rfl) fun i off hi _ => ⟨rfl, hi⟩,
  fun a ha => M.free a (Nat.le_trans (Nat.le_add_right _ _) ha), M.ver⟩
theorem FR.more (F : FR ν γ σ S A) (n : Nat) : FR ν γ { σ with next := σ.next + n } S A := F.keep (γ1 := fR) (pO n) (.refl σ ν) fun i t hi _ => ⟨rfl, hi⟩
theorem Adv.more {p : PSt} (n : Nat) : Adv ν γ p σ ν γ p { σ with next := σ.next + n } := ⟨(pO n).weak fun _ _ => rfl, .refl σ ν, .refl σ γ, .refl p, fun a cs m h => ⟨cs, m.tip, h⟩, fun _ _ h _ => ⟨rfl, h⟩⟩
theorem Mem.cln {p : PSt} (M : Mem ν γ p σ) : Mem ν γ (PI.cln p) σ := ⟨M.le, M.lt, M.inj, M.live, M.get, M.free, M.ver⟩
theorem Mem.dty {p' : PSt} (M : Mem ν γ p' σ) (p : PSt) : Mem ν γ (PI.dty p p') σ := ⟨M.le, M.lt, M.inj, M.live, M.get, M.free, M.ver⟩
theorem Adv.dty {p p' : PSt} (h : Adv ν γ (PI.cln p) σ ν' γ' p' σ') : Adv ν γ p σ ν' γ' (PI.dty p p') σ' :=
 ⟨h.keep, h.mon, h.out, ⟨h.dp.next, fun id hi => h.dp.dirty id hi, fun id hi => cA.2 (.inr hi), fun k hk hd => h.dp.mem k hk hd⟩, h.rz, fun id a hi hd => h.bx id a hi fun hh => hd (cA.2 (.inl hh))⟩
theorem aCC {pc : gJ} {ac : FuncId → Array Value → St → Option (Value × St)} (hcall : jN pc ac) {N id : Nat} {ops : Array Oper} {draw : Bool} {ms : List Nat} {sc : List aCm} {p p' : PSt} {S' : PS}
    (hok : cG P N (.region id ops draw) = true) (hsc : uH (.region id ops draw ms sc)) (M : Mem ν γ p σ) (F : FR ν γ σ S A)
    (h : (bif draw then (fitP ops (gL P pc ops ms sc [] S (cln p))).map (fun r => (r.1, dty p r.2)) else yG P pc ops sc S p) = some (S', p')) :
    ∃ A' σ' ν' γ', jB P ac ops draw A σ = some (A', σ') ∧ Mem ν' γ' p' σ' ∧ FR ν' γ' σ' S' A' ∧ Adv ν γ p σ ν' γ' p' σ' ∧ (∀ j, j < σ.next → σ.get j = none → σ'.get j = none) := by
 simp only [cG, bjE, List.all_eq_true, Bool.or_eq_true, Bool.not_eq_true'] at hok
 obtain ⟨hops, hdr⟩ := hok
 have hops' : ∀ o ∈ ops.toList, o.op.operands.all (aH P) = true := fun o ho => by
  have := hops o ho
  simp only [lQ, bjE] at this
  exact this.2
 unfold jB
 cases draw with
 | false =>
  simp only [cdf] at h ⊢
  simp only [uH] at hsc
  obtain ⟨A', σ', ν', γ', h1, h2, h3, h4, h5⟩ := runP_ok hcall (base := σ.next) hops' sc 0 ν γ S p A { σ with next := σ.next + ops.size } S' p' (by simpa [List.range_eq_range'] using hsc) (Nat.zero_le _) (nlR _)
   (fun j _ hj => M.free _ (Nat.le_add_right _ _)) (M.more _) (F.more _) h
  exact ⟨A', σ', ν', γ', h1, h2, h3, (Adv.more _).trans h4, fun j hj hn => h5 j hj hn⟩
 | true =>
  simp only [cdt] at h ⊢
  simp only [uH, if_true] at hsc
  obtain ⟨rfl, hsc⟩ := hsc
  have hD := hdr.resolve_left (by simp)
  obtain ⟨hnd, hlt⟩ := tG hD
  simp only [mjE, pjE] at h
  obtain ⟨⟨S2, p2⟩, h, rfl, rfl⟩ := h
  obtain ⟨h, htw⟩ := aE3 h
  obtain ⟨A', σ', ν', γ', h1, h2, h3, h4, h5⟩ := runDP_ok hcall (base := σ.next) hops' sc [] [] ν γ S (cln p) A { σ with next := σ.next + ops.size } S2 p2 (by rw [hsc]; exact hnd)
   (fun j hj => ⟨(hlt j (by rw [← hsc]; exact hj)).1, M.free _ (Nat.le_add_right _ _)⟩) (nlR _) (fun r hr => by simp at hr) (M.cln.more _) (F.more _) h
  rw [hsc] at h1
  refine ⟨A', σ', ν', γ', ?_, h2.dty p, h3, (Adv.more _).trans h4.dty, fun j hj hn => h5 j hj hn⟩
  rw [h1]
  simp only [fitTw, okTw_ok h2 h3 htw, cdt]
def ExOK (P : Program) (ac : FuncId → Array Value → St → Option (Value × St)) (L : Nat) (run : PS → PSt → Option (Fl × PS × PSt)) (arun : Slots → St → Option (Fl × Slots × St)) : Prop :=
 ∀ (ν : Nu) (γ : Ga) (S : PS) (p : PSt) (A : Slots) (σ : St) (fl : Fl) (S' : PS) (p' : PSt), Mem ν γ p σ → FR ν γ σ S A → run S p = some (fl, S', p') →
  ∃ A' σ' ν' γ', arun A σ = some (fl, A', σ') ∧ Mem ν' γ' p' σ' ∧ FR ν' γ' σ' S' A' ∧ Adv ν γ p σ ν' γ' p' σ' ∧ (∀ j, j < σ.next → σ.get j = none → σ'.get j = none)
theorem iterP_ok {ac : FuncId → Array Value → St → Option (Value × St)} {L : Nat} {run : PS → PSt → Option (Fl × PS × PSt)} {arun : Slots → St → Option (Fl × Slots × St)} (h : ExOK P ac L run arun) : ∀ n, ExOK P ac L (tL run n) (aDu arun n) := by
 intro n
 induction n with
 | zero => intro ν γ S p A σ fl S' p' M F hr; simp only [tL] at hr; cases hr
 | succ n ih =>
  intro ν γ S p A σ fl S' p' M F hr
  simp only [tL] at hr
  simp only [aDu]
  cases hb : run S p with
  | none => rw [hb] at hr; cases hr
  | some r =>
   obtain ⟨f1, S1, p1⟩ := r
   rw [hb] at hr
   obtain ⟨A1, σ1, ν1, γ1, k1, k2, k3, k4, k5⟩ := h ν γ S p A σ f1 S1 p1 M F hb
   rw [k1]
   cases f1 with
   | normal =>
    simp only at hr ⊢
    obtain ⟨A', σ', ν', γ', j1, j2, j3, j4, j5⟩ := ih ν1 γ1 S1 p1 A1 σ1 fl S' p' k2 k3 hr
    exact ⟨A', σ', ν', γ', j1, j2, j3, k4.trans j4, fun j hj hn => j5 j (Nat.lt_of_lt_of_le hj k4.keep.next) (k5 j hj hn)⟩
   | exit m =>
    simp only [ojE, pjE] at hr
    obtain ⟨rfl, rfl, rfl⟩ := hr
    exact ⟨A1, σ1, ν1, γ1, rfl, k2, k3, k4, k5⟩
   | ret =>
    simp only [ojE, pjE] at hr
    obtain ⟨rfl, rfl, rfl⟩ := hr
    exact ⟨A1, σ1, ν1, γ1, rfl, k2, k3, k4, k5⟩
theorem execP_ok {pc : gJ} {ac : FuncId → Array Value → St → Option (Value × St)} (hcall : jN pc ac) (L N : Nat) : ∀ (c : PC), uH c → cG P N (cQ c) = true → ExOK P ac L (cP P pc L c) (cS P ac L (cQ c)) := by
 intro c
 induction c with
 | skip =>
  intro _ _ ν γ S p A σ fl S' p' M F h
  simp only [cP, ojE, pjE] at h; obtain ⟨rfl, rfl, rfl⟩ := h
  exact ⟨A, σ, ν, γ, rfl, M, F, .refl ν γ _ σ, fun j _ h => h⟩
 | label l =>
  intro _ _ ν γ S p A σ fl S' p' M F h
  simp only [cP, ojE, pjE] at h; obtain ⟨rfl, rfl, rfl⟩ := h
  exact ⟨A, σ, ν, γ, rfl, M, F, .refl ν γ _ σ, fun j _ h => h⟩
 | region id ops draw ms sc =>
  intro hk hok ν γ S p A σ fl S' p' M F h
  simp only [cP, mjE, pjE] at h
  obtain ⟨⟨S1, p1⟩, hr, rfl, rfl, rfl⟩ := h
  obtain ⟨A', σ', ν', γ', h1, h2, h3, h4, h5⟩ := aCC hcall hok hk M F hr
  exact ⟨A', σ', ν', γ', by simp only [cQ, cS, h1]; rfl, h2, h3, h4, h5⟩
 | seq a b iha ihb =>
  intro hk hok ν γ S p A σ fl S' p' M F h
  simp only [cQ, cG, bjE] at hok
  simp only [cP] at h
  simp only [cQ, cS]
  cases hb : cP P pc L a S p with
  | none => rw [hb] at h; cases h
  | some r =>
   obtain ⟨f1, S1, p1⟩ := r
   rw [hb] at h
   obtain ⟨A1, σ1, ν1, γ1, k1, k2, k3, k4, k5⟩ := iha hk.1 hok.1 ν γ S p A σ f1 S1 p1 M F hb
   rw [k1]
   cases f1 with
   | normal =>
    simp only at h ⊢
    obtain ⟨A', σ', ν', γ', j1, j2, j3, j4, j5⟩ := ihb hk.2 hok.2 ν1 γ1 S1 p1 A1 σ1 fl S' p' k2 k3 h
    exact ⟨A', σ', ν', γ', j1, j2, j3, k4.trans j4, fun j hj hn => j5 j (Nat.lt_of_lt_of_le hj k4.keep.next) (k5 j hj hn)⟩
   | exit m =>
    simp only [ojE, pjE] at h; obtain ⟨rfl, rfl, rfl⟩ := h
    exact ⟨A1, σ1, ν1, γ1, rfl, k2, k3, k4, k5⟩
   | ret =>
    simp only [ojE, pjE] at h; obtain ⟨rfl, rfl, rfl⟩ := h
    exact ⟨A1, σ1, ν1, γ1, rfl, k2, k3, k4, k5⟩
 | cond x a b iha ihb =>
  intro hk hok ν γ S p A σ fl S' p' M F h
  simp only [cQ, cG, bjE] at hok
  simp only [cP] at h
  have hx := aQ F hok.1.1
  split at h
  ·rename_i e
   rw [e] at hx
   obtain ⟨A', σ', ν', γ', k1, k2⟩ := iha hk.1 hok.1.2 ν γ S p A σ fl S' p' M F h
   refine ⟨A', σ', ν', γ', ?_, k2⟩
   simp only [cQ, cS]
   generalize ev A x = w at hx
   cases hx; exact k1
  ·rename_i e
   rw [e] at hx
   obtain ⟨A', σ', ν', γ', k1, k2⟩ := ihb hk.2 hok.2 ν γ S p A σ fl S' p' M F h
   refine ⟨A', σ', ν', γ', ?_, k2⟩
   simp only [cQ, cS]
   generalize ev A x = w at hx
   cases hx; exact k1
  ·cases h
 | block id c ih =>
  intro hk hok ν γ S p A σ fl S' p' M F h
  simp only [cQ, cG] at hok
  simp only [cP] at h
  simp only [cQ, cS]
  cases hb : cP P pc L c S p with
  | none => rw [hb] at h; cases h
  | some r =>
   obtain ⟨f1, S1, p1⟩ := r
   rw [hb] at h
   obtain ⟨A1, σ1, ν1, γ1, k1, k2, k3, k4, k5⟩ := ih hk hok ν γ S p A σ f1 S1 p1 M F hb
   rw [k1]
   cases f1 with
   | normal =>
    simp only [ojE, pjE] at h; obtain ⟨rfl, rfl, rfl⟩ := h
    exact ⟨A1, σ1, ν1, γ1, rfl, k2, k3, k4, k5⟩
   | exit m =>
    simp only at h ⊢
    cases he : Nat.beq m id with
    | true =>
     simp only [he, cdt, ojE, pjE] at h ⊢; obtain ⟨rfl, rfl, rfl⟩ := h
     exact ⟨A1, σ1, ν1, γ1, ⟨rfl, rfl, rfl⟩, k2, k3, k4, k5⟩
    | false =>
     simp only [he, cdf, ojE, pjE] at h ⊢; obtain ⟨rfl, rfl, rfl⟩ := h
     exact ⟨A1, σ1, ν1, γ1, ⟨rfl, rfl, rfl⟩, k2, k3, k4, k5⟩
   | ret =>
    simp only [ojE, pjE] at h; obtain ⟨rfl, rfl, rfl⟩ := h
    exact ⟨A1, σ1, ν1, γ1, rfl, k2, k3, k4, k5⟩
 | loop c ih =>
  intro hk hok
  simp only [cQ, cG] at hok
  exact iterP_ok (ih hk hok) L
 | exit id =>
  intro _ _ ν γ S p A σ fl S' p' M F h
  simp only [cP, ojE, pjE] at h; obtain ⟨rfl, rfl, rfl⟩ := h
  exact ⟨A, σ, ν, γ, rfl, M, F, .refl ν γ _ σ, fun j _ h => h⟩
 | ret =>
  intro _ _ ν γ S p A σ fl S' p' M F h
  simp only [cP, ojE, pjE] at h; obtain ⟨rfl, rfl, rfl⟩ := h
  exact ⟨A, σ, ν, γ, rfl, M, F, .refl ν γ _ σ, fun j _ h => h⟩
 | scope c ih =>
  intro hk hok
  simp only [cQ, cG] at hok
  exact ih hk hok
 | other c => intro _ _ ν γ S p A σ fl S' p' M F h; simp only [cP] at h; cases h
 | drop ts c ih =>
  intro hk hok ν γ S p A σ fl S' p' M F h
  simp only [cP] at h
  exact ih hk hok ν γ _ p A σ fl S' p' M (F.keeps ts) h
 | ice t c ih =>
  intro hk hok ν γ S p A σ fl S' p' M F h
  simp only [cP] at h
  split at h
  ·rename_i S1 p1 h1
   obtain ⟨ν1, M1, F1, A1⟩ := mU M F h1
   obtain ⟨A', σ', ν', γ', k1, k2, k3, k4, k5⟩ := ih hk hok ν1 γ S1 p1 A σ fl S' p' M1 F1 h
   exact ⟨A', σ', ν', γ', k1, k2, k3, A1.trans k4, k5⟩
  ·cases h
theorem aBU : ∀ (l : List (PV × Bool)) (i : Nat) (S : PS) (k : Nat), (tT l i S).at k = if i ≤ k ∧ k < i + l.length then (l[k - i]?).getD (.und, false) else S.at k := by
 intro l
 induction l with
 | nil => intro i S k; simp [tT]; omega
 | cons x l ih =>
  intro i S k
  simp only [tT, ih, kJ, lcS]
  by_cases h : k = i
  ·subst h; simp; omega
  ·by_cases h2 : i + 1 ≤ k ∧ k < i + 1 + l.length
   ·rw [if_pos h2, if_pos (by omega), show k - i = (k - (i + 1)) + 1 by omega, gcS]
   ·rw [if_neg h2, if_neg h, if_neg (by omega)]
theorem FR.fill {args : List (PV × Bool)} {us : List Value} (r : RL ν σ (args.map (·.1)) us) (ho : ∀ (i : Nat) (x : PV) (w : Value), args[i]? = some (x, true) → us[i]? = some w → Ow ν γ σ (.slot i) x w) : FR ν γ σ (tT args 0 .none) (mB us 0 .nil) := by
 intro t
 rw [aBU, tS]
 have hl : args.length = us.length := by have := r.1; simpa using this
 by_cases h : 0 ≤ t ∧ t < 0 + args.length
 ·rw [if_pos h, if_pos (by rw [← hl]; exact h)]
  have h1 : args[t]? = some (args[t]'(by omega)) := geG _
  obtain ⟨u, h2, h3⟩ := r.get (i := t) (x := (args[t]'(by omega)).1) (by rw [List.getElem?_map, h1]; rfl)
  simp only [Nat.sub_zero, h1, h2, Option.getD_some]
  refine ⟨h3, fun hb => ho t _ u ?_ h2⟩
  rw [h1, ← hb]
 ·rw [if_neg h]
  exact ⟨.und _, fun h => (by cases h)⟩
theorem zB {p : PSt} (M : Mem ν γ p σ) (F : FR ν γ σ S A) : ∀ (l : List ResultVar) (vs : List (PV × Bool)), dC P S p l = some vs → ∃ us, bO P A σ l = some us ∧ RL ν σ (vs.map (·.1)) us := by
 intro l
 induction l with
 | nil => intro vs h; simp only [dC, ojE] at h; subst h; exact ⟨[], rfl, .nil⟩
 | cons r l ih =>
  intro vs h
  simp only [dC] at h
  split at h
  ·rename_i v vs' hv hvs
   simp only [ojE] at h; subst h
   obtain ⟨us, h1, h2⟩ := ih vs' hvs
   have : ∃ u, lM P A σ r = some u ∧ R ν σ v.1 u := by
    cases r with
    | tmp t => simp only [kM, ojE] at hv; subst hv; exact ⟨_, rfl, (F t).1⟩
    | cell a t =>
     simp only [kM, mjE] at hv
     obtain ⟨v', hl, rfl⟩ := hv
     exact sX M (F a).1 hl
   obtain ⟨u, h3, h4⟩ := this
   exact ⟨u :: us, by simp only [bO, h3, h1], .cons h4 h2⟩
  ·cases h
theorem aC7 {p : PSt} (M : Mem ν γ p σ) (F : FR ν γ σ S A) {l : List ResultVar} {vs : List (PV × Bool)} (h : dC P S p l = some vs) :
    ∃ us γ', bO P A σ l = some us ∧ R ν σ (bG vs).1 (iR us) ∧ ((bG vs).2 = true → Ow ν γ' σ .hand (bG vs).1 (iR us)) ∧ G2 γ γ' := by
 obtain ⟨us, h1, h2⟩ := zB M F l vs h
 cases vs with
 | nil =>
  have := h2.nil_inv; subst this
  exact ⟨[], γ, h1, .mkTup .nil, fun h => (by cases h), .refl γ⟩
 | cons v vs =>
  cases vs with
  | nil =>
   obtain ⟨u, us', rfl, h3, h4⟩ := h2.cons_inv
   have := h4.nil_inv; subst this
   cases l with
   | nil => simp [dC] at h
   | cons r l =>
    cases r with
    | tmp t =>
     have hv : v = S.at t := by
      simp only [dC, kM] at h
      split at h
      ·rename_i v' vs' e1 e2
       simp only [ojE, List.cons.injEq] at h e1
       rw [← h.1, ← e1]
      ·cases h
     have hu : u = A.at t := by
      simp only [bO, lM] at h1
      split at h1
      ·rename_i v' vs' e1 e2
       simp only [ojE, List.cons.injEq] at h1 e1
       rw [← h1.1, ← e1]
      ·cases h1
     refine ⟨[u], PI.mv (.slot t) .hand γ, h1, h3.wk, fun ho => ?_, .mv (by simp) (by simp)⟩
     simp only [bG, bjE] at ho ⊢
     subst hv; subst hu
     have how : Ow ν (PI.mv (.slot t) .hand γ) σ .hand (S.at t).1 (A.at t) := by
      cases hs : (S.at t).2 with
      | true => exact ((F t).2 hs).mv (k' := .hand)
      | false =>
       rw [hs, Bool.false_or] at ho
       have h5 := (F t).1
       cases hx : (S.at t).1 with
       | nil => rw [hx] at h5; generalize A.at t = w at h5 ⊢; cases h5; exact .nil _
       | _ => rw [hx] at ho; cases ho.1
     have hne := ho.2
     simp only [iR]
     generalize (S.at t).1 = x at how hne ⊢
     generalize A.at t = w at how ⊢
     cases x with
     | sl z es => cases es with
      | nil => simp [isE] at hne
      | cons e es => exact how
     | nil => cases how with
      | nil => exact .nil _
      | exact _ _ _ _ rcs m hr => exact .exact _ _ _ _ rcs m hr
     | _ => cases how with
      | nil => exact .nil _
      | exact _ _ _ _ rcs m hr => exact .exact _ _ _ _ rcs m hr
    | cell a t =>
     refine ⟨[u], γ, h1, h3.wk, fun ho => ?_, .refl γ⟩
     simp only [dC, kM] at h
     split at h
     ·rename_i v' vs' e1 e2
      simp only [ojE, List.cons.injEq] at h
      simp only [mjE] at e1
      obtain ⟨v2, _, rfl⟩ := e1
      simp only [bG, ← h.1, Bool.false_or, bjE] at ho ⊢
      rw [← h.1] at h3
      cases v2 with
      | nil => cases h3; exact .nil _
      | _ => cases ho.1
     ·cases h
  | cons v2 vs =>
   obtain ⟨u, us', rfl, h3, h4⟩ := h2.cons_inv
   obtain ⟨u2, us'', rfl, h5, h6⟩ := h4.cons_inv
   exact ⟨_, γ, h1, .mkTup h2.wks, fun h => (by cases h), .refl γ⟩
end
end Go.PI
namespace Go.PI
open Go.AI
def uni : List Nat → List Nat → List Nat
 | [], l => l
 | x :: xs, l => bif l.contains x then uni xs l else x :: uni xs l
def del (l : List Nat) (k : List Nat) : List Nat := l.filter fun x => !k.contains x
def tmpOf : Operand → List Nat
 | .tmp t => [t]
 | _ => []
def usesOf (ops : Array Oper) (o : Oper) : List Nat :=
 o.op.operands.toList.flatMap tmpOf ++ (match o.guard with | some (j, _) => (match ops[j]? with | some q => q.dst.toList | none => []) | none => [])
def aEO (ops : Array Oper) : List Oper → List Nat → List Nat
 | [], out => out
 | o :: os, out => uni (usesOf ops o) (del (aEO ops os out) o.dst.toList)
def lv (rs : List Nat) : Code → List Nat → List (Nat × List Nat) → List Nat
 | .region _ ops _, out, _ => aEO ops ops.toList out
 | .seq a b, out, ex => lv rs a (lv rs b out ex) ex
 | .cond c a b, out, ex => uni (tmpOf c) (uni (lv rs a out ex) (lv rs b out ex))
 | .block id c, out, ex => lv rs c out ((id, out) :: ex)
 | .loop c, _, ex => lv rs c [] ex
 | .exit id, _, ex => match ex.find? fun e => Nat.beq e.1 id with | some e => e.2 | none => []
 | .ret, _, _ => rs
 | .scope c, out, ex => lv rs c out ex
 | _, out, _ => out
def isApp (ops : Array Oper) (a i s : Nat) : Bool :=
 match ops[a]?, ops[i]?, ops[s]? with
 | some oA, some oI, some oS =>
  match oA.op, oA.dst, oI.op, oI.dst, oS.op with
  | .call c, some d, .indexAddr _ (.tmp d') _, some b, .store _ (.tmp b') _ => iF oA && Nat.beq d d' && Nat.beq b b'
  | _, _, _, _, _ => false
 | _, _, _ => false
end Go.PI
namespace Go.PI
open Go.AI
section
variable {P : Program} {ν ν' ν'' : Nu} {γ γ1 γ' : Ga} {σ σ' : St} {S : PS} {A : Slots}
def ovP : OV → PV
 | .s l => .str l
 | .t => .v (.bool true)
def orP (O : Orc) (f : FuncId) (args : List (PV × Bool)) : Option OV :=
 bif Nat.beq f O.n then (match args with
 | [(.v (.int .i64 a), _), (.v (.int .i64 b), _)] => (O.s a b).map .s
 | _ => none) else bif Nat.beq f O.m then (match args with
 | [] => some .t
 | _ => none) else none
def gdP (O : Orc) (f : FuncId) (args : List (PV × Bool)) : Bool :=
 bif Nat.beq f O.n then (match args with
 | [(.v (.int .i64 a), _), (.v (.int .i64 b), _)] => true
 | _ => false) else bif Nat.beq f O.m then (match args with
 | [] => true
 | _ => false) else true
variable (P) in
def jL (O : Orc) (G : PTab) (L : Nat) : Nat → gJ
 | 0, _, _, _ => none
 | n + 1, f, args, p => match orP O f args with
  | some s => some (ovP s, false, p)
  | none => bif !gdP O f args then none else match G f with
   | some (c, rs) => match cP P (jL O G L n) L c (tT args 0 .none) (st0 p) with
    | some (.exit _, _, _) => none
    | some (_, S, p') => match dC P S p' rs with
     | some vs => some ((bG vs).1, (bG vs).2, settle p (bG vs).1 p')
     | none => none
    | none => none
   | none => none
theorem R.int_inv {x : Int} {k : IntKind} {u : Value} (h : R ν σ (.v (.int k x)) u) : u = .int k x := by cases h; rfl
theorem orA_of {O : Orc} {f : FuncId} {args : List (PV × Bool)} {us : Array Value} (r : RL ν σ (args.map (·.1)) us.toList) (h : gdP O f args = true) : orA O f us = (orP O f args).map OV.v := by
 unfold gdP at h
 unfold orA orP
 cases hf : Nat.beq f O.n with
 | false =>
  rw [hf, cdf] at h
  simp only [cdf]
  cases hm : Nat.beq f O.m with
  | false => rfl
  | true =>
   rw [hm, cdt] at h
   simp only [cdt]
   split at h
   ·obtain ⟨hl, _⟩ := r
    match hu : us.toList, hl with
    | [], _ => rfl
   ·cases h
 | true =>
  rw [hf, cdt] at h
  simp only [cdt]
  split at h
  ·rename_i a o1 b o2
   obtain ⟨hl, hr⟩ := r
   match hu : us.toList, hl, hr with
   | [u, v], _, hr =>
    have e1 := R.int_inv (hr 0 _ u rfl rfl)
    have e2 := R.int_inv (hr 1 _ v rfl rfl)
    rw [e1, e2]
  ·cases h
theorem gdP_of {O : Orc} {f : FuncId} {args : List (PV × Bool)} {s : OV} (h : orP O f args = some s) : gdP O f args = true := by
 unfold orP at h
 unfold gdP
 cases hf : Nat.beq f O.n with
 | false =>
  rw [hf, cdf] at h
  rw [cdf]
  cases hm : Nat.beq f O.m with
  | false => rfl
  | true =>
   rw [hm, cdt] at h
   rw [cdt]
   split at h
   ·rfl
   ·cases h
 | true =>
  rw [hf, cdt] at h
  rw [cdt]
  split at h
  ·rfl
  ·cases h
def aGn (P C : Program) (G : PTab) : Prop :=
 ∀ f c rs, G f = some (c, rs) → ∃ fn, C.funcs[f]? = some fn ∧ fn.body = some (cQ c) ∧ rs = fn.results.toList ∧ uH c ∧ cG P fn.ntmps (cQ c) = true
theorem aFO {C : Program} {O : Orc} {G : PTab} (hG : aGn P C G) (L : Nat) : ∀ n, jN (jL P O G L n) (qV P C O L n) := by
 intro n
 induction n with
 | zero => intro g args p v own p' h; simp only [jL] at h; cases h
 | succ n ih =>
  intro g args p v own p' h ν γ σ us M r ho
  simp only [jL] at h
  split at h
  ·rename_i s hs
   simp only [ojE, pjE] at h
   obtain ⟨rfl, rfl, rfl⟩ := h
   refine ⟨s.v, σ, ν, γ, by simp only [qV, orA_of r (gdP_of hs), hs, omS], (match s with | .s l => R.str ⟨l.toArray⟩ | .t => R.v _ rfl), fun h => (by cases h), M, Adv.refl ν γ p σ, fun j _ h => h⟩
  rename_i hno
  cases hgd : gdP O g args with
  | false => rw [hgd] at h; cases h
  | true =>
  rw [hgd] at h
  simp only [bnT, cdf] at h
  have hna : orA O g us = none := by rw [orA_of r hgd, hno]; rfl
  split at h
  ·rename_i c rs hg
   obtain ⟨fn, h1, h2, rfl, h4, h5⟩ := hG g c rs hg
   simp only [qV, hna, h1, h2]
   have M0 : Mem ν γ (st0 p) σ := ⟨M.le, M.lt, M.inj, M.live, M.get, M.free, M.ver⟩
   have key : ∀ fl S' p1, cP P (jL P O G L n) L c (tT args 0 .none) (st0 p) = some (fl, S', p1) → (∀ k, fl ≠ .exit k) → ∀ vs, dC P S' p1 fn.results.toList = some vs →
          v = (bG vs).1 → own = (bG vs).2 → p' = settle p (bG vs).1 p1 →
          ∃ u σ' ν' γ', kX P fn (cS P (qV P C O L n) L (cQ c) (mB us.toList 0 .nil) σ) = some (u, σ') ∧ R ν' σ' v u ∧ (own = true → Ow ν' γ' σ' .hand v u) ∧ Mem ν' γ' p' σ' ∧ Adv ν γ p σ ν' γ' p' σ' ∧ ∀ j, j < σ.next → σ.get j = none → σ'.get j = none := by
    intro fl S' p1 he hne vs hvs hv hown hp'
    obtain ⟨A', σ1, ν1, γ1, k1, k2, k3, k4, k5⟩ := execP_ok ih L fn.ntmps c h4 h5 ν γ _ _ (mB us.toList 0 .nil) σ fl S' p1 M0 (FR.fill r ho) he
    obtain ⟨us', γ2, j1, j2, j3, j4⟩ := aC7 k2 k3 hvs
    obtain ⟨ν3, m1, m2, m3, m4⟩ := aDZ (own := (bG vs).2) M (k2.g2 j4) (k4.trans (.g j4.out)) j2 j3
    rw [k1]
    subst hv; subst hown; subst hp'
    refine ⟨iR us', σ1, ν3, γ2, ?_, m1, m2, m3, m4, k5⟩
    cases fl with
    | normal => simp only [kX, j1]; rfl
    | ret => simp only [kX, j1]; rfl
    | exit k => exact absurd rfl (hne k)
   split at h
   ·cases h
   ·rename_i fl S' p1 hne he
    split at h
    ·rename_i vs hvs
     simp only [ojE, pjE] at h
     exact key fl S' p1 he (fun k e => hne k e) vs hvs h.1.symm h.2.1.symm h.2.2.symm
    ·cases h
   ·cases h
  ·cases h
end
end Go.PI
