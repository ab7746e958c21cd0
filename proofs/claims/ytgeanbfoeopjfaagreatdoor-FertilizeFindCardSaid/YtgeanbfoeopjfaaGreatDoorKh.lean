import Derived.Test.YtgeanbfoeopjfaaGreatDoorKe
import Derived.Test.YtgeanbfoeopjfaaGreatDoorKg
import Derived.IntWalk
set_option linter.unusedVariables false
set_option linter.unusedSimpArgs false
set_option linter.constructorNameAsVariable false
namespace Go.PI
open Go.AI
section
variable {P : Program} {ν ν' : Nu} {γ γ1 γ' : Ga} {σ σ' : St} {S : PS} {A : Slots}
theorem iY {z : Nat} : ∀ (n : Nat) (l : List PV), l.length = n * z → dK (kB z n l) = l ∧ (kB z n l).length = n ∧ ∀ e ∈ kB z n l, e.cells.length = z ∧ (l.all PV.pur = true → e.cells.all PV.pur = true) := by
 intro n
 induction n with
 | zero => intro l h; simp at h; subst h; exact ⟨rfl, rfl, fun e he => by simp [kB] at he⟩
 | succ n ih =>
  intro l h
  rw [Nat.succ_mul] at h
  obtain ⟨h1, h2, h3⟩ := ih (l.drop z) (by simp; omega)
  refine ⟨?_, by simp [kB, h2], fun e he => ?_⟩
  ·simp only [kB, dK, fmC, PV.cells]
   have : List.flatMap PV.cells (kB z n (l.drop z)) = l.drop z := h1
   rw [this, List.take_append_drop]
  ·simp only [kB, List.mem_cons] at he
   rcases he with rfl | he
   ·refine ⟨by simp [PV.cells]; omega, fun hp => ?_⟩
    simp only [PV.cells, List.all_eq_true] at hp ⊢
    exact fun x hx => hp x (List.mem_of_mem_take hx)
   ·refine ⟨(h3 e he).1, fun hp => (h3 e he).2 ?_⟩
    rw [List.all_eq_true] at hp ⊢
    exact fun x hx => hp x (List.mem_of_mem_drop hx)
theorem set_self (S : PS) (t : Nat) : S.set t (S.at t) = S := by
 cases S with | mk f => simp only [PS.set, PS.at, PS.mk.injEq]; funext k; rw [bP, Bool.cond_decide]; split <;> simp_all
theorem lS {p p' : PSt} (M : Mem ν γ p σ) (F : FR ν γ σ S A) {t : Nat} {S' : PS} (h : eH p S t = some (S', p')) :
    ∃ ν', Mem ν' γ p' σ ∧ FR ν' γ σ S' A ∧ Adv ν γ p σ ν' γ p' σ := by
 have triv : S' = S → p' = p → ∃ ν', Mem ν' γ p' σ ∧ FR ν' γ σ S' A ∧ Adv ν γ p σ ν' γ p' σ := by
  rintro rfl rfl; exact ⟨ν, M, F, .refl ν γ p' σ⟩
 have hF := F t
 unfold eH at h
 split at h <;> try cases h
 rename_i rr hrr
 unfold frz at hrr
 split at hrr
 ·rename_i id off len b hS
  split at hrr
  ·rename_i z a cs hg
   cases hc : Nat.ble (off + len * z) cs.length && Nat.ble 1 z && (a || Nat.beq z 1) && cs.all PV.pur with
   | false => rw [hc, cdf] at hrr; cases hrr
   | true =>
    rw [hc, cdt] at hrr
    simp only [ojE] at hrr
    subst hrr
    simp only [bjE] at hc
    obtain ⟨⟨⟨hc1, hc2⟩, hc3⟩, hc4⟩ := hc
    have hlen := Nat.le_of_ble_eq_true hc1
    have hl : ((cs.drop off).take (len * z)).length = len * z := by simp; omega
    have hz := Nat.le_of_ble_eq_true hc2
    have hid := aDU hg
    obtain ⟨ai, us, h1, h2, h3, h5, h4⟩ := M.get id _ hg
    rw [hS] at hF
    have hmon : Mon σ ν (fun k => if k = id then some none else ν k) := by
     refine ⟨fun k x hk => ?_, fun k a' hk => ?_⟩
     ·by_cases e : k = id
      ·right; show (if k = id then some none else ν k) = some none; rw [if_pos e]
      ·left; show (if k = id then some none else ν k) = some x; rw [if_neg e]; exact hk
     ·by_cases e : k = id
      ·simp only [e, if_true] at hk; cases hk
      ·simp only [e, if_false] at hk; exact .inl hk
    have hkp : Keep ν eZ σ σ := .refl ν eZ σ
    have hfz : Fz (fun k => if k = id then some none else ν k) σ ai us (bK z) := by
     refine ⟨row_of_get h2 rfl, fun k hk => ?_⟩
     by_cases e : k = id
     ·simp only [e, if_true] at hk; cases hk
     ·simp only [e, if_false] at hk; exact e (M.inj k id ai hk h1)
    refine ⟨fun k => if k = id then some none else ν k, ⟨fun k x hk => ?_, fun k a' hk => ?_, fun i j a' hi hj => ?_, fun k a' hk => ?_, fun k o hk => ?_, M.free, M.ver⟩, fun k => ?_, ⟨.refl ν γ σ, hmon, .refl σ γ, .upd p id .gone, fun a cs m h => ⟨cs, m.tip, h⟩, fun k a' hk hd => ⟨rfl, by
     have hne : k ≠ id := fun e => hd (by subst e; exact xH)
     show (if k = id then some none else ν k) = _
     rw [if_neg hne]; exact hk⟩⟩⟩
    ·show k < p.next
     by_cases e : k = id
     ·omega
     ·simp only [e, if_false] at hk; exact M.le _ _ hk
    ·by_cases e : k = id
     ·simp only [e, if_true] at hk; cases hk
     ·simp only [e, if_false] at hk; exact M.lt _ _ hk
    ·by_cases e : i = id
     ·simp only [e, if_true] at hi; cases hi
     ·by_cases e' : j = id
      ·simp only [e', if_true] at hj; cases hj
      ·simp only [e, e', if_false] at hi hj; exact M.inj _ _ _ hi hj
    ·by_cases e : k = id
     ·simp only [e, if_true] at hk; cases hk
     ·simp only [e, if_false] at hk; rw [eW hid, if_neg e]; exact M.live _ _ hk
    ·rw [eW hid] at hk
     by_cases e : k = id
     ·simp only [e, if_true, ojE] at hk; subst hk; subst e; show (if k = k then some none else ν k) = some none; simp
     ·simp only [e, if_false] at hk
      exact (M.get k o hk).keep hkp hmon (by simp [e]) (fun _ _ => rfl) fun i off' hi _ => ⟨rfl, hi⟩
    ·rw [mS]
     by_cases e : k = t
     ·subst e
      rw [if_pos rfl]
      refine ⟨?_, fun h => by cases h⟩
      have hr := hF.1
      generalize A.at k = w at hr
      cases hr with
      | rs0 _ _ _ c a' hν => rw [h1] at hν; cases hν
      | rs _ _ _ c a' hν =>
       rw [h1] at hν; simp only [ojE] at hν; subst hν
       have hpl : ((cs.drop off).take (len * z)).all PV.pur = true := by
        rw [List.all_eq_true] at hc4 ⊢; exact fun x hx => hc4 x (List.mem_of_mem_drop (List.mem_of_mem_take hx))
       have hwin : ∀ (i : Nat) (x : PV) (u : Value), ((cs.drop off).take (len * z))[i]? = some x → us[off + i]? = some u → R (fun k => if k = id then some none else ν k) σ x u := by
        intro i x u hx hu
        rw [List.getElem?_take] at hx
        split at hx
        ·rw [List.getElem?_drop] at hx; exact (h4 _ x u hx hu).keep hkp hmon
        ·cases hx
       cases a with
       | true =>
        obtain ⟨k1, k2, k3⟩ := iY (z := z) len _ hl
        simp only [cdt]
        have := R.sl (ν := fun k => if k = id then some none else ν k) (σ := σ) z (kB z len ((cs.drop off).take (len * z))) ai off c us (bK z) hz (fun e he => ⟨(k3 e he).1, (k3 e he).2 hpl⟩) hfz rfl (by rw [k2, h3]; exact hlen) (by rw [k1]; exact hwin)
        rw [k2] at this
        have h6 := aAH (es := kB z len ((cs.drop off).take (len * z))) (by rw [k2]; exact this)
        rw [k2] at h6; exact h6
       | false =>
        simp only [Bool.false_or] at hc3
        have hz1 := nqE hc3; subst hz1
        simp only [cdf]
        rw [Nat.mul_one] at hl hwin hlen hpl ⊢
        have hfl : ∀ l : List PV, l.all PV.pur = true → dK l = l := by
         intro l; induction l with
         | nil => intro _; rfl
         | cons x l ih =>
          intro hp
          simp only [alC, bjE] at hp
          have := ih hp.2
          simp only [dK, fmC] at this ⊢
          rw [this, oG (rJ hp.1)]; rfl
        have := R.sl (ν := fun k => if k = id then some none else ν k) (σ := σ) 1 ((cs.drop off).take len) ai off c us (bK 1) hz (fun e he => by
         have := (List.all_eq_true.1 hpl) e he
         rw [oG (rJ this)]; exact ⟨rfl, by simpa using this⟩) hfz rfl (by rw [hl, h3]; omega) (by rw [hfl _ hpl]; exact hwin)
        have h6 := aAH this
        rw [hl] at h6; exact h6
     ·rw [if_neg e]
      exact ⟨(F k).1.keep hkp hmon, fun hb => ((F k).2 hb).keep hkp hmon fun i hi _ => ⟨rfl, hi⟩⟩
  ·cases hrr
 ·simp only [ojE] at hrr
  subst hrr
  exact triv (set_self S t) rfl
theorem iV (F : FR ν γ σ S A) {ops : Array Oper} {o : Oper} {b : Bool} (h : fJ ops S o = some b) : wanted ops A o = b := by
 unfold fJ at h
 unfold wanted
 split at h
 ·simp only [ojE] at h; subst h; rename_i e; rw [e]
 ·rename_i j want e
  rw [e]
  simp only
  cases hd : ops[j]?.bind (·.dst) with
  | none => rw [hd] at h; simp at h
  | some d =>
   rw [hd] at h
   simp only [omS] at h
   split at h
   ·rename_i b' hb
    simp only [ojE] at h hb; subst h
    have := (F d).1
    rw [hb] at this
    simp only [omS]
    generalize A.at d = w at this
    cases this
    rfl
   ·rename_i hb
    simp only [ojE] at h hb; subst h
    have := (F d).1
    rw [hb] at this
    simp only [omS]
    obtain ⟨us, hu, hl⟩ := this.tup_inv
    rw [hu]
   ·cases h
theorem aCU {pc : fN} {ac : FuncId → Array Value → St → Option (Value × St)} (hcall : iP pc ac) {p p' : PSt} {base i : Nat} (M : Mem ν γ p σ) (F : FR ν γ σ S A) (hf : σ.get (base + i) = none) (hlt : base + i < σ.next)
    {o : Oper} (ho : o.op.operands.all (aG P) = true) {sq take own : Bool} {v : PV} {S' : PS} (h : pop P pc sq o take S p = some (v, own, S', p')) :
    ∃ u σ' ν' γ', aop P ac base i o A σ = some (u, σ') ∧ R ν' σ' v u ∧ Mem ν' γ' p' σ' ∧ FR ν' γ' σ' (S'.put o.dst v own) (A.store o.dst u) ∧ Adv ν γ p σ ν' γ' p' σ' ∧
      (∀ j, j < σ.next → j ≠ base + i → σ.get j = none → σ'.get j = none) := by
 obtain ⟨u, σ', ν', γ', h1, h2, h3, h4, h5, h6, h7⟩ := pop_ok hcall M F hf hlt ho h
 obtain ⟨γ'', F'', g⟩ := h4.put h2 h5 o.dst
 exact ⟨u, σ', ν', γ'', h1, h2, h3.g2 g, F'', h6.trans (.g g.out), h7⟩
theorem aCW {p : PSt} (M : Mem ν γ p σ) (F : FR ν γ σ S A) (d : Option Tmp) : ∃ γ', Mem ν γ' p σ ∧ FR ν γ' σ (S.put d (.tup []) false) (A.store d undef) ∧ Adv ν γ p σ ν γ' p σ := by
 obtain ⟨γ', F', g⟩ := F.put (v := .tup []) (u := undef) (own := false) (.tup [] #[] rfl (fun i x u h => by simp at h)) (fun h => by cases h) d
 exact ⟨γ', M.g2 g, F', .g g.out⟩
def dC : List aBu → List Nat
 | [] => []
 | .op i _ :: r => i :: dC r
 | .app a i s :: r => a :: i :: s :: dC r
 | .freeze _ :: r => dC r
theorem runP_ok {pc : fN} {ac : FuncId → Array Value → St → Option (Value × St)} (hcall : iP pc ac) {ops : Array Oper} {base : Nat} (hops : ∀ o ∈ ops.toList, o.op.operands.all (aG P) = true) :
    ∀ (sc : List aBu) (i : Nat) (ν : Nu) (γ : Ga) (S : PS) (p : PSt) (A : Slots) (σ : St) (S' : PS) (p' : PSt), dC sc = List.range' i (ops.size - i) → i ≤ ops.size → base + ops.size ≤ σ.next →
      (∀ j, i ≤ j → j < ops.size → σ.get (base + j) = none) → Mem ν γ p σ → FR ν γ σ S A → vZ P pc ops sc S p = some (S', p') →
      ∃ A' σ' ν' γ', jG P ac ops base (ops.toList.drop i) i A σ = some (A', σ') ∧ Mem ν' γ' p' σ' ∧ FR ν' γ' σ' S' A' ∧ Adv ν γ p σ ν' γ' p' σ' ∧ (∀ j, j < base → σ.get j = none → σ'.get j = none) := by
 intro sc
 induction sc with
 | nil =>
  intro i ν γ S p A σ S' p' hsc hi hb hfree M F h
  simp only [dC] at hsc
  have : ops.size - i = 0 := by
   cases hh : ops.size - i with
   | zero => rfl
   | succ n => rw [hh] at hsc; simp [List.range'] at hsc
  simp only [vZ, ojE, pjE] at h
  obtain ⟨rfl, rfl⟩ := h
  rw [List.drop_eq_nil_of_le (by simp; omega)]
  exact ⟨A, σ, ν, γ, rfl, M, F, .refl ν γ p σ, fun j _ hj => hj⟩
 | cons s sc ih =>
  intro i ν γ S p A σ S' p' hsc hi hb hfree M F h
  cases s with
  | freeze t =>
   simp only [vZ] at h
   split at h
   ·rename_i S1 p1 h1
    obtain ⟨ν1, M1, F1, A1⟩ := lS M F h1
    obtain ⟨A', σ', ν', γ', k1, k2, k3, k4, k5⟩ := ih i ν1 γ S1 p1 A σ S' p' hsc hi hb hfree M1 F1 h
    exact ⟨A', σ', ν', γ', k1, k2, k3, A1.trans k4, k5⟩
   ·cases h
  | app a k s =>
   simp only [dC] at hsc
   have hn3 : i + 2 < ops.size := by
    have := congrArg List.length hsc
    simp only [lcS, List.length_range'] at this
    omega
   rw [show ops.size - i = (ops.size - (i + 3)) + 1 + 1 + 1 by omega, List.range'_succ, List.range'_succ, List.range'_succ] at hsc
   simp only [List.cons.injEq] at hsc
   obtain ⟨rfl, rfl, rfl, hsc⟩ := hsc
   simp only [vZ] at h
   have hopA : ops[a]? = some ops[a] := Array.getElem?_eq_getElem (by omega)
   have hopI : ops[a + 1]? = some ops[a + 1] := Array.getElem?_eq_getElem (by omega)
   have hopS : ops[a + 1 + 1]? = some ops[a + 1 + 1] := Array.getElem?_eq_getElem (by omega)
   rw [hopA, hopI, hopS] at h
   simp only at h
   split at h
   ·rename_i S1 h1
    obtain ⟨u1, u2, σ1, σ2, γ2, q1, q2, q3, q4, q5, q6, q7, q8, q9, q10, q11, M2, F2, A2, _, _, q12, q13⟩ := aAz (ac := ac) (base := base) (iA := a) (iI := a + 1) (iS := a + 1 + 1) M F (hfree a (nlR _) (by omega)) (by omega) (hops _ (by simp)) (hops _ (by simp)) (hops _ (by simp)) h1
    have hdrop : ops.toList.drop a = ops[a] :: ops[a + 1] :: ops[a + 1 + 1] :: ops.toList.drop (a + 1 + 1 + 1) := by
     rw [List.drop_eq_getElem_cons (by simp; omega), List.drop_eq_getElem_cons (by simp; omega), List.drop_eq_getElem_cons (by simp; omega)]; simp
    rw [hdrop]
    obtain ⟨A', σ', ν', γ', j1, j2, j3, j4, j5⟩ := ih (a + 1 + 1 + 1) ν γ2 _ p _ σ2 S' p' (by simpa using hsc) (by omega) (Nat.le_trans hb A2.keep.next) (fun j hj hj' => (q13 _ (by omega) (hfree j (by omega) hj')).2) M2 F2 h
    refine ⟨A', σ', ν', γ', ?_, j2, j3, A2.trans j4, fun j hj hn => j5 j hj (q13 j (by omega) hn).2⟩
    have hw : ∀ {o : Oper} {A0 : Slots}, o.guard = none → wanted ops A0 o = true := fun hg => by simp only [wanted, hg]
    simp only [jG, hw q7, hw q8, hw q9, cdt, aop, q4, q5, q6, q1, qP, q2, omS]
    simp only [q3]
    rw [q10]
    exact j1
   ·cases h
  | op k take =>
   simp only [dC] at hsc
   have hlt : i < ops.size := by
    rcases Nat.lt_or_ge i ops.size with h' | h'
    ·exact h'
    ·rw [show ops.size - i = 0 by omega] at hsc; simp at hsc
   rw [show ops.size - i = (ops.size - (i + 1)) + 1 by omega, List.range'_succ] at hsc
   simp only [List.cons.injEq] at hsc
   obtain ⟨rfl, hsc⟩ := hsc
   simp only [vZ] at h
   have hop : ops[k]? = some ops[k] := Array.getElem?_eq_getElem hlt
   rw [hop] at h
   simp only at h
   have hdrop : ops.toList.drop k = ops[k] :: ops.toList.drop (k + 1) := by
    rw [List.drop_eq_getElem_cons (by simpa using hlt)]; simp
   rw [hdrop]
   simp only [jG]
   split at h
   ·rename_i hw
    rw [iV F hw, cdt]
    split at h
    ·rename_i v own S1 p1 h1
     obtain ⟨u, σ1, ν1, γ1, k1, k2, k3, k4, k5, k6⟩ := aCU hcall M F (hfree k (nlR _) hlt) (by omega) (hops _ (by simp)) h1
     simp only [k1]
     obtain ⟨A', σ', ν', γ', j1, j2, j3, j4, j5⟩ := ih (k + 1) ν1 γ1 _ p1 _ σ1 S' p' hsc hlt (Nat.le_trans hb k5.keep.next) (fun j hj hj' => k6 _ (by omega) (by omega) (hfree j (by omega) hj')) k3 k4 h
     exact ⟨A', σ', ν', γ', j1, j2, j3, k5.trans j4, fun j hj hn => j5 j hj (k6 j (by omega) (by omega) hn)⟩
    ·cases h
   ·rename_i hw
    rw [iV F hw, cdf]
    obtain ⟨γ1, M1, F1, A1⟩ := aCW M F ops[k].dst
    obtain ⟨A', σ', ν', γ', j1, j2, j3, j4, j5⟩ := ih (k + 1) ν γ1 _ p _ σ S' p' hsc hlt hb (fun j hj hj' => hfree j (by omega) hj') M1 F1 h
    exact ⟨A', σ', ν', γ', j1, j2, j3, A1.trans j4, j5⟩
   ·cases h
end
end Go.PI
namespace Go.AI
theorem Tr.setF_comm {α : Type} : ∀ (f g : Nat) (t : Tr α) (i j : Nat) (x y : α), i ≠ j → i < f → j < g → Tr.setF g (Tr.setF f t i x) j y = Tr.setF f (Tr.setF g t j y) i x := by
 intro f
 induction f with
 | zero => intro g t i j x y h hi; omega
 | succ f ih =>
  intro g t i j x y h hi hj
  cases g with
  | zero => omega
  | succ g =>
   by_cases i0 : i = 0
   ·have j0 : j ≠ 0 := by omega
    by_cases j1 : j % 2 = 1
    ·cases t <;> simp [Tr.setF, bP, i0, j0, j1]
    ·cases t <;> simp [Tr.setF, bP, i0, j0, j1]
   ·by_cases j0 : j = 0
    ·by_cases i1 : i % 2 = 1
     ·cases t <;> simp [Tr.setF, bP, i0, j0, i1]
     ·cases t <;> simp [Tr.setF, bP, i0, j0, i1]
    ·by_cases i1 : i % 2 = 1
     ·by_cases j1 : j % 2 = 1
      ·cases t <;> simp [Tr.setF, bP, i0, j0, i1, j1] <;> exact ih g _ _ _ x y (by omega) (by omega) (by omega)
      ·cases t <;> simp [Tr.setF, bP, i0, j0, i1, j1]
     ·by_cases j1 : j % 2 = 1
      ·cases t <;> simp [Tr.setF, bP, i0, j0, i1, j1]
      ·cases t <;> simp [Tr.setF, bP, i0, j0, i1, j1] <;> exact ih g _ _ _ x y (by omega) (by omega) (by omega)
theorem bA {σ : St} {id : Nat} {cs : List Value} {m : Mta} (h : σ.row id = some (cs, m)) : σ.get id = some (.cells cs m) ∧ σ.good m = true := by
 unfold St.row at h
 split at h
 ·rename_i cs' m' e
  cases hg : σ.good m' with
  | true => rw [hg, cdt] at h; simp only [ojE, pjE] at h; obtain ⟨rfl, rfl⟩ := h; exact ⟨e, hg⟩
  | false => rw [hg, cdf] at h; cases h
 ·cases h
theorem row_of_get {σ : St} {id : Nat} {cs : List Value} {m : Mta} (h : σ.get id = some (.cells cs m)) (hg : σ.good m = true) : σ.row id = some (cs, m) := by
 simp only [St.row, h, hg, cdt]
theorem St.put_comm (σ : St) {i j : Nat} (h : i ≠ j) (x y : AObj) : (σ.put i x).put j y = (σ.put j y).put i x := by
 simp only [St.put, Tr.set, Tr.setF_comm _ _ _ _ _ x y h (Nat.lt_succ_self i) (Nat.lt_succ_self j)]
section
variable {P : Program}
def mtaS (m : Mta) (off : Nat) : Mta :=
 match m.grp with
 | none => m
 | some (g, v) => bif m.tip && Nat.ble m.lim off then m else { m with grp := some (g, v + 1) }
def bmp (σ : St) (m : Mta) (off : Nat) : St :=
 match m.grp with
 | none => σ
 | some (g, v) => bif m.tip && Nat.ble m.lim off then σ else σ.bump g (v + 1)
theorem aEV (σ : St) (m : Mta) (off k : Nat) : (bmp σ m off).get k = σ.get k := by
 unfold bmp
 split
 ·rfl
 ·rename_i g v _
  cases m.tip && Nat.ble m.lim off <;> rfl
theorem bmp_put (σ : St) (m : Mta) (off k : Nat) (o : AObj) : bmp (σ.put k o) m off = (bmp σ m off).put k o := by
 unfold bmp
 split
 ·rfl
 ·rename_i g v _
  cases m.tip && Nat.ble m.lim off <;> rfl
theorem aDF {m : Mta} {off : Nat} (h : (mtaS m off).grp = none) : m.grp = none := by
 unfold mtaS at h
 split at h
 ·assumption
 ·rename_i g v hg
  cases hb : (m.tip && Nat.ble m.lim off) with
  | true => rw [hb, cdt] at h; exact h
  | false => rw [hb, cdf] at h; cases h
theorem oJ {σ : St} {t : TypeId} {x : Value} {id off n : Nat} {cs : List Value} {m : Mta} (hr : σ.row id = some (cs, m)) (hs : hQ P t = some n)
    (hc : (m.wr && Nat.beq x.cells.size n && Nat.ble (off + n) cs.length && x.cells.toList.all one) = true) :
    bW P σ t (.pointer (some ⟨id, off, none⟩)) x = some (bmp (σ.put id (.cells (dJ cs off x.cells.toList) (mtaS m off))) m off) := by
 simp only [bW, hr, hs, hc, cdt, bmp, mtaS]
 cases hg : m.grp with
 | none => rfl
 | some gv =>
  obtain ⟨g, v⟩ := gv
  simp only
  cases hb : (m.tip && Nat.ble m.lim off) <;> rfl
theorem qO {σ σ' : St} {t : TypeId} {id off : Nat} {x : Value} (h : bW P σ t (.pointer (some ⟨id, off, none⟩)) x = some σ') : ∃ cs m n, σ.row id = some (cs, m) ∧ hQ P t = some n ∧
    (m.wr && Nat.beq x.cells.size n && Nat.ble (off + n) cs.length && x.cells.toList.all one) = true ∧ σ' = bmp (σ.put id (.cells (dJ cs off x.cells.toList) (mtaS m off))) m off := by
 cases hr : σ.row id with
 | none => simp [bW, hr] at h
 | some r =>
  obtain ⟨cs, m⟩ := r
  cases hs : hQ P t with
  | none => simp [bW, hr, hs] at h
  | some n =>
   cases hc : (m.wr && Nat.beq x.cells.size n && Nat.ble (off + n) cs.length && x.cells.toList.all one) with
   | false => simp only [bW, hr, hs, hc, cdf] at h; cases h
   | true => rw [oJ hr hs hc] at h; cases h; exact ⟨cs, m, n, rfl, rfl, hc, rfl⟩
theorem row_eq {σ σ' : St} {k : Nat} (h : σ'.get k = σ.get k) (hv : ∀ cs m, σ.get k = some (.cells cs m) → σ'.good m = σ.good m) : σ'.row k = σ.row k := by
 unfold St.row
 rw [h]
 split
 ·rename_i cs m hg; rw [hv cs m hg]
 ·rfl
theorem yX {σ σ1 σ2 : St} {t1 t2 : TypeId} {x1 x2 : Value} {i j o1 o2 : Nat}
    (h1 : bW P σ t1 (.pointer (some ⟨i, o1, none⟩)) x1 = some σ1) (h2 : bW P σ1 t2 (.pointer (some ⟨j, o2, none⟩)) x2 = some σ2) (hij : i ≠ j) (hg : ∃ cs m, σ2.get j = some (.cells cs m) ∧ m.grp = none) :
    ∃ σ1', bW P σ t2 (.pointer (some ⟨j, o2, none⟩)) x2 = some σ1' ∧ bW P σ1' t1 (.pointer (some ⟨i, o1, none⟩)) x1 = some σ2 := by
 obtain ⟨cs1, m1, n1, r1, s1, c1, rfl⟩ := qO h1
 obtain ⟨cs2, m2, n2, r2, s2, c2, rfl⟩ := qO h2
 have hgn : m2.grp = none := by
  obtain ⟨cs, m, hg1, hg2⟩ := hg
  rw [aEV, St.get_put, if_pos rfl] at hg1
  simp only [ojE, AObj.cells.injEq] at hg1
  refine aDF (off := o2) ?_
  rw [hg1.2]; exact hg2
 have hbm : ∀ s : St, bmp s m2 o2 = s := fun s => by unfold bmp; rw [hgn]
 have hms : mtaS m2 o2 = m2 := by unfold mtaS; rw [hgn]
 have hgood : ∀ s : St, s.good m2 = true := fun s => by unfold St.good; rw [hgn]
 have hget : σ.get j = some (.cells cs2 m2) := by
  have := (bA r2).1
  rw [aEV, St.get_put, if_neg (Ne.symm hij)] at this
  exact this
 have r2' : σ.row j = some (cs2, m2) := row_of_get hget (hgood σ)
 refine ⟨_, oJ r2' s2 c2, ?_⟩
 simp only [hbm, hms]
 have r1' : (σ.put j (.cells (dJ cs2 o2 x2.cells.toList) m2)).row i = some (cs1, m1) := by
  rw [← r1]
  exact row_eq (by rw [St.get_put, if_neg hij]) (fun cs m _ => rfl)
 rw [oJ r1' s1 c1, ← bmp_put, St.put_comm _ hij]
variable {ops : Array Oper}
theorem iZ (ops : Array Oper) (i k j : Nat) : (kF ops i k)[j]? = (ops[j]?).map fun o => bif Nat.beq j i then { o with after := o.after.push ⟨k, .data⟩ } else o := by
 unfold kF
 rw [List.getElem?_toArray, List.getElem?_map, List.getElem?_zipIdx]
 cases h : ops[j]? with
 | none => simp [h]
 | some o => simp [h]
theorem kC {i k j : Nat} (h : j ≠ i) : (kF ops i k)[j]? = ops[j]? := by
 rw [iZ]
 cases ops[j]? with
 | none => rfl
 | some o => simp only [omS, bP, decide_eq_false h, cdf]
theorem yY {i k : Nat} {o : Oper} (h : ops[i]? = some o) : (kF ops i k)[i]? = some { o with after := o.after.push ⟨k, .data⟩ } := by
 rw [iZ, h]
 simp only [omS, bP, decide_true, cdt]
theorem eE (i k : Nat) : (kF ops i k).size = ops.size := by simp [kF]
theorem aBo (i k j : Nat) : ((kF ops i k)[j]?).bind (·.dst) = (ops[j]?).bind (·.dst) := by
 rw [iZ]
 cases ops[j]? with
 | none => rfl
 | some o => cases Nat.beq j i <;> rfl
theorem aX (i k : Nat) (S : Slots) (o : Oper) : wanted (kF ops i k) S o = wanted ops S o := by
 unfold wanted
 split
 ·rfl
 ·rw [aBo]
theorem vM (i k : Nat) (tm : Array Value) : yielded (kF ops i k) tm = yielded ops tm := by
 funext j
 unfold yielded
 rw [aBo]
theorem aBn {i k : Nat} {o : Oper} (h : o ∈ (kF ops i k).toList) : ∃ o' ∈ ops.toList, ∀ N, fC P N o = fC P N o' := by
 obtain ⟨j, hj⟩ := List.getElem?_of_mem h
 have : (kF ops i k)[j]? = some o := by simpa using hj
 rw [iZ] at this
 cases ho : ops[j]? with
 | none => rw [ho] at this; cases this
 | some o' =>
  rw [ho] at this
  refine ⟨o', by have : ops.toList[j]? = some o' := (by simpa using ho); exact List.mem_of_getElem? this, fun N => ?_⟩
  cases hb : Nat.beq j i with
  | true => rw [omS, hb, cdt] at this; cases this; rfl
  | false => rw [omS, hb, cdf] at this; cases this; rfl
theorem lB {Q : Exit → Act → World → Prop} {i k j : Nat} {K : Act → World → Prop} {a : Act} {w : World} (h : wpOp P (kF ops i k) Q j K a w) : wpOp P ops Q j K a w := by
 unfold wpOp at h ⊢
 rw [vM, iZ] at h
 cases ho : ops[j]? with
 | none => rw [ho] at h; exact h
 | some o =>
  rw [ho] at h
  cases hb : Nat.beq j i with
  | true => rw [omS, hb, cdt] at h; exact h
  | false => rw [omS, hb, cdf] at h; exact h
theorem lC {i k j : Nat} {listed : Array Bool} (h : j ∈ Region.ready .any (kF ops i k) listed) : j ∈ Region.ready .any ops listed := by
 obtain ⟨h1, o, ho, hall⟩ := mem_ready.1 h
 rw [iZ] at ho
 cases ho' : ops[j]? with
 | none => rw [ho'] at ho; cases ho
 | some o' =>
  rw [ho'] at ho
  refine mem_ready.2 ⟨h1, o', ho', fun e he hb => hall e ?_ hb⟩
  cases hb : Nat.beq j i with
  | true => rw [omS, hb, cdt] at ho; cases ho; exact Array.mem_push_of_mem _ he
  | false => rw [omS, hb, cdf] at ho; cases ho; exact he
theorem fP {i k j : Nat} {listed : Array Bool} (h : j ∈ Region.ready .any ops listed) (hk : j ≠ i ∨ listed.getD k false = true) : j ∈ Region.ready .any (kF ops i k) listed := by
 obtain ⟨h1, o, ho, hall⟩ := mem_ready.1 h
 by_cases e : j = i
 ·subst e
  refine mem_ready.2 ⟨h1, _, yY ho, fun e he hb => ?_⟩
  rcases Array.mem_push.1 he with he | rfl
  ·exact hall e he hb
  ·exact hk.resolve_left (by simp)
 ·exact mem_ready.2 ⟨h1, o, by rw [kC e]; exact ho, hall⟩
theorem aDE {l : List Nat} (h : ∀ j, j ∉ l) : l = [] := by
 cases l with
 | nil => rfl
 | cons a l => exact absurd mhE (h a)
theorem pF {Q : Exit → Act → World → Prop} {i k : Nat} : ∀ (fuel : Nat) (listed : Array Bool) (a : Act) (w : World), listed.getD k false = true → wpAny P .any (kF ops i k) Q fuel listed a w → wpAny P .any ops Q fuel listed a w := by
 intro fuel
 induction fuel with
 | zero =>
  intro listed a w hk h
  exact ⟨aDE fun j hj => (by have := fP (i := i) hj (.inr hk); rw [h.1] at this; cases this), h.2⟩
 | succ fuel ih =>
  intro listed a w hk h
  refine ⟨fun hr => h.1 (aDE fun j hj => by have := lC hj; rw [hr] at this; cases this), fun j hj => ?_⟩
  refine wpOp_mono (fun a' w' h' => ih _ a' w' ?_ h') (lB (h.2 j (fP hj (.inr hk))))
  by_cases e : k = j
  ·subst e
   have := (mem_ready.1 hj).1
   obtain ⟨h2, h3⟩ := bS this
   rw [hk] at h2; cases h2
  ·rw [getD_set_ne false (Ne.symm e)]; exact hk
variable {call : FuncId → Array Value → St → Option (Value × St)} {ms m1 m2 : List Nat} {base : Nat} {S' : Slots} {σ' : St} {x y : Nat} {ox oy : Oper} {tx ty : TypeId} {ax ay vx vy : Operand}
theorem eO {o : Oper} {t : TypeId} {a v : Operand} (h : o.op = .store t a v) : aN o = .eff := by simp only [aN, h]
theorem eP {o : Oper} {t : TypeId} {a v : Operand} (h : o.op = .store t a v) (σ : St) (ρ : Operand → Value) (k : Nat) : vL P call σ ρ o k = (bW P σ t (ρ a) (ρ v)).map fun σ' => (undef, σ') := by simp only [vL, h]
structure TwH (ops : Array Oper) (x y : Nat) (ox oy : Oper) (tx ty : TypeId) (ax ay vx vy : Operand) : Prop where
 ne : x ≠ y
 hx : ops[x]? = some ox
 hy : ops[y]? = some oy
 opx : ox.op = .store tx ax vx
 opy : oy.op = .store ty ay vy
 gx : ox.guard = none
 gy : oy.guard = none
 dx : ox.dst = none
 dy : oy.dst = none
def Apart (S : Slots) (σ : St) (ax ay : Operand) : Prop := ∃ i o1 j o2, ev S ax = .pointer (some ⟨i, o1, none⟩) ∧ ev S ay = .pointer (some ⟨j, o2, none⟩) ∧ i ≠ j ∧ ∃ cs m, σ.get j = some (.cells cs m) ∧ m.grp = none
theorem aCP (H : TwH ops x y ox oy tx ty ax ay vx vy) : ∀ (pre : List Nat) (pend : List gV) (S : Slots) (σ : St),
    (∀ i ∈ pre, i ≠ x ∧ i ≠ y ∧ m1.getD i 0 = ms.getD i 0 ∧ m2.getD i 0 = ms.getD i 0 ∧ (aDP ops i = true ∨ (bit (m1.getD x 0) i = true ∧ bit (m2.getD y 0) i = true))) →
    (∀ p ∈ pend, bit (m1.getD x 0) p.i = true ∧ bit (m2.getD y 0) p.i = true) → bT P call ops ms base (pre ++ [x, y]) pend S σ = some (S', σ') → Apart S' σ' ax ay →
    ∃ (rp : List Rec) (Cp : List St) (Ep : List Nat) (rx ry sx sy : Rec) (σa σb σc : St), rp.map (·.i) = pre ∧ rx.i = x ∧ ry.i = y ∧ sx.i = x ∧ sy.i = y ∧ Cp.length = Ep.length ∧
      Cert P call (kF ops y x) m1 base S' σ' (rp ++ [rx, ry]) (Cp ++ [σa, σb, σ']) (Ep ++ [x, y]) pend S σ ∧
      Cert P call (kF ops x y) m2 base S' σ' (rp ++ [sy, sx]) (Cp ++ [σa, σc, σ']) (Ep ++ [y, x]) pend S σ := by
 intro pre
 induction pre with
 | nil =>
  intro pend S σ _ hp h hap
  have hwx : ∀ S, wanted ops S ox = true := fun S => by simp only [wanted, H.gx]
  have hwy : ∀ S, wanted ops S oy = true := fun S => by simp only [wanted, H.gy]
  simp only [nlA, bT, H.hx, H.hy, hwx, hwy, cdt, eO H.opx, eO H.opy, eP H.opx, eP H.opy, H.dx, H.dy, Slots.store] at h
  cases hc : pend.all (check P base σ) with
  | false => rw [hc] at h; cases h
  | true =>
   rw [hc, cdt] at h
   cases h1 : bW P σ tx (ev S ax) (ev S vx) with
   | none => rw [h1] at h; cases h
   | some σ1 =>
    rw [h1] at h
    simp only [omS] at h
    cases hc2 : (pend.filter fun r => !bit (ms.getD x 0) r.i).all (check P base σ1) with
    | false => rw [hc2] at h; cases h
    | true =>
     rw [hc2, cdt] at h
     cases h2 : bW P σ1 ty (ev S ay) (ev S vy) with
     | none => rw [h2] at h; cases h
     | some σ2 =>
      rw [h2] at h
      simp only [omS] at h
      obtain ⟨rfl, rfl⟩ : S = S' ∧ σ2 = σ' := by
       cases hc3 : ((pend.filter fun r => !bit (ms.getD x 0) r.i).filter fun r => !bit (ms.getD y 0) r.i).all (check P base σ2) with
       | false => rw [hc3] at h; cases h
       | true => rw [hc3, cdt] at h; cases h; exact ⟨rfl, rfl⟩
      obtain ⟨i, o1, j, o2, e1, e2, hij, hg⟩ := hap
      have hsw := h2
      rw [e2] at hsw
      have h1' := h1
      rw [e1] at h1'
      obtain ⟨σc, k1, k2⟩ := yX h1' hsw hij hg
      have hch : ∀ p ∈ pend, oT P base σ p := fun p hp' => nH (List.all_eq_true.1 hc p hp')
      have f1 : (pend.filter fun p => !bit (m1.getD x 0) p.i) = [] := List.filter_eq_nil_iff.2 fun p hp' => by rw [(hp p hp').1]; simp
      have f2 : (pend.filter fun p => !bit (m2.getD y 0) p.i) = [] := List.filter_eq_nil_iff.2 fun p hp' => by rw [(hp p hp').2]; simp
      refine ⟨[], [], [], ⟨x, ox, S, undef⟩, ⟨y, { oy with after := oy.after.push ⟨x, .data⟩ }, S, undef⟩, ⟨x, { ox with after := ox.after.push ⟨y, .data⟩ }, S, undef⟩, ⟨y, oy, S, undef⟩, σ, σ1, σc, rfl, rfl, rfl, rfl, rfl, rfl, ?_, ?_⟩
      ·refine .eff ⟨x, ox, S, undef⟩ _ _ _ pend σ σ1 (by rw [kC H.ne]; exact H.hx) (by rw [aX]; exact hwx S) (eO H.opx) hch ?_ ?_
       ·rw [eP H.opx]; show Option.map _ (bW P σ tx (ev S ax) (ev S vx)) = _; rw [h1]; rfl
       ·simp only [H.dx, Slots.store]
        rw [f1]
        refine .eff ⟨y, { oy with after := oy.after.push ⟨x, .data⟩ }, S, undef⟩ _ _ _ [] σ1 σ2 (yY H.hy) (by rw [aX]; exact hwy S) (eO H.opy) (fun p hp => by cases hp) ?_ ?_
        ·refine (eP (o := { oy with after := oy.after.push ⟨x, .data⟩ }) (show _ = _ from H.opy) σ1 (ev S) _).trans ?_; rw [h2]; rfl
        ·simp only [H.dy, Slots.store]
         exact .nil [] (fun p hp => by cases hp)
      ·refine .eff ⟨y, oy, S, undef⟩ _ _ _ pend σ σc (by rw [kC (Ne.symm H.ne)]; exact H.hy) (by rw [aX]; exact hwy S) (eO H.opy) hch ?_ ?_
       ·rw [eP H.opy]; show Option.map _ (bW P σ ty (ev S ay) (ev S vy)) = _; rw [e2, k1]; rfl
       ·simp only [H.dy, Slots.store]
        rw [f2]
        refine .eff ⟨x, { ox with after := ox.after.push ⟨y, .data⟩ }, S, undef⟩ _ _ _ [] σc σ2 (yY H.hx) (by rw [aX]; exact hwx S) (eO H.opx) (fun p hp => by cases hp) ?_ ?_
        ·refine (eP (o := { ox with after := ox.after.push ⟨y, .data⟩ }) (show _ = _ from H.opx) σc (ev S) _).trans ?_; rw [e1, k2]; rfl
        ·simp only [H.dx, Slots.store]
         exact .nil [] (fun p hp => by cases hp)
 | cons i pre ih =>
  intro pend S σ hpre hp h hap
  obtain ⟨hix, hiy, hm1, hm2, hor⟩ := hpre i (by simp)
  have hpre' := fun j hj => hpre j (mtE _ hj)
  simp only [cnA, bT] at h
  split at h <;> try cases h
  rename_i o ho
  have ho1 : (kF ops y x)[i]? = some o := by rw [kC hiy]; exact ho
  have ho2 : (kF ops x y)[i]? = some o := by rw [kC hix]; exact ho
  cases hw : wanted ops S o with
  | false =>
   rw [hw] at h
   simp only [cdf] at h
   obtain ⟨rp, Cp, Ep, rx, ry, sx, sy, σa, σb, σc, q1, q2, q3, q4, q5, q6, C1, C2⟩ := ih _ _ _ hpre' hp h hap
   exact ⟨⟨i, o, S, undef⟩ :: rp, Cp, Ep, rx, ry, sx, sy, σa, σb, σc, by simp [q1], q2, q3, q4, q5, q6,
    .skip ⟨i, o, S, undef⟩ _ _ _ pend σ ho1 (by rw [aX]; exact hw) rfl C1, .skip ⟨i, o, S, undef⟩ _ _ _ pend σ ho2 (by rw [aX]; exact hw) rfl C2⟩
  | true =>
   rw [hw] at h
   simp only [cdt] at h
   have hnp : ∀ {k : OK}, aN o = k → k ≠ .pure → bit (m1.getD x 0) i = true ∧ bit (m2.getD y 0) i = true := by
    intro k hk hne
    refine hor.resolve_left fun hpu => ?_
    unfold aDP at hpu
    rw [ho] at hpu
    simp only [hk] at hpu
    cases k <;> simp at hpu hne
   split at h
   ·rename_i hk
    split at h <;> try cases h
    rename_i v hv
    obtain ⟨rp, Cp, Ep, rx, ry, sx, sy, σa, σb, σc, q1, q2, q3, q4, q5, q6, C1, C2⟩ := ih _ _ _ hpre' hp h hap
    exact ⟨⟨i, o, S, v⟩ :: rp, Cp, Ep, rx, ry, sx, sy, σa, σb, σc, by simp [q1], q2, q3, q4, q5, q6,
     .pure ⟨i, o, S, v⟩ _ _ _ pend σ ho1 (by rw [aX]; exact hw) hk hv C1, .pure ⟨i, o, S, v⟩ _ _ _ pend σ ho2 (by rw [aX]; exact hw) hk hv C2⟩
   ·rename_i hk
    split at h <;> try cases h
    rename_i v hv
    obtain ⟨rp, Cp, Ep, rx, ry, sx, sy, σa, σb, σc, q1, q2, q3, q4, q5, q6, C1, C2⟩ := ih _ _ _ hpre' (fun p hp' => by
     rcases List.mem_cons.1 hp' with rfl | hp'
     ·exact hnp hk (by simp)
     ·exact hp p hp') h hap
    exact ⟨⟨i, o, S, v⟩ :: rp, Cp, Ep, rx, ry, sx, sy, σa, σb, σc, by simp [q1], q2, q3, q4, q5, q6,
     .read ⟨i, o, S, v⟩ _ _ _ pend σ ho1 (by rw [aX]; exact hw) hk C1, .read ⟨i, o, S, v⟩ _ _ _ pend σ ho2 (by rw [aX]; exact hw) hk C2⟩
   ·rename_i hk
    split at h <;> try cases h
    rename_i v ob hv
    obtain ⟨rp, Cp, Ep, rx, ry, sx, sy, σa, σb, σc, q1, q2, q3, q4, q5, q6, C1, C2⟩ := ih _ _ _ hpre' (fun p hp' => by
     rcases List.mem_cons.1 hp' with rfl | hp'
     ·exact hnp hk (by simp)
     ·exact hp p hp') h hap
    exact ⟨⟨i, o, S, v⟩ :: rp, Cp, Ep, rx, ry, sx, sy, σa, σb, σc, by simp [q1], q2, q3, q4, q5, q6,
     .alloc ⟨i, o, S, v⟩ _ _ _ pend σ ob ho1 (by rw [aX]; exact hw) hk hv C1, .alloc ⟨i, o, S, v⟩ _ _ _ pend σ ob ho2 (by rw [aX]; exact hw) hk hv C2⟩
   ·rename_i hk
    cases hc : pend.all (check P base σ) with
    | false => rw [hc] at h; cases h
    | true =>
     rw [hc] at h
     simp only [cdt] at h
     split at h <;> try cases h
     rename_i v σ1 hv
     obtain ⟨rp, Cp, Ep, rx, ry, sx, sy, σa, σb, σc, q1, q2, q3, q4, q5, q6, C1, C2⟩ := ih _ _ _ hpre' (fun p hp' => hp p (List.mem_filter.1 hp').1) h hap
     have hch : ∀ p ∈ pend, oT P base σ p := fun p hp' => nH (List.all_eq_true.1 hc p hp')
     refine ⟨⟨i, o, S, v⟩ :: rp, σ :: Cp, i :: Ep, rx, ry, sx, sy, σa, σb, σc, by simp [q1], q2, q3, q4, q5, by simp [q6], ?_, ?_⟩
     ·refine .eff ⟨i, o, S, v⟩ _ _ _ pend σ σ1 ho1 (by rw [aX]; exact hw) hk hch hv ?_
      simp only [hm1]; exact C1
     ·refine .eff ⟨i, o, S, v⟩ _ _ _ pend σ σ1 ho2 (by rw [aX]; exact hw) hk hch hv ?_
      simp only [hm2]; exact C2
theorem twin_ok {w0 : World} (hcall : eK w0 P call) {pre : List Nat} (H : TwH ops x y ox oy tx ty ax ay vx vy) (D1 : oR (kF ops y x) m1 (pre ++ [x, y])) (D2 : oR (kF ops x y) m2 (pre ++ [y, x])) {N n0 : Nat}
    (hok : ∀ o ∈ ops.toList, fC P N o = true) {rp : List Rec} {rx ry sx sy : Rec} {Cp : List St} {Ep : List Nat} {S0 : Slots} {σ0 σa σb σc : St} {μ0 : Mp} (hn0 : n0 ≤ base) (hrp : rp.map (·.i) = pre)
    (hrx : rx.i = x) (hry : ry.i = y) (hsx : sx.i = x) (hsy : sy.i = y) (hl : Cp.length = Ep.length)
    (C1 : Cert P call (kF ops y x) m1 base S' σ' (rp ++ [rx, ry]) (Cp ++ [σa, σb, σ']) (Ep ++ [x, y]) [] S0 σ0)
    (C2 : Cert P call (kF ops x y) m2 base S' σ' (rp ++ [sy, sx]) (Cp ++ [σa, σc, σ']) (Ep ++ [y, x]) [] S0 σ0)
    {Q : Exit → Act → World → Prop} (hpost : fW w0 P μ0 n0 N S' σ' (Q .normal)) :
    ∀ (fuel : Nat) (listed : Array Bool) (a : Act) (w : World) (μ : Mp) (k : Nat) (s : St), unl listed ≤ fuel → listed.getD x false = false → listed.getD y false = false →
      sS w0 P (kF ops y x) base N n0 S0 (rp ++ [rx, ry]) (Cp ++ [σa, σb, σ']) (Ep ++ [x, y]) μ0 listed a w μ k s → wpAny P .any ops Q fuel listed a w := by
 have hok1 : ∀ o ∈ (kF ops y x).toList, fC P N o = true := fun o ho => by obtain ⟨o', h1, h2⟩ := aBn (P := P) ho; rw [h2]; exact hok o' h1
 have hok2 : ∀ o ∈ (kF ops x y).toList, fC P N o = true := fun o ho => by obtain ⟨o', h1, h2⟩ := aBn (P := P) ho; rw [h2]; exact hok o' h1
 have hr1 : (rp ++ [rx, ry]).map (·.i) = pre ++ [x, y] := by simp [hrp, hrx, hry]
 have hr2 : (rp ++ [sy, sx]).map (·.i) = pre ++ [y, x] := by simp [hrp, hsx, hsy]
 have X1 := xX hcall D1 hok1 hn0 C1 hr1 hpost
 have X2 := xX hcall D2 hok2 hn0 C2 hr2 hpost
 obtain ⟨_, st1⟩ := qC hcall D1 hok1 hn0 C1 hr1 hpost
 have hyn : y < ops.size := (Array.getElem?_eq_some_iff.1 H.hy).1
 have other : ∀ (listed : Array Bool) (a : Act) (w : World) (μ : Mp) (k : Nat) (s : St), listed.getD x false = false → listed.getD y false = false →
      sS w0 P (kF ops y x) base N n0 S0 (rp ++ [rx, ry]) (Cp ++ [σa, σb, σ']) (Ep ++ [x, y]) μ0 listed a w μ k s → sS w0 P (kF ops x y) base N n0 S0 (rp ++ [sy, sx]) (Cp ++ [σa, σc, σ']) (Ep ++ [y, x]) μ0 listed a w μ k s := by
  intro listed a w μ k s hx hy G
  have hk : k ≤ Ep.length := by
   have := (G.count Ep.length x (by simp))
   rcases Nat.lt_or_ge Ep.length k with h | h
   ·rw [this.2 h] at hx; cases hx
   ·exact h
  have hrs : ∀ r, listed.getD r.i false = true → (r ∈ rp ++ [sy, sx] ↔ r ∈ rp ++ [rx, ry]) := by
   intro r hr
   have h1 : ∀ {z : Rec}, z.i = x → r ≠ z := fun e e' => by rw [e', e, hx] at hr; cases hr
   have h2 : ∀ {z : Rec}, z.i = y → r ≠ z := fun e e' => by rw [e', e, hy] at hr; cases hr
   simp [h1 hrx, h2 hry, h1 hsx, h2 hsy]
  refine ⟨by rw [G.size, eE, eE], ?_, ?_, ?_, G.sim, by have := G.next; rw [eE] at this ⊢; exact this, fun i hi => G.none i (by rw [eE] at hi ⊢; exact hi), G.ext, G.tsize, G.defers, ?_, ?_⟩
  ·intro i o e ho hli he hb
   have hix : i ≠ x := fun e => by rw [e, hx] at hli; cases hli
   have hiy : i ≠ y := fun e => by rw [e, hy] at hli; cases hli
   rw [kC hix] at ho
   exact G.closed i o e (by rw [kC hiy]; exact ho) hli he hb
  ·intro q e he
   rcases Nat.lt_or_ge q Ep.length with hq | hq
   ·rw [List.getElem?_append_left hq] at he
    exact G.count q e (by rw [List.getElem?_append_left hq]; exact he)
   ·rw [List.getElem?_append_right hq] at he
    have hef : listed.getD e false = false := by
     have := List.mem_of_getElem? he
     simp only [List.mem_cons, List.not_mem_nil, or_false] at this
     rcases this with rfl | rfl
     ·exact hy
     ·exact hx
    rw [hef]
    constructor
    ·intro h; cases h
    ·intro h; omega
  ·have := G.state
   rcases Nat.lt_or_ge k Cp.length with h | h
   ·rw [List.getElem?_append_left h] at this ⊢; exact this
   ·have hk' : k = Cp.length := by omega
    subst hk'
    rw [List.getElem?_append_right (nlR _)] at this ⊢
    simpa using this
  ·intro r hr hlr z hz
   exact G.here r ((hrs r hlr).1 hr) hlr z hz
  ·intro z hz
   exact G.there z fun r hr hlr => hz r ((hrs r hlr).2 hr) hlr
 intro fuel
 induction fuel with
 | zero =>
  intro listed a w μ k s hu hx hy G
  exfalso
  have h1 : listed.getD y true = false := by
   have hs : y < listed.size := by rw [G.size, eE]; exact hyn
   rw [Array.getD_eq_getD_getElem?, Array.getElem?_eq_getElem hs] at hy ⊢; simpa using hy
  have := qY h1; omega
 | succ fuel ih =>
  intro listed a w μ k s hu hx hy G
  have W1 := X1 (fuel + 1) listed a w μ k s hu G
  refine ⟨fun hr => W1.1 (aDE fun j hj => by have := lC hj; rw [hr] at this; cases this), fun j hj => ?_⟩
  have hun := (mem_ready.1 hj).1
  have hu' : unl (listed.setIfInBounds j true) ≤ fuel := by have := qY hun; omega
  have hjl := (bS hun).2
  by_cases ejx : j = x
  ·subst ejx
   refine lB (wpOp_mono (fun a' w' h' => pF _ _ a' w' ?_ h') (W1.2 j (fP hj (.inl H.ne))))
   rw [kX _ _ _ hjl, if_pos rfl]
  ·by_cases ejy : j = y
   ·subst ejy
    have W2 := X2 (fuel + 1) listed a w μ k s hu (other listed a w μ k s hx hy G)
    refine lB (wpOp_mono (fun a' w' h' => pF _ _ a' w' ?_ h') (W2.2 j (fP hj (.inl (Ne.symm H.ne)))))
    rw [kX _ _ _ hjl, if_pos rfl]
   ·refine lB (wpOp_mono ?_ (st1 listed a w μ k s G j (fP hj (.inl ejy))))
    rintro a' w' ⟨μ', k', s', G'⟩
    exact ih _ a' w' μ' k' s' hu' (by rw [kX _ _ _ hjl, if_neg (Ne.symm ejx)]; exact hx) (by rw [kX _ _ _ hjl, if_neg (Ne.symm ejy)]; exact hy) G'
theorem aD8 : ∀ {a b : List Nat}, eqN a b = true → a = b
 | [], [], _ => rfl
 | x :: xs, y :: ys, h => by simp only [eqN, bP, bjE, djE] at h; rw [h.1, aD8 h.2]
 | [], _ :: _, h => by simp [eqN] at h
 | _ :: _, [], h => by simp [eqN] at h
theorem twin_inv {a b : Operand} (h : twin ops = some (a, b)) : 2 ≤ ops.size ∧ ∃ ox oy tx ty vx vy, TwH ops (ops.size - 2) (ops.size - 1) ox oy tx ty a b vx vy := by
 unfold twin at h
 split at h
 ·rename_i ox oy hx hy
  split at h
  ·rename_i tx a' vx ty b' vy e1 e2 e3 e4 e5 e6
   cases hb : (Nat.blt ops.size 2 || bit ((cG ops.toList []).getD (ops.size - 1) 0) (ops.size - 2)) with
   | true => rw [hb] at h; cases h
   | false =>
    rw [hb, cdf] at h
    simp only [ojE, pjE] at h
    obtain ⟨rfl, rfl⟩ := h
    simp only [Bool.or_eq_false_iff, fS, dfN] at hb
    exact ⟨by omega, ox, oy, tx, ty, vx, vy, ⟨by omega, hx, hy, e1, e2, e3, e4, e5, e6⟩⟩
  ·cases h
 ·cases h
theorem okTw_inv {a b : Operand} {S : Slots} {σ : St} (h : twin ops = some (a, b)) (hk : okTw ops S σ = true) : Apart S σ a b := by
 unfold okTw at hk
 rw [h] at hk
 simp only at hk
 split at hk
 ·rename_i i o1 j o2 e1 e2
  simp only [bjE, Bool.not_eq_true', bP, dfN] at hk
  refine ⟨i, o1, j, o2, e1, e2, hk.1, ?_⟩
  have h2 := hk.2
  split at h2
  ·rename_i cs m hg
   exact ⟨cs, m, hg, by simpa using h2⟩
  ·cases h2
 ·cases hk
end
end Go.AI
namespace Go.AI
section
variable {w0 : World} {P : Program} {call : FuncId → Array Value → St → Option (Value × St)}
theorem aC5 (hcall : eK w0 P call) (hfol : P.toTables.follows .mixedOrders = true) {N id : Nat} {ops : Array Oper} {draw : Bool} {S S' : Slots} {σ σ' : St} {a : Act} {w : World} {μ : Mp} {Q : Exit → Act → World → Prop}
    (h : hY P call ops draw S σ = some (S', σ')) (hok : cA P N (.region id ops draw) = true) (A : AR μ S N a) (Z : Sim w0 P μ σ w) (hpost : fW w0 P μ σ.next N S' σ' (Q .normal)) :
    (Code.region id ops draw).wp P Q a w := by
 simp only [cA, bjE, List.all_eq_true, Bool.or_eq_true, Bool.not_eq_true'] at hok
 obtain ⟨hops, hdr⟩ := hok
 unfold hY at h
 have hnone : ∀ j, μ (σ.next + j) = none := fun j => Z.dom _ (by omega)
 cases draw with
 | false =>
  simp only [cdf] at h
  refine wp_region ?_
  rw [List.range_eq_range']
  have := aC3 (Q := Q) (w0 := w0) hcall (ops := ops) (base := σ.next) (N := N) (n0 := σ.next) (nlR _) hops ops.toList 0 S S' { σ with next := σ.next + ops.size } σ' a w μ μ (by simp) (by simp) A (Z.next (Nat.le_add_right _ _))
   (Ext.refl _ _) (nlR _) (fun j _ _ => hnone j) h hpost
  simpa using this
 | true =>
  simp only [cdt] at h
  have hD := hdr.resolve_left (by simp)
  have Z' : Sim w0 P μ { σ with next := σ.next + ops.size } { w with drawn := w.drawn + 1 } := (Z.next (Nat.le_add_right _ _)).drawn _
  have hrep : ∀ i, (Array.replicate ops.size false).getD i false = false := fun i => by
   rw [Array.getD_eq_getD_getElem?]
   by_cases hi : i < ops.size
   ·simp [hi]
   ·simp [hi]
  have hunl : unl (Array.replicate ops.size false) ≤ ops.size := by
   unfold unl; simp only [Array.toList_replicate]; exact Nat.le_trans (List.length_filter_le _ _) (by simp)
  unfold rS at hD
  cases ht : twin ops with
  | none =>
   rw [ht] at hD
   simp only at hD
   have h' : bT P call ops (cG ops.toList []) σ.next (mG ops (cG ops.toList [])) [] S { σ with next := σ.next + ops.size } = some (S', σ') := by
    cases hr : bT P call ops (cG ops.toList []) σ.next (mG ops (cG ops.toList [])) [] S { σ with next := σ.next + ops.size } with
    | none => rw [hr] at h; cases h
    | some r =>
     rw [hr] at h
     simp only [fitTw, okTw, ht, cdt] at h
     exact h
   obtain ⟨rs, Cs, Es, hrs, C⟩ := yP _ _ _ _ h'
   obtain ⟨s, hs0, hsn, htr⟩ := C.first (w0 := w0)
   refine wp_region_any hfol (xX hcall (drawOK hD) hops (nlR _) C hrs hpost ops.size (Array.replicate ops.size false) a _ μ 0 s hunl ?_)
   refine ⟨by simp, fun i o e _ hl => ?_, fun q e _ => ?_, hs0, htr μ _ (fun r _ => hnone r.i) Z', ?_, fun i _ _ => hnone i, Ext.refl _ _, A.size, A.defers, fun r _ hl => ?_, fun x _ => A.slot x⟩
   ·rw [hrep] at hl; cases hl
   ·rw [hrep]; simp
   ·rw [hsn]; exact nlR _
   ·rw [hrep] at hl; cases hl
  | some ab =>
   obtain ⟨b1, b2⟩ := ab
   rw [ht] at hD
   simp only at hD
   obtain ⟨h2n, ox, oy, tx, ty, vx, vy, H⟩ := twin_inv ht
   simp only [aDu, bjE] at hD
   obtain ⟨⟨⟨⟨_, hcan⟩, hD1⟩, hD2⟩, hpre⟩ := hD
   have hcan := aD8 hcan
   generalize (mG ops (cG ops.toList [])).take (ops.size - 2) = pre at *
   obtain ⟨h', hap⟩ : bT P call ops (cG ops.toList []) σ.next (pre ++ [ops.size - 2, ops.size - 1]) [] S { σ with next := σ.next + ops.size } = some (S', σ') ∧ Apart S' σ' b1 b2 := by
    rw [hcan] at h
    cases hr : bT P call ops (cG ops.toList []) σ.next (pre ++ [ops.size - 2, ops.size - 1]) [] S { σ with next := σ.next + ops.size } with
    | none => rw [hr] at h; cases h
    | some r =>
     rw [hr] at h
     simp only [fitTw] at h
     cases hk : okTw ops r.1 r.2 with
     | false => rw [hk] at h; cases h
     | true => rw [hk, cdt] at h; cases h; exact ⟨rfl, okTw_inv ht hk⟩
   rw [List.all_eq_true] at hpre
   obtain ⟨rp, Cp, Ep, rx, ry, sx, sy, σa, σb, σc, q1, q2, q3, q4, q5, q6, C1, C2⟩ := aCP H pre [] S { σ with next := σ.next + ops.size } (fun i hi => by
    have := hpre i hi
    simp only [bjE, Bool.or_eq_true, bP, fS, djE] at this
    obtain ⟨⟨⟨h1, h2⟩, h3⟩, h4⟩ := this
    exact ⟨by omega, by omega, h1, h2, h4⟩) (fun p hp => by cases hp) h' hap
   obtain ⟨s, hs0, hsn, htr⟩ := C1.first (w0 := w0)
   refine wp_region_any hfol (twin_ok hcall H (xY hD1) (xY hD2) hops (nlR _) q1 q2 q3 q4 q5 q6 C1 C2 hpost ops.size (Array.replicate ops.size false) a _ μ 0 s hunl (hrep _) (hrep _) ?_)
   refine ⟨by simp [eE], fun i o e _ hl => ?_, fun q e _ => ?_, hs0, htr μ _ (fun r _ => hnone r.i) Z', ?_, fun i _ _ => hnone i, Ext.refl _ _, A.size, A.defers, fun r _ hl => ?_, fun x _ => A.slot x⟩
   ·rw [hrep] at hl; cases hl
   ·rw [hrep]; simp
   ·rw [hsn, eE]; exact nlR _
   ·rw [hrep] at hl; cases hl
def Fl.out : Fl → Exit
 | .normal => .normal
 | .exit n => .exit n
 | .ret => .ret
def Post (w0 : World) (P : Program) (μ : Mp) (n N : Nat) (S' : Slots) (σ' : St) (K : Act → World → Prop) : Prop :=
 ∀ a' w' μ', AR μ' S' N a' → Sim w0 P μ' σ' w' → Ext n μ μ' → n ≤ σ'.next → K a' w'
theorem Post.later {μ μ' : Mp} {n n' N : Nat} {S' : Slots} {σ' : St} {K : Act → World → Prop} (h : Post w0 P μ n N S' σ' K) (hE : Ext n μ μ') (hn : n ≤ n') : Post w0 P μ' n' N S' σ' K :=
 fun a' w' μ'' A Z E hl => h a' w' μ'' A Z (hE.trans E hn) (by omega)
theorem aD5 (hcall : eK w0 P call) (hfol : P.toTables.follows .mixedOrders = true) (L N : Nat) : ∀ (c : Code) (S : Slots) (σ : St) (fl : Fl) (S' : Slots) (σ' : St) (a : Act) (w : World) (μ : Mp) (Q : Exit → Act → World → Prop),
    gY P call L c S σ = some (fl, S', σ') → cA P N c = true → AR μ S N a → Sim w0 P μ σ w → Post w0 P μ σ.next N S' σ' (Q fl.out) → c.wp P Q a w := by
 intro c
 induction c with
 | skip =>
  intro S σ fl S' σ' a w μ Q h _ A Z hp
  simp only [gY, ojE, pjE] at h
  obtain ⟨rfl, rfl, rfl⟩ := h
  exact wp_skip (hp a w μ A Z (Ext.refl _ _) (nlR _))
 | label l =>
  intro S σ fl S' σ' a w μ Q h _ A Z hp
  simp only [gY, ojE, pjE] at h
  obtain ⟨rfl, rfl, rfl⟩ := h
  exact wp_label (hp a w μ A Z (Ext.refl _ _) (nlR _))
 | region id ops draw =>
  intro S σ fl S' σ' a w μ Q h hok A Z hp
  simp only [gY, mjE] at h
  obtain ⟨⟨S1, σ1⟩, h, e⟩ := h
  cases e
  exact aC5 hcall hfol h hok A Z hp
 | seq x y ihx ihy =>
  intro S σ fl S' σ' a w μ Q h hok A Z hp
  simp only [cA, bjE] at hok
  simp only [gY] at h
  refine wp_seq ?_
  cases hx : gY P call L x S σ with
  | none => simp [hx] at h
  | some r =>
   obtain ⟨f1, S1, σ1⟩ := r
   simp only [hx] at h
   cases f1 with
   | normal =>
    simp only at h
    exact ihx S σ .normal S1 σ1 a w μ _ hx hok.1 A Z (fun a' w' μ' A' Z' E hn => ihy S1 σ1 fl S' σ' a' w' μ' Q h hok.2 A' Z' (hp.later E hn))
   | exit n =>
    simp only [ojE, pjE] at h
    obtain ⟨rfl, rfl, rfl⟩ := h
    exact ihx S σ (.exit n) S1 σ1 a w μ _ hx hok.1 A Z hp
   | ret =>
    simp only [ojE, pjE] at h
    obtain ⟨rfl, rfl, rfl⟩ := h
    exact ihx S σ .ret S1 σ1 a w μ _ hx hok.1 A Z hp
 | cond c x y ihx ihy =>
  intro S σ fl S' σ' a w μ Q h hok A Z hp
  simp only [cA, bjE] at hok
  simp only [gY] at h
  have hv := ev_ok A Z hok.1.1
  split at h <;> try cases h
  ·rename_i hc
   rw [hc] at hv
   exact wp_cond_true hv.bool_inv (ihx S σ fl S' σ' a w μ Q h hok.1.2 A Z hp)
  ·rename_i hc
   rw [hc] at hv
   exact wp_cond_false hv.bool_inv (ihy S σ fl S' σ' a w μ Q h hok.2 A Z hp)
 | block id c ih =>
  intro S σ fl S' σ' a w μ Q h hok A Z hp
  simp only [cA] at hok
  simp only [gY] at h
  refine wp_block ?_
  cases hx : gY P call L c S σ with
  | none => simp [hx] at h
  | some r =>
   obtain ⟨f1, S1, σ1⟩ := r
   simp only [hx] at h
   cases f1 with
   | normal =>
    simp only [ojE, pjE] at h
    obtain ⟨rfl, rfl, rfl⟩ := h
    exact ih S σ .normal S1 σ1 a w μ _ hx hok A Z hp
   | ret =>
    simp only [ojE, pjE] at h
    obtain ⟨rfl, rfl, rfl⟩ := h
    exact ih S σ .ret S1 σ1 a w μ _ hx hok A Z hp
   | exit n =>
    simp only [bP, Bool.cond_decide] at h
    split at h
    ·rename_i hn
     simp only [ojE, pjE] at h
     obtain ⟨rfl, rfl, rfl⟩ := h
     exact ih S σ (.exit n) S1 σ1 a w μ _ hx hok A Z (fun a' w' μ' A' Z' E hl => by
      show Exit.inBlock id Q (.exit n) a' w'
      simp only [Exit.inBlock, if_pos hn]; exact hp a' w' μ' A' Z' E hl)
    ·rename_i hn
     simp only [ojE, pjE] at h
     obtain ⟨rfl, rfl, rfl⟩ := h
     exact ih S σ (.exit n) S1 σ1 a w μ _ hx hok A Z (fun a' w' μ' A' Z' E hl => by
      show Exit.inBlock id Q (.exit n) a' w'
      simp only [Exit.inBlock, if_neg hn]; exact hp a' w' μ' A' Z' E hl)
 | loop c ih =>
  intro S σ fl S' σ' a w μ Q h hok A Z hp
  simp only [cA] at hok
  simp only [gY] at h
  refine wp_loop_rounds L ?_
  have main : ∀ (n : Nat) (S : Slots) (σ : St) (a : Act) (w : World) (μ : Mp), iter (fun S σ => gY P call L c S σ) n S σ = some (fl, S', σ') → AR μ S N a → Sim w0 P μ σ w → Post w0 P μ σ.next N S' σ' (Q fl.out) → Code.rounds P c Q n a w := by
   intro n
   induction n with
   | zero => intro S σ a w μ h; simp [iter] at h
   | succ n ihn =>
    intro S σ a w μ h A Z hp
    rw [rounds_succ]
    simp only [iter] at h
    cases hx : gY P call L c S σ with
    | none => simp [hx] at h
    | some r =>
     obtain ⟨f1, S1, σ1⟩ := r
     simp only [hx] at h
     cases f1 with
     | normal =>
      simp only at h
      exact ih S σ .normal S1 σ1 a w μ _ hx hok A Z (fun a' w' μ' A' Z' E hl => ihn S1 σ1 a' w' μ' h A' Z' (hp.later E hl))
     | exit n =>
      simp only [ojE, pjE] at h
      obtain ⟨rfl, rfl, rfl⟩ := h
      exact ih S σ (.exit n) S1 σ1 a w μ _ hx hok A Z hp
     | ret =>
      simp only [ojE, pjE] at h
      obtain ⟨rfl, rfl, rfl⟩ := h
      exact ih S σ .ret S1 σ1 a w μ _ hx hok A Z hp
  exact main L S σ a w μ h A Z hp
 | exit n =>
  intro S σ fl S' σ' a w μ Q h _ A Z hp
  simp only [gY, ojE, pjE] at h
  obtain ⟨rfl, rfl, rfl⟩ := h
  exact wp_exit (hp a w μ A Z (Ext.refl _ _) (nlR _))
 | ret =>
  intro S σ fl S' σ' a w μ Q h _ A Z hp
  simp only [gY, ojE, pjE] at h
  obtain ⟨rfl, rfl, rfl⟩ := h
  exact wp_ret (hp a w μ A Z (Ext.refl _ _) (nlR _))
 | scope c ih =>
  intro S σ fl S' σ' a w μ Q h hok A Z hp
  simp only [cA] at hok
  simp only [gY] at h
  refine wp_scope_straight (ih S σ fl S' σ' a w μ _ h hok A Z ?_)
  cases fl <;> exact hp
 | goto l => intro S σ fl S' σ' a w μ Q h; simp [gY] at h
 | refuse s => intro S σ fl S' σ' a w μ Q h; simp [gY] at h
 | rangeFunc x ts c d _ _ => intro S σ fl S' σ' a w μ Q h; simp [gY] at h
theorem aA4 : ∀ (l : List Value) (i : Nat) (S : Slots) (k : Nat), (oE l i S).at k = if i ≤ k ∧ k < i + l.length then (l[k - i]?).getD undef else S.at k := by
 intro l
 induction l with
 | nil => intro i S k; rw [oE, if_neg (by simp)]
 | cons v l ih =>
  intro i S k
  rw [oE, ih]
  simp only [lcS]
  by_cases h1 : i + 1 ≤ k ∧ k < i + 1 + l.length
  ·rw [if_pos h1, if_pos (by omega), show k - i = (k - (i + 1)) + 1 by omega]; simp
  ·rw [if_neg h1]
   by_cases h2 : k = i
   ·subst h2
    rw [if_pos (by omega)]
    simp [Slots.at, Tr.get_set]
   ·rw [if_neg (by omega)]
    simp [Slots.at, Tr.get_set, h2]
theorem aC4 {S : Slots} {N : Nat} {a : Act} {σ : St} {w : World} {μ : Mp} (A : AR μ S N a) (Z : Sim w0 P μ σ w) {r : ResultVar} {v : Value} (h : pQ P S σ r = some v) :
    ∃ v', (match r with | .tmp t => (pure (a.tmps.getD t undef) : Sem Value) | .cell x t => do loadVar t (← asAddr (a.tmps.getD x undef))).run P w = .ok v' w ∧ VR μ v v' := by
 cases r with
 | tmp t => simp only [pQ, ojE] at h; subst h; exact ⟨_, rfl, A.slot t⟩
 | cell x t =>
  simp only [pQ] at h
  have hx := A.slot x
  obtain ⟨v', h1, h2⟩ := aBk Z hx h
  refine ⟨v', ?_, h2⟩
  unfold iL at h
  split at h <;> try cases h
  rename_i id off hS
  rw [hS] at hx
  obtain ⟨p, hp, hu⟩ := hx.ptr_inv
  rw [hu] at h1
  simp only
  rw [hu]
  simpa [Instr.loadAt, Instr.sureAddr, asAddr] using h1
theorem aBF {S : Slots} {N : Nat} {a : Act} {σ : St} {w : World} {μ : Mp} (A : AR μ S N a) (Z : Sim w0 P μ σ w) : ∀ (l : List ResultVar) (vs : List Value), bR P S σ l = some vs →
    ∃ us, (l.mapM (fun (r : ResultVar) => (match r with | .tmp t => (pure (a.tmps.getD t undef) : Sem Value) | .cell x t => do loadVar t (← asAddr (a.tmps.getD x undef))))).run P w = .ok us w ∧ VRL μ vs us := by
 intro l
 induction l with
 | nil => intro vs h; simp only [bR, ojE] at h; subst h; exact ⟨[], rfl, .nil⟩
 | cons r l ih =>
  intro vs h
  simp only [bR] at h
  split at h <;> try cases h
  rename_i v vs' hv hvs
  obtain ⟨u, h1, h2⟩ := aC4 A Z hv
  obtain ⟨us, h3, h4⟩ := ih vs' hvs
  refine ⟨u :: us, ?_, .cons h2 h4⟩
  rw [List.mapM_cons]
  simp only [Sem.run_bind, h1, Result.andThen_ok, h3, Sem.run_pure]
theorem aE0 {fn : Func} {S : Slots} {N : Nat} {a : Act} {σ : St} {w : World} {μ : Mp} (A : AR μ S N a) (Z : Sim w0 P μ σ w) {vs : List Value} (h : bR P S σ fn.results.toList = some vs) :
    ∃ v', (results fn a.tmps).run P w = .ok v' w ∧ VR μ (jK vs) v' := by
 obtain ⟨us, h1, h2⟩ := aBF A Z _ _ h
 unfold results
 rw [Array.mapM_eq_mapM_toList]
 simp only [Sem.run_bind, Sem.run_map]
 have h1' : (List.mapM (fun (r : ResultVar) => (match r with | .tmp t => (pure (a.tmps.getD t undef) : Sem Value) | .cell x t => do let __do_lift ← asAddr (a.tmps.getD x undef); loadVar t __do_lift)) fn.results.toList).run P w = .ok us w := h1
 erw [h1']
 simp only [Result.andThen_ok, Sem.run_pure]
 refine ⟨_, rfl, ?_⟩
 match vs, us, h2 with
 | [], us, h2 => rw [h2.nil_inv]; exact .mkTuple .nil
 | [v], us, h2 =>
  obtain ⟨u, us', rfl, h3, h4⟩ := h2.cons_inv
  rw [h4.nil_inv]
  exact h3
 | v1 :: v2 :: vs, us, h2 =>
  have hl := h2.1
  rw [dif_neg (by simp only [List.size_toArray, ← hl, lcS]; omega)]
  exact .mkTuple h2
end
end Go.AI
namespace Go.AI
section
variable {P : Program}
def wpx (P : Program) (c : Code) (S : Slots) (σ : St) (Q : Fl → Slots → St → Prop) : Prop := ∃ n fl S' σ', gY P (callF P n n) n c S σ = some (fl, S', σ') ∧ Q fl S' σ'
def wpo (P : Program) (ops : Array Oper) (base : Nat) (l : List Oper) (i : Nat) (S : Slots) (σ : St) (Q : Slots → St → Prop) : Prop := ∃ n S' σ', jG P (callF P n n) ops base l i S σ = some (S', σ') ∧ Q S' σ'
end
end Go.AI
namespace Go.AI
section
variable {P : Program} {ops : Array Oper} {base i : Nat} {l : List Oper} {S : Slots} {σ : St} {Q : Slots → St → Prop} {d : Option Tmp} {ty : TypeId} {pos : String} {af : Array Edge}
def fX (P : Program) (op : BinOp) (t : TypeId) (x y : Operand) (a b : Value) : Option Value :=
 bif aO a && aO b then aT P (do eqGuard op t x y a b; binOp op t a b)
 else match P.underlying t with
  | some (.slice _) => anil op a b
  | _ => none
def aconv (P : Program) (s t : TypeId) (a : Value) : Option Value := bif aC a then aT P (convert s t a) else none
end
end Go.AI
namespace Go.AI
section
variable {P : Program} {S : Slots} {σ : St} {Q : Fl → Slots → St → Prop}
def St.more (σ : St) (n : Nat) : St := { σ with next := σ.next + n }
theorem tT {n : Nat} : (σ.more n).next = σ.next + n := rfl
theorem ver_more {n g : Nat} : (σ.more n).ver g = σ.ver g := rfl
def done (P : Program) (rs : List ResultVar) (Q : Value → St → Prop) : Fl → Slots → St → Prop
 | .exit _, _, _ => False
 | _, S, σ => ∃ vs, bR P S σ rs = some vs ∧ Q (jK vs) σ
def cnd (P : Program) (v : Value) (a b : Code) (S : Slots) (σ : St) (Q : Fl → Slots → St → Prop) : Prop :=
 match v with
 | .bool t => if t = true then wpx P a S σ Q else wpx P b S σ Q
 | _ => False
def cont (P : Program) (ops : Array Oper) (base : Nat) (l : List Oper) (i : Nat) (S : Slots) (d : Option Tmp) (Q : Slots → St → Prop) : Value → St → Prop := fun v σ1 => wpo P ops base l i (S.store d v) σ1 Q
section
variable {t : TypeId} {x y : Operand} {k : IntKind} {a b : Int}
theorem n_lss : fX P .lss t x y (.int k a) (.int k b) = some (.bool (decide (a < b))) := by cases k <;> rfl
theorem n_leq : fX P .leq t x y (.int k a) (.int k b) = some (.bool (decide (a ≤ b))) := by cases k <;> rfl
theorem n_gtr : fX P .gtr t x y (.int k a) (.int k b) = some (.bool (decide (b < a))) := by cases k <;> rfl
theorem n_geq : fX P .geq t x y (.int k a) (.int k b) = some (.bool (decide (b ≤ a))) := by cases k <;> rfl
theorem n_eql : fX P .eql t x y (.int k a) (.int k b) = some (.bool (a == b)) := by cases k <;> rfl
theorem n_neq : fX P .neq t x y (.int k a) (.int k b) = some (.bool (a != b)) := by cases k <;> rfl
theorem n_add : fX P .add t x y (.int k a) (.int k b) = some (.int k (k.wrap (a + b))) := by cases k <;> rfl
theorem n_sub : fX P .sub t x y (.int k a) (.int k b) = some (.int k (k.wrap (a - b))) := by cases k <;> rfl
theorem n_mul : fX P .mul t x y (.int k a) (.int k b) = some (.int k (k.wrap (a * b))) := by cases k <;> rfl
theorem n_quo (h : b ≠ 0) : fX P .quo t x y (.int k a) (.int k b) = some (.int k (k.wrap (a.tdiv b))) := by
 cases k <;> simp [fX, aO, aC, aT, aA, eqGuard, binOp, Op.intDiv, h, aB]
theorem n_rem (h : b ≠ 0) : fX P .rem t x y (.int k a) (.int k b) = some (.int k (a.tmod b)) := by
 cases k <;> simp [fX, aO, aC, aT, aA, eqGuard, binOp, Op.intDiv, h, aB]
theorem n_shl {k' : IntKind} (h : 0 ≤ b) : fX P .shl t x y (.int k a) (.int k' b) = some (.int k (k.wrap (a * 2 ^ (min b.toNat k.bits)))) := by
 have : ¬ b < 0 := by omega
 cases k <;> simp [fX, aO, aC, aT, aA, eqGuard, binOp, Op.shift, this, aB]
theorem n_shr {k' : IntKind} (h : 0 ≤ b) : fX P .shr t x y (.int k a) (.int k' b) = some (.int k (a.fdiv (2 ^ (min b.toNat k.bits)))) := by
 have : ¬ b < 0 := by omega
 cases k <;> simp [fX, aO, aC, aT, aA, eqGuard, binOp, Op.shift, this, aB]
theorem n_and : fX P .and t x y (.int k a) (.int k b) = some (.int k (k.wrap ((BitVec.ofInt k.bits a &&& BitVec.ofInt k.bits b).toNat : Int))) := by cases k <;> rfl
theorem n_or : fX P .or t x y (.int k a) (.int k b) = some (.int k (k.wrap ((BitVec.ofInt k.bits a ||| BitVec.ofInt k.bits b).toNat : Int))) := by cases k <;> rfl
theorem n_xor : fX P .xor t x y (.int k a) (.int k b) = some (.int k (k.wrap ((BitVec.ofInt k.bits a ^^^ BitVec.ofInt k.bits b).toNat : Int))) := by cases k <;> rfl
theorem n_andNot : fX P .andNot t x y (.int k a) (.int k b) = some (.int k (k.wrap ((BitVec.ofInt k.bits a &&& ~~~ BitVec.ofInt k.bits b).toNat : Int))) := by cases k <;> rfl
theorem aD6 {c e : Bool} (ht : P.underlying t = some .bool) : aJ P (Op.equal t (.bool c) (.bool e)) = some (c == e) := by
 unfold Op.equal
 rw [show Op.maxDepth = Nat.succ 9999 from rfl, Op.equalIn.eq_2, aA, aD, ht]; rfl
theorem n_eqb {c e : Bool} (ht : P.underlying t = some .bool) : fX P .eql t x y (.bool c) (.bool e) = some (.bool (c == e)) := by
 simp only [fX, aO, aC, Bool.and_self, cdt, aT, aA, eqGuard, bnT, Bool.false_eq_true, if_false, aB, obS, binOp, aD6 ht]
theorem n_neb {c e : Bool} (ht : P.underlying t = some .bool) : fX P .neq t x y (.bool c) (.bool e) = some (.bool (!(c == e))) := by
 simp only [fX, aO, aC, Bool.and_self, cdt, aT, aA, eqGuard, bnT, Bool.false_eq_true, if_false, aB, obS, binOp, aD6 ht]
theorem n_conv {s : TypeId} {d : TypeDesc} {k' : IntKind} (hs : P.underlying s = some d) (ht : P.underlying t = some (.int k')) : aconv P s t (.int k a) = some (.int k' (k'.wrap a)) := by
 unfold aconv
 simp only [aC, cdt, aT, convert, aA, aD, hs, ht, obS, Conv.intToInt, aB, aO]
end
def Fr (σ : St) : Prop := ∀ g, σ.next ≤ g → σ.ver g = 0
structure EXn (n : Nat) (σ σ' : St) : Prop where
 next : σ.next ≤ σ'.next
 get : ∀ id, id < n → σ'.get id = σ.get id
 row : ∀ id, id < n → σ'.row id = σ.row id
 fr : Fr σ → Fr σ'
 ver : ∀ g, g < n → σ'.ver g = σ.ver g
theorem EXn.refl (n : Nat) (σ : St) : EXn n σ σ := ⟨nlR _, fun _ _ => rfl, fun _ _ => rfl, id, fun _ _ => rfl⟩
theorem EXn.trans {n : Nat} {a b c : St} (h : EXn n a b) (k : EXn n b c) : EXn n a c := ⟨Nat.le_trans h.next k.next, fun id hi => (k.get id hi).trans (h.get id hi), fun id hi => (k.row id hi).trans (h.row id hi), fun hf => k.fr (h.fr hf), fun g hg => (k.ver g hg).trans (h.ver g hg)⟩
theorem EXn.weak {n m : Nat} {a b : St} (h : EXn n a b) (hm : m ≤ n) : EXn m a b := ⟨h.next, fun id hi => h.get id (by omega), fun id hi => h.row id (by omega), h.fr, fun g hg => h.ver g (by omega)⟩
theorem EXn.more {n : Nat} {a σ : St} (h : EXn n a σ) (k : Nat) : EXn n a (σ.more k) := ⟨by have := h.next; rw [tT]; omega, h.get, h.row, fun hf g hg => by rw [ver_more]; exact h.fr hf g (by rw [tT] at hg; omega), h.ver⟩
theorem EXn.put {n : Nat} {a σ : St} (h : EXn n a σ) {id : Nat} (hid : n ≤ id) (ob : AObj) : EXn n a (σ.put id ob) := by
 refine ⟨h.next, fun k hk => ?_, fun k hk => ?_, h.fr, h.ver⟩
 ·rw [St.get_put, if_neg (by omega)]; exact h.get k hk
 ·have e : (σ.put id ob).row k = σ.row k := by
   unfold St.row
   rw [St.get_put, if_neg (by omega)]; rfl
  rw [e]; exact h.row k hk
abbrev EX (σ σ' : St) : Prop := EXn σ.next σ σ'
theorem EX.refl (σ : St) : EX σ σ := EXn.refl _ σ
theorem EX.trans {a b c : St} (h : EX a b) (k : EX b c) : EX a c := EXn.trans h (k.weak h.next)
end
end Go.AI
namespace Go.AI
mutual
theorem eQ : ∀ (a : Value), cM a a = true
 | .bool a | .int j a | .float j a | .complex j a c | .pointer a | .slice a l c | .map a | .chan a | .nilFunc | .nilIface => by simp [cM]
 | .string a => by simp [cM]
 | .func f ⟨xs⟩ ⟨ys⟩ => by simp [cM, eR xs, eR ys]
 | .iface t v => by simp [cM, eQ v]
 | .agg ⟨xs⟩ => by simp [cM, eR xs]
 | .tuple ⟨xs⟩ => by simp [cM, eR xs]
theorem eR : ∀ (a : List Value), lN a a = true
 | [] => by simp [lN]
 | x :: xs => by simp [lN, eQ x, eR xs]
end
theorem pP : ∀ (a : List (Value × Value)), rD a a = true
 | [] => by simp [rD]
 | x :: xs => by simp [rD, eQ, pP xs]
theorem rC (m : Mta) : kN m m = true := by simp [kN, bP]
theorem mN (a : AObj) : hX a a = true := by
 cases a with
 | cells cs m => simp [hX, eR, rC]
 | map es => simp [hX, pP]
end Go.AI
