import Derived.Test.YtbggbjpobkkbaaaGreatDoorKe
import Derived.Test.YtbggbjpobkkbaaaGreatDoorKg
import Derived.IntWalk
set_option linter.unusedVariables false
set_option linter.unusedSimpArgs false
set_option linter.constructorNameAsVariable false
namespace Go.PI
open Go.AI
section
variable {P : Program} {ν ν' : Nu} {γ γ1 γ' : Ga} {σ σ' : St} {S : PS} {A : Slots}
theorem jY {z : Nat} : ∀ (n : Nat) (l : List PV), l.length = n * z → eA (kZ z n l) = l ∧ (kZ z n l).length = n ∧ ∀ e ∈ kZ z n l, e.cells.length = z ∧ (l.all PV.pur = true → e.cells.all PV.pur = true) := by
 intro n
 induction n with
 | zero => intro l h; simp at h; subst h; exact ⟨rfl, rfl, fun e he => by simp [kZ] at he⟩
 | succ n ih =>
  intro l h
  rw [Nat.succ_mul] at h
  obtain ⟨h1, h2, h3⟩ := ih (l.drop z) (by simp; omega)
  refine ⟨?_, by simp [kZ, h2], fun e he => ?_⟩
  ·simp only [kZ, eA, fmC, PV.cells]
   have : List.flatMap PV.cells (kZ z n (l.drop z)) = l.drop z := h1
   rw [this, List.take_append_drop]
  ·simp only [kZ, List.mem_cons] at he
   rcases he with rfl | he
   ·refine ⟨by simp [PV.cells]; omega, fun hp => ?_⟩
    simp only [PV.cells, List.all_eq_true] at hp ⊢
    exact fun x hx => hp x (List.mem_of_mem_take hx)
   ·refine ⟨(h3 e he).1, fun hp => (h3 e he).2 ?_⟩
    rw [List.all_eq_true] at hp ⊢
    exact fun x hx => hp x (List.mem_of_mem_drop hx)
theorem set_self (S : PS) (t : Nat) : S.set t (S.at t) = S := by
 cases S with | mk f => simp only [PS.set, PS.at, PS.mk.injEq]; funext k; rw [cN, Bool.cond_decide]; split <;> simp_all
theorem mU {p p' : PSt} (M : Mem ν γ p σ) (F : FR ν γ σ S A) {t : Nat} {S' : PS} (h : fA p S t = some (S', p')) :
    ∃ ν', Mem ν' γ p' σ ∧ FR ν' γ σ S' A ∧ Adv ν γ p σ ν' γ p' σ := by
 have triv : S' = S → p' = p → ∃ ν', Mem ν' γ p' σ ∧ FR ν' γ σ S' A ∧ Adv ν γ p σ ν' γ p' σ := by
  rintro rfl rfl; exact ⟨ν, M, F, .refl ν γ p' σ⟩
 have hF := F t
 unfold fA at h
 split at h <;> try cases h
 rename_i rr hrr
 unfold frz at hrr
 split at hrr
 ·rename_i id off len b hS
  split at hrr
  ·rename_i z a cs hg
   cases hc : Nat.ble (off + len * z) cs.length && Nat.ble 1 z && (a || Nat.beq z 1) && cs.all PV.pur with
   | false => rw [hc, cdf] at hrr; cases hrr
   | true =>
    rw [hc, cdt] at hrr
    simp only [ojE] at hrr
    subst hrr
    simp only [bjE] at hc
    obtain ⟨⟨⟨hc1, hc2⟩, hc3⟩, hc4⟩ := hc
    have hlen := Nat.le_of_ble_eq_true hc1
    have hl : ((cs.drop off).take (len * z)).length = len * z := by simp; omega
    have hz := Nat.le_of_ble_eq_true hc2
    have hid := aEX hg
    obtain ⟨ai, us, h1, h2, h3, h5, h4⟩ := M.get id _ hg
    rw [hS] at hF
    have hmon : Mon σ ν (fun k => if k = id then some none else ν k) := by
     refine ⟨fun k x hk => ?_, fun k a' hk => ?_⟩
     ·by_cases e : k = id
      ·right; show (if k = id then some none else ν k) = some none; rw [if_pos e]
      ·left; show (if k = id then some none else ν k) = some x; rw [if_neg e]; exact hk
     ·by_cases e : k = id
      ·simp only [e, if_true] at hk; cases hk
      ·simp only [e, if_false] at hk; exact .inl hk
    have hkp : Keep ν fR σ σ := .refl ν fR σ
    have hfz : Fz (fun k => if k = id then some none else ν k) σ ai us (bR z) := by
     refine ⟨row_of_get h2 rfl, fun k hk => ?_⟩
     by_cases e : k = id
     ·simp only [e, if_true] at hk; cases hk
     ·simp only [e, if_false] at hk; exact e (M.inj k id ai hk h1)
    refine ⟨fun k => if k = id then some none else ν k, ⟨fun k x hk => ?_, fun k a' hk => ?_, fun i j a' hi hj => ?_, fun k a' hk => ?_, fun k o hk => ?_, M.free, M.ver⟩, fun k => ?_, ⟨.refl ν γ σ, hmon, .refl σ γ, .upd p id .gone, fun a cs m h => ⟨cs, m.tip, h⟩, fun k a' hk hd => ⟨rfl, by
     have hne : k ≠ id := fun e => hd (by subst e; exact zM)
     show (if k = id then some none else ν k) = _
     rw [if_neg hne]; exact hk⟩⟩⟩
    ·show k < p.next
     by_cases e : k = id
     ·omega
     ·simp only [e, if_false] at hk; exact M.le _ _ hk
    ·by_cases e : k = id
     ·simp only [e, if_true] at hk; cases hk
     ·simp only [e, if_false] at hk; exact M.lt _ _ hk
    ·by_cases e : i = id
     ·simp only [e, if_true] at hi; cases hi
     ·by_cases e' : j = id
      ·simp only [e', if_true] at hj; cases hj
      ·simp only [e, e', if_false] at hi hj; exact M.inj _ _ _ hi hj
    ·by_cases e : k = id
     ·simp only [e, if_true] at hk; cases hk
     ·simp only [e, if_false] at hk; rw [fO hid, if_neg e]; exact M.live _ _ hk
    ·rw [fO hid] at hk
     by_cases e : k = id
     ·simp only [e, if_true, ojE] at hk; subst hk; subst e; show (if k = k then some none else ν k) = some none; simp
     ·simp only [e, if_false] at hk
      exact (M.get k o hk).keep hkp hmon (by simp [e]) (fun _ _ => rfl) fun i off' hi _ => ⟨rfl, hi⟩
    ·rw [kJ]
     by_cases e : k = t
     ·subst e
      rw [if_pos rfl]
      refine ⟨?_, fun h => by cases h⟩
      have hr := hF.1
      generalize A.at k = w at hr
      cases hr with
      | rs0 _ _ _ c a' hν => rw [h1] at hν; cases hν
      | rs _ _ _ c a' hν =>
       rw [h1] at hν; simp only [ojE] at hν; subst hν
       have hpl : ((cs.drop off).take (len * z)).all PV.pur = true := by
        rw [List.all_eq_true] at hc4 ⊢; exact fun x hx => hc4 x (List.mem_of_mem_drop (List.mem_of_mem_take hx))
       have hwin : ∀ (i : Nat) (x : PV) (u : Value), ((cs.drop off).take (len * z))[i]? = some x → us[off + i]? = some u → R (fun k => if k = id then some none else ν k) σ x u := by
        intro i x u hx hu
        rw [List.getElem?_take] at hx
        split at hx
        ·rw [List.getElem?_drop] at hx; exact (h4 _ x u hx hu).keep hkp hmon
        ·cases hx
       cases a with
       | true =>
        obtain ⟨k1, k2, k3⟩ := jY (z := z) len _ hl
        simp only [cdt]
        have := R.sl (ν := fun k => if k = id then some none else ν k) (σ := σ) z (kZ z len ((cs.drop off).take (len * z))) ai off c us (bR z) hz (fun e he => ⟨(k3 e he).1, (k3 e he).2 hpl⟩) hfz rfl (by rw [k2, h3]; exact hlen) (by rw [k1]; exact hwin)
        rw [k2] at this
        have h6 := aBv (es := kZ z len ((cs.drop off).take (len * z))) (by rw [k2]; exact this)
        rw [k2] at h6; exact h6
       | false =>
        simp only [Bool.false_or] at hc3
        have hz1 := nqE hc3; subst hz1
        simp only [cdf]
        rw [Nat.mul_one] at hl hwin hlen hpl ⊢
        have hfl : ∀ l : List PV, l.all PV.pur = true → eA l = l := by
         intro l; induction l with
         | nil => intro _; rfl
         | cons x l ih =>
          intro hp
          simp only [alC, bjE] at hp
          have := ih hp.2
          simp only [eA, fmC] at this ⊢
          rw [this, qB (sW hp.1)]; rfl
        have := R.sl (ν := fun k => if k = id then some none else ν k) (σ := σ) 1 ((cs.drop off).take len) ai off c us (bR 1) hz (fun e he => by
         have := (List.all_eq_true.1 hpl) e he
         rw [qB (sW this)]; exact ⟨rfl, by simpa using this⟩) hfz rfl (by rw [hl, h3]; omega) (by rw [hfl _ hpl]; exact hwin)
        have h6 := aBv this
        rw [hl] at h6; exact h6
     ·rw [if_neg e]
      exact ⟨(F k).1.keep hkp hmon, fun hb => ((F k).2 hb).keep hkp hmon fun i hi _ => ⟨rfl, hi⟩⟩
  ·cases hrr
 ·simp only [ojE] at hrr
  subst hrr
  exact triv (set_self S t) rfl
theorem jU (F : FR ν γ σ S A) {ops : Array Oper} {o : Oper} {b : Bool} (h : gE ops S o = some b) : wanted ops A o = b := by
 unfold gE at h
 unfold wanted
 split at h
 ·simp only [ojE] at h; subst h; rename_i e; rw [e]
 ·rename_i j want e
  rw [e]
  simp only
  cases hd : ops[j]?.bind (·.dst) with
  | none => rw [hd] at h; simp at h
  | some d =>
   rw [hd] at h
   simp only [omS] at h
   split at h
   ·rename_i b' hb
    simp only [ojE] at h hb; subst h
    have := (F d).1
    rw [hb] at this
    simp only [omS]
    generalize A.at d = w at this
    cases this
    rfl
   ·rename_i hb
    simp only [ojE] at h hb; subst h
    have := (F d).1
    rw [hb] at this
    simp only [omS]
    obtain ⟨us, hu, hl⟩ := this.tup_inv
    rw [hu]
   ·cases h
theorem aDV {pc : gJ} {ac : FuncId → Array Value → St → Option (Value × St)} (hcall : jN pc ac) {p p' : PSt} {base i : Nat} (M : Mem ν γ p σ) (F : FR ν γ σ S A) (hf : σ.get (base + i) = none) (hlt : base + i < σ.next)
    {o : Oper} (ho : o.op.operands.all (aH P) = true) {sq take own : Bool} {v : PV} {S' : PS} (h : pop P pc sq o take S p = some (v, own, S', p')) :
    ∃ u σ' ν' γ', aop P ac base i o A σ = some (u, σ') ∧ R ν' σ' v u ∧ Mem ν' γ' p' σ' ∧ FR ν' γ' σ' (S'.put o.dst v own) (A.store o.dst u) ∧ Adv ν γ p σ ν' γ' p' σ' ∧
      (∀ j, j < σ.next → j ≠ base + i → σ.get j = none → σ'.get j = none) := by
 obtain ⟨u, σ', ν', γ', h1, h2, h3, h4, h5, h6, h7⟩ := pop_ok hcall M F hf hlt ho h
 obtain ⟨γ'', F'', g⟩ := h4.put h2 h5 o.dst
 exact ⟨u, σ', ν', γ'', h1, h2, h3.g2 g, F'', h6.trans (.g g.out), h7⟩
theorem aDX {p : PSt} (M : Mem ν γ p σ) (F : FR ν γ σ S A) (d : Option Tmp) : ∃ γ', Mem ν γ' p σ ∧ FR ν γ' σ (S.put d (.tup []) false) (A.store d undef) ∧ Adv ν γ p σ ν γ' p σ := by
 obtain ⟨γ', F', g⟩ := F.put (v := .tup []) (u := undef) (own := false) (.tup [] #[] rfl (fun i x u h => by simp at h)) (fun h => by cases h) d
 exact ⟨γ', M.g2 g, F', .g g.out⟩
def dU : List aCm → List Nat
 | [] => []
 | .op i _ :: r => i :: dU r
 | .app a i s :: r => a :: i :: s :: dU r
 | .freeze _ :: r => dU r
theorem runP_ok {pc : gJ} {ac : FuncId → Array Value → St → Option (Value × St)} (hcall : jN pc ac) {ops : Array Oper} {base : Nat} (hops : ∀ o ∈ ops.toList, o.op.operands.all (aH P) = true) :
    ∀ (sc : List aCm) (i : Nat) (ν : Nu) (γ : Ga) (S : PS) (p : PSt) (A : Slots) (σ : St) (S' : PS) (p' : PSt), dU sc = List.range' i (ops.size - i) → i ≤ ops.size → base + ops.size ≤ σ.next →
      (∀ j, i ≤ j → j < ops.size → σ.get (base + j) = none) → Mem ν γ p σ → FR ν γ σ S A → yG P pc ops sc S p = some (S', p') →
      ∃ A' σ' ν' γ', fE P ac ops base (ops.toList.drop i) i A σ = some (A', σ') ∧ Mem ν' γ' p' σ' ∧ FR ν' γ' σ' S' A' ∧ Adv ν γ p σ ν' γ' p' σ' ∧ (∀ j, j < base → σ.get j = none → σ'.get j = none) := by
 intro sc
 induction sc with
 | nil =>
  intro i ν γ S p A σ S' p' hsc hi hb hfree M F h
  simp only [dU] at hsc
  have : ops.size - i = 0 := by
   cases hh : ops.size - i with
   | zero => rfl
   | succ n => rw [hh] at hsc; simp [List.range'] at hsc
  simp only [yG, ojE, pjE] at h
  obtain ⟨rfl, rfl⟩ := h
  rw [List.drop_eq_nil_of_le (by simp; omega)]
  exact ⟨A, σ, ν, γ, rfl, M, F, .refl ν γ p σ, fun j _ hj => hj⟩
 | cons s sc ih =>
  intro i ν γ S p A σ S' p' hsc hi hb hfree M F h
  cases s with
  | freeze t =>
   simp only [yG] at h
   split at h
   ·rename_i S1 p1 h1
    obtain ⟨ν1, M1, F1, A1⟩ := mU M F h1
    obtain ⟨A', σ', ν', γ', k1, k2, k3, k4, k5⟩ := ih i ν1 γ S1 p1 A σ S' p' hsc hi hb hfree M1 F1 h
    exact ⟨A', σ', ν', γ', k1, k2, k3, A1.trans k4, k5⟩
   ·cases h
  | app a k s =>
   simp only [dU] at hsc
   have hn3 : i + 2 < ops.size := by
    have := congrArg List.length hsc
    simp only [lcS, List.length_range'] at this
    omega
   rw [show ops.size - i = (ops.size - (i + 3)) + 1 + 1 + 1 by omega, List.range'_succ, List.range'_succ, List.range'_succ] at hsc
   simp only [List.cons.injEq] at hsc
   obtain ⟨rfl, rfl, rfl, hsc⟩ := hsc
   simp only [yG] at h
   have hopA : ops[a]? = some ops[a] := Array.getElem?_eq_getElem (by omega)
   have hopI : ops[a + 1]? = some ops[a + 1] := Array.getElem?_eq_getElem (by omega)
   have hopS : ops[a + 1 + 1]? = some ops[a + 1 + 1] := Array.getElem?_eq_getElem (by omega)
   rw [hopA, hopI, hopS] at h
   simp only at h
   split at h
   ·rename_i S1 h1
    obtain ⟨u1, u2, σ1, σ2, γ2, q1, q2, q3, q4, q5, q6, q7, q8, q9, q10, q11, M2, F2, A2, _, _, q12, q13⟩ := aBn (ac := ac) (base := base) (iA := a) (iI := a + 1) (iS := a + 1 + 1) M F (hfree a (nlR _) (by omega)) (by omega) (hops _ (by simp)) (hops _ (by simp)) (hops _ (by simp)) h1
    have hdrop : ops.toList.drop a = ops[a] :: ops[a + 1] :: ops[a + 1 + 1] :: ops.toList.drop (a + 1 + 1 + 1) := by
     rw [List.drop_eq_getElem_cons (by simp; omega), List.drop_eq_getElem_cons (by simp; omega), List.drop_eq_getElem_cons (by simp; omega)]; simp
    rw [hdrop]
    obtain ⟨A', σ', ν', γ', j1, j2, j3, j4, j5⟩ := ih (a + 1 + 1 + 1) ν γ2 _ p _ σ2 S' p' (by simpa using hsc) (by omega) (Nat.le_trans hb A2.keep.next) (fun j hj hj' => (q13 _ (by omega) (hfree j (by omega) hj')).2) M2 F2 h
    refine ⟨A', σ', ν', γ', ?_, j2, j3, A2.trans j4, fun j hj hn => j5 j hj (q13 j (by omega) hn).2⟩
    have hw : ∀ {o : Oper} {A0 : Slots}, o.guard = none → wanted ops A0 o = true := fun hg => by simp only [wanted, hg]
    simp only [fE, hw q7, hw q8, hw q9, cdt, aop, q4, q5, q6, q1, gQ, q2, omS]
    simp only [q3]
    rw [q10]
    exact j1
   ·cases h
  | op k take =>
   simp only [dU] at hsc
   have hlt : i < ops.size := by
    rcases Nat.lt_or_ge i ops.size with h' | h'
    ·exact h'
    ·rw [show ops.size - i = 0 by omega] at hsc; simp at hsc
   rw [show ops.size - i = (ops.size - (i + 1)) + 1 by omega, List.range'_succ] at hsc
   simp only [List.cons.injEq] at hsc
   obtain ⟨rfl, hsc⟩ := hsc
   simp only [yG] at h
   have hop : ops[k]? = some ops[k] := Array.getElem?_eq_getElem hlt
   rw [hop] at h
   simp only at h
   have hdrop : ops.toList.drop k = ops[k] :: ops.toList.drop (k + 1) := by
    rw [List.drop_eq_getElem_cons (by simpa using hlt)]; simp
   rw [hdrop]
   simp only [fE]
   split at h
   ·rename_i hw
    rw [jU F hw, cdt]
    split at h
    ·rename_i v own S1 p1 h1
     obtain ⟨u, σ1, ν1, γ1, k1, k2, k3, k4, k5, k6⟩ := aDV hcall M F (hfree k (nlR _) hlt) (by omega) (hops _ (by simp)) h1
     simp only [k1]
     obtain ⟨A', σ', ν', γ', j1, j2, j3, j4, j5⟩ := ih (k + 1) ν1 γ1 _ p1 _ σ1 S' p' hsc hlt (Nat.le_trans hb k5.keep.next) (fun j hj hj' => k6 _ (by omega) (by omega) (hfree j (by omega) hj')) k3 k4 h
     exact ⟨A', σ', ν', γ', j1, j2, j3, k5.trans j4, fun j hj hn => j5 j hj (k6 j (by omega) (by omega) hn)⟩
    ·cases h
   ·rename_i hw
    rw [jU F hw, cdf]
    obtain ⟨γ1, M1, F1, A1⟩ := aDX M F ops[k].dst
    obtain ⟨A', σ', ν', γ', j1, j2, j3, j4, j5⟩ := ih (k + 1) ν γ1 _ p _ σ S' p' hsc hlt hb (fun j hj hj' => hfree j (by omega) hj') M1 F1 h
    exact ⟨A', σ', ν', γ', j1, j2, j3, A1.trans j4, j5⟩
   ·cases h
end
end Go.PI
namespace Go.AI
section
variable {w0 : W0} {P : Program} {call : FuncId → Array Value → St → Option (Value × St)}
theorem aEa (hcall : eH w0 P call) (hfol : P.toTables.follows .mixedOrders = true) {N id : Nat} {ops : Array Oper} {draw : Bool} {S S' : Slots} {σ σ' : St} {a : Act} {w : World} {μ : Mp} {Q : Exit → Act → World → Prop}
    (h : jB P call ops draw S σ = some (S', σ')) (hok : cG P N (.region id ops draw) = true) (A : AR μ S N a) (Z : Sim w0 P μ σ w) (hpost : jZ w0 P μ σ.next N S' σ' (Q .normal)) :
    (Code.region id ops draw).wp P Q a w := by
 simp only [cG, bjE, List.all_eq_true, Bool.or_eq_true, Bool.not_eq_true'] at hok
 obtain ⟨hops, hdr⟩ := hok
 unfold jB at h
 have hnone : ∀ j, μ (σ.next + j) = none := fun j => Z.dom _ (by omega)
 cases draw with
 | false =>
  simp only [cdf] at h
  refine wp_region ?_
  rw [List.range_eq_range']
  have := aD8 (Q := Q) (w0 := w0) hcall (ops := ops) (base := σ.next) (N := N) (n0 := σ.next) (nlR _) hops ops.toList 0 S S' { σ with next := σ.next + ops.size } σ' a w μ μ (by simp) (by simp) A (Z.next (Nat.le_add_right _ _))
   (Ext.refl _ _) (nlR _) (fun j _ _ => hnone j) h hpost
  simpa using this
 | true =>
  simp only [cdt] at h
  have hD := hdr.resolve_left (by simp)
  have Z' : Sim w0 P μ { σ with next := σ.next + ops.size } { w with drawn := w.drawn + 1 } := (Z.next (Nat.le_add_right _ _)).drawn _
  have hrep : ∀ i, (Array.replicate ops.size false).getD i false = false := fun i => by
   rw [Array.getD_eq_getD_getElem?]
   by_cases hi : i < ops.size
   ·simp [hi]
   ·simp [hi]
  have hunl : unl (Array.replicate ops.size false) ≤ ops.size := by
   unfold unl; simp only [Array.toList_replicate]; exact Nat.le_trans (List.length_filter_le _ _) (by simp)
  unfold tH at hD
  cases ht : twin ops with
  | none =>
   rw [ht] at hD
   simp only at hD
   have h' : dG P call ops (dV ops.toList []) σ.next (qU ops (dV ops.toList [])) [] S { σ with next := σ.next + ops.size } = some (S', σ') := by
    cases hr : dG P call ops (dV ops.toList []) σ.next (qU ops (dV ops.toList [])) [] S { σ with next := σ.next + ops.size } with
    | none => rw [hr] at h; cases h
    | some r =>
     rw [hr] at h
     simp only [fitTw, okTw, ht, cdt] at h
     exact h
   obtain ⟨rs, Cs, Es, hrs, C⟩ := aAp _ _ _ _ h'
   obtain ⟨s, hs0, hsn, htr⟩ := C.first (w0 := w0)
   refine wp_region_any hfol (draw_ok hcall (drawOK hD) hops (nlR _) C hrs hpost ops.size (Array.replicate ops.size false) a _ μ 0 s hunl ?_)
   refine ⟨by simp, fun i o e _ hl => ?_, fun q e _ => ?_, hs0, htr μ _ (fun r _ => hnone r.i) Z', ?_, fun i _ _ => hnone i, Ext.refl _ _, A.size, A.defers, fun r _ hl => ?_, fun x _ => A.slot x⟩
   ·rw [hrep] at hl; cases hl
   ·rw [hrep]; simp
   ·rw [hsn]; exact nlR _
   ·rw [hrep] at hl; cases hl
  | some ab => rw [ht] at hD; simp at hD
def Fl.out : Fl → Exit
 | .normal => .normal
 | .exit n => .exit n
 | .ret => .ret
def Post (w0 : W0) (P : Program) (μ : Mp) (n N : Nat) (S' : Slots) (σ' : St) (K : Act → World → Prop) : Prop :=
 ∀ a' w' μ', AR μ' S' N a' → Sim w0 P μ' σ' w' → Ext n μ μ' → n ≤ σ'.next → K a' w'
theorem Post.later {μ μ' : Mp} {n n' N : Nat} {S' : Slots} {σ' : St} {K : Act → World → Prop} (h : Post w0 P μ n N S' σ' K) (hE : Ext n μ μ') (hn : n ≤ n') : Post w0 P μ' n' N S' σ' K :=
 fun a' w' μ'' A Z E hl => h a' w' μ'' A Z (hE.trans E hn) (by omega)
theorem jH (hcall : eH w0 P call) (hfol : P.toTables.follows .mixedOrders = true) (L N : Nat) : ∀ (c : Code) (S : Slots) (σ : St) (fl : Fl) (S' : Slots) (σ' : St) (a : Act) (w : World) (μ : Mp) (Q : Exit → Act → World → Prop),
    cS P call L c S σ = some (fl, S', σ') → cG P N c = true → AR μ S N a → Sim w0 P μ σ w → Post w0 P μ σ.next N S' σ' (Q fl.out) → c.wp P Q a w := by
 intro c
 induction c with
 | skip =>
  intro S σ fl S' σ' a w μ Q h _ A Z hp
  simp only [cS, ojE, pjE] at h
  obtain ⟨rfl, rfl, rfl⟩ := h
  exact wp_skip (hp a w μ A Z (Ext.refl _ _) (nlR _))
 | label l =>
  intro S σ fl S' σ' a w μ Q h _ A Z hp
  simp only [cS, ojE, pjE] at h
  obtain ⟨rfl, rfl, rfl⟩ := h
  exact wp_label (hp a w μ A Z (Ext.refl _ _) (nlR _))
 | region id ops draw =>
  intro S σ fl S' σ' a w μ Q h hok A Z hp
  simp only [cS, mjE] at h
  obtain ⟨⟨S1, σ1⟩, h, e⟩ := h
  cases e
  exact aEa hcall hfol h hok A Z hp
 | seq x y ihx ihy =>
  intro S σ fl S' σ' a w μ Q h hok A Z hp
  simp only [cG, bjE] at hok
  simp only [cS] at h
  refine wp_seq ?_
  cases hx : cS P call L x S σ with
  | none => simp [hx] at h
  | some r =>
   obtain ⟨f1, S1, σ1⟩ := r
   simp only [hx] at h
   cases f1 with
   | normal =>
    simp only at h
    exact ihx S σ .normal S1 σ1 a w μ _ hx hok.1 A Z (fun a' w' μ' A' Z' E hn => ihy S1 σ1 fl S' σ' a' w' μ' Q h hok.2 A' Z' (hp.later E hn))
   | exit n =>
    simp only [ojE, pjE] at h
    obtain ⟨rfl, rfl, rfl⟩ := h
    exact ihx S σ (.exit n) S1 σ1 a w μ _ hx hok.1 A Z hp
   | ret =>
    simp only [ojE, pjE] at h
    obtain ⟨rfl, rfl, rfl⟩ := h
    exact ihx S σ .ret S1 σ1 a w μ _ hx hok.1 A Z hp
 | cond c x y ihx ihy =>
  intro S σ fl S' σ' a w μ Q h hok A Z hp
  simp only [cG, bjE] at hok
  simp only [cS] at h
  have hv := ev_ok A Z hok.1.1
  split at h <;> try cases h
  ·rename_i hc
   rw [hc] at hv
   exact wp_cond_true hv.bool_inv (ihx S σ fl S' σ' a w μ Q h hok.1.2 A Z hp)
  ·rename_i hc
   rw [hc] at hv
   exact wp_cond_false hv.bool_inv (ihy S σ fl S' σ' a w μ Q h hok.2 A Z hp)
 | block id c ih =>
  intro S σ fl S' σ' a w μ Q h hok A Z hp
  simp only [cG] at hok
  simp only [cS] at h
  refine wp_block ?_
  cases hx : cS P call L c S σ with
  | none => simp [hx] at h
  | some r =>
   obtain ⟨f1, S1, σ1⟩ := r
   simp only [hx] at h
   cases f1 with
   | normal =>
    simp only [ojE, pjE] at h
    obtain ⟨rfl, rfl, rfl⟩ := h
    exact ih S σ .normal S1 σ1 a w μ _ hx hok A Z hp
   | ret =>
    simp only [ojE, pjE] at h
    obtain ⟨rfl, rfl, rfl⟩ := h
    exact ih S σ .ret S1 σ1 a w μ _ hx hok A Z hp
   | exit n =>
    simp only [cN, Bool.cond_decide] at h
    split at h
    ·rename_i hn
     simp only [ojE, pjE] at h
     obtain ⟨rfl, rfl, rfl⟩ := h
     exact ih S σ (.exit n) S1 σ1 a w μ _ hx hok A Z (fun a' w' μ' A' Z' E hl => by
      show Exit.inBlock id Q (.exit n) a' w'
      simp only [Exit.inBlock, if_pos hn]; exact hp a' w' μ' A' Z' E hl)
    ·rename_i hn
     simp only [ojE, pjE] at h
     obtain ⟨rfl, rfl, rfl⟩ := h
     exact ih S σ (.exit n) S1 σ1 a w μ _ hx hok A Z (fun a' w' μ' A' Z' E hl => by
      show Exit.inBlock id Q (.exit n) a' w'
      simp only [Exit.inBlock, if_neg hn]; exact hp a' w' μ' A' Z' E hl)
 | loop c ih =>
  intro S σ fl S' σ' a w μ Q h hok A Z hp
  simp only [cG] at hok
  simp only [cS] at h
  refine wp_loop_rounds L ?_
  have main : ∀ (n : Nat) (S : Slots) (σ : St) (a : Act) (w : World) (μ : Mp), aDu (fun S σ => cS P call L c S σ) n S σ = some (fl, S', σ') → AR μ S N a → Sim w0 P μ σ w → Post w0 P μ σ.next N S' σ' (Q fl.out) → Code.rounds P c Q n a w := by
   intro n
   induction n with
   | zero => intro S σ a w μ h; simp [aDu] at h
   | succ n ihn =>
    intro S σ a w μ h A Z hp
    rw [rounds_succ]
    simp only [aDu] at h
    cases hx : cS P call L c S σ with
    | none => simp [hx] at h
    | some r =>
     obtain ⟨f1, S1, σ1⟩ := r
     simp only [hx] at h
     cases f1 with
     | normal =>
      simp only at h
      exact ih S σ .normal S1 σ1 a w μ _ hx hok A Z (fun a' w' μ' A' Z' E hl => ihn S1 σ1 a' w' μ' h A' Z' (hp.later E hl))
     | exit n =>
      simp only [ojE, pjE] at h
      obtain ⟨rfl, rfl, rfl⟩ := h
      exact ih S σ (.exit n) S1 σ1 a w μ _ hx hok A Z hp
     | ret =>
      simp only [ojE, pjE] at h
      obtain ⟨rfl, rfl, rfl⟩ := h
      exact ih S σ .ret S1 σ1 a w μ _ hx hok A Z hp
  exact main L S σ a w μ h A Z hp
 | exit n =>
  intro S σ fl S' σ' a w μ Q h _ A Z hp
  simp only [cS, ojE, pjE] at h
  obtain ⟨rfl, rfl, rfl⟩ := h
  exact wp_exit (hp a w μ A Z (Ext.refl _ _) (nlR _))
 | ret =>
  intro S σ fl S' σ' a w μ Q h _ A Z hp
  simp only [cS, ojE, pjE] at h
  obtain ⟨rfl, rfl, rfl⟩ := h
  exact wp_ret (hp a w μ A Z (Ext.refl _ _) (nlR _))
 | scope c ih =>
  intro S σ fl S' σ' a w μ Q h hok A Z hp
  simp only [cG] at hok
  simp only [cS] at h
  refine wp_scope_straight (ih S σ fl S' σ' a w μ _ h hok A Z ?_)
  cases fl <;> exact hp
 | goto l => intro S σ fl S' σ' a w μ Q h; simp [cS] at h
 | refuse s => intro S σ fl S' σ' a w μ Q h; simp [cS] at h
 | rangeFunc x ts c d _ _ => intro S σ fl S' σ' a w μ Q h; simp [cS] at h
theorem tS : ∀ (l : List Value) (i : Nat) (S : Slots) (k : Nat), (mB l i S).at k = if i ≤ k ∧ k < i + l.length then (l[k - i]?).getD undef else S.at k := by
 intro l
 induction l with
 | nil => intro i S k; rw [mB, if_neg (by simp)]
 | cons v l ih =>
  intro i S k
  rw [mB, ih]
  simp only [lcS]
  by_cases h1 : i + 1 ≤ k ∧ k < i + 1 + l.length
  ·rw [if_pos h1, if_pos (by omega), show k - i = (k - (i + 1)) + 1 by omega]; simp
  ·rw [if_neg h1]
   by_cases h2 : k = i
   ·subst h2
    rw [if_pos (by omega)]
    simp [Slots.at, Tr.get_set]
   ·rw [if_neg (by omega)]
    simp [Slots.at, Tr.get_set, h2]
theorem aD9 {S : Slots} {N : Nat} {a : Act} {σ : St} {w : World} {μ : Mp} (A : AR μ S N a) (Z : Sim w0 P μ σ w) {r : ResultVar} {v : Value} (h : lM P S σ r = some v) :
    ∃ v', (match r with | .tmp t => (pure (a.tmps.getD t undef) : Sem Value) | .cell x t => do loadVar t (← asAddr (a.tmps.getD x undef))).run P w = .ok v' w ∧ VR μ v v' := by
 cases r with
 | tmp t => simp only [lM, ojE] at h; subst h; exact ⟨_, rfl, A.slot t⟩
 | cell x t =>
  simp only [lM] at h
  have hx := A.slot x
  obtain ⟨v', h1, h2⟩ := mG Z hx h
  refine ⟨v', ?_, h2⟩
  unfold eB at h
  split at h <;> try cases h
  rename_i id off hS
  rw [hS] at hx
  obtain ⟨p, hp, hu⟩ := hx.ptr_inv
  rw [hu] at h1
  simp only
  rw [hu]
  simpa [Instr.loadAt, Instr.sureAddr, asAddr] using h1
theorem aCz {S : Slots} {N : Nat} {a : Act} {σ : St} {w : World} {μ : Mp} (A : AR μ S N a) (Z : Sim w0 P μ σ w) : ∀ (l : List ResultVar) (vs : List Value), bO P S σ l = some vs →
    ∃ us, (l.mapM (fun (r : ResultVar) => (match r with | .tmp t => (pure (a.tmps.getD t undef) : Sem Value) | .cell x t => do loadVar t (← asAddr (a.tmps.getD x undef))))).run P w = .ok us w ∧ VRL μ vs us := by
 intro l
 induction l with
 | nil => intro vs h; simp only [bO, ojE] at h; subst h; exact ⟨[], rfl, .nil⟩
 | cons r l ih =>
  intro vs h
  simp only [bO] at h
  split at h <;> try cases h
  rename_i v vs' hv hvs
  obtain ⟨u, h1, h2⟩ := aD9 A Z hv
  obtain ⟨us, h3, h4⟩ := ih vs' hvs
  refine ⟨u :: us, ?_, .cons h2 h4⟩
  rw [List.mapM_cons]
  simp only [Sem.run_bind, h1, Result.andThen_ok, h3, Sem.run_pure]
theorem aFV {fn : Func} {S : Slots} {N : Nat} {a : Act} {σ : St} {w : World} {μ : Mp} (A : AR μ S N a) (Z : Sim w0 P μ σ w) {vs : List Value} (h : bO P S σ fn.results.toList = some vs) :
    ∃ v', (results fn a.tmps).run P w = .ok v' w ∧ VR μ (iR vs) v' := by
 obtain ⟨us, h1, h2⟩ := aCz A Z _ _ h
 unfold results
 rw [Array.mapM_eq_mapM_toList]
 simp only [Sem.run_bind, Sem.run_map]
 have h1' : (List.mapM (fun (r : ResultVar) => (match r with | .tmp t => (pure (a.tmps.getD t undef) : Sem Value) | .cell x t => do let __do_lift ← asAddr (a.tmps.getD x undef); loadVar t __do_lift)) fn.results.toList).run P w = .ok us w := h1
 erw [h1']
 simp only [Result.andThen_ok, Sem.run_pure]
 refine ⟨_, rfl, ?_⟩
 match vs, us, h2 with
 | [], us, h2 => rw [h2.nil_inv]; exact .mkTuple .nil
 | [v], us, h2 =>
  obtain ⟨u, us', rfl, h3, h4⟩ := h2.cons_inv
  rw [h4.nil_inv]
  exact h3
 | v1 :: v2 :: vs, us, h2 =>
  have hl := h2.1
  rw [dif_neg (by simp only [List.size_toArray, ← hl, lcS]; omega)]
  exact .mkTuple h2
end
end Go.AI
namespace Go.AI
section
variable {w0 : W0} {P : Program} {call : FuncId → Array Value → St → Option (Value × St)}
theorem Kept.trans {a b c : World} (h : Kept a b) (k : Kept b c) : Kept a c := by
 refine ⟨k.os.trans h.os, k.output.trans h.output, Nat.le_trans h.size k.size, fun i hi => ?_, fun i C t fr hi hc => ?_⟩
 ·have := h.size
  rw [k.old i (by omega), h.old i hi]
 ·by_cases hb : i < b.heap.size
  ·rw [k.old i hb] at hc; exact h.new i C t fr hi hc
  ·exact k.new i C t fr (by omega) hc
theorem zR {w : World} {b : Nat} {o : Obj} (h : w.heap[b]? = some o) : b < w.heap.size := by
 by_cases hb : b < w.heap.size
 ·exact hb
 ·rw [Array.getElem?_eq_none (by omega)] at h; cases h
theorem Sim.keep {μ : Mp} {σ : St} {w w' : World} (S : Sim w0 P μ σ w) (K : Kept w w') : Sim w0 P μ σ w' := by
 refine ⟨⟨S.kept.toKept.trans K, fun k o hk => ⟨by have h1 := (S.kept.oth k o hk).1; rw [K.old k (zR h1)]; exact h1, (S.kept.oth k o hk).2⟩, fun id p h => Nat.lt_of_lt_of_le (S.kept.bnd id p h) K.size⟩, S.dom, S.glob, fun id p cs m h1 h2 h3 => ?_, fun id p es h1 h2 => ?_, S.off, S.tip, S.maps, S.vers, S.lim⟩
 ·obtain ⟨⟨C, t, fr, r1, r2, r3⟩, r4, r5, r6⟩ := S.row id p cs m h1 h2 h3
  exact ⟨⟨C, t, fr, by rw [K.old _ (zR r1)]; exact r1, r2, r3⟩, r4, r5, r6⟩
 ·obtain ⟨⟨ES, clock, r1, r2⟩, r3⟩ := S.map id p es h1 h2
  exact ⟨⟨ES, clock, by rw [K.old _ (zR r1)]; exact r1, r2⟩, r3⟩
structure Orc where
 n : Nat
 s : Int → Int → Option (List UInt8)
 m : Nat
inductive OV where
 | s (l : List UInt8)
 | t
def OV.v : OV → Value
 | .s l => .string ⟨l.toArray⟩
 | .t => .bool true
def orA (O : Orc) (f : FuncId) (args : Array Value) : Option Value :=
 bif Nat.beq f O.n then (match args.toList with
 | [.int .i64 a, .int .i64 b] => ((O.s a b).map OV.s).map OV.v
 | _ => none) else bif Nat.beq f O.m then (match args.toList with
 | [] => some (.bool true)
 | _ => none) else none
def kX (P : Program) (fn : Func) : Option (Fl × Slots × St) → Option (Value × St)
 | some (.exit _, _, _) => none
 | some (_, S, σ') => (bO P S σ' fn.results.toList).map fun vs => (iR vs, σ')
 | none => none
def qV (P C : Program) (O : Orc) (L : Nat) : Nat → FuncId → Array Value → St → Option (Value × St)
 | 0, _, _, _ => none
 | n + 1, f, args, σ => match orA O f args with
  | some v => some (v, σ)
  | none => match C.funcs[f]? with
   | some fn => match fn.body with
    | some c => kX P fn (cS P (qV P C O L n) L c (mB args.toList 0 .nil) σ)
    | none => none
   | none => none
def RepOK (w0 : W0) (P : Program) (f : FuncId) (fn : Func) (c : Code) : Prop :=
 (∃ fn c, P.funcs[f]? = some fn ∧ fn.body = some c ∧ (fn.name == "runtime.NumGoroutine") = false) ∧
 ∀ (call : FuncId → Array Value → St → Option (Value × St)) (L : Nat), (∀ w1 : W0, w1.toWorld = w0.toWorld → eH w1 P call) → ∀ (args args' : Array Value) (σ σ' : St) (w : World) (μ : Mp) (r : Value),
  kX P fn (cS P call L c (mB args.toList 0 .nil) σ) = some (r, σ') → Sim w0 P μ σ w → VRL μ args.toList args'.toList →
  Calls P f args' w fun e w' => ∃ μ' r', e = .returned r' ∧ VR μ' r r' ∧ Sim w0 P μ' σ' w' ∧ Ext σ.next μ μ' ∧ σ.next ≤ σ'.next
def CodeOK (w0 : W0) (P C : Program) : Prop := ∀ f fn c, C.funcs[f]? = some fn → fn.body = some c → (P.funcs[f]? = some fn ∧ lS P fn = true) ∨ RepOK w0 P f fn c
def OrcOK (P : Program) (w0 : World) (O : Orc) : Prop := (∀ a b s, O.s a b = some s → ∀ w, Kept w0 w →
 (∃ fn c, P.funcs[O.n]? = some fn ∧ fn.body = some c ∧ (fn.name == "runtime.NumGoroutine") = false) ∧ Calls P O.n #[.int .i64 a, .int .i64 b] w fun e w' => e = .returned (.string ⟨s.toArray⟩) ∧ Kept w w') ∧
 (O.m = O.n ∨ ∀ w, Kept w0 w → (∃ fn c, P.funcs[O.m]? = some fn ∧ fn.body = some c ∧ (fn.name == "runtime.NumGoroutine") = false) ∧ Calls P O.m #[] w fun e w' => e = .returned (.bool true) ∧ Kept w w')
theorem aB4 {C : Program} (hfol : P.toTables.follows .mixedOrders = true) {W : World} (hC : ∀ w0 : W0, w0.toWorld = W → CodeOK w0 P C) {O : Orc} (hO : OrcOK P W O) (L : Nat) : ∀ n (w0 : W0), w0.toWorld = W → eH w0 P (qV P C O L n) := by
 intro n
 induction n with
 | zero => intro w0 hw f args args' σ σ' w μ r h; simp [qV] at h
 | succ n ih =>
  intro w0 hw
  have hC1 := hC w0 hw
  have ih1 := ih w0 hw
  subst hw
  intro f args args' σ σ' w μ r h Z hargs
  simp only [qV] at h
  split at h
  ·rename_i v hv
   simp only [ojE, pjE] at h
   obtain ⟨rfl, rfl⟩ := h
   unfold orA at hv
   cases hf : Nat.beq f O.n with
   | false =>
    rw [hf, cdf] at hv
    cases hm : Nat.beq f O.m with
    | false => rw [hm] at hv; cases hv
    | true =>
    rw [hm, cdt] at hv
    have hfm := nqE hm
    subst hfm
    split at hv
    ·rename_i he
     cases hv
     rw [he] at hargs
     have q3 : args' = #[] := by rw [← Array.toArray_toList (xs := args'), hargs.nil_inv]
     subst q3
     rcases hO.2 with h7 | h7
     ·rw [h7, Nat.beq_refl] at hf; cases hf
     ·obtain ⟨g1, g2⟩ := h7 w Z.kept.toKept
      exact ⟨g1, g2.mono fun e w' ⟨h5, h6⟩ => ⟨μ, _, h5, .same _ rfl, Z.keep h6, .refl _ _, nlR _⟩⟩
    ·cases hv
   | true =>
   rw [hf, cdt] at hv
   rw [nqE hf]
   split at hv
   ·rename_i a b he
    rw [mjE] at hv
    obtain ⟨x, hx, rfl⟩ := hv
    rw [mjE] at hx
    obtain ⟨s, hs, rfl⟩ := hx
    rw [he] at hargs
    obtain ⟨u, us, e1, r1, h3⟩ := hargs.cons_inv
    obtain ⟨u2, us2, rfl, r2, h4⟩ := h3.cons_inv
    rw [h4.nil_inv] at e1
    have q1 : u = .int .i64 a := by cases r1; rfl
    have q2 : u2 = .int .i64 b := by cases r2; rfl
    subst q1; subst q2
    have q3 : args' = #[.int .i64 a, .int .i64 b] := by rw [← Array.toArray_toList (xs := args'), e1]
    subst q3
    obtain ⟨g1, g2⟩ := hO.1 a b s hs w Z.kept.toKept
    exact ⟨g1, g2.mono fun e w' ⟨h5, h6⟩ => ⟨μ, _, h5, .same _ rfl, Z.keep h6, .refl _ _, nlR _⟩⟩
   ·cases hv
  split at h <;> try cases h
  rename_i fn hf
  split at h <;> try cases h
  rename_i c hb
  rcases hC1 f fn c hf hb with ⟨hf, hfn⟩ | ⟨g1, g2⟩
  rotate_left
  ·exact ⟨g1, g2 _ L ih _ _ _ _ _ _ _ h Z hargs⟩
  simp only [lS, hb, bjE, Bool.not_eq_true'] at hfn
  refine ⟨⟨fn, c, hf, hb, hfn.2⟩, ?_⟩
  cases hx : cS P (qV P C O L n) L c (mB args.toList 0 .nil) σ with
  | none => simp [hx, kX] at h
  | some x =>
   obtain ⟨fl, S', σ1⟩ := x
   have A0 : AR μ (mB args.toList 0 .nil) fn.ntmps { tmps := args' ++ Array.replicate (fn.ntmps - args'.size) undef, defers := [] } := by
    have hsz := hargs.size
    refine ⟨by simp; omega, rfl, fun i => ?_⟩
    rw [tS]
    simp only [Nat.zero_le, true_and, Nat.zero_add, Nat.sub_zero, Array.length_toList]
    rw [Array.getD_eq_getD_getElem?]
    by_cases hi : i < args.size
    ·rw [if_pos hi, Array.getElem?_append_left (by omega)]
     have h1 : args.toList[i]? = some args[i] := by simp [hi]
     obtain ⟨u, hu, hr⟩ := hargs.get h1
     have hu' : args'[i]? = some u := by simpa using hu
     rw [h1, hu']; exact hr
    ·rw [if_neg hi, Array.getElem?_append_right (by omega)]
     have : ((Array.replicate (fn.ntmps - args'.size) undef)[i - args'.size]?).getD undef = undef := by
      by_cases h2 : i - args'.size < fn.ntmps - args'.size
      ·simp [h2]
      ·simp [h2]
     rw [this]
     exact .undef
   have fin : ∀ (R : Exit), R = .normal ∨ R = .ret → (bO P S' σ1 fn.results.toList).map (fun vs => (iR vs, σ1)) = some (r, σ') →
          Post w0 P μ σ.next fn.ntmps S' σ1 (bodyPost P fn (fun e w' => ∃ μ' r', e = .returned r' ∧ VR μ' r r' ∧ Sim w0 P μ' σ' w' ∧ Ext σ.next μ μ' ∧ σ.next ≤ σ'.next) R) := by
    intro R hR hres a' w' μ' A' Z' E hl
    rw [mjE] at hres
    obtain ⟨vs, hvs, he⟩ := hres
    cases he
    obtain ⟨v', h1, h2⟩ := aFV A' Z' hvs
    rcases hR with rfl | rfl
    ·exact ⟨A'.defers, v', h1, μ', v', rfl, h2, Z', E, hl⟩
    ·exact ⟨A'.defers, v', h1, μ', v', rfl, h2, Z', E, hl⟩
   refine calls_of_wp hf hb ?_
   cases fl with
   | exit k => simp [hx, kX] at h
   | normal => simp only [hx, kX] at h; exact jH ih1 hfol L fn.ntmps c _ σ .normal S' σ1 _ w μ _ hx hfn.1 A0 Z (fin .normal (.inl rfl) h)
   | ret => simp only [hx, kX] at h; exact jH ih1 hfol L fn.ntmps c _ σ .ret S' σ1 _ w μ _ hx hfn.1 A0 Z (fin .ret (.inr rfl) h)
end
end Go.AI
namespace Go.AI
section
variable {P : Program} {ops : Array Oper} {base i : Nat} {l : List Oper} {S : Slots} {σ : St} {Q : Slots → St → Prop} {d : Option Tmp} {ty : TypeId} {pos : String} {af : Array Edge}
def gU (P : Program) (op : BinOp) (t : TypeId) (x y : Operand) (a b : Value) : Option Value :=
 bif aT a && aT b then aW P (do eqGuard op t x y a b; binOp op t a b)
 else match P.underlying t with
  | some (.slice _) => anil op a b
  | _ => none
def aconv (P : Program) (s t : TypeId) (a : Value) : Option Value := bif aC a then aW P (convert s t a) else none
end
end Go.AI
namespace Go.AI
section
variable {P : Program} {S : Slots} {σ : St} {Q : Fl → Slots → St → Prop}
section
variable {t : TypeId} {x y : Operand} {k : IntKind} {a b : Int}
theorem n_lss : gU P .lss t x y (.int k a) (.int k b) = some (.bool (decide (a < b))) := by cases k <;> rfl
theorem n_leq : gU P .leq t x y (.int k a) (.int k b) = some (.bool (decide (a ≤ b))) := by cases k <;> rfl
theorem n_gtr : gU P .gtr t x y (.int k a) (.int k b) = some (.bool (decide (b < a))) := by cases k <;> rfl
theorem n_geq : gU P .geq t x y (.int k a) (.int k b) = some (.bool (decide (b ≤ a))) := by cases k <;> rfl
theorem n_eql : gU P .eql t x y (.int k a) (.int k b) = some (.bool (a == b)) := by cases k <;> rfl
theorem n_neq : gU P .neq t x y (.int k a) (.int k b) = some (.bool (a != b)) := by cases k <;> rfl
theorem n_add : gU P .add t x y (.int k a) (.int k b) = some (.int k (k.wrap (a + b))) := by cases k <;> rfl
theorem n_sub : gU P .sub t x y (.int k a) (.int k b) = some (.int k (k.wrap (a - b))) := by cases k <;> rfl
theorem n_mul : gU P .mul t x y (.int k a) (.int k b) = some (.int k (k.wrap (a * b))) := by cases k <;> rfl
theorem n_quo (h : b ≠ 0) : gU P .quo t x y (.int k a) (.int k b) = some (.int k (k.wrap (a.tdiv b))) := by
 cases k <;> simp [gU, aT, aC, aW, aA, eqGuard, binOp, Op.intDiv, h, aB]
theorem n_rem (h : b ≠ 0) : gU P .rem t x y (.int k a) (.int k b) = some (.int k (a.tmod b)) := by
 cases k <;> simp [gU, aT, aC, aW, aA, eqGuard, binOp, Op.intDiv, h, aB]
theorem n_shl {k' : IntKind} (h : 0 ≤ b) : gU P .shl t x y (.int k a) (.int k' b) = some (.int k (k.wrap (a * 2 ^ (min b.toNat k.bits)))) := by
 have : ¬ b < 0 := by omega
 cases k <;> simp [gU, aT, aC, aW, aA, eqGuard, binOp, Op.shift, this, aB]
theorem n_shr {k' : IntKind} (h : 0 ≤ b) : gU P .shr t x y (.int k a) (.int k' b) = some (.int k (a.fdiv (2 ^ (min b.toNat k.bits)))) := by
 have : ¬ b < 0 := by omega
 cases k <;> simp [gU, aT, aC, aW, aA, eqGuard, binOp, Op.shift, this, aB]
theorem n_and : gU P .and t x y (.int k a) (.int k b) = some (.int k (k.wrap ((BitVec.ofInt k.bits a &&& BitVec.ofInt k.bits b).toNat : Int))) := by cases k <;> rfl
theorem n_or : gU P .or t x y (.int k a) (.int k b) = some (.int k (k.wrap ((BitVec.ofInt k.bits a ||| BitVec.ofInt k.bits b).toNat : Int))) := by cases k <;> rfl
theorem n_xor : gU P .xor t x y (.int k a) (.int k b) = some (.int k (k.wrap ((BitVec.ofInt k.bits a ^^^ BitVec.ofInt k.bits b).toNat : Int))) := by cases k <;> rfl
theorem n_andNot : gU P .andNot t x y (.int k a) (.int k b) = some (.int k (k.wrap ((BitVec.ofInt k.bits a &&& ~~~ BitVec.ofInt k.bits b).toNat : Int))) := by cases k <;> rfl
theorem aE8 {c e : Bool} (ht : P.underlying t = some .bool) : aM P (Op.equal t (.bool c) (.bool e)) = some (c == e) := by
 unfold Op.equal
 rw [show Op.maxDepth = Nat.succ 9999 from rfl, Op.equalIn.eq_2, aA, aD, ht]; rfl
theorem n_eqb {c e : Bool} (ht : P.underlying t = some .bool) : gU P .eql t x y (.bool c) (.bool e) = some (.bool (c == e)) := by
 simp only [gU, aT, aC, Bool.and_self, cdt, aW, aA, eqGuard, bnT, Bool.false_eq_true, if_false, aB, obS, binOp, aE8 ht]
theorem n_neb {c e : Bool} (ht : P.underlying t = some .bool) : gU P .neq t x y (.bool c) (.bool e) = some (.bool (!(c == e))) := by
 simp only [gU, aT, aC, Bool.and_self, cdt, aW, aA, eqGuard, bnT, Bool.false_eq_true, if_false, aB, obS, binOp, aE8 ht]
theorem n_conv {s : TypeId} {d : TypeDesc} {k' : IntKind} (hs : P.underlying s = some d) (ht : P.underlying t = some (.int k')) : aconv P s t (.int k a) = some (.int k' (k'.wrap a)) := by
 unfold aconv
 simp only [aC, cdt, aW, convert, aA, aD, hs, ht, obS, Conv.intToInt, aB, aT]
end
end
end Go.AI
namespace Go.AI
mutual
theorem fJ : ∀ (a : Value), dB a a = true
 | .bool a | .int j a | .float j a | .complex j a c | .pointer a | .slice a l c | .map a | .chan a | .nilFunc | .nilIface => by simp [dB]
 | .string a => by simp [dB]
 | .func f ⟨xs⟩ ⟨ys⟩ => by simp [dB, fK xs, fK ys]
 | .iface t v => by simp [dB, fJ v]
 | .agg ⟨xs⟩ => by simp [dB, fK xs]
 | .tuple ⟨xs⟩ => by simp [dB, fK xs]
theorem fK : ∀ (a : List Value), mQ a a = true
 | [] => by simp [mQ]
 | x :: xs => by simp [mQ, fJ x, fK xs]
end
theorem rG : ∀ (a : List (Value × Value)), sQ a a = true
 | [] => by simp [sQ]
 | x :: xs => by simp [sQ, fJ, rG xs]
theorem sP (m : Mta) : lL m m = true := by simp [lL, cN]
theorem nS (a : AObj) : jA a a = true := by
 cases a with
 | cells cs m => simp [jA, fK, sP]
 | map es => simp [jA, rG]
end Go.AI
namespace Go.PI
open Go.AI
def Rz (σ σ' : St) : Prop := ∀ a cs m, σ.get a = some (.cells cs m) → ∃ cs' b, σ'.get a = some (.cells cs' { m with tip := b })
def g00 : Ga := fun _ => none
section
variable {P : Program} {ν ν' : Nu} {γ γ1 γ' : Ga} {σ σ' : St} {S : PS} {A : Slots} {base : Nat}
theorem Qt.put {id : Nat} {o : AObj} (hf : σ.get id = none) : Qt σ (σ.put id o) :=
 ⟨rfl, fun a ob h => .inl (by rw [aF, if_neg (fun e => by rw [e, hf] at h; cases h)]; exact h)⟩
theorem Qt.row (q : Qt σ σ') {id : Nat} {cs : List Value} {m : Mta} (h : σ.row id = some (cs, m)) : ∃ b, σ'.row id = some (cs, { m with tip := b }) := by
 obtain ⟨h1, h2⟩ := bL h
 rcases q.get id _ h1 with e | ⟨cs', m', b, e1, _, e2⟩
 ·exact ⟨m.tip, row_of_get e (by rw [gO q.vers]; exact h2)⟩
 ·simp only [AObj.cells.injEq] at e1; obtain ⟨rfl, rfl⟩ := e1
  exact ⟨b, row_of_get e2 (by rw [gO q.vers]; exact h2)⟩
theorem aFW {t : TypeId} {w u : Value} (hrow : ∀ id cs m, σ.row id = some (cs, m) → ∃ m', σ'.row id = some (cs, m')) (h : eB P σ t w = some u) : eB P σ' t w = some u := by
 unfold eB at h ⊢
 split at h
 ·split at h
  ·rename_i cs m hr
   obtain ⟨m', hr'⟩ := hrow _ _ _ hr
   simp only [hr']
   exact h
  ·cases h
 ·cases h
theorem aC4 {t : TypeId} {w u : Value} {lo hi mx : Option Value} (hrow : ∀ id cs m, σ.row id = some (cs, m) → ∃ cs' m', σ'.row id = some (cs', m') ∧ m'.z = m.z)
    (hex : ∀ id off n c, w = .slice (some ⟨id, off, none⟩) n c → ∃ cs m, σ.row id = some (cs, m)) (h : nX P σ t w lo hi mx = some u) : nX P σ' t w lo hi mx = some u := by
 unfold nX at h ⊢
 split at h
 ·exact h
 ·rename_i e he
  split at h
  ·rename_i a len c
   split at h
   ·rename_i z l hh m e1 e2 e3 e4
    cases hc : decide (0 ≤ l.getD 0) && decide (l.getD 0 ≤ hh.getD (len : Int)) && decide (hh.getD (len : Int) ≤ (len : Int)) with
    | false => simp only [hc, cdf] at h; cases h
    | true =>
     simp only [hc, cdt] at h ⊢
     split at h
     ·exact h
     ·rename_i id off
      obtain ⟨cs, mm, hr⟩ := hex id off len c rfl
      obtain ⟨cs', m', hr', hz'⟩ := hrow _ _ _ hr
      have : yH σ' id z = yH σ id z := by simp only [yH, hr, hr', hz']
      rw [this]; exact h
     ·exact h
   ·cases h
  ·cases h
 ·cases h
theorem aload_qt (q : Qt σ σ') {ρ : Operand → Value} {o : Oper} {t : TypeId} {a : Operand} (ho : o.op = .load t a) {v : Value} (h : gP P σ ρ o = some v) : gP P σ' ρ o = some v := by
 simp only [gP, ho] at h ⊢
 refine aFW (fun id cs m hr => ?_) h
 obtain ⟨b, hb⟩ := q.row hr
 exact ⟨_, hb⟩
theorem tY (q : Qt σ σ') {r : iW} (hl : r.ob = none → ∃ t a, r.o.op = .load t a) (hb : ∀ ob, r.ob = some ob → (∀ a, σ.get a = some ob → σ'.get a = some ob)) (h : check P base σ r = true) : check P base σ' r = true := by
 unfold check at h ⊢
 split at h
 ·rename_i e
  split at h
  ·rename_i v hv
   obtain ⟨t, a, ho⟩ := hl e
   simp only [aload_qt q ho hv]; exact h
  ·cases h
 ·rename_i ob e
  split at h
  ·rename_i ob' hg
   have := rF h
   subst this
   simp only [hb ob' e _ hg]; exact h
  ·cases h
def Stab (P : Program) (base : Nat) (ν : Nu) (σ : St) (r : iW) : Prop := ∀ ν' σ', Keep ν g00 σ σ' → Mon σ ν ν' → Rz σ σ' → check P base σ' r = true
theorem Stab.adv {p p' : PSt} {r : iW} (h : Stab P base ν σ r) (a : Adv ν γ p σ ν' γ' p' σ') : Stab P base ν' σ' r := by
 intro ν'' σ'' k m z
 refine h ν'' σ'' (Keep.trans (γ := g00) (γ' := g00) (a.keep.weak fun _ h => by cases h) a.mon k (.refl σ _)) (a.mon.trans m a.keep.dom) fun x cs mm hx => ?_
 obtain ⟨cs', b, h1⟩ := a.rz x cs mm hx
 obtain ⟨cs'', b', h2⟩ := z x cs' _ h1
 exact ⟨cs'', b', h2⟩
def Looks (base : Nat) (r : iW) (a : Nat) : Prop := (r.ob = none ∧ ∃ t x off, r.o.op = .load t x ∧ ev r.S x = .pointer (some ⟨a, off, none⟩)) ∨ (r.ob ≠ none ∧ base + r.i = a)
theorem aC1 {r : iW} {a : Nat} (hl : Looks base r a) (hg : σ'.get a = σ.get a) (hv : σ'.vers = σ.vers) (h : check P base σ r = true) : check P base σ' r = true := by
 unfold check at h ⊢
 rcases hl with ⟨h1, t, x, off, h2, h3⟩ | ⟨h1, h2⟩
 ·rw [h1] at h ⊢
  have hrow : σ'.row a = σ.row a := by
   simp only [St.row, hg]
   cases σ.get a with
   | none => rfl
   | some o => cases o with
    | cells cs m => simp only [gO hv]
    | map es => rfl
  simp only [gP, h2, eB, h3, hrow] at h ⊢
  exact h
 ·cases hob : r.ob with
  | none => exact absurd hob h1
  | some ob => rw [hob] at h; simp only [h2, hg] at h ⊢; exact h
structure Trk (P : Program) (base : Nat) (ν : Nu) (p : PSt) (σ : St) (q : fS) (r : iW) : Prop where
 cl : ∀ id, cid q.o q.a q.v = some id → id ∉ p.wr → ∃ a, ν id = some (some a) ∧ Looks base r a ∧ check P base σ r = true
 i : q.i = r.i
 ok : q.stale = false → check P base σ r = true
 box : fX q.o = false → ∀ ob, r.ob = some ob → ∃ cs, ob = .cells cs boxMeta
 rd : r.ob = none → ∃ t a, r.o.op = .load t a
 ld : ∀ t a, q.o.op = .load t a → r.ob = none ∧ r.o = q.o ∧ R ν σ q.a (ev r.S a) ∧ R ν σ q.v r.v
def Inv (P : Program) (base : Nat) (ν : Nu) (p : PSt) (σ : St) (Pl : List fS) (Rl : List iW) : Prop := ∀ r ∈ Rl, Stab P base ν σ r ∨ ∃ q ∈ Pl, Trk P base ν p σ q r
theorem Trk.adv_cl {p p' : PSt} {q : fS} {r : iW} (T : Trk P base ν p σ q r) (a : Adv ν γ p σ ν' γ' p' σ') : ∀ id, cid q.o q.a q.v = some id → id ∉ p'.wr → ∃ a, ν' id = some (some a) ∧ Looks base r a ∧ check P base σ' r = true := by
 intro id hid hd
 obtain ⟨b, h1, h2, h3⟩ := T.cl id hid fun hh => hd (a.dp.wr id hh)
 obtain ⟨e1, e2⟩ := a.bx id b h1 hd
 exact ⟨b, e2, h2, aC1 h2 e1 a.keep.vers h3⟩
mutual
theorem aA2 : ∀ {x y : PV}, uW x y = true → x = y
 | .v a, .v b, h => by rw [jR a b h]
 | .str a, .str b, h => by simp only [uW, beq_iff_eq] at h; rw [h]
 | .agg xs, .agg ys, h => by rw [uU h]
 | .v _, .str _, h | .v _, .agg _, h | .v _, .tup _, h | .v _, .nil, h | .v _, .emp, h | .v _, .sl _ _, h | .v _, .pin _ _ _, h | .v _, .ptr _ _, h | .v _, .rs _ _ _, h | .v _, .mp _, h | .v _, .fn _ _ _, h | .v _, .und, h => by simp [uW] at h
 | .str _, .v _, h | .str _, .agg _, h | .str _, .tup _, h | .str _, .nil, h | .str _, .emp, h | .str _, .sl _ _, h | .str _, .pin _ _ _, h | .str _, .ptr _ _, h | .str _, .rs _ _ _, h | .str _, .mp _, h | .str _, .fn _ _ _, h | .str _, .und, h => by simp [uW] at h
 | .agg _, .v _, h | .agg _, .str _, h | .agg _, .tup _, h | .agg _, .nil, h | .agg _, .emp, h | .agg _, .sl _ _, h | .agg _, .pin _ _ _, h | .agg _, .ptr _ _, h | .agg _, .rs _ _ _, h | .agg _, .mp _, h | .agg _, .fn _ _ _, h | .agg _, .und, h => by simp [uW] at h
 | .tup _, _, h | .nil, _, h | .emp, _, h | .sl _ _, _, h | .pin _ _ _, _, h | .ptr _ _, _, h | .rs _ _ _, _, h | .mp _, _, h | .fn _ _ _, _, h | .und, _, h => by simp [uW] at h
theorem uU : ∀ {xs ys : List PV}, uV xs ys = true → xs = ys
 | [], [], _ => rfl
 | x :: xs, y :: ys, h => by
  simp only [uV, bjE] at h
  rw [aA2 h.1, uU h.2]
 | [], _ :: _, h | _ :: _, [], h => by simp [uV] at h
end
theorem Inv.check {p : PSt} {Pl : List fS} {Rl : List iW} (I : Inv P base ν p σ Pl Rl) (M : Mem ν γ p σ) (h : Pl.all (kG P p) = true) : Rl.all (AI.check P base σ) = true := by
 rw [List.all_eq_true] at h ⊢
 intro r hr
 rcases I r hr with hs | ⟨q, hq, T⟩
 ·exact hs ν σ (.refl ν g00 σ) (.refl σ ν) fun a cs m h => ⟨cs, m.tip, h⟩
 ·have hc := h q hq
  unfold kG at hc
  cases hst : q.stale with
  | false => exact T.ok hst
  | true =>
   rw [hst] at hc
   simp only [bnT, Bool.false_or, Bool.or_eq_true] at hc
   rcases hc with hc | hc
   ·cases hcid : cid q.o q.a q.v with
    | none => rw [hcid] at hc; cases hc
    | some id =>
     rw [hcid] at hc
     simp only [clean, Bool.not_eq_true', List.contains_eq_mem, dfN] at hc
     obtain ⟨_, _, _, h3⟩ := T.cl id hcid hc
     exact h3
   split at hc
   ·rename_i t a ho
    simp only [bjE] at hc
    obtain ⟨h1, h2, h3, h4⟩ := T.ld t a ho
    cases hv : toV q.v with
    | none => rw [hv] at hc; simp at hc
    | some w =>
     split at hc
     ·rename_i v' hl
      have := aA2 hc.2
      subst this
      obtain ⟨u, hu, hr'⟩ := sX M h3 hl
      obtain ⟨rfl, _⟩ := aAU hv hr'
      obtain ⟨e, _⟩ := aAU hv h4
      unfold AI.check
      rw [h1]
      simp only [gP, h2, ho, hu]
      rw [e]; exact fJ _
     ·simp at hc
   ·cases hc
theorem aDa {id : Nat} {c : Call} {s x u : Value} (hf : σ.get id = none) (h1 : gH P σ id c s x = some (u, σ')) : Qt σ σ' := by
 unfold gH at h1
 split at h1
 ·split at h1
  ·rename_i e d _ _
   cases hc : fits d x with
   | false => rw [hc, cdf] at h1; cases h1
   | true =>
    rw [hc, cdt] at h1
    split at h1
    ·rename_i info _
     split at h1
     ·rename_i n xs z _ _
      cases hc2 : xs.all one && Nat.ble 1 info.size && Nat.ble 1 info.bytes && Nat.beq z.cells.size info.size && dH s with
      | false => rw [hc2, cdf] at h1; cases h1
      | true =>
       rw [hc2, cdt] at h1
       cases hc3 : Nat.beq n 0 with
       | true => rw [hc3, cdt] at h1; simp only [ojE, pjE] at h1; obtain ⟨_, rfl⟩ := h1; exact .refl σ
       | false =>
        rw [hc3, cdf] at h1
        unfold kE at h1
        split at h1
        ·cases hc4 : Nat.ble (n * info.bytes) 1073741824 with
         | false => rw [hc4, cdf] at h1; cases h1
         | true => rw [hc4, cdt] at h1; simp only [ojE, pjE] at h1; obtain ⟨_, rfl⟩ := h1; exact .put hf
        ·rename_i id0 off len k
         cases hc4 : Nat.ble ((len + n) * info.bytes) 1073741824 with
         | false => rw [hc4, cdf] at h1; cases h1
         | true =>
          rw [hc4, cdt] at h1
          split at h1
          ·rename_i cs m hrow
           split at h1
           ·rename_i old _
            cases hc5 : Nat.beq k len with
            | true => rw [hc5, cdt] at h1; simp only [ojE, pjE] at h1; obtain ⟨_, rfl⟩ := h1; exact .put hf
            | false =>
             rw [hc5, cdf] at h1
             cases hc6 : m.tip && m.wr && Nat.beq m.z info.size && Nat.beq (off + len * info.size) cs.length && m.grp.isSome with
             | false => rw [hc6, cdf] at h1; cases h1
             | true =>
              rw [hc6, cdt] at h1; simp only [ojE, pjE] at h1; obtain ⟨_, rfl⟩ := h1
              simp only [bjE] at hc6
              refine ⟨rfl, fun a ob hg => ?_⟩
              rw [aF, if_neg (fun e => by rw [e, hf] at hg; cases hg), aF]
              by_cases e2 : a = id0
              ·subst e2
               rw [(bL hrow).1] at hg
               simp only [ojE] at hg; subst hg
               rw [if_pos rfl]; exact .inr ⟨cs, m, false, rfl, hc6.1.1.1.1, rfl⟩
              ·rw [if_neg e2]; exact .inl hg
           ·cases h1
          ·cases h1
        ·cases h1
     ·cases h1
    ·cases h1
  ·cases h1
 ·cases h1
theorem Inv.qt {p p' : PSt} {Pl : List fS} {Rl : List iW} (I : Inv P base ν p σ Pl Rl) (a : Adv ν γ p σ ν' γ' p' σ') (q : Qt σ σ') (hx : ∀ q ∈ Pl, fX q.o = true → q.stale = false → ∀ a ob, σ.get a = some ob → σ'.get a = some ob) : Inv P base ν' p' σ' Pl Rl := by
 intro r hr
 rcases I r hr with hs | ⟨k, hk, T⟩
 ·exact .inl (hs.adv a)
 ·refine .inr ⟨k, hk, T.adv_cl a, T.i, fun hst => tY q T.rd (fun ob hob b hb => ?_) (T.ok hst), T.box, T.rd, fun t x ho => ?_⟩
  ·cases hm : fX k.o with
   | true => exact hx k hk hm hst b ob hb
   | false =>
    obtain ⟨cs, rfl⟩ := T.box hm ob hob
    rcases q.get b _ hb with e | ⟨cs', m', b', e1, e2, _⟩
    ·exact e
    ·simp only [AObj.cells.injEq] at e1; obtain ⟨rfl, rfl⟩ := e1; cases e2
  ·obtain ⟨h1, h2, h3, h4⟩ := T.ld t x ho
   exact ⟨h1, h2, h3.keep a.keep a.mon, h4.keep a.keep a.mon⟩
theorem Inv.filter {p : PSt} {Pl : List fS} {Rl : List iW} (I : Inv P base ν p σ Pl Rl) (f : Nat → Bool) : Inv P base ν p σ (Pl.filter fun q => f q.i) (Rl.filter fun r => f r.i) := by
 intro r hr
 rw [List.mem_filter] at hr
 rcases I r hr.1 with hs | ⟨k, hk, T⟩
 ·exact .inl hs
 ·exact .inr ⟨k, List.mem_filter.2 ⟨hk, by rw [T.i]; exact hr.2⟩, T⟩
theorem Inv.stale {p p' : PSt} {Pl : List fS} {Rl : List iW} (I : Inv P base ν p σ Pl Rl) (a : Adv ν γ p σ ν' γ' p' σ') : Inv P base ν' p' σ' (Pl.map fun q => { q with stale := true }) Rl := by
 intro r hr
 rcases I r hr with hs | ⟨k, hk, T⟩
 ·exact .inl (hs.adv a)
 ·refine .inr ⟨_, List.mem_map.2 ⟨k, hk, rfl⟩, T.adv_cl a, T.i, fun h => (by cases h), T.box, T.rd, fun t x ho => ?_⟩
  obtain ⟨h1, h2, h3, h4⟩ := T.ld t x ho
  exact ⟨h1, h2, h3.keep a.keep a.mon, h4.keep a.keep a.mon⟩
theorem Inv.some {p p' : PSt} {Pl : List fS} {Rl : List iW} (I : Inv P base ν p σ Pl Rl) (a : Adv ν γ p σ ν' γ' p' σ') (q : Qt σ σ') : Inv P base ν' p' σ' (Pl.map fun q => bif !fX q.o then q else { q with stale := true }) Rl := by
 intro r hr
 rcases I r hr with hs | ⟨k, hk, T⟩
 ·exact .inl (hs.adv a)
 ·cases hm : fX k.o with
  | true =>
   refine .inr ⟨{ k with stale := true }, List.mem_map.2 ⟨k, hk, by simp [hm]⟩, T.adv_cl a, T.i, fun h => (by cases h), T.box, T.rd, fun t x ho => ?_⟩
   obtain ⟨h1, h2, h3, h4⟩ := T.ld t x ho
   exact ⟨h1, h2, h3.keep a.keep a.mon, h4.keep a.keep a.mon⟩
  | false =>
   refine .inr ⟨k, List.mem_map.2 ⟨k, hk, by simp [hm]⟩, T.adv_cl a, T.i, fun hst => tY q T.rd (fun ob hob b hb => ?_) (T.ok hst), T.box, T.rd, fun t x ho => ?_⟩
   ·obtain ⟨cs, rfl⟩ := T.box hm ob hob
    rcases q.get b _ hb with e | ⟨cs', m', b', e1, e2, _⟩
    ·exact e
    ·simp only [AObj.cells.injEq] at e1; obtain ⟨rfl, rfl⟩ := e1; cases e2
   ·obtain ⟨h1, h2, h3, h4⟩ := T.ld t x ho
    exact ⟨h1, h2, h3.keep a.keep a.mon, h4.keep a.keep a.mon⟩
theorem R.vid {p : PSt} (M : Mem ν γ p σ) {v : PV} {u : Value} {id : Nat} (r : R ν σ v u) (hv : PI.vid v = Option.some id) (hg : ∃ o, p.get id = Option.some o ∧ o ≠ .gone) :
    ∃ a, ν id = Option.some (Option.some a) ∧ ((∃ off, u = .pointer (Option.some ⟨a, off, none⟩)) ∨ ∃ off n c, u = .slice (Option.some ⟨a, off, none⟩) n c) := by
 obtain ⟨o, ho, hne⟩ := hg
 have hν : ∃ a, ν id = Option.some (Option.some a) := by
  have := M.get id o ho
  cases o with
  | box cs => obtain ⟨a, us, h1, _⟩ := this; exact ⟨a, h1⟩
  | row z ag cs => obtain ⟨a, us, h1, _⟩ := this; exact ⟨a, h1⟩
  | map es => exact this.elim
  | gone => exact absurd rfl hne
 obtain ⟨a, ha⟩ := hν
 refine ⟨a, ha, ?_⟩
 cases v <;> simp only [PI.vid, ojE] at hv <;> try cases hv
 ·cases r with
  | ptr _ off' a' h => rw [ha] at h; simp only [ojE] at h; subst h; exact .inl ⟨_, rfl⟩
  | ptr0 _ off a' h => rw [ha] at h; cases h
 ·cases r with
  | rs _ off' len' c a' h => rw [ha] at h; simp only [ojE] at h; subst h; exact .inr ⟨_, _, _, rfl⟩
  | rs0 _ off len c a' h => rw [ha] at h; cases h
theorem fY {α : Type} {c : Bool} {A : Option α} {x : α} (h : (bif c then A else none) = Option.some x) : A = Option.some x := by cases c with
 | false => cases h
 | true => exact h
theorem bif_or {α : Type} {c : Bool} {A B x : α} (h : (bif c then A else B) = x) : A = x ∨ B = x := by cases c with
 | false => exact .inr h
 | true => exact .inl h
theorem xR {ρ : Operand → Value} {o : Oper} {id a : Nat} {u : Value} {ob : AObj} (h : cR P ρ o id = Option.some (u, ob)) (hu : (∃ off, u = .pointer (Option.some ⟨a, off, none⟩)) ∨ ∃ off n c, u = .slice (Option.some ⟨a, off, none⟩) n c) : id = a := by
 have fin : ∀ {off n k : Nat}, u = .pointer (Option.some ⟨id, off, none⟩) ∨ u = .slice (Option.some ⟨id, off, none⟩) n k ∨ u = .map (Option.some id) → id = a := by
  rintro off n k (rfl | rfl | rfl) <;> rcases hu with ⟨o2, e⟩ | ⟨o2, n2, c2, e⟩ <;> first | (cases e; rfl) | cases e
 obtain ⟨dst, op, ty, pos, af, g⟩ := o
 cases op <;> simp only [cR] at h <;> try cases h
 ·split at h <;> try cases h
  have h := fY h
  simp only [ojE, pjE] at h; exact fin (n := 0) (k := 0) (.inl h.1.symm)
 ·have h := fY h
  simp only [ojE, pjE] at h; exact fin (n := 0) (k := 0) (.inl h.1.symm)
 ·split at h <;> try cases h
  split at h <;> try cases h
  split at h <;> try cases h
  have h := fY h
  simp only [mjE, pjE] at h
  obtain ⟨cs, _, h2, _⟩ := h
  exact fin (.inr (.inl h2.symm))
 ·split at h <;> try cases h
  split at h <;> try cases h
  split at h <;> try cases h
  have h := fY h
  rcases bif_or h with h | h
  ·simp only [ojE, pjE] at h; exact fin (.inr (.inl h.1.symm))
  ·simp only [ojE, pjE] at h; exact fin (.inr (.inl h.1.symm))
theorem Inv.cons {p : PSt} {Pl : List fS} {Rl : List iW} (I : Inv P base ν p σ Pl Rl) {r : iW} (h : Stab P base ν σ r) : Inv P base ν p σ Pl (r :: Rl) := by
 intro x hx
 rcases List.mem_cons.1 hx with rfl | hx
 ·exact .inl h
 ·exact I x hx
theorem Inv.cons2 {p : PSt} {Pl : List fS} {Rl : List iW} (I : Inv P base ν p σ Pl Rl) {r : iW} {q : fS} (h : Trk P base ν p σ q r) : Inv P base ν p σ (q :: Pl) (r :: Rl) := by
 intro x hx
 rcases List.mem_cons.1 hx with rfl | hx
 ·exact .inr ⟨q, mhE .., h⟩
 ·rcases I x hx with h | ⟨k, hk, T⟩
  ·exact .inl h
  ·exact .inr ⟨k, mtE _ hk, T⟩
end
end Go.PI
