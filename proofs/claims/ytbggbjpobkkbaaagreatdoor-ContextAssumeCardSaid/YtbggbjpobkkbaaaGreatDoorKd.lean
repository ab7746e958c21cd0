import Derived.Test.YtbggbjpobkkbaaaGreatDoorKc
set_option linter.unusedVariables false
set_option linter.unusedSimpArgs false
set_option linter.constructorNameAsVariable false
namespace Go.PI
open Go.AI
def GoOut (σ : St) (γ γ' : Ga) : Prop := ∀ i, σ.get i ≠ none → γ i = some .out → γ' i = some .out
theorem GoOut.refl (σ : St) (γ : Ga) : GoOut σ γ γ := fun _ _ h => h
theorem GoOut.trans {σ σ' : St} {γ γ' γ'' : Ga} (h : GoOut σ γ γ') (h' : GoOut σ' γ' γ'') (hd : ∀ a, σ'.get a = none → σ.get a = none) : GoOut σ γ γ'' := fun i e hi => h' i (fun e' => e (hd i e')) (h i e hi)
theorem G2.out {σ : St} {γ γ' : Ga} (g : G2 γ γ') : GoOut σ γ γ' := fun i _ h => (g i).1 h
theorem fR {p : PSt} {id : Nat} {o : lF} (h : id < p.next) (k : Nat) : (p.upd id o).get k = if k = id then some o else p.get k := by
 simp only [PSt.get, PSt.upd, Tr.get_set, hP, Bool.cond_decide];by_cases e : k = id
 ·subst e; simp [h]
 ·simp [e]
theorem aE3 {p : PSt} {id : Nat} {o : lF} (h : p.get id = some o) : id < p.next := by
 simp only [PSt.get, hP, Bool.cond_decide] at h;by_cases e : id < p.next
 ·exact e
 ·simp [e] at h
theorem aCe {p q : Prop} [Decidable p] [Decidable q] (h : ¬ (p ∧ q)) : (decide p && decide q) = false := by
 by_cases hp : p <;> by_cases hq : q <;> simp_all
section
variable {P : Program} {ν : Nu} {γ : Ga} {σ : St} {S : PS} {A : Slots}
theorem aBz {z : Nat} {es : List PV} {id off c : Nat} (r : R ν σ (.sl z es) (.slice (some ⟨id, off, none⟩) es.length c)) : R ν σ (cU z es) (.slice (some ⟨id, off, none⟩) es.length c) := by
 cases es with
 | nil => cases r with | sl _ _ _ _ _ rcs m hz hs hr hm hb hh => exact .emp1 _ _ _ _ _ hr
 | cons e es => exact r
theorem wK {z : Nat} : ∀ {es : List PV} (hs : ∀ e ∈ es, e.cells.length = z) (l : Nat), eE (es.drop l) = (eE es).drop (l * z) := by
 intro es;induction es with
 | nil => intro hs l; simp [eE]
 | cons e es ih =>
  intro hs l;cases l with
  | zero => simp
  | succ l =>
   have := ih (fun x hx => hs x (mtE _ hx)) l
   simp only [List.drop_succ_cons, this];simp only [eE, fmC];have he := hs e (by simp)
   have h1 : e.cells.drop ((l + 1) * z) = [] := List.drop_eq_nil_of_le (by rw [he, Nat.succ_mul]; omega)
   have h2 : (l + 1) * z - z = l * z := by rw [Nat.succ_mul]; omega
   rw [List.drop_append, h1, he, h2, nlA]
theorem wJ {z : Nat} : ∀ {es : List PV} (hs : ∀ e ∈ es, e.cells.length = z) (l : Nat), eE (es.take l) = (eE es).take (l * z) := by
 intro es;induction es with
 | nil => intro hs l; simp [eE]
 | cons e es ih =>
  intro hs l;cases l with
  | zero => simp [eE]
  | succ l =>
   have := ih (fun x hx => hs x (mtE _ hx)) l
   simp only [eE, List.take_succ_cons, fmC] at this ⊢;have he := hs e (by simp)
   have h1 : e.cells.take ((l + 1) * z) = e.cells := List.take_of_length_le (by rw [he, Nat.succ_mul]; omega)
   have h2 : (l + 1) * z - z = l * z := by rw [Nat.succ_mul]; omega
   rw [this, List.take_append, h1, he, h2]
theorem R.sub {z : Nat} {es : List PV} {id off n c : Nat} (r : R ν σ (.sl z es) (.slice (some ⟨id, off, none⟩) n c)) {l h : Nat} (h1 : l ≤ h) (h2 : h ≤ es.length) (c' : Nat) :
    R ν σ (cU z ((es.take h).drop l)) (.slice (some ⟨id, off + l * z, none⟩) (h - l) c') := by
 cases r with
 | sl _ _ _ _ _ rcs m hz hs hr hm hb hh =>
  have hlen : ((es.take h).drop l).length = h - l := by simp; omega
  have hle : (h - l) * z + l * z ≤ es.length * z := by rw [← Nat.add_mul]; exact Nat.mul_le_mul_right _ (by omega)
  rw [← hlen];refine aBz (.sl z _ id _ c' rcs m hz (fun e he => hs e (List.mem_of_mem_take (List.mem_of_mem_drop he))) hr hm (by rw [hlen]; omega) fun i x u hx hu => ?_)
  have hs' : ∀ e ∈ es.take h, e.cells.length = z := fun e he => (hs e (List.mem_of_mem_take he)).1
  rw [wK hs', wJ (fun e he => (hs e he).1), List.getElem?_drop, List.getElem?_take] at hx
  split at hx
  ·exact hh (l * z + i) x u hx (by rw [← Nat.add_assoc]; exact hu)
  ·cases hx
def OR (ν : Nu) (σ : St) (xs : Option PV) (us : Option Value) : Prop := match xs, us with | some x, some u => R ν σ x u | none, none => True | _, _ => False
theorem aEC {xs : Option PV} {us : Option Value} {l : Option Value} (h : optV xs = some l) (hr : OR ν σ xs us) :
    us = l ∧ aC (us.getD (.bool true)) = true := by
 cases xs with
 | none =>
  cases us with
  | none => simp only [optV, ojE] at h; exact ⟨h, rfl⟩
  | some u => exact False.elim hr
 | some x =>
  cases us with
  | none => exact False.elim hr
  | some u =>
   simp only [optV] at h;split at h
   ·rename_i v hv;simp only [ojE] at h; subst h;obtain ⟨rfl, hp⟩ := iW hv hr;exact ⟨rfl, hp⟩
   ·cases h
theorem pL {xs : Option PV} {us : Option Value} {l : Option Int} (h : iM xs = some l) (hr : OR ν σ xs us) :
    iO us = some l := by
 cases xs with
 | none =>
  cases us with
  | none => simp only [iM, ojE] at h; subst h; rfl
  | some u => exact False.elim hr
 | some x =>
  cases us with
  | none => exact False.elim hr
  | some u =>
   simp only [iM] at h;split at h
   ·rename_i e; cases e
   ·rename_i k n e;cases e;cases hr;simp only [ojE] at h; subst h; rfl
   ·cases h
theorem OR.of (F : FR ν γ σ S A) {x : Option Operand} (h : ∀ y, x = some y → aH P y = true) : OR ν σ (x.map (pev S)) (x.map (ev A)) := by
 cases x with
 | none => trivial
 | some y => exact aQ F (h y rfl)
theorem aEo {p : PSt} (M : Mem ν γ p σ) {t : TypeId} {v w : PV} {u : Value} {lo hi mx : Option PV} {lo' hi' mx' : Option Value} {own : Bool} (r : R ν σ v u)
    (rl : OR ν σ lo lo') (rh : OR ν σ hi hi') (rm : OR ν σ mx mx') (h : fY P p t v lo hi mx = some (w, own)) :
    ∃ y, nZ P σ t u lo' hi' mx' = some y ∧ R ν σ w y ∧ (own = true → Ow ν γ σ .hand w y) := by
 unfold fY at h;unfold nZ;split at h
 ·rename_i e;rw [e];split at h
  ·rename_i s l hh _ _ hl hhi;cases r with
   | str ba =>
   obtain ⟨rfl, hpl⟩ := aEC hl rl;obtain ⟨rfl, hph⟩ := aEC hhi rh;cases mx' with
   | some _ => exact False.elim rm
   | none =>
    simp only [mjE, pjE] at h;obtain ⟨y, hy, rfl, rfl⟩ := h;refine ⟨y, ?_, .ofV1 (dT hy), fun h => (by cases h)⟩
    simp only [Option.isNone_none, hpl, hph, Bool.and_self, cdt];exact hy
  ·cases h
 ·rename_i e he;rw [he];split at h
  ·rename_i z l hh m hz hl hhi hm;have el := pL hl rl;have eh := pL hhi rh;have em := pL hm rm;split at h
   ·rename_i id off len;split at h
    ·rename_i z' ag cs hg;obtain ⟨a, us, h1, h2, _⟩ := M.get id _ hg;cases r with
     | rs0 _ _ _ c a' hν => rw [hν] at h1; cases h1
     | rs _ _ _ c a' hν =>
      rw [hν] at h1; simp only [ojE] at h1; subst h1;cases hc : Nat.beq z z' && decide (0 ≤ l.getD 0) && decide (l.getD 0 < hh.getD (len : Int)) && decide (hh.getD (len : Int) ≤ (len : Int)) with
      | false => rw [hc, cdf] at h; cases h
      | true =>
       rw [hc, cdt] at h;simp only [ojE, pjE] at h;obtain ⟨rfl, rfl⟩ := h;simp only [bjE, djE] at hc;obtain ⟨⟨⟨hzz, hl0⟩, hlh⟩, hhl⟩ := hc;have hzz := nqE hzz; subst hzz;have hrz : yW σ a' z = true := by
        simp only [yW, row_of_get h2 rfl, cN]; simp [bG]
       simp only [hz, el, eh, em, aCU, Bool.and_false, Bool.false_and, cdf, hrz, cdt];rw [show (decide (0 ≤ l.getD 0) && decide (l.getD 0 ≤ hh.getD (len : Int)) && decide (hh.getD (len : Int) ≤ (len : Int))) = true by simp; omega]
       simp only [cdt, cN];have key : ∀ c', R ν σ (.rs id (off + (l.getD 0).toNat * z) ((hh.getD (len : Int)).toNat - (l.getD 0).toNat)) (.slice (some ⟨a', off + (l.getD 0).toNat * z, none⟩) ((hh.getD (len : Int)).toNat - (l.getD 0).toNat) c') := fun c' => .rs _ _ _ _ _ hν
       by_cases hA : c = len ∧ (hh.getD (len : Int)).toNat = len
       ·rw [show (decide (c = len) && decide ((hh.getD (len : Int)).toNat = len)) = true by simp [hA.1, hA.2]]
        rw [show decide ((l.getD 0).toNat = len) = false by simp; omega]
        simp only [cdt, cdf];refine ⟨_, rfl, ?_, fun h => (by cases h)⟩
        have := key (len - (l.getD 0).toNat);rw [hA.2] at this ⊢;exact this
       ·rw [show (decide (c = len) && decide ((hh.getD (len : Int)).toNat = len)) = false by exact aCe hA]
        simp only [cdf];by_cases hB : (hh.getD (len : Int)).toNat = len ∧ (l.getD 0).toNat = 0
        ·rw [show (decide ((hh.getD (len : Int)).toNat = len) && decide ((l.getD 0).toNat = 0)) = true by simp [hB.1, hB.2]]
         simp only [cdt];refine ⟨_, rfl, ?_, fun h => (by cases h)⟩
         have := key c;rw [hB.1, hB.2] at this ⊢;simpa using this
        ·rw [show (decide ((hh.getD (len : Int)).toNat = len) && decide ((l.getD 0).toNat = 0)) = false by exact aCe hB]
         rw [show decide (l.getD 0 < (len : Int)) = true by simp; omega]
         simp only [cdf, cdt];exact ⟨_, rfl, key _, fun h => (by cases h)⟩
    ·cases h
   ·rename_i z' es;cases r with
    | sl _ _ id off c rcs mm hz1 hs hr hm1 hb hhr =>
     cases hc : Nat.beq z z' && decide (0 ≤ l.getD 0) && decide (l.getD 0 ≤ hh.getD (es.length : Int)) && decide (hh.getD (es.length : Int) ≤ (es.length : Int)) with
     | false => rw [hc, cdf] at h; cases h
     | true =>
      rw [hc, cdt] at h;simp only [ojE, pjE] at h;obtain ⟨rfl, rfl⟩ := h;simp only [bjE, djE] at hc;obtain ⟨⟨⟨hzz, hl0⟩, hlh⟩, hhl⟩ := hc;have hzz := nqE hzz; subst hzz;have hrz : yW σ id z = true := by simp only [yW, hr.1, cN, hm1]; simp
      simp only [hz, el, eh, em, aCU, Bool.and_false, Bool.false_and, cdf, hrz, cdt];rw [show (decide (0 ≤ l.getD 0) && decide (l.getD 0 ≤ hh.getD (es.length : Int)) && decide (hh.getD (es.length : Int) ≤ (es.length : Int))) = true by simp; omega]
      simp only [cdt, cN];have r0 : R ν σ (.sl z es) (.slice (some ⟨id, off, none⟩) es.length c) := .sl z es id off c rcs mm hz1 hs hr hm1 hb hhr;have key := fun c' => R.sub r0 (l := (l.getD 0).toNat) (h := (hh.getD (es.length : Int)).toNat) (by omega) (by omega) c'
      by_cases hA : c = es.length ∧ (hh.getD (es.length : Int)).toNat = es.length
      ·rw [show (decide (c = es.length) && decide ((hh.getD (es.length : Int)).toNat = es.length)) = true by simp [hA.1, hA.2]]
       simp only [cdt];by_cases hE : (l.getD 0).toNat = es.length
       ·rw [show decide ((l.getD 0).toNat = es.length) = true by simp [hE]]
        simp only [cdt];refine ⟨_, rfl, ?_, fun h => (by cases h)⟩
        rw [hA.2, hE, List.drop_eq_nil_of_le (by simp)]
        exact .emp1 _ _ _ _ _ hr
       ·rw [show decide ((l.getD 0).toNat = es.length) = false by simp [hE]]
        simp only [cdf];refine ⟨_, rfl, ?_, fun h => (by cases h)⟩
        have := key (es.length - (l.getD 0).toNat);rw [hA.2] at this ⊢;exact this
      ·rw [show (decide (c = es.length) && decide ((hh.getD (es.length : Int)).toNat = es.length)) = false by exact aCe hA]
       simp only [cdf];by_cases hB : (hh.getD (es.length : Int)).toNat = es.length ∧ (l.getD 0).toNat = 0
       ·rw [show (decide ((hh.getD (es.length : Int)).toNat = es.length) && decide ((l.getD 0).toNat = 0)) = true by simp [hB.1, hB.2]]
        simp only [cdt];refine ⟨_, rfl, ?_, fun h => (by cases h)⟩
        have := key c;rw [hB.1, hB.2] at this ⊢;simpa using this
       ·rw [show (decide ((hh.getD (es.length : Int)).toNat = es.length) && decide ((l.getD 0).toNat = 0)) = false by exact aCe hB]
        simp only [cdf];by_cases hE : l.getD 0 < (es.length : Int)
        ·rw [show decide (l.getD 0 < (es.length : Int)) = true by simp; omega]
         simp only [cdt];exact ⟨_, rfl, key _, fun h => (by cases h)⟩
        ·rw [show decide (l.getD 0 < (es.length : Int)) = false by simp; omega]
         simp only [cdf];refine ⟨_, rfl, ?_, fun h => (by cases h)⟩
         rw [List.drop_eq_nil_of_le (by simp; omega)]
         exact .emp2 _ _ _ _
   ·cases hc : decide (0 ≤ l.getD 0) && decide (l.getD 0 ≤ hh.getD 0) && decide (hh.getD 0 ≤ 0) with
    | false => rw [hc, cdf] at h; cases h
    | true =>
     rw [hc, cdt] at h;simp only [ojE, pjE] at h;obtain ⟨rfl, rfl⟩ := h;simp only [bjE, djE] at hc;have hmn : mx' = none := by
      cases mx' with
      | none => rfl
      | some w => cases w <;> simp [iO] at em
     subst hmn;cases r with
     | emp0 =>
      simp only [hz, el, eh, em, aCU, Bool.and_false, Bool.false_and, cdf];rw [show (decide (0 ≤ l.getD 0) && decide (l.getD 0 ≤ hh.getD ((0 : Nat) : Int)) && decide (hh.getD ((0 : Nat) : Int) ≤ ((0 : Nat) : Int))) = true by simp; omega]
      exact ⟨_, rfl, .emp0, fun h => (by cases h)⟩
     | emp1 id off c rcs m hr =>
      simp only [hz, el, eh, em, aCU, Bool.and_false, Bool.false_and, cdf];rw [show (decide (0 ≤ l.getD 0) && decide (l.getD 0 ≤ hh.getD ((0 : Nat) : Int)) && decide (hh.getD ((0 : Nat) : Int) ≤ ((0 : Nat) : Int))) = true by simp; omega]
      have hl0 : (l.getD 0).toNat = 0 := by omega
      have hh0 : (hh.getD ((0 : Nat) : Int)).toNat = 0 := by simp; omega
      simp only [cdt, hl0, hh0];cases hrz : yW σ id z with
      | false => simp only [cdf]; exact ⟨_, rfl, .emp1 _ _ _ _ _ hr, fun h => (by cases h)⟩
      | true =>
       simp only [cdt];cases hcc : Nat.beq c 0 && Nat.beq 0 0 with
       | true =>
        simp only [cdt];exact ⟨_, rfl, .emp1 _ _ _ _ _ hr, fun h => (by cases h)⟩
       | false =>
        simp only [cdf];exact ⟨_, rfl, .emp1 _ _ _ _ _ hr, fun h => (by cases h)⟩
     | emp2 b o s c =>
      simp only [hz, el, eh, em, aCU, Bool.and_false, Bool.false_and, cdf];rw [show (decide (0 ≤ l.getD 0) && decide (l.getD 0 ≤ hh.getD ((0 : Nat) : Int)) && decide (hh.getD ((0 : Nat) : Int) ≤ ((0 : Nat) : Int))) = true by simp; omega]
      exact ⟨_, rfl, .emp2 _ _ _ _, fun h => (by cases h)⟩
   ·rename_i z' es m';cases r with
    | sl _ _ id off c rcs mm hz1 hs hr hm1 hb hhr =>
     cases hc : Nat.beq z z' && decide (0 ≤ l.getD 0) && decide (l.getD 0 < hh.getD (es.length : Int)) && decide (hh.getD (es.length : Int) ≤ (es.length : Int)) && hh.isSome && decide (hh.getD (es.length : Int) = m') with
     | false =>
      rw [hc, cdf] at h;cases hc2 : List.isEmpty es && (decide (0 ≤ l.getD 0) && decide (l.getD 0 ≤ hh.getD 0) && decide (hh.getD 0 ≤ 0) && hh.isSome && decide (m' = 0)) with
      | false => rw [hc2, cdf] at h; cases h
      | true =>
       rw [hc2, cdt] at h;simp only [ojE, pjE] at h;obtain ⟨rfl, rfl⟩ := h;simp only [bjE, djE, List.isEmpty_iff] at hc2;obtain ⟨rfl, ⟨⟨⟨hl0, hlh⟩, hh0⟩, his⟩, rfl⟩ := hc2;have hb : (decide (0 ≤ l.getD 0) && decide (l.getD 0 ≤ hh.getD ((0 : Nat) : Int)) && decide (hh.getD ((0 : Nat) : Int) ≤ ((0 : Nat) : Int))) = true := by simp; omega
       have hq : (Nat.beq 0 0 && aCU (some 0) && hh.isSome) = true := by rw [his]; rfl
       simp only [hz, el, eh, em, lnN, hb, hq, cdt]; exact ⟨_, rfl, .emp2 0 0 1 0, fun _ => .zer _ 0 0⟩
     | true =>
      rw [hc, cdt] at h;simp only [ojE, pjE] at h;obtain ⟨rfl, rfl⟩ := h;simp only [bjE, djE] at hc;obtain ⟨⟨⟨⟨⟨hzz, hl0⟩, hlh⟩, hhl⟩, his⟩, hhm⟩ := hc;have hzz := nqE hzz; subst hzz;have hrz : yW σ id z = true := by simp only [yW, hr.1, cN, hm1]; simp
      simp only [hz, el, eh, em, aCU, Bool.and_false, Bool.false_and, cdf, hrz, cdt];rw [show (decide (0 ≤ l.getD 0) && decide (l.getD 0 ≤ hh.getD (es.length : Int)) && decide (hh.getD (es.length : Int) ≤ (es.length : Int))) = true by simp; omega]
      simp only [cdt];rw [show Nat.beq es.length 0 = false by rw [cN]; exact decide_eq_false (by omega)]
      simp only [Bool.false_and, cdf];rw [show (decide (hh.getD (es.length : Int) = m') && decide (l.getD 0 < m') && hh.isSome) = true by simp [his, hhm]; omega]
      simp only [cdt];have r0 : R ν σ (.sl z es) (.slice (some ⟨id, off, none⟩) es.length c) := .sl z es id off c rcs mm hz1 hs hr hm1 hb hhr;exact ⟨_, rfl, R.sub r0 (by omega) (by omega) _, fun _ => .exact _ _ _ _ rcs mm hr⟩
   ·cases hc : decide (0 ≤ l.getD 0) && decide (l.getD 0 ≤ hh.getD 0) && decide (hh.getD 0 ≤ 0) with
    | false => rw [hc, cdf] at h; cases h
    | true =>
     rw [hc, cdt] at h;simp only [ojE, pjE] at h;obtain ⟨rfl, rfl⟩ := h;simp only [bjE, djE] at hc;have hmn : mx' = none := by
      cases mx' with
      | none => rfl
      | some w => cases w <;> simp [iO] at em
     subst hmn;cases r with
     | nil =>
      simp only [hz, el, eh, em, aCU, Bool.and_false, Bool.false_and, cdf];rw [show (decide (0 ≤ l.getD 0) && decide (l.getD 0 ≤ hh.getD ((0 : Nat) : Int)) && decide (hh.getD ((0 : Nat) : Int) ≤ ((0 : Nat) : Int))) = true by simp; omega]
      exact ⟨_, rfl, .emp0, fun h => (by cases h)⟩
   ·rename_i m';cases hc : decide (0 ≤ l.getD 0) && decide (l.getD 0 ≤ hh.getD 0) && decide (hh.getD 0 ≤ 0) && hh.isSome && decide (m' = 0) with
    | false => rw [hc, cdf] at h; cases h
    | true =>
     rw [hc, cdt] at h;simp only [ojE, pjE] at h;obtain ⟨rfl, rfl⟩ := h;simp only [bjE, djE] at hc;obtain ⟨⟨⟨⟨hl0, hlh⟩, hh0⟩, his⟩, rfl⟩ := hc;have hb : (decide (0 ≤ l.getD 0) && decide (l.getD 0 ≤ hh.getD ((0 : Nat) : Int)) && decide (hh.getD ((0 : Nat) : Int) ≤ ((0 : Nat) : Int))) = true := by simp; omega
     have hq : (Nat.beq 0 0 && aCU (some 0) && hh.isSome) = true := by rw [his]; rfl
     cases r with
     | emp0 => simp only [hz, el, eh, em, hb, hq, cdt]; exact ⟨_, rfl, .emp0, fun _ => .nil _⟩
     | emp1 id off c rcs m hr => simp only [hz, el, eh, em, hb, hq, cdt]; exact ⟨_, rfl, .emp2 0 0 1 0, fun _ => .zer _ 0 0⟩
     | emp2 b o s c => simp only [hz, el, eh, em, hb, hq, cdt]; exact ⟨_, rfl, .emp2 0 0 1 0, fun _ => .zer _ 0 0⟩
   ·rename_i m';cases hc : decide (0 ≤ l.getD 0) && decide (l.getD 0 ≤ hh.getD 0) && decide (hh.getD 0 ≤ 0) && hh.isSome && decide (m' = 0) with
    | false => rw [hc, cdf] at h; cases h
    | true =>
     rw [hc, cdt] at h;simp only [ojE, pjE] at h;obtain ⟨rfl, rfl⟩ := h;simp only [bjE, djE] at hc;obtain ⟨⟨⟨⟨hl0, hlh⟩, hh0⟩, his⟩, rfl⟩ := hc;have hb : (decide (0 ≤ l.getD 0) && decide (l.getD 0 ≤ hh.getD ((0 : Nat) : Int)) && decide (hh.getD ((0 : Nat) : Int) ≤ ((0 : Nat) : Int))) = true := by simp; omega
     have hq : (Nat.beq 0 0 && aCU (some 0) && hh.isSome) = true := by rw [his]; rfl
     cases r with
     | nil => simp only [hz, el, eh, em, hb, hq, cdt]; exact ⟨_, rfl, .emp0, fun _ => .nil _⟩
   ·cases h
  ·cases h
 ·cases h
end
end Go.PI
namespace Go.PI
open Go.AI
section
variable {P : Program} {ν ν' : Nu} {γ γ1 γ' : Ga} {σ σ' : St} {S : PS} {A : Slots}
theorem ObjR.keep {id : Nat} {o : lF} (h : ObjR ν γ σ id o) (kp : Keep ν γ1 σ σ') (hm : Mon σ ν ν') (hν : ν' id = ν id) (hget : ∀ a, ν id = some (some a) → σ'.get a = σ.get a)
    (hγ : ∀ i off, γ i = some (.cell id off) → σ.get i ≠ none → γ1 i = some .out ∧ γ' i = some (.cell id off)) : ObjR ν' γ' σ' id o := by
 cases o with
 | box cs =>
  obtain ⟨a, us, h1, h2, h3, h4⟩ := h;refine ⟨a, us, by rw [hν, h1], by rw [hget a h1, h2], h3, fun i x b u hx hu => ?_⟩
  obtain ⟨h5, h6, h7⟩ := h4 i x b u hx hu;exact ⟨h5.keep kp hm, h6, fun hb => (h7 hb).keep kp hm fun j hj hn => hγ j i hj hn⟩
 | row z ag cs =>
  obtain ⟨a, us, h1, h2, h3, h5, h4⟩ := h;exact ⟨a, us, by rw [hν, h1], by rw [hget a h1, h2], h3, h5, fun i x u hx hu => (h4 i x u hx hu).keep kp hm⟩
 | map es => exact h
 | gone => show ν' id = some none; rw [hν]; exact h
theorem FR.keep (F : FR ν γ σ S A) (kp : Keep ν γ1 σ σ') (hm : Mon σ ν ν') (hγ : ∀ i t, γ i = some (.slot t) → σ.get i ≠ none → γ1 i = some .out ∧ γ' i = some (.slot t)) : FR ν' γ' σ' S A :=
 fun t => ⟨(F t).1.keep kp hm, fun h => ((F t).2 h).keep kp hm fun i hi hn => hγ i t hi hn⟩
theorem FR.g (F : FR ν γ σ S A) (hγ : ∀ i t, γ i = some (.slot t) → γ' i = some (.slot t)) : FR ν γ' σ S A :=
 fun t => ⟨(F t).1, fun h => ((F t).2 h).weak fun i hi => hγ i t hi⟩
theorem Mem.upd {p : PSt} {id : Nat} {o o' : lF} (M : Mem ν γ p σ) (ho : p.get id = some o) (hn : ObjR ν γ' σ id o') (hγ : ∀ i j off, j ≠ id → γ i = some (.cell j off) → γ' i = some (.cell j off)) : Mem ν γ' (p.upd id o') σ := by
 have hid := aE3 ho;refine ⟨M.le, M.lt, M.inj, fun k a hk => ?_, fun k ob hk => ?_, M.free, M.ver⟩
 ·rw [fR hid]; split
  ·exact ⟨_, rfl⟩
  ·exact M.live k a hk
 ·rw [fR hid] at hk;split at hk
  ·rename_i e; subst e;simp only [ojE] at hk; subst hk; exact hn
  ·rename_i e;exact (M.get k ob hk).g2 fun i off hi => hγ i k off e hi
theorem Mem.mark {p : PSt} {id : Nat} {o o' : lF} (M : Mem ν γ p σ) (ho : p.get id = some o) (hn : ObjR ν γ' σ id o') (hγ : ∀ i j off, j ≠ id → γ i = some (.cell j off) → γ' i = some (.cell j off)) : Mem ν γ' (p.mark id o') σ := by
 have M' := M.upd ho hn hγ;exact ⟨M'.le, M'.lt, M'.inj, M'.live, M'.get, M'.free, M'.ver⟩
theorem ptake_ok {p : PSt} (M : Mem ν γ p σ) (F : FR ν γ σ S A) {t : TypeId} {a v : PV} {w u : Value} (r : R ν σ a w) (h : gG P p t a = some v) (hs : aDt v = true) (hu : eG P σ t w = some u) :
    ∃ γ', Mem ν γ' (dN p a).1 σ ∧ FR ν γ' σ S A ∧ ((dN p a).2 = true → Ow ν γ' σ .hand v u) ∧ GoOut σ γ γ' := by
 have triv : (dN p a) = (p, false) → ∃ γ', Mem ν γ' (dN p a).1 σ ∧ FR ν γ' σ S A ∧ ((dN p a).2 = true → Ow ν γ' σ .hand v u) ∧ GoOut σ γ γ' := by
  intro e; rw [e]; exact ⟨γ, M, F, fun h => (by cases h), .refl σ γ⟩
 cases a with
 | ptr id off =>
  cases hg : p.get id with
  | none => exact triv (by simp only [dN, hg])
  | some ob =>
   cases ob with
   | box cs =>
    cases hc : cs[off]? with
    | none => exact triv (by simp only [dN, hg, hc])
    | some c =>
     obtain ⟨x, b⟩ := c;cases b with
     | false => exact triv (by simp only [dN, hg, hc])
     | true =>
      have hobj := M.get id _ hg;obtain ⟨a', us, h1, h2, h3, h4⟩ := hobj;have hw : w = .pointer (some ⟨a', off, none⟩) := by
       cases r with
       | ptr _ _ _ hν => rw [h1] at hν; simp only [ojE] at hν; subst hν; rfl
       | ptr0 _ _ _ hν => rw [h1] at hν; cases hν
      subst hw;have hvx : v = x ∧ us[off]? = some u := by
       simp only [gG, hg] at h;simp only [eG, row_of_get h2 rfl] at hu;unfold mU at h;split at h
       ·split at h
        ·rename_i n en;cases hb : Nat.beq (((cs.map (·.1)).drop off).take n).length n with
         | false => rw [hb, cdf] at h; cases h
         | true => rw [hb, cdt] at h; simp only [ojE] at h; subst h; cases hs
        ·cases h
       ·rename_i e;rw [e] at hu;simp only [List.getElem?_map, hc, omS, ojE] at h;exact ⟨h.symm, hu⟩
       ·cases h
      obtain ⟨rfl, hus⟩ := hvx;obtain ⟨h5, h6, h7⟩ := h4 off v true u hc hus;have hoff : off < cs.length := by
       rcases Nat.lt_or_ge off cs.length with h' | h'
       ·exact h'
       ·simp [List.getElem?_eq_none h'] at hc
      refine ⟨PI.mv (.cell id off) .hand γ, ?_, ?_, ?_, ?_⟩
      ·simp only [dN, hg, hc];refine M.mark hg ⟨a', us, h1, h2, by simpa using h3, fun i x b u' hx hu' => ?_⟩ fun i j o' hj hi => ?_
       ·rw [List.getElem?_set] at hx;split at hx
        ·rename_i e; subst e;simp only [ojE, pjE] at hx;obtain ⟨rfl, rfl⟩ := hx;rw [hus] at hu'; simp only [ojE] at hu'; subst hu';exact ⟨h5, h6, fun h => (by cases h)⟩
        ·rename_i e;obtain ⟨h8, h9, h10⟩ := h4 i x b u' hx hu';exact ⟨h8, h9, fun hb => (h10 hb).mv_ne (by simp; omega)⟩
       ·simp only [PI.mv, hi];rw [if_neg (by simp; intro e; exact absurd e hj)]
      ·exact F.g fun i t hi => by simp [PI.mv, hi]
      ·intro _; exact (h7 rfl).mv
      ·intro i _ hi; simp [PI.mv, hi]
   | _ => exact triv (by simp only [dN, hg])
 | _ => exact triv rfl
theorem pread_ok {p p' : PSt} (M : Mem ν γ p σ) (F : FR ν γ σ S A) {o : Oper} (ho : o.op.operands.all (aH P) = true) {take own : Bool} {v : PV} (h : iZ P p S o take = some (v, own, p')) :
    ∃ u γ', gO P σ (ev A) o = some u ∧ R ν σ v u ∧ Mem ν γ' p' σ ∧ FR ν γ' σ S A ∧ (own = true → Ow ν γ' σ .hand v u) ∧ GoOut σ γ γ' := by
 replace ho := pM ho
 obtain ⟨dst, op, ty, pos, af, g⟩ := o;cases op with
 | load t a =>
  simp only [Op.operands, alC, List.all_nil, bnA] at ho;have ra := aQ F ho;simp only [iZ] at h;simp only [gO];split at h
  ·rename_i v' hv;obtain ⟨u, hu, hr⟩ := tK M ra hv;cases hc : take && aDt v' with
   | false =>
    rw [hc, cdf] at h;simp only [ojE, pjE] at h;obtain ⟨rfl, rfl, rfl⟩ := h;exact ⟨u, γ, hu, hr, M, F, fun h => (by cases h), .refl σ γ⟩
   | true =>
    rw [hc, cdt] at h;simp only [ojE, pjE] at h;obtain ⟨rfl, rfl, rfl⟩ := h;simp only [bjE] at hc;obtain ⟨γ', h1, h2, h3, h4⟩ := ptake_ok M F ra hv hc.2 hu;exact ⟨u, γ', hu, hr, h1, h2, h3, h4⟩
  ·cases h
 | slice t x lo hi mx =>
  simp only [Op.operands, Array.toList_append, List.all_append, bjE] at ho;simp only [iZ, mjE, pjE] at h;obtain ⟨⟨w, own'⟩, hw, rfl, rfl, rfl⟩ := h;have hl : ∀ {y : Option Operand}, y.toArray.toList.all (aH P) = true → OR ν σ (y.map (pev S)) (y.map (ev A)) := by
   intro y hy;cases y with
   | none => trivial
   | some y => exact aQ F (by simpa using hy)
  obtain ⟨y, h1, h2, h3⟩ := aEo M (aQ F (P := P) (by simpa using ho.1.1.1)) (hl ho.1.1.2) (hl ho.1.2) (hl ho.2) hw
  exact ⟨y, γ, h1, h2, M, F, h3, .refl σ γ⟩
 | _ => simp only [iZ] at h; cases h
theorem aF (σ : St) (id k : Nat) (o : AObj) : (σ.put id o).get k = if k = id then some o else σ.get k := by
 simp only [St.get, St.put, Tr.get_set]
def fU : Ga := fun _ => some .out
theorem Keep.put {id : Nat} {o : AObj} (h : σ.get id = none) : Keep ν fU σ (σ.put id o) := by
 refine ⟨rfl, nlR _, fun a ha => ?_, fun a _ cs m hg => ⟨m.tip, ?_, fun h => h, fun _ => rfl⟩⟩
 ·rw [aF] at ha; split at ha
  ·cases ha
  ·exact ha
 ·rw [aF, if_neg (by intro e; rw [e, h] at hg; cases hg)]; exact hg
theorem fS {p : PSt} {o : lF} (k : Nat) : (p.new o).get k = if k = p.next then some o else p.get k := by
 simp only [PSt.get, PSt.new, Tr.get_set, hP, Bool.cond_decide];by_cases e : k = p.next
 ·subst e; simp
 ·simp only [e, if_false];by_cases h : k < p.next
  ·simp [h, show k < p.next + 1 by omega]
  ·simp [h, show ¬ k < p.next + 1 by omega]
theorem Mem.mk' {p : PSt} {id : Nat} {o : lF} {ob : AObj} (M : Mem ν γ p σ) (F : FR ν γ σ S A) (hf : σ.get id = none) (hlt : id < σ.next)
    (hn : ∀ ν', ν' p.next = some (some id) → Mon σ ν ν' → ObjR ν' γ (σ.put id ob) p.next o) :
    ∃ ν', ν' p.next = some (some id) ∧ Mem ν' γ (p.new o) (σ.put id ob) ∧ FR ν' γ (σ.put id ob) S A ∧ Mon σ ν ν' ∧ (∀ k, k < p.next → ν' k = ν k) := by
 have hnone : ∀ x, ν p.next ≠ some x := fun x hx => Nat.lt_irrefl _ (M.le _ _ hx)
 have e1 : (fun k => if k = p.next then some (some id) else ν k) p.next = some (some id) := by simp
 have hmon : Mon σ ν (fun k => if k = p.next then some (some id) else ν k) := by
  refine ⟨fun k x hk => ?_, fun k a hk => ?_⟩
  ·by_cases e : k = p.next
   ·subst e; exact absurd hk (hnone x)
   ·simp only [e, if_false]; exact .inl hk
  ·by_cases e : k = p.next
   ·simp only [e, if_true, ojE] at hk; subst hk; exact .inr hf
   ·simp only [e, if_false] at hk; exact .inl hk
 refine ⟨fun k => if k = p.next then some (some id) else ν k, e1, ⟨fun k x hk => ?_, fun k a hk => ?_, fun i j a hi hj => ?_, fun k a hk => ?_, fun k ob' hk => ?_, fun a ha => ?_, M.ver⟩, ?_, hmon, fun k hk => if_neg (by omega)⟩
 ·show k < p.next + 1
  by_cases e : k = p.next
  ·omega
  ·simp only [e, if_false] at hk; have := M.le _ _ hk; omega
 ·show a < σ.next
  by_cases e : k = p.next
  ·simp only [e, if_true, ojE] at hk; omega
  ·simp only [e, if_false] at hk; exact M.lt _ _ hk
 ·have ne : ∀ k a, ν k = some (some a) → a ≠ id := by
   intro k a hk e; subst e;obtain ⟨o', ho'⟩ := M.live _ _ hk;have := M.get _ _ ho';cases o' with
   | box cs => obtain ⟨a', us, h1, h2, _⟩ := this; rw [hk] at h1; simp only [ojE] at h1; subst h1; rw [hf] at h2; cases h2
   | row z ag cs => obtain ⟨a', us, h1, h2, _⟩ := this; rw [hk] at h1; simp only [ojE] at h1; subst h1; rw [hf] at h2; cases h2
   | map es => exact this.elim
   | gone => rw [show ν k = some none from this] at hk; cases hk
  by_cases e : i = p.next <;> by_cases e' : j = p.next
  ·omega
  ·simp only [e, e', if_true, if_false, ojE] at hi hj;subst hi; exact absurd rfl (ne _ _ hj)
  ·simp only [e, e', if_true, if_false, ojE] at hi hj;subst hj; exact absurd rfl (ne _ _ hi)
  ·simp only [e, e', if_false] at hi hj; exact M.inj _ _ _ hi hj
 ·rw [fS];by_cases e : k = p.next
  ·simp [e]
  ·simp only [e, if_false] at hk ⊢; exact M.live _ _ hk
 ·rw [fS] at hk;by_cases e : k = p.next
  ·subst e; simp only [if_true, ojE] at hk; subst hk; exact hn _ e1 hmon
  ·simp only [e, if_false] at hk;refine (M.get k ob' hk).keep (Keep.put hf) hmon (by simp [e]) (fun a ha => ?_) fun i off hi _ => ⟨rfl, hi⟩
   rw [aF, if_neg];intro e2; subst e2;have := M.get k ob' hk;cases ob' with
   | box cs => obtain ⟨a', us, h1, h2, _⟩ := this; rw [ha] at h1; simp only [ojE] at h1; subst h1; rw [hf] at h2; cases h2
   | row z ag cs => obtain ⟨a', us, h1, h2, _⟩ := this; rw [ha] at h1; simp only [ojE] at h1; subst h1; rw [hf] at h2; cases h2
   | map es => exact this.elim
   | gone => rw [show ν k = some none from this] at ha; cases ha
 ·rw [aF, if_neg (by have : σ.next ≤ a := ha; omega)]; exact M.free a ha
 ·exact F.keep (Keep.put hf) hmon fun i t hi _ => ⟨rfl, hi⟩
theorem Mem.fz {p : PSt} {id : Nat} {ob : AObj} (M : Mem ν γ p σ) (F : FR ν γ σ S A) (hf : σ.get id = none) (hlt : id < σ.next) :
    Mem ν γ p (σ.put id ob) ∧ FR ν γ (σ.put id ob) S A ∧ ∀ k, ν k ≠ some (some id) := by
 have hno : ∀ k, ν k ≠ some (some id) := by
  intro k hk;obtain ⟨o', ho'⟩ := M.live _ _ hk;have := M.get _ _ ho';cases o' with
  | box cs => obtain ⟨a', us, h1, h2, _⟩ := this; rw [hk] at h1; simp only [ojE] at h1; subst h1; rw [hf] at h2; cases h2
  | row z ag cs => obtain ⟨a', us, h1, h2, _⟩ := this; rw [hk] at h1; simp only [ojE] at h1; subst h1; rw [hf] at h2; cases h2
  | map es => exact this.elim
  | gone => rw [show ν k = some none from this] at hk; cases hk
 refine ⟨⟨M.le, M.lt, M.inj, M.live, fun k o hk => ?_, fun a ha => ?_, M.ver⟩, ?_, hno⟩
 ·refine (M.get k o hk).keep (Keep.put hf) (.refl σ ν) rfl (fun a ha => ?_) fun i off hi _ => ⟨rfl, hi⟩
  rw [aF, if_neg (fun e => hno k (by rw [← e]; exact ha))]
 ·rw [aF, if_neg (by have : σ.next ≤ a := ha; omega)]; exact M.free a ha
 ·exact F.keep (Keep.put hf) (.refl σ ν) fun i t hi _ => ⟨rfl, hi⟩
end
end Go.PI
namespace Go.PI
open Go.AI
theorem aEj (xs cs : List PV) (off : Nat) (h : off + xs.length ≤ cs.length) : aCI cs off xs = cs.take off ++ xs ++ cs.drop (off + xs.length) := by
 induction xs generalizing cs off with
 | nil => simp [aCI]
 | cons x xs ih =>
  simp only [lcS] at h;simp only [aCI];rw [ih _ _ (by simp; omega)]
  have h1 : (cs.set off x).take (off + 1) = cs.take off ++ [x] := by
   rw [List.take_add_one, List.take_set_of_le (nlR _), List.getElem?_set_self (by omega)]; rfl
  have h2 : (cs.set off x).drop (off + 1 + xs.length) = cs.drop (off + (xs.length + 1)) := by
   rw [List.drop_set_of_lt (by omega)]; congr 1; omega
  rw [h1, h2]; simp
theorem tI (xs cs : List Value) (off : Nat) (h : off + xs.length ≤ cs.length) : fB cs off xs = cs.take off ++ xs ++ cs.drop (off + xs.length) := by
 induction xs generalizing cs off with
 | nil => simp [fB]
 | cons x xs ih =>
  simp only [lcS] at h;simp only [fB];rw [ih _ _ (by simp; omega)]
  have h1 : (cs.set off x).take (off + 1) = cs.take off ++ [x] := by
   rw [List.take_add_one, List.take_set_of_le (nlR _), List.getElem?_set_self (by omega)]; rfl
  have h2 : (cs.set off x).drop (off + 1 + xs.length) = cs.drop (off + (xs.length + 1)) := by
   rw [List.drop_set_of_lt (by omega)]; congr 1; omega
  rw [h1, h2]; simp
theorem aAd (a b : List PV) : eE (a ++ b) = eE a ++ eE b := by simp [eE]
theorem aBV {s : Nat} {es : List PV} (hs : ∀ e ∈ es, e.cells.length = s) {i : Nat} (hi : i < es.length) {y : PV} (hy : y.cells.length = s) : eE (es.set i y) = aCI (eE es) (i * s) y.cells := by
 have hle : i * s + s ≤ es.length * s := by rw [← Nat.succ_mul]; exact Nat.mul_le_mul_right _ hi
 rw [aEj _ _ _ (by rw [hy, cZ hs]; exact hle), hy, ← wJ hs, show i * s + s = (i + 1) * s by rw [Nat.succ_mul], ← wK hs]
 rw [List.set_eq_take_append_cons_drop, if_pos hi];simp [eE]
theorem fW (x : PV) : (wk x).cells = wks x.cells := by
 cases x with
 | sl z es => cases es <;> simp [wk, wks, PV.cells]
 | _ => simp [wk, wks, PV.cells]
theorem eM (xs : List PV) : (wks xs).length = xs.length := by
 induction xs with
 | nil => rfl
 | cons x xs ih => simp [wks, ih]
theorem aDD {x : PV} (h : x.pur = true) : (wk x).pur = true := by
 cases x with
 | sl z es => cases es <;> rfl
 | _ => first | rfl | simp [PV.pur] at h
theorem sV {xs : List PV} (h : xs.all PV.pur = true) : (wks xs).all PV.pur = true := by
 induction xs with
 | nil => rfl
 | cons x xs ih =>
  simp only [alC, bjE] at h;simp only [wks, alC, bjE];exact ⟨aDD h.1, ih h.2⟩
theorem tJ {x : PV} (h : x.pur = true) : x.one = true := by cases x <;> first | rfl | simp [PV.pur] at h
theorem lS {xs : List PV} (h : xs.all PV.pur = true) : xs.all PV.one = true := by
 rw [List.all_eq_true] at h ⊢; exact fun x hx => tJ (h x hx)
theorem aBt {xs : List Value} (h : xs.all aC = true) : (ofVs xs).all PV.pur = true := by
 induction xs with
 | nil => rfl
 | cons x xs ih =>
  simp only [alC, bjE] at h;simp only [PI.ofVs, alC, bjE];refine ⟨?_, ih h.2⟩;have h1 := h.1;cases x with
  | slice a l c => cases a <;> first | rfl | simp [aC] at h1
  | _ => first | rfl | simp [aC] at h1
section
variable {P : Program} {ν ν' : Nu} {γ γ1 γ' : Ga} {σ σ' : St} {S : PS} {A : Slots}
theorem fl_ok {k : Nat → K} {xs : List PV} {us : List Value} (r : RL ν σ xs us) (h1 : xs.all PV.one = true) {i : Nat} {x : PV} {b : Bool} {u : Value} (hx : (xs.map fun c => fl c false)[i]? = some (x, b)) (hu : us[i]? = some u) :
    R ν σ x u ∧ x.one = true ∧ (b = true → Ow ν γ σ (k i) x u) := by
 rw [List.getElem?_map] at hx;cases hc : xs[i]? with
 | none => rw [hc] at hx; cases hx
 | some c =>
  rw [hc] at hx;simp only [omS, ojE] at hx;have hr := r.2 i c u hc hu;have ho := (List.all_eq_true.1 h1) c (dF hc);cases c <;> simp only [fl, pjE] at hx <;> obtain ⟨rfl, rfl⟩ := hx <;> first | (exact ⟨hr, ho, fun h => (by cases h)⟩) | skip
  cases hr;exact ⟨.emp0, rfl, fun _ => .nil _⟩
theorem RL.zeros {z : List PV} {w : List Value} (r : RL ν σ z w) (n : Nat) : RL ν σ (eA z n) (bJ w n) := by
 induction n with
 | zero => exact .nil
 | succ n ih => exact r.append ih
theorem aAc (x : PV) (n : Nat) : eE (iK x n) = eA x.cells n := by
 induction n with
 | zero => rfl
 | succ n ih => simp only [iK, eA, ← ih]; simp [eE]
theorem tG (x : PV) (n : Nat) : (iK x n).length = n := by
 induction n with
 | zero => rfl
 | succ n ih => simp [iK, ih]
theorem aCE {x y : PV} {n : Nat} (h : y ∈ iK x n) : y = x := by
 induction n with
 | zero => simp [iK] at h
 | succ n ih => simp only [iK, List.mem_cons] at h; exact h.elim id ih
theorem lN {a : Bool} {s : Nat} {x : PV} (h : shape a s x = true) : x.cells.length = s ∧ x.cells.all PV.pur = true := by
 cases x <;> simp only [shape, bjE] at h
 case agg cs => exact ⟨nqE h.1.2, h.2⟩
 all_goals
  refine ⟨(nqE h.1.2).symm, ?_⟩;simp only [PV.cells, alC, List.all_nil, bnA]; exact h.2
theorem zF {a : Bool} {s : Nat} : ∀ (ps : List (Nat × PV)) (qs : List (Nat × Value)) (es es' : List PV) (B : Array Value), PRs ν σ ps qs → (∀ e ∈ es, e.cells.length = s ∧ e.cells.all PV.pur = true) → RL ν σ (eE es) B.toList →
    gX a s es ps = some es' → ∃ B', Instr.fill (fun i => some (i * s, s)) B qs = some B' ∧ RL ν σ (eE es') B'.toList ∧ (∀ e ∈ es', e.cells.length = s ∧ e.cells.all PV.pur = true) ∧ es'.length = es.length := by
 intro ps;induction ps with
 | nil =>
  intro qs es es' B hp hs hB h;have : qs = [] := by have := hp.1; simpa using this.symm
  subst this;simp only [gX, ojE] at h; subst h;exact ⟨B, rfl, hB, hs, rfl⟩
 | cons q ps ih =>
  intro qs es es' B hp hs hB h;obtain ⟨i, x⟩ := q;cases qs with
  | nil => have := hp.1; simp at this
  | cons q' qs =>
   obtain ⟨i', u⟩ := q';have h1 := hp.1;simp only [mpC, List.cons.injEq] at h1;obtain ⟨rfl, h1⟩ := h1;have h2 := hp.2;simp only [mpC] at h2;obtain ⟨u', us', he, hx, hr⟩ := h2.cons_inv;simp only [List.cons.injEq] at he;obtain ⟨rfl, rfl⟩ := he;simp only [gX] at h;cases hc : Nat.blt i es.length && shape a s x with
   | false => rw [hc, cdf] at h; cases h
   | true =>
    rw [hc, cdt] at h;simp only [bjE, hP, djE] at hc;obtain ⟨hxl, hxp⟩ := lN hc.2;have hcs := hx.cells (lS hxp);have hcw := hcs.wks;have hsl : ∀ e ∈ es, e.cells.length = s := fun e he => (hs e he).1
    have hle : i * s + s ≤ es.length * s := by rw [← Nat.succ_mul]; exact Nat.mul_le_mul_right _ hc.1
    have hul : u.cells.size = s := by have := hcs.1; simp at this; omega
    have hBl : B.size = es.length * s := by have := hB.1; rw [cZ hsl] at this; simpa using this.symm
    simp only [Instr.fill];rw [if_neg (by simp [hul]; omega)]
    have hwl : (wk x).cells.length = s := by rw [fW, eM, hxl]
    obtain ⟨B', hB1, hB2, hB3, hB4⟩ := ih qs (es.set i (wk x)) es' (u.cells.zipIdx.foldl (fun cs (c, j) => cs.setIfInBounds (i * s + j) c) B) ⟨h1, hr⟩ (fun e he => by
            rcases List.mem_or_eq_of_mem_set he with h' | h'
            · exact hs e h'
            · subst h'; exact ⟨hwl, by rw [fW]; exact sV hxp⟩) (by
            have := aBT (ν := ν) (σ := σ) (i * s) (wks x.cells) u.cells.toList 0 (eE es) B hcw hB;rw [aBV hsl hc.1 hwl, fW];rw [← Array.foldl_toList, Array.toList_zipIdx]; exact this) h
    exact ⟨B', hB1, hB2, hB3, by simpa using hB4⟩
theorem aEw {p p' : PSt} {id : Nat} (M : Mem ν γ p σ) (F : FR ν γ σ S A) (hf : σ.get id = none) (hlt : id < σ.next) {o : Oper} (ho : o.op.operands.all (aH P) = true) {v : PV} {own : Bool}
    (h : cK P p S o = some (v, own, p')) :
    ∃ u ob ν' γ', cS P (ev A) o id = some (u, ob) ∧ R ν' (σ.put id ob) v u ∧ Mem ν' γ' p' (σ.put id ob) ∧ FR ν' γ' (σ.put id ob) S A ∧ (own = true → Ow ν' γ' (σ.put id ob) .hand v u) ∧
      Mon σ ν ν' ∧ GoOut σ γ γ' ∧ p.next ≤ p'.next ∧ (∀ k, k < p.next → ν' k = ν k) ∧ (p'.dirty = p.dirty ∧ p'.wr = p.wr) ∧ (∀ k, k < p.next → p'.mem.get k = p.mem.get k) := by
 replace ho := pM ho
 have go : GoOut σ γ γ := .refl σ γ;have hnm : ∀ (ob : lF) (k : Nat), k < p.next → (p.new ob).mem.get k = p.mem.get k := fun ob k hk => by simp only [PSt.new, Tr.get_set]; rw [if_neg (by omega)]
 obtain ⟨dst, op, ty, pos, af, g⟩ := o;cases op with
 | alloc t =>
  simp only [cK] at h;split at h
  ·rename_i z hz;obtain ⟨w, hw, hp, rfl⟩ := iV hz;simp only [ojE, pjE] at h;obtain ⟨rfl, rfl, rfl⟩ := h;obtain ⟨ν', h1, h2, h3, h4, h5⟩ := M.mk' (o := .box ((ofVs w.cells.toList).map fun c => fl c false)) (ob := .cells w.cells.toList boxMeta) F hf hlt fun ν' h1 _ =>
    ⟨id, w.cells.toList, h1, by rw [aF, if_pos rfl], by simp [kQ], fun i x b u hx hu => fl_ok (k := fun i => .cell p.next i) (.ofVs hp) (aBu hp) hx hu⟩
   exact ⟨_, _, ν', γ, by simp only [cS, hw, hp, cdt], .ptr _ _ _ h1, h2, h3, fun h => (by cases h), h4, go, by simp [PSt.new], h5, ⟨rfl, rfl⟩, hnm _⟩
  ·cases h
 | box t x =>
  simp only [Op.operands, alC, List.all_nil, bnA] at ho;have rx := aQ F ho;simp only [cK] at h;cases hc : (pev S x).cells.all PV.one with
  | false => rw [hc, cdf] at h; cases h
  | true =>
   rw [hc, cdt] at h;simp only [ojE, pjE] at h;obtain ⟨rfl, rfl, rfl⟩ := h;have hcs := rx.cells hc;obtain ⟨ν', h1, h2, h3, h4, h5⟩ := M.mk' (o := .box ((pev S x).cells.map fun c => fl c false)) (ob := .cells (ev A x).cells.toList boxMeta) F hf hlt fun ν' h1 hm =>
    ⟨id, (ev A x).cells.toList, h1, by rw [aF, if_pos rfl], by rw [List.length_map]; exact hcs.1.symm, fun i y b u hx hu => fl_ok (k := fun i => .cell p.next i) (hcs.keep (Keep.put hf) hm) hc hx hu⟩
   exact ⟨_, _, ν', γ, by simp only [cS, hcs.one hc, cdt], .ptr _ _ _ h1, h2, h3, fun h => (by cases h), h4, go, by simp [PSt.new], h5, ⟨rfl, rfl⟩, hnm _⟩
 | buildSlice t len parts =>
  simp only [cK] at h;simp only [cS];split at h
  ·rename_i e he;simp only [he];split at h
   ·rename_i s a z hs ha hz;obtain ⟨w, hw, hp, rfl⟩ := iV hz;simp only [hs, hw];cases hc : Nat.ble (len * s) 1000000 && Nat.beq (ofVs w.cells.toList).length s && Nat.ble 1 s && (a || Nat.beq s 1) with
    | false => rw [hc, cdf] at h; cases h
    | true =>
     rw [hc, cdt] at h;simp only [bjE] at hc;obtain ⟨⟨⟨hc1, hc2⟩, hc3⟩, hc4⟩ := hc;have hwl : w.cells.toList.length = s := by have := nqE hc2; rw [kQ] at this; exact this
     split at h
     ·rename_i es hes;simp only [ojE, pjE] at h;obtain ⟨rfl, rfl, rfl⟩ := h;have hzc : (bif a then PV.agg (ofVs w.cells.toList) else (ofVs w.cells.toList).headD .und).cells = ofVs w.cells.toList := by
       cases a with
       | true => rfl
       | false =>
        simp only [Bool.false_or] at hc4;have hs1 := nqE hc4;simp only [cdf];cases hl : w.cells.toList with
        | nil => rw [hl] at hwl; simp at hwl; omega
        | cons y ys =>
         have : ys = [] := by rw [hl] at hwl; simp at hwl; exact List.eq_nil_of_length_eq_zero (by omega)
         subst this;rw [hl] at hp;have := aBu hp;simp only [PI.ofVs, alC, List.all_nil, bnA] at this;simp only [PI.ofVs, List.headD_cons];exact qG this
      have hps : PRs ν σ (parts.toList.map fun (i, x) => (i, pev S x)) (parts.toList.map fun (i, x) => (i, ev A x)) := PRs.of (P := P) F (by simpa [Op.operands] using ho)
      have hzero : RL ν σ (eE (iK (wk (bif a then PV.agg (ofVs w.cells.toList) else (ofVs w.cells.toList).headD .und)) len)) (bJ w.cells.toList len).toArray.toList := by
       rw [aAc, fW, hzc];simpa using RL.zeros (RL.wks (RL.ofVs hp)) len
      obtain ⟨B', hB1, hB2, hB3, hB4⟩ := zF (a := a) (s := s) _ _ _ es _ hps (fun e he => by
                rw [aCE he, fW, hzc, eM, kQ];exact ⟨hwl, sV (aBt hp)⟩) hzero hes
      rw [tG] at hB4;obtain ⟨M', F', hno⟩ := M.fz (ob := .cells B'.toList (bG s)) F hf hlt;have hrow : Fz ν (σ.put id (.cells B'.toList (bG s))) id B'.toList (bG s) := ⟨row_of_get (by rw [aF, if_pos rfl]) rfl, hno⟩
      refine ⟨.slice (some ⟨id, 0, none⟩) len len, .cells B'.toList (bG s), ν, γ, ?_, ?_, M', F', fun _ => .exact _ _ _ _ _ _ hrow, .refl σ ν, go, nlR _, fun _ _ => rfl, ⟨rfl, rfl⟩, fun _ _ => rfl⟩
      ·rw [show (w.cells.toList.all aC && Nat.ble (len * s) 1000000 && Nat.beq w.cells.size s && Nat.ble 1 s) = true by
        simp only [hp, hc1, hc3, Bool.true_and, bnA]; rw [cN]; simpa using hwl]
       simp only [cdt];rw [Array.toList_map, hB1];rfl
      ·rw [← hB4];refine aBz (.sl s es id 0 es.length B'.toList (bG s) (Nat.le_of_ble_eq_true hc3) hB3 hrow rfl ?_ fun i x u hx hu => ?_)
       ·have := hB2.1; rw [cZ (fun e he => (hB3 e he).1)] at this; omega
       ·rw [Nat.zero_add] at hu; exact (hB2.2 i x u hx hu).keep (Keep.put hf) (.refl σ ν)
     ·cases h
   ·cases h
  ·cases h
 | makeSlice t l c =>
  simp only [Op.operands, alC, List.all_nil, bnA, bjE] at ho;have rl := aQ F ho.1;have rc := aQ F ho.2;simp only [cK] at h;simp only [cS];split at h
  ·rename_i e n k he hl hc';rw [hl] at rl;rw [hc'] at rc;generalize ev A l = ul at rl ⊢;generalize ev A c = uc at rc ⊢;cases rl; cases rc;simp only [he];split at h
   ·rename_i info a hi ha;simp only [hi];split at h
    ·rename_i z hz;simp only [hz];cases hc : decide (0 ≤ n) && decide (n ≤ k) && decide (k * (info.bytes : Int) ≤ 1073741824) && decide (k ≤ 1073741824) && z.cells.toList.all aC && Nat.beq z.cells.size info.size && Nat.ble 1 info.size && (a || Nat.beq info.size 1) with
     | false => rw [hc, cdf] at h; cases h
     | true =>
      rw [hc, cdt] at h;have hc' := hc;simp only [bjE] at hc;rw [show (decide (0 ≤ n) && decide (n ≤ k) && decide (k * (info.bytes : Int) ≤ 1073741824) && decide (k ≤ 1073741824) && z.cells.toList.all aC && Nat.beq z.cells.size info.size && Nat.ble 1 info.size) = true by
       simp only [hc.1.1.1.1.1.1.1, hc.1.1.1.1.1.1.2, hc.1.1.1.1.1.2, hc.1.1.1.1.2, hc.1.1.1.2, hc.1.1.2, hc.1.2, Bool.and_self]]
      simp only [cdt];by_cases hn0 : n = 0
      ·subst hn0;simp only [decide_true, cdt, ojE, pjE] at h;obtain ⟨rfl, rfl, rfl⟩ := h;by_cases hk : (0 : Int) = k
       ·simp only [hk, decide_true, cdt];rw [← hk];obtain ⟨M', F', hno⟩ := M.fz (ob := .cells [] (bG info.size)) F hf hlt;have hrow : Fz ν (σ.put id (.cells [] (bG info.size))) id [] (bG info.size) := ⟨row_of_get (by rw [aF, if_pos rfl]) rfl, hno⟩
        refine ⟨.slice (some ⟨id, 0, none⟩) 0 0, .cells [] (bG info.size), ν, γ, rfl, ?_, M', F', fun _ => .exact _ _ _ _ _ _ hrow, .refl σ ν, go, nlR _, (by simp), (by simp), (by simp)⟩
        exact .sl info.size [] id 0 0 [] _ (Nat.le_of_ble_eq_true hc.1.2) (fun e he => by simp at he) hrow rfl (by simp) (fun i x u hx => by simp [eE] at hx)
       ·simp only [hk, decide_false, cdf];obtain ⟨M', F', hno⟩ := M.fz (ob := .cells [] { wr := true, tip := true, z := info.size, grp := some (id, 0) }) F hf hlt;have hgood : (σ.put id (.cells [] { wr := true, tip := true, z := info.size, grp := some (id, 0) })).good { wr := true, tip := true, z := info.size, grp := some (id, 0) } = true := by
         show Nat.beq (σ.ver id) 0 = true;rw [M.ver id]; rfl
        have hrow : Fz ν (σ.put id (.cells [] { wr := true, tip := true, z := info.size, grp := some (id, 0) })) id [] { wr := true, tip := true, z := info.size, grp := some (id, 0) } := ⟨row_of_get (by rw [aF, if_pos rfl]) hgood, hno⟩
        refine ⟨.slice (some ⟨id, 0, none⟩) 0 1, .cells [] _, ν, fun i => if i = id then some .hand else γ i, rfl, ?_, ?_, ?_, fun _ => ?_, .refl σ ν, ?_, nlR _, (by simp), (by simp), (by simp)⟩
        ·exact .sl info.size [] id 0 1 [] _ (Nat.le_of_ble_eq_true hc.1.2) (fun e he => by simp at he) hrow rfl (by simp) (fun i x u hx => by simp [eE] at hx)
        ·refine ⟨M'.le, M'.lt, M'.inj, M'.live, fun k o hk => ?_, M'.free, M'.ver⟩
         refine (M.get k o hk).keep (γ1 := fU) (Keep.put hf) (.refl σ ν) rfl (fun a ha => ?_) fun i off hi hn => ⟨rfl, ?_⟩
         ·rw [aF, if_neg (fun e => hno k (by rw [← e]; exact ha))]
         ·show (if i = id then some K.hand else γ i) = _
          rw [if_neg (fun e => hn (by rw [e]; exact hf))]; exact hi
        ·refine F.keep (γ1 := fU) (Keep.put hf) (.refl σ ν) fun i t hi hn => ⟨rfl, ?_⟩
         show (if i = id then some K.hand else γ i) = _
         rw [if_neg (fun e => hn (by rw [e]; exact hf))]; exact hi
        ·exact .tip info.size [] id 0 1 [] _ hrow rfl rfl rfl (by simp) (by simp)
        ·intro i hn hi; show (if i = id then some K.hand else γ i) = some K.out; rw [if_neg (fun e => hn (by rw [e]; exact hf))]; exact hi
      ·by_cases hnk : n = k
       ·subst hnk;simp only [hn0, decide_false, cdf, decide_true, cdt, ojE, pjE] at h;obtain ⟨rfl, rfl, rfl⟩ := h;simp only [decide_true, cdt];have hpl := hc.1.1.1.2;have hz' : RL ν σ (eA (wks (ofVs z.cells.toList)) n.toNat) (bJ z.cells.toList n.toNat) := RL.zeros (RL.wks (RL.ofVs hpl)) _;obtain ⟨ν', h1, h2, h3, h4, h5⟩ := M.mk' (o := .row info.size a (eA (wks (ofVs z.cells.toList)) n.toNat)) (ob := .cells (bJ z.cells.toList n.toNat) (bG info.size)) F hf hlt fun ν' h1 hm =>
         ⟨id, bJ z.cells.toList n.toNat, h1, by rw [aF, if_pos rfl], hz'.1.symm, by
          rw [List.all_eq_true]; intro x hx;have : ∀ m, x ∈ eA (wks (ofVs z.cells.toList)) m → x ∈ wks (ofVs z.cells.toList) := by
           intro m; induction m with
           | zero => intro h; simp [eA] at h
           | succ m ih => intro h; simp only [eA, List.mem_append] at h; exact h.elim (fun h => h) ih
          exact (List.all_eq_true.1 (lS (sV (aBt hpl)))) x (this _ hx), fun i x u hx hu => (hz'.2 i x u hx hu).keep (Keep.put hf) hm⟩
        exact ⟨_, _, ν', γ, rfl, .rs _ _ _ _ _ h1, h2, h3, fun h => (by cases h), h4, go, by simp [PSt.new], h5, ⟨rfl, rfl⟩, hnm _⟩
       ·simp only [hn0, hnk, decide_false, cdf] at h; cases h
    ·cases h
   ·cases h
  ·cases h
 | _ => simp only [cK] at h; cases h
end
end Go.PI
namespace Go.PI
open Go.AI
section
variable {P : Program} {ν ν' : Nu} {γ γ1 γ' : Ga} {σ σ' : St} {S : PS} {A : Slots}
theorem Keep.weak (k : Keep ν γ1 σ σ') (h : ∀ a, γ a = some .out → γ1 a = some .out) : Keep ν γ σ σ' :=
 ⟨k.vers, k.next, k.dom, fun a hn cs m hg => by
  obtain ⟨b, h1, h2, h3⟩ := k.row a hn cs m hg;exact ⟨b, h1, h2, fun hh => h3 (h a hh)⟩⟩
theorem Keep.trans {σ'' : St} (k : Keep ν γ σ σ') (hm : Mon σ ν ν') (k' : Keep ν' γ' σ' σ'') (hg : GoOut σ γ γ') : Keep ν γ σ σ'' := by
 refine ⟨k'.vers.trans k.vers, Nat.le_trans k.next k'.next, fun a ha => k.dom a (k'.dom a ha), fun a hn cs m hget => ?_⟩
 obtain ⟨b, h1, h2, h3⟩ := k.row a hn cs m hget;obtain ⟨b', h4, h5, h6⟩ := k'.row a (fun j hj => by
  rcases hm.2 j a hj with e | e
  ·exact hn j e
  ·rw [hget] at e; cases e) cs _ h1
 refine ⟨b', h4, fun ht => h5 (h2 ht), fun ho => ?_⟩
 rw [h6 (hg a (by rw [hget]; simp) ho)]
 exact h3 ho
theorem Keep.write {id a : Nat} {o : AObj} (hν : ν id = some (some a)) (hd : σ.get a ≠ none) : Keep ν fU σ (σ.put a o) := by
 refine ⟨rfl, nlR _, fun k hk => ?_, fun k hn cs m hg => ⟨m.tip, ?_, fun h => h, fun _ => rfl⟩⟩
 ·rw [aF] at hk; split at hk
  ·cases hk
  ·exact hk
 ·rw [aF, if_neg (fun e => hn id (by rw [e]; exact hν))]; exact hg
theorem Mem.write {p : PSt} {id a : Nat} {o : lF} {ob ob' : AObj} (M : Mem ν γ p σ) (F : FR ν γ σ S A) (hν : ν id = some (some a)) (hg : σ.get a = some ob) (hp : ∃ o', p.get id = some o')
    (hn : ObjR ν γ' (σ.put a ob') id o) (hγ : ∀ i j off, j ≠ id → γ i = some (.cell j off) → γ' i = some (.cell j off)) (hs : ∀ i t, γ i = some (.slot t) → γ' i = some (.slot t)) :
    Mem ν γ' (p.upd id o) (σ.put a ob') ∧ FR ν γ' (σ.put a ob') S A := by
 have kp : Keep ν fU σ (σ.put a ob') := Keep.write hν (by rw [hg]; simp)
 obtain ⟨o', ho'⟩ := hp;have hid := aE3 ho';refine ⟨⟨M.le, M.lt, M.inj, fun k a hk => ?_, fun k ob2 hk => ?_, fun k hk => ?_, M.ver⟩, F.keep kp (.refl σ ν) fun i t hi _ => ⟨rfl, hs i t hi⟩⟩
 ·rw [fR hid]; split
  ·exact ⟨_, rfl⟩
  ·exact M.live k a hk
 ·rw [fR hid] at hk;split at hk
  ·rename_i e; subst e;simp only [ojE] at hk; subst hk; exact hn
  ·rename_i e;refine (M.get k ob2 hk).keep kp (.refl σ ν) rfl (fun a' ha' => ?_) fun i off hi _ => ⟨rfl, hγ i k off e hi⟩
   rw [aF, if_neg (fun e2 => e (M.inj k id a (by rw [← e2]; exact ha') hν))]
 ·rw [aF, if_neg (fun e => by subst e; have := M.lt _ _ hν; have h2 : σ.next ≤ k := hk; omega)]; exact M.free k hk
theorem jU {α : Type} {cs xs : List α} {off i : Nat} {x : α} (h : off + xs.length ≤ cs.length) (hi : (cs.take off ++ xs ++ cs.drop (off + xs.length))[i]? = some x) :
    (i < off ∧ cs[i]? = some x) ∨ (off ≤ i ∧ i < off + xs.length ∧ xs[i - off]? = some x) ∨ (off + xs.length ≤ i ∧ cs[i]? = some x) := by
 have hl : (cs.take off).length = off := by simp; omega
 rcases Nat.lt_or_ge i off with h1 | h1
 ·left;rw [apA, List.getElem?_append_left (by omega), List.getElem?_take, if_pos h1] at hi
  exact ⟨h1, hi⟩
 ·rcases Nat.lt_or_ge i (off + xs.length) with h2 | h2
  ·right; left;rw [apA, List.getElem?_append_right (by omega), hl, List.getElem?_append_left (by omega)] at hi
   exact ⟨h1, h2, hi⟩
  ·right; right;rw [List.getElem?_append_right (by simp; omega), List.getElem?_drop] at hi
   refine ⟨h2, ?_⟩;rw [← hi]; congr 1; simp; omega
theorem zW {id : Nat} {l : List Nat} : id ∈ ins id l := by
 unfold ins;cases h : l.contains id with
 | true => simpa using h
 | false => simp
theorem aEn {p p' : PSt} (M : Mem ν γ p σ) (F : FR ν γ σ S A) {t : TypeId} {a x : PV} {w u : Value} {own : Bool} (ra : R ν σ a w) (rx : R ν σ x u) (hown : own = true → Ow ν γ σ .hand x u) (h : iY P p t a x own = some p') :
    ∃ σ' γ', eK P σ t w u = some σ' ∧ Mem ν γ' p' σ' ∧ FR ν γ' σ' S A ∧ Keep ν γ σ σ' ∧ GoOut σ γ γ' ∧ p'.next = p.next ∧ σ'.next = σ.next ∧ (∃ i0 a0, ν i0 = some (some a0) ∧ i0 ∈ p'.wr ∧ ∀ b, b ≠ a0 → σ'.get b = σ.get b) := by
 cases a <;> simp only [iY] at h <;> try cases h
 rename_i id off;split at h
 ·rename_i cs n hg hn;cases hc : Nat.beq x.cells.length n && Nat.ble (off + n) cs.length && x.cells.all PV.one with
  | false => rw [hc, cdf] at h; cases h
  | true =>
   rw [hc, cdt] at h;simp only [ojE] at h; subst h;simp only [bjE] at hc;obtain ⟨⟨hc1, hc2⟩, hc3⟩ := hc;have hxl := nqE hc1;have hle := Nat.le_of_ble_eq_true hc2;have hcs := rx.cells hc3;obtain ⟨a', us, h1, h2, h3, h4⟩ := M.get id _ hg;have hw : w = .pointer (some ⟨a', off, none⟩) := by
    cases ra with
    | ptr _ _ _ hν => rw [h1] at hν; simp only [ojE] at hν; subst hν; rfl
    | ptr0 _ _ _ hν => rw [h1] at hν; cases hν
   subst hw;have hul : u.cells.toList.length = n := by rw [← hcs.1, hxl]
   have hst : eK P σ t (.pointer (some ⟨a', off, none⟩)) u = some (σ.put a' (.cells (fB us off u.cells.toList) boxMeta)) := by
    simp only [eK, row_of_get h2 rfl, hn];rw [show (boxMeta.wr && Nat.beq u.cells.size n && Nat.ble (off + n) us.length && u.cells.toList.all one) = true by
     rw [hcs.one hc3, cN, aCP]; simp only [Array.length_toList] at hul; simp [boxMeta, hul, h3, hle]]
    rfl
   have hput := tI u.cells.toList us off (by rw [hul, h3]; exact hle)
   have hkp : Keep ν fU σ (σ.put a' (.cells (fB us off u.cells.toList) boxMeta)) := Keep.write h1 (by rw [h2]; simp)
   have hobj : ∀ γ', (∀ i k, γ i = some (.cell id k) → γ' i = some (.cell id k)) → (∀ i, own = true → γ i = some .hand → γ' i = some (.cell id off)) →
          ObjR ν γ' (σ.put a' (.cells (fB us off u.cells.toList) boxMeta)) id (.box (cs.take off ++ x.cells.map (fun c => fl c own) ++ cs.drop (off + n))) := by
    intro γ' hγ hγ2;refine ⟨a', fB us off u.cells.toList, h1, by rw [aF, if_pos rfl], ?_, fun i y b v hy hv => ?_⟩
    ·rw [hput]; simp [h3]; simp only [Array.length_toList] at hul; omega
    ·rw [show off + n = off + (x.cells.map fun c => fl c own).length by simp [hxl]] at hy
     rw [hput, hul] at hv;rw [show off + n = off + u.cells.toList.length by rw [hul]] at hv
     have hy' := jU (by simp [hxl]; exact hle) hy
     have hv' := jU (by rw [hul, h3]; exact hle) hv
     rw [List.length_map, hxl] at hy';rw [hul] at hv';rcases hy' with ⟨e1, e2⟩ | ⟨e1, e2, e3⟩ | ⟨e1, e2⟩
     ·rcases hv' with ⟨f1, f2⟩ | ⟨f1, f2, f3⟩ | ⟨f1, f2⟩
      ·obtain ⟨g1, g2, g3⟩ := h4 i y b v e2 f2;exact ⟨g1.keep hkp (.refl σ ν), g2, fun hb => (g3 hb).keep hkp (.refl σ ν) fun j hj _ => ⟨rfl, hγ j i hj⟩⟩
      ·omega
      ·omega
     ·rcases hv' with ⟨f1, f2⟩ | ⟨f1, f2, f3⟩ | ⟨f1, f2⟩
      ·omega
      ·cases own with
       | false =>
        obtain ⟨g1, g2, g3⟩ := fl_ok (γ := γ) (k := fun _ => .hand) hcs hc3 e3 f3
        refine ⟨g1.keep hkp (.refl σ ν), g2, fun hb => ?_⟩
        have := g3 hb;rw [List.getElem?_map] at e3;cases hcc : x.cells[i - off]? with
        | none => rw [hcc] at e3; cases e3
        | some c =>
         rw [hcc] at e3; simp only [omS, ojE] at e3;have hr := hcs.2 _ c v hcc f3;cases c <;> simp only [fl, pjE] at e3 <;> obtain ⟨rfl, rfl⟩ := e3 <;> first | (cases hb) | skip
         cases hr;exact .nil _
       | true =>
        have how := hown rfl;have hsl := how.slice;have hxc : x.cells = [x] := by
         cases x with
         | agg ys => obtain ⟨us', rfl, _⟩ := rx.agg_inv; cases hsl
         | _ => rfl
        have huc : u.cells.toList = [u] := by cases u <;> first | rfl | cases hsl
        rw [hxc] at e3;rw [huc] at f3;have hn1 : n = 1 := by rw [← hxl, hxc]; rfl
        have hio : i = off := by omega
        subst hio;simp only [Nat.sub_self, mpC, List.map_nil, gcZ, ojE] at e3 f3;subst f3;have hx1 : x.one = true := by rw [hxc] at hc3; simpa using hc3
        have hk : Ow ν γ' (σ.put a' (.cells (fB us i u.cells.toList) boxMeta)) (.cell id i) x u := how.keep hkp (.refl σ ν) fun j hj _ => ⟨rfl, hγ2 j rfl hj⟩
        cases x <;> simp only [fl, pjE] at e3 <;> obtain ⟨rfl, rfl⟩ := e3 <;> first | (exact ⟨rx.keep hkp (.refl σ ν), hx1, fun _ => hk⟩) | skip
        cases rx;exact ⟨.emp0, rfl, fun _ => .nil _⟩
      ·omega
     ·rcases hv' with ⟨f1, f2⟩ | ⟨f1, f2, f3⟩ | ⟨f1, f2⟩
      ·omega
      ·omega
      ·obtain ⟨g1, g2, g3⟩ := h4 i y b v e2 f2;exact ⟨g1.keep hkp (.refl σ ν), g2, fun hb => (g3 hb).keep hkp (.refl σ ν) fun j hj _ => ⟨rfl, hγ j i hj⟩⟩
   have hmv : ∀ i k, γ i = some k → k ≠ .hand → PI.mv .hand (.cell id off) γ i = some k := fun i k hi hk => by
    simp only [PI.mv, hi]; rw [if_neg (by simpa using hk)]
   obtain ⟨M', F'⟩ := M.write (γ' := PI.mv .hand (.cell id off) γ) F h1 h2 ⟨_, hg⟩ (hobj _ (fun i k hi => hmv i _ hi (by simp)) fun i _ hi => by simp [PI.mv, hi]) (fun i j o' hj hi => hmv i _ hi (by simp)) (fun i t hi => hmv i _ hi (by simp))
   exact ⟨_, _, hst, M', F', hkp.weak fun _ _ => rfl, fun i _ hi => hmv i _ hi (by simp), rfl, rfl, id, a', h1, zW, fun b hb => by rw [aF, if_neg hb]⟩
 ·rename_i z ag cs n hg hn;cases hc : Nat.beq x.cells.length n && Nat.ble (off + n) cs.length && x.cells.all PV.one with
  | false => rw [hc, cdf] at h; cases h
  | true =>
   rw [hc, cdt] at h;simp only [ojE] at h; subst h;simp only [bjE] at hc;obtain ⟨⟨hc1, hc2⟩, hc3⟩ := hc;have hxl := nqE hc1;have hle := Nat.le_of_ble_eq_true hc2;have hcs := rx.cells hc3;obtain ⟨a', us, h1, h2, h3, h5, h4⟩ := M.get id _ hg;have hw : w = .pointer (some ⟨a', off, none⟩) := by
    cases ra with
    | ptr _ _ _ hν => rw [h1] at hν; simp only [ojE] at hν; subst hν; rfl
    | ptr0 _ _ _ hν => rw [h1] at hν; cases hν
   subst hw;have hul : u.cells.toList.length = n := by rw [← hcs.1, hxl]
   have hst : eK P σ t (.pointer (some ⟨a', off, none⟩)) u = some (σ.put a' (.cells (fB us off u.cells.toList) (bG z))) := by
    simp only [eK, row_of_get h2 rfl, hn];rw [show ((bG z).wr && Nat.beq u.cells.size n && Nat.ble (off + n) us.length && u.cells.toList.all one) = true by
     rw [hcs.one hc3, cN, aCP]; simp only [Array.length_toList] at hul; simp [bG, hul, h3, hle]]
    rfl
   have hput := tI u.cells.toList us off (by rw [hul, h3]; exact hle)
   have hkp : Keep ν fU σ (σ.put a' (.cells (fB us off u.cells.toList) (bG z))) := Keep.write h1 (by rw [h2]; simp)
   have hwl : (wks x.cells).length = n := by rw [eM, hxl]
   obtain ⟨M', F'⟩ := M.write (γ' := γ) (o := .row z ag (cs.take off ++ wks x.cells ++ cs.drop (off + n))) (ob' := .cells (fB us off u.cells.toList) (bG z)) F h1 h2 ⟨_, hg⟩
    ⟨a', fB us off u.cells.toList, h1, by rw [aF, if_pos rfl], by rw [hput]; simp [h3, eM, hxl]; simp only [Array.length_toList] at hul; omega, by
     have hw1 : (wks x.cells).all PV.one = true := by
      have : ∀ ys : List PV, ys.all PV.one = true → (wks ys).all PV.one = true := by
       intro ys; induction ys with
       | nil => intro _; rfl
       | cons y ys ih =>
        intro h;simp only [alC, bjE] at h;simp only [wks, alC, bjE];refine ⟨?_, ih h.2⟩;have := h.1;cases y with
        | sl z es => cases es <;> rfl
        | _ => first | rfl | exact this
      exact this _ hc3
     rw [List.all_append, List.all_append, hw1];simp only [bnA, bjE, List.all_eq_true] at h5 ⊢;exact ⟨fun y hy => h5 y (List.mem_of_mem_take hy), fun y hy => h5 y (List.mem_of_mem_drop hy)⟩, fun i y v hy hv => by
     rw [show off + n = off + (wks x.cells).length by rw [hwl]] at hy
     rw [hput, hul] at hv;rw [show off + n = off + u.cells.toList.length by rw [hul]] at hv
     have hy' := jU (by rw [hwl]; exact hle) hy
     have hv' := jU (by rw [hul, h3]; exact hle) hv
     rw [hwl] at hy';rw [hul] at hv';rcases hy' with ⟨e1, e2⟩ | ⟨e1, e2, e3⟩ | ⟨e1, e2⟩
     ·rcases hv' with ⟨f1, f2⟩ | ⟨f1, f2, f3⟩ | ⟨f1, f2⟩
      ·exact (h4 i y v e2 f2).keep hkp (.refl σ ν)
      ·omega
      ·omega
     ·rcases hv' with ⟨f1, f2⟩ | ⟨f1, f2, f3⟩ | ⟨f1, f2⟩
      ·omega
      ·exact (hcs.wks.2 _ y v e3 f3).keep hkp (.refl σ ν)
      ·omega
     ·rcases hv' with ⟨f1, f2⟩ | ⟨f1, f2, f3⟩ | ⟨f1, f2⟩
      ·omega
      ·omega
      ·exact (h4 i y v e2 f2).keep hkp (.refl σ ν)⟩ (fun i j o' hj hi => hi) (fun i t hi => hi)
   exact ⟨_, _, hst, M', F', hkp.weak fun _ _ => rfl, .refl σ γ, rfl, rfl, id, a', h1, zW, fun b hb => by rw [aF, if_neg hb]⟩
 ·cases h
end
end Go.PI
namespace Go.PI
open Go.AI
section
variable {P : Program} {ν ν' : Nu} {γ γ1 γ' : Ga} {σ σ' : St} {S : PS} {A : Slots}
theorem oW (cs : List Value) (off : Nat) : cut cs off 0 = some [] := by simp [cut, cN]
theorem cut_of {cs : List Value} {off n : Nat} (h : off + n ≤ cs.length) : cut cs off n = some ((cs.drop off).take n) := by
 simp only [cut, cN];rw [show decide (((cs.drop off).take n).length = n) = true by simp; omega]; rfl
theorem aAZ {z : Nat} {es : List PV} {id off n c : Nat} (r : R ν σ (.sl z es) (.slice (some ⟨id, off, none⟩) n c)) :
    n = es.length ∧ 1 ≤ z ∧ (∀ e ∈ es, e.cells.length = z ∧ e.cells.all PV.pur = true) ∧ ∃ rcs m l, Fz ν σ id rcs m ∧ m.z = z ∧ off + es.length * z ≤ rcs.length ∧ cut rcs off (es.length * z) = some l ∧ RL ν σ (eE es) l := by
 cases r with
 | sl _ _ _ _ _ rcs m hz hs hr hm hb hh =>
  refine ⟨rfl, hz, hs, rcs, m, _, hr, hm, hb, cut_of hb, ?_⟩;have hfl := cZ (fun e he => (hs e he).1)
  refine ⟨by simp [hfl]; omega, fun i x u hx hu => ?_⟩
  rw [List.getElem?_take] at hu;split at hu
  ·rw [List.getElem?_drop] at hu; exact hh i x u hx hu
  ·cases hu
theorem rT {z : Nat} {d : TypeDesc} {x : PV} {u : Value} {xs : List PV} (r : R ν σ x u) (hz1 : 1 ≤ z) (h : mS z d x = some xs) :
    ∃ vals, lE σ z u = some (xs.length, vals) ∧ RL ν σ (eE xs) vals ∧ (∀ e ∈ xs, e.cells.length = z ∧ e.cells.all PV.pur = true) ∧ fits d u = true := by
 unfold mS at h;split at h
 ·cases x <;> simp only [lB] at h <;> try cases h
  ·cases r; exact ⟨[], rfl, .nil, fun e he => by simp at he, rfl⟩
  ·cases r with
   | emp0 => exact ⟨[], rfl, .nil, fun e he => by simp at he, rfl⟩
   | emp1 id off c rcs m hr => exact ⟨[], by simp only [lE, hr.1, Nat.zero_mul, oW]; rfl, .nil, fun e he => by simp at he, rfl⟩
   | emp2 b o s c => exact ⟨[], rfl, .nil, fun e he => by simp at he, rfl⟩
  ·rename_i z' es;cases hc : Nat.beq z z' with
   | false => rw [hc, cdf] at h; cases h
   | true =>
    rw [hc, cdt] at h;simp only [ojE] at h; subst h;have hzz := nqE hc; subst hzz;cases r with
    | sl _ _ id off c rcs m hz hs hr hm hb hh =>
     obtain ⟨_, _, hs', rcs', m', l, hr', _, hb', hl, hrl⟩ := aAZ (.sl z es id off c rcs m hz hs hr hm hb hh);exact ⟨l, by simp only [lE, hr'.1, hl]; rfl, hrl, hs', rfl⟩
 ·split at h
  ·rename_i s;cases hc : Nat.beq z 1 with
   | false => rw [hc, cdf] at h; cases h
   | true =>
    rw [hc, cdt] at h;simp only [ojE] at h; subst h;have hzz := nqE hc; subst hzz;cases r with
    | str ba =>
     refine ⟨_, by simp only [lE, cdt]; rw [show Nat.beq 1 1 = true from rfl, cdt, List.length_map, Array.length_toList]; rfl, ?_, fun e he => ?_, rfl⟩
     ·have : ∀ bs : List UInt8, RL ν σ (eE (bs.map fun b => PV.v (.int .u8 b.toNat))) (bs.map fun b => Value.int .u8 b.toNat) := by
       intro bs; induction bs with
       | nil => exact .nil
       | cons b bs ih => simp only [mpC, eE, fmC, PV.cells, sgA]; exact .cons (.v _ rfl) ih
      exact this _
     ·obtain ⟨b, _, rfl⟩ := List.mem_map.1 he;exact ⟨rfl, rfl⟩
  ·cases h
 ·cases h
theorem uC {p : PSt} {id z : Nat} {es xs : List PV} {old vals : List Value} {m : Mta} (M : Mem ν γ p σ) (F : FR ν γ σ S A) (hf : σ.get id = none) (hlt : id < σ.next) (hz : 1 ≤ z)
    (hse : ∀ e ∈ es ++ xs, e.cells.length = z ∧ e.cells.all PV.pur = true) (ho : RL ν σ (eE es) old) (hv : RL ν σ (eE xs) vals) (hm : m.z = z) (ht : m.tip = true) (hw : m.wr = true) (hg : m.grp.isSome = true) (hgood : σ.good m = true) (c : Nat) (hne : es ++ xs ≠ []) :
    ∃ γ', R ν (σ.put id (.cells (old ++ vals) m)) (cU z (es ++ xs)) (.slice (some ⟨id, 0, none⟩) (es.length + xs.length) c) ∧ Mem ν γ' p (σ.put id (.cells (old ++ vals) m)) ∧ FR ν γ' (σ.put id (.cells (old ++ vals) m)) S A ∧
      Ow ν γ' (σ.put id (.cells (old ++ vals) m)) .hand (cU z (es ++ xs)) (.slice (some ⟨id, 0, none⟩) (es.length + xs.length) c) ∧ Keep ν fU σ (σ.put id (.cells (old ++ vals) m)) ∧ GoOut σ γ γ' := by
 obtain ⟨M', F', hno⟩ := M.fz (ob := .cells (old ++ vals) m) F hf hlt;have hrow : Fz ν (σ.put id (.cells (old ++ vals) m)) id (old ++ vals) m := ⟨row_of_get (by rw [aF, if_pos rfl]) hgood, hno⟩
 have hall := ho.append hv;rw [← aAd] at hall;have hfl := cZ (fun e he => (hse e he).1)
 have hlen : (old ++ vals).length = (es ++ xs).length * z := by rw [← hfl]; exact hall.1.symm
 have hmk : cU z (es ++ xs) = .sl z (es ++ xs) := by
  cases hh : es ++ xs with
  | nil => exact absurd hh hne
  | cons a l => rfl
 have hnew : ∀ i k, γ i = some k → σ.get i ≠ none → (if i = id then some K.hand else γ i) = some k := fun i k hi hn => by
  rw [if_neg (fun e => hn (by rw [e]; exact hf))]; exact hi
 refine ⟨fun i => if i = id then some .hand else γ i, ?_, ?_, ?_, ?_, Keep.put hf, fun i hn hi => hnew i _ hi hn⟩
 ·rw [hmk, ← lnA];exact .sl z (es ++ xs) id 0 c _ m hz hse hrow hm (by rw [hlen]; omega) fun i x u hx hu => (hall.2 i x u hx (by simpa using hu)).keep (Keep.put hf) (.refl σ ν)
 ·refine ⟨M'.le, M'.lt, M'.inj, M'.live, fun k o hk => ?_, M'.free, M'.ver⟩
  refine (M.get k o hk).keep (γ1 := fU) (Keep.put hf) (.refl σ ν) rfl (fun a ha => ?_) fun i off hi hn => ⟨rfl, hnew i _ hi hn⟩
  rw [aF, if_neg (fun e => hno k (by rw [← e]; exact ha))]
 ·exact F.keep (γ1 := fU) (Keep.put hf) (.refl σ ν) fun i t hi hn => ⟨rfl, hnew i _ hi hn⟩
 ·rw [hmk, ← lnA];exact .tip z (es ++ xs) id 0 c _ m hrow ht hw hg (by rw [hm, hlen]; omega) (by simp)
theorem jH {z : Nat} {x : PV} {es : List PV} (h : lB z x = some es) : ((x = .emp ∨ x = .nil) ∧ es = []) ∨ x = .sl z es := by
 cases x <;> simp only [lB] at h <;> try cases h
 ·exact .inl ⟨.inr rfl, rfl⟩
 ·exact .inl ⟨.inl rfl, rfl⟩
 ·rename_i z' es';cases hc : Nat.beq z z' with
  | false => rw [hc, cdf] at h; cases h
  | true =>
   rw [hc, cdt] at h;simp only [ojE] at h; subst h;have hzz := nqE hc; subst hzz;exact .inr rfl
theorem aDH {p : PSt} (M : Mem ν γ p σ) (z id : Nat) : σ.good (cV z id) = true := by
 show Nat.beq (σ.ver id) 0 = true;rw [M.ver id]; rfl
theorem aCK {p : PSt} {id : Nat} (M : Mem ν γ p σ) (F : FR ν γ σ S A) (hf : σ.get id = none) (hlt : id < σ.next) {c : Call} {s x : Operand} (hs : aH P s = true) (hx : aH P x = true) {v : PV} {own : Bool} {S' : PS}
    (h : mW P S c s x = some (v, own, S')) :
    ∃ u σ' γ', gJ P σ id c (ev A s) (ev A x) = some (u, σ') ∧ R ν σ' v u ∧ Mem ν γ' p σ' ∧ FR ν γ' σ' S' A ∧ (own = true → Ow ν γ' σ' .hand v u) ∧ Keep ν γ σ σ' ∧ GoOut σ γ γ' ∧ σ'.next = σ.next := by
 unfold mW at h;unfold gJ;split at h
 ·rename_i t t1 ht;simp only [ht];split at h
  ·rename_i e d he hd;simp only [he, hd];split at h
   ·rename_i info hi;simp only [hi];split at h
    ·rename_i es xs z hes hxs hz;cases hc : Nat.ble 1 info.size && Nat.ble 1 info.bytes && Nat.beq z.cells.size info.size with
     | false => rw [hc, cdf] at h; cases h
     | true =>
      rw [hc, cdt] at h;simp only [bjE] at hc;have hz1 := Nat.le_of_ble_eq_true hc.1.1;obtain ⟨vals, hsrc, hvals, hxe, hfit⟩ := rT (aQ F hx) hz1 hxs;obtain ⟨γ0, F0, how, g0⟩ := pT F s hs;have M0 := M.g2 g0;have rs := aQ F hs;have hone : vals.all one = true := hvals.one (by
       rw [List.all_eq_true]; intro y hy;simp only [eE, List.mem_flatMap] at hy;obtain ⟨e, he, hy⟩ := hy;exact tJ ((List.all_eq_true.1 (hxe e he).2) y hy))
      have hsl : dJ (ev A s) = true := by
       rcases jH hes with ⟨h1 | h1, _⟩ | h1 <;> rw [h1] at rs <;> generalize ev A s = w at rs <;> cases rs <;> rfl
      simp only [hfit, cdt, hsrc, hz];rw [show (vals.all one && Nat.ble 1 info.size && Nat.ble 1 info.bytes && Nat.beq z.cells.size info.size && dJ (ev A s)) = true by
       simp only [hone, hc.1.1, hc.1.2, hc.2, hsl, Bool.and_self]]
      simp only [cdt];cases hx0 : xs with
      | nil =>
       subst hx0;simp only [ojE, pjE] at h;obtain ⟨rfl, rfl, rfl⟩ := h;exact ⟨ev A s, σ, γ0, rfl, rs, M0, F0, how, .refl ν γ σ, g0.out, rfl⟩
      | cons x0 xs0 =>
       rw [hx0] at h;simp only at h;rw [← hx0] at h;have hlen : xs.length ≠ 0 := by rw [hx0]; simp
       have hne : es ++ xs ≠ [] := by rw [hx0]; simp
       rw [← hx0];rw [show Nat.beq xs.length 0 = false by rw [cN]; simp [hlen]]
       simp only [cdf];cases hc2 : jA S s && Nat.ble ((es.length + xs.length) * info.bytes) 1073741824 with
       | false => rw [hc2, cdf] at h; cases h
       | true =>
        rw [hc2, cdt] at h;simp only [ojE, pjE] at h;obtain ⟨rfl, rfl, rfl⟩ := h;simp only [bjE] at hc2;have how := how hc2.1;have hlim := hc2.2;have hgt := aDH M0 info.size id;have hfin : ∀ {old : List Value}, RL ν σ (eE es) old → (∀ e ∈ es, e.cells.length = info.size ∧ e.cells.all PV.pur = true) →
                    iT σ id info.size info.bytes xs.length vals (ev A s) = some (.slice (some ⟨id, 0, none⟩) (es.length + xs.length) (es.length + xs.length + 1), σ.put id (.cells (old ++ vals) (cV info.size id))) →
                    ∃ u σ' γ', iT σ id info.size info.bytes xs.length vals (ev A s) = some (u, σ') ∧ R ν σ' (cU info.size (es ++ xs)) u ∧ Mem ν γ' p σ' ∧ FR ν γ' σ' (oR S s) A ∧ (true = true → Ow ν γ' σ' .hand (cU info.size (es ++ xs)) u) ∧ Keep ν γ σ σ' ∧ GoOut σ γ γ' ∧ σ'.next = σ.next := by
         intro old hold hse hag;obtain ⟨γ', k1, k2, k3, k4, k5, k6⟩ := uC (m := cV info.size id) M0 F0 hf hlt hz1 (fun e he => (List.mem_append.1 he).elim (hse e) (hxe e)) hold hvals rfl rfl rfl rfl hgt (es.length + xs.length + 1) hne
         exact ⟨_, _, γ', hag, k1, k2, k3, fun _ => k4, k5.weak fun _ _ => rfl, GoOut.trans (σ' := σ) g0.out k6 (fun _ h => h), rfl⟩
        rcases jH hes with ⟨h1, rfl⟩ | h1
        ·
         have rse : R ν σ .emp (ev A s) := by
          rcases h1 with h1 | h1 <;> rw [h1] at rs
          ·exact rs
          ·generalize ev A s = w at rs ⊢; cases rs; exact .emp0
         simp only [lnN, Nat.zero_add] at hlim hfin ⊢;refine hfin (old := []) .nil (fun e he => by simp at he) ?_
         have how' : Ow ν γ0 σ .hand .emp (ev A s) ∨ ev A s = .slice none 0 0 := by
          rcases h1 with h1 | h1 <;> rw [h1] at how rs
          ·exact .inl how
          ·right; generalize ev A s = w at rs; cases rs; rfl
         clear how hfin;generalize ev A s = w at rse how';cases rse with
         | emp0 => simp only [iT, hlim, cdt]; rfl
         | emp1 id0 off c rcs m hr =>
          have : c = 0 := by
           rcases how' with how | how
           ·cases how; rfl
           ·cases how
          subst this;simp only [iT, Nat.zero_add, hlim, cdt, hr.1, Nat.zero_mul, oW];rfl
         | emp2 b o s' c =>
          rcases how' with how | how
          ·cases how;have hq : (Nat.beq 1 1 && Nat.ble (xs.length * info.bytes) 1073741824) = true := by rw [hlim]; rfl
           simp only [iT, hq, cdt]; rfl
          ·cases how
        ·rw [h1] at rs how;obtain ⟨hse, hcut⟩ : (∀ e ∈ es, e.cells.length = info.size ∧ e.cells.all PV.pur = true) ∧ ∃ id0 off cc rcs m l, ev A s = .slice (some ⟨id0, off, none⟩) es.length cc ∧ Fz ν σ id0 rcs m ∧ m.z = info.size ∧ off + es.length * info.size ≤ rcs.length ∧ cut rcs off (es.length * info.size) = some l ∧ RL ν σ (eE es) l := by
          generalize ev A s = w at rs;cases rs with
          | sl _ _ id0 off cc rcs m hz hs hr hm hb hh =>
           obtain ⟨_, _, hs', rcs', m', l, k1, k2, k3, k4, k5⟩ := aAZ (.sl info.size es id0 off cc rcs m hz hs hr hm hb hh);exact ⟨hs', id0, off, cc, rcs', m', l, rfl, k1, k2, k3, k4, k5⟩
         obtain ⟨id0, off, cc, rcs, m, l, hw, hr, hmz, hb, hl, hrl⟩ := hcut;by_cases hcc : cc = es.length
         ·refine hfin hrl hse ?_;rw [hw, hcc];simp only [iT, hlim, cdt, hr.1, hl];rw [show Nat.beq es.length es.length = true by simp [cN]]
          rfl
         ·rw [hw] at how ⊢;cases how with
          | exact => exact absurd rfl hcc
          | tip z0 es0 _ _ _ rcs2 m2 hr2 ht hwr hg hb2 hk =>
           have : rcs2 = rcs ∧ m2 = m := by have := hr2.1; rw [hr.1] at this; simp only [ojE, pjE] at this; exact ⟨this.1.symm, this.2.symm⟩
           obtain ⟨rfl, rfl⟩ := this;obtain ⟨hget, hgood⟩ := bS hr.1;have hii : id0 ≠ id := fun e => by rw [e, hf] at hget; cases hget
           have hag : iT σ id info.size info.bytes xs.length vals (.slice (some ⟨id0, off, none⟩) es.length cc) =
                          some (.slice (some ⟨id, 0, none⟩) (es.length + xs.length) (es.length + xs.length + 1), (σ.put id0 (.cells rcs2 { m2 with tip := false })).put id (.cells (l ++ vals) { m2 with lim := l.length })) := by
            simp only [iT, hlim, cdt, hr.1, hl];rw [show Nat.beq cc es.length = false by rw [cN]; simp [hcc]]
            simp only [cdf];rw [show (m2.tip && m2.wr && Nat.beq m2.z info.size && Nat.beq (off + es.length * info.size) rcs2.length && m2.grp.isSome) = true by
             rw [hmz] at hb2;simp only [ht, hwr, hg, cN, hmz, hb2, decide_true, Bool.and_self]]
            rfl
           have kp : Keep ν (fun i => if i = id0 then none else some .out) σ (σ.put id0 (.cells rcs2 { m2 with tip := false })) := by
            refine ⟨rfl, nlR _, fun a ha => ?_, fun a hn cs m hg' => ?_⟩
            ·rw [aF] at ha; split at ha
             ·cases ha
             ·exact ha
            ·by_cases e : a = id0
             ·subst e;rw [hget] at hg';simp only [ojE, AObj.cells.injEq] at hg';obtain ⟨rfl, rfl⟩ := hg';refine ⟨false, by rw [aF, if_pos rfl], fun _ => rfl, fun h => ?_⟩
              simp at h
             ·exact ⟨m.tip, by rw [aF, if_neg e]; exact hg', fun h => h, fun _ => rfl⟩
           have hkk : ∀ i k, γ0 i = some k → k ≠ .hand → (if i = id0 then none else some K.out) = some K.out := fun i k hi hk' => by
            rw [if_neg]; intro e; rw [e, hk] at hi; simp only [ojE] at hi; exact hk' hi.symm
           have M1 : Mem ν γ0 p (σ.put id0 (.cells rcs2 { m2 with tip := false })) := by
            refine ⟨M0.le, M0.lt, M0.inj, M0.live, fun k o hk' => ?_, fun a ha => ?_, M0.ver⟩
            ·refine (M0.get k o hk').keep kp (.refl σ ν) rfl (fun a ha => ?_) fun i off' hi _ => ⟨hkk i _ hi (by simp), hi⟩
             rw [aF, if_neg (fun e => hr.2 k (by rw [← e]; exact ha))]
            ·rw [aF, if_neg (fun e => by subst e; rw [M0.free a ha] at hget; cases hget)]; exact M0.free a ha
           have F1 : FR ν γ0 (σ.put id0 (.cells rcs2 { m2 with tip := false })) (oR S s) A := F0.keep kp (.refl σ ν) fun i t hi _ => ⟨hkk i _ hi (by simp), hi⟩
           obtain ⟨γ', k1, k2, k3, k4, k5, k6⟩ := uC (m := { m2 with lim := l.length }) M1 F1 (by rw [aF, if_neg (Ne.symm hii)]; exact hf) hlt hz1 (fun e he => (List.mem_append.1 he).elim (hse e) (hxe e)) (hrl.keep kp (.refl σ ν)) (hvals.keep kp (.refl σ ν)) hmz ht hwr hg (by exact hgood) (es.length + xs.length + 1) hne
           refine ⟨_, _, γ', hag, k1, k2, k3, fun _ => k4, ?_, GoOut.trans g0.out k6 (fun a ha => kp.dom a ha), rfl⟩
           have kp' : Keep ν γ0 σ (σ.put id0 (.cells rcs2 { m2 with tip := false })) := kp.weak fun a ha => by
            show (if a = id0 then none else some K.out) = some K.out
            exact hkk a _ ha (by simp)
           have := Keep.trans (γ := γ0) kp' (.refl σ ν) (k5.weak (γ := γ0) fun _ _ => rfl) (.refl σ γ0)
           exact this.weak fun a ha => (g0 a).1 ha
    ·cases h
   ·cases h
  ·cases h
 ·cases h
end
end Go.PI
