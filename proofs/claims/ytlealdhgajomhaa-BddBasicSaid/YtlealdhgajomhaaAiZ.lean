/- Rules by which simp runs a region that draws its order. -/
import Derived.Test.YtlealdhgajomhaaAiY
namespace Go.AI
set_option linter.unusedVariables false
set_option linter.unusedSimpArgs false

mutual
theorem sameV_refl : ∀ (a : Value), sameV a a = true
  | .bool a | .int j a | .float j a | .complex j a c | .pointer a | .slice a l c | .map a | .chan a | .nilFunc | .nilIface => by simp [sameV]
  | .string a => by simp [sameV]
  | .func f ⟨xs⟩ ⟨ys⟩ => by simp [sameV, sameL_refl xs, sameL_refl ys]
  | .iface t v => by simp [sameV, sameV_refl v]
  | .agg ⟨xs⟩ => by simp [sameV, sameL_refl xs]
  | .tuple ⟨xs⟩ => by simp [sameV, sameL_refl xs]
theorem sameL_refl : ∀ (a : List Value), sameL a a = true
  | [] => by simp [sameL]
  | x :: xs => by simp [sameL, sameV_refl x, sameL_refl xs]
end
theorem sameE_refl : ∀ (a : List (Value × Value)), sameE a a = true
  | [] => by simp [sameE]
  | x :: xs => by simp [sameE, sameV_refl, sameE_refl xs]
theorem sameMeta_refl (m : Mta) : sameMeta m m = true := by simp [sameMeta, nbeq]
theorem sameObj_refl (a : AObj) : sameObj a a = true := by
  cases a with
  | cells cs m => simp [sameObj, sameL_refl, sameMeta_refl]
  | map es => simp [sameObj, sameE_refl]

/-- An effect that is no call. -/
def aeff1 (P : Program) (σ : St) (ρ : Operand → Value) (o : Oper) (id' : Nat) (K : Value → St → Prop) : Prop :=
  match o.op with
  | .store t a x => ∃ σ1, astore P σ t (ρ a) (ρ x) = some σ1 ∧ K undef σ1
  | .mapUpdate t m k x => ∃ σ1, amapUpdate P σ t (ρ m) (ρ k) (ρ x) = some σ1 ∧ K undef σ1
  | .insert t m k x => ∃ σ1, amapUpdate P σ t (ρ m) (ρ k) (ρ x) = some σ1 ∧ K undef σ1
  | .call c => match c.callee with
    | .builtin .append => match c.args.toList with
      | [s, x] => ∃ v σ1, aappend P σ id' c (ρ s) (ρ x) = some (v, σ1) ∧ K v σ1
      | _ => False
    | .value _ => ∃ g args, acallee ρ c = some (g, args) ∧ wpc P g args σ K
    | _ => False
  | _ => False

/-- one operation of a region that draws -/
def dgo (P : Program) (ops : Array Oper) (ms : List Nat) (base : Nat) : List (Nat × Oper) → List (Nat × (St → Prop)) → Slots → St → (Slots → St → Prop) → Prop
  | [], ps, S, σ, Q => (∀ p ∈ ps, p.2 σ) ∧ Q S σ
  | (i, o) :: rest, ps, S, σ, Q =>
    if wanted ops S o = true then
      match kindOf o with
      | .pure => ∃ v, apure P (ev S) o = some v ∧ dgo P ops ms base rest ps (S.store o.dst v) σ Q
      | .read => ∃ v, aread P σ (ev S) o = some v ∧ dgo P ops ms base rest ((i, fun τ => aread P τ (ev S) o = some v) :: ps) (S.store o.dst v) σ Q
      | .alloc => ∃ v ob, aalloc P (ev S) o (base + i) = some (v, ob) ∧ dgo P ops ms base rest ((i, fun τ => τ.get (base + i) = some ob) :: ps) (S.store o.dst v) (σ.put (base + i) ob) Q
      | .eff => (∀ p ∈ ps, p.2 σ) ∧ aeff1 P σ (ev S) o (base + i) fun v σ1 => dgo P ops ms base rest (ps.filter fun p => !bit (ms.getD i 0) p.1) (S.store o.dst v) σ1 Q
    else dgo P ops ms base rest ps (S.store o.dst undef) σ Q

def dcont (P : Program) (ops : Array Oper) (ms : List Nat) (base : Nat) (l : List (Nat × Oper)) (ps : List (Nat × (St → Prop))) (S : Slots) (d : Option Tmp) (Q : Slots → St → Prop) : Value → St → Prop := fun v σ1 => dgo P ops ms base l ps (S.store d v) σ1 Q

section
variable {P : Program} {ops : Array Oper} {ms : List Nat} {base i : Nat} {l : List (Nat × Oper)} {ps : List (Nat × (St → Prop))} {S : Slots} {σ : St} {Q : Slots → St → Prop} {d : Option Tmp} {ty : TypeId} {pos : String} {af : Array Edge}

/-- the checks of the run are those of the rule -/
def Okp (P : Program) (base : Nat) : List Pend → List (Nat × (St → Prop)) → Prop
  | [], [] => True
  | r :: rs, p :: ps => r.i = p.1 ∧ (∀ σ, p.2 σ → check P base σ r = true) ∧ Okp P base rs ps
  | _, _ => False

theorem okp_all : ∀ (rs : List Pend) (ps : List (Nat × (St → Prop))), Okp P base rs ps → (∀ p ∈ ps, p.2 σ) → rs.all (check P base σ) = true
  | [], [], _, _ => rfl
  | r :: rs, p :: ps, h, hp => by
    simp only [List.all_cons, Bool.and_eq_true]
    exact ⟨h.2.1 σ (hp p (by simp)), okp_all rs ps h.2.2 (fun q hq => hp q (by simp [hq]))⟩
  | [], _ :: _, h, _ => h.elim
  | _ :: _, [], h, _ => h.elim

theorem okp_filter (f : Nat → Bool) : ∀ (rs : List Pend) (ps : List (Nat × (St → Prop))), Okp P base rs ps → Okp P base (rs.filter fun r => f r.i) (ps.filter fun p => f p.1)
  | [], [], _ => trivial
  | r :: rs, p :: ps, h => by
    simp only [List.filter_cons, h.1]
    cases f p.1 with
    | true => exact ⟨h.1, h.2.1, okp_filter f rs ps h.2.2⟩
    | false => exact okp_filter f rs ps h.2.2
  | [], _ :: _, h => h.elim
  | _ :: _, [], h => h.elim

theorem aeff1_ok {o : Oper} {id' : Nat} {ρ : Operand → Value} {K : Value → St → Prop} (h : aeff1 P σ ρ o id' K) : ∃ n v σ1, aeff P (callF P n n) σ ρ o id' = some (v, σ1) ∧ K v σ1 := by
  unfold aeff1 at h
  unfold aeff
  cases ho : o.op <;> simp only [ho] at h ⊢ <;> try exact h.elim
  case store => obtain ⟨σ1, h1, h2⟩ := h; exact ⟨0, undef, σ1, by simp [h1], h2⟩
  case insert => obtain ⟨σ1, h1, h2⟩ := h; exact ⟨0, undef, σ1, by simp [h1], h2⟩
  case mapUpdate => obtain ⟨σ1, h1, h2⟩ := h; exact ⟨0, undef, σ1, by simp [h1], h2⟩
  case call c =>
    cases hc : c.callee with
    | value f =>
      simp only [hc] at h ⊢
      obtain ⟨g, args, h1, n, r, σ1, h2, h3⟩ := h
      exact ⟨n, r, σ1, by simp only [h1]; exact h2, h3⟩
    | invoke f m => simp only [hc] at h
    | builtin b =>
      cases b <;> simp only [hc] at h ⊢ <;> try exact h.elim
      split at h
      · rename_i hl; obtain ⟨v, σ1, h1, h2⟩ := h; exact ⟨0, v, σ1, by simp only [hl]; exact h1, h2⟩
      · exact h.elim

theorem dgo_ok : ∀ (order : List Nat) (ps : List (Nat × (St → Prop))) (S : Slots) (σ : St) (pend : List Pend), (∀ i ∈ order, i < ops.size) → Okp P base pend ps →
    dgo P ops ms base (order.filterMap fun i => (ops[i]?).map fun o => (i, o)) ps S σ Q → ∃ n S' σ', runDraw P (callF P n n) ops ms base order pend S σ = some (S', σ') ∧ Q S' σ' := by
  intro order
  induction order with
  | nil =>
    intro ps S σ pend _ hok h
    simp only [List.filterMap_nil, dgo] at h
    exact ⟨0, S, σ, by simp only [runDraw, okp_all pend ps hok h.1, cond_true], h.2⟩
  | cons i order ih =>
    intro ps S σ pend hlt hok h
    have hi : ops[i]? = some (ops[i]'(hlt i (by simp))) := Array.getElem?_eq_getElem _
    have hlt' : ∀ j ∈ order, j < ops.size := fun j hj => hlt j (by simp [hj])
    generalize ops[i]'(hlt i (by simp)) = o at hi
    simp only [List.filterMap_cons, hi, Option.map_some, dgo] at h
    simp only [runDraw, hi]
    split at h
    · rename_i hw
      simp only [hw, cond_true]
      cases hk : kindOf o with
      | pure =>
        simp only [hk] at h ⊢
        obtain ⟨v, h1, h2⟩ := h
        simp only [h1]
        exact ih _ _ _ _ hlt' hok h2
      | read =>
        simp only [hk] at h ⊢
        obtain ⟨v, h1, h2⟩ := h
        simp only [h1]
        refine ih ((i, fun τ => aread P τ (ev S) o = some v) :: ps) _ _ _ hlt' ⟨rfl, fun τ hτ => ?_, hok⟩ h2
        simp only at hτ; simp only [check, hτ]; exact sameV_refl v
      | alloc =>
        simp only [hk] at h ⊢
        obtain ⟨v, ob, h1, h2⟩ := h
        simp only [h1]
        refine ih ((i, fun τ => τ.get (base + i) = some ob) :: ps) _ _ _ hlt' ⟨rfl, fun τ hτ => ?_, hok⟩ h2
        simp only at hτ; simp only [check, hτ]; exact sameObj_refl ob
      | eff =>
        simp only [hk] at h ⊢
        obtain ⟨h0, h⟩ := h
        obtain ⟨n, v, σ1, h1, h2⟩ := aeff1_ok h
        obtain ⟨m, S', σ', h3, h4⟩ := ih _ _ _ (pend.filter fun r => !bit (ms.getD i 0) r.i) hlt' (okp_filter (fun j => !bit (ms.getD i 0) j) pend ps hok) h2
        refine ⟨max n m, S', σ', ?_, h4⟩
        simp only [okp_all pend ps hok h0, cond_true, aeff_le (le_max_call (Nat.le_max_left n m)) h1]
        exact runDraw_le (le_max_call (Nat.le_max_right n m)) _ _ _ _ _ h3
    · rename_i hw
      have hw' : wanted ops S o = false := by simpa using hw
      simp only [hw', cond_false]
      exact ih _ _ _ _ hlt' hok h

/-- a region that draws: its masks and its order are given -/
theorem d_go {id : Nat} {order : List Nat} {R : Fl → Slots → St → Prop} (hm : masks ops.toList [] = ms) (ho : canon ops ms = order) (hl : order.all (fun i => Nat.blt i ops.size) = true)
    (h : dgo P ops ms σ.next (order.filterMap fun i => (ops[i]?).map fun o => (i, o)) [] S (σ.more ops.size) (R .normal)) : wpx P (.region id ops true) S σ R := by
  refine wpx_region ?_
  obtain ⟨n, S', σ', h1, h2⟩ := dgo_ok order [] S (σ.more ops.size) [] (fun i hi => by have := List.all_eq_true.1 hl i hi; simpa [nblt] using this) trivial h
  refine ⟨n, S', σ', ?_, h2⟩
  simp only [runRegion, cond_true, hm, ho]
  exact h1

theorem dgo_nil : dgo P ops ms base [] ps S σ Q ↔ (∀ p ∈ ps, p.2 σ) ∧ Q S σ := Iff.rfl
theorem dgo_cons {o : Oper} : dgo P ops ms base ((i, o) :: l) ps S σ Q ↔ if wanted ops S o = true then
      match kindOf o with
      | .pure => ∃ v, apure P (ev S) o = some v ∧ dgo P ops ms base l ps (S.store o.dst v) σ Q
      | .read => ∃ v, aread P σ (ev S) o = some v ∧ dgo P ops ms base l ((i, fun τ => aread P τ (ev S) o = some v) :: ps) (S.store o.dst v) σ Q
      | .alloc => ∃ v ob, aalloc P (ev S) o (base + i) = some (v, ob) ∧ dgo P ops ms base l ((i, fun τ => τ.get (base + i) = some ob) :: ps) (S.store o.dst v) (σ.put (base + i) ob) Q
      | .eff => (∀ p ∈ ps, p.2 σ) ∧ aeff1 P σ (ev S) o (base + i) fun v σ1 => dgo P ops ms base l (ps.filter fun p => !bit (ms.getD i 0) p.1) (S.store o.dst v) σ1 Q
    else dgo P ops ms base l ps (S.store o.dst undef) σ Q := Iff.rfl
theorem dk_cont {v : Value} {σ1 : St} : dcont P ops ms base l ps S d Q v σ1 ↔ dgo P ops ms base l ps (S.store d v) σ1 Q := Iff.rfl
theorem one_some {x : Value} {Z : Value → Prop} : (∃ v, some x = some v ∧ Z v) ↔ Z x := by simp
theorem ite_iff {c : Prop} [Decidable c] {x : Value} {Z : Value → Prop} {E : Prop} (h : (∃ v, some x = some v ∧ Z v) ↔ Z x) : (if c then ∃ v, some x = some v ∧ Z v else E) ↔ if c then Z x else E := by split <;> simp_all

theorem y_move {x : Operand} : dgo P ops ms base ((i, ⟨d, .move x, ty, pos, af, none⟩) :: l) ps S σ Q ↔ dgo P ops ms base l ps (S.store d (ev S x)) σ Q := by
  rw [dgo_cons, wanted_none, if_pos rfl]; exact one_some
theorem yg_move {x : Operand} {j : Nat} {b : Bool} : dgo P ops ms base ((i, ⟨d, .move x, ty, pos, af, some (j, b)⟩) :: l) ps S σ Q ↔ if wantG ops S j b = true then dgo P ops ms base l ps (S.store d (ev S x)) σ Q else dgo P ops ms base l ps (S.store d undef) σ Q := by
  rw [dgo_cons]; exact ite_iff one_some
theorem y_assign {x : Operand} : dgo P ops ms base ((i, ⟨d, .assign x, ty, pos, af, none⟩) :: l) ps S σ Q ↔ dgo P ops ms base l ps (S.store d (ev S x)) σ Q := by
  rw [dgo_cons, wanted_none, if_pos rfl]; exact one_some
theorem yg_assign {x : Operand} {j : Nat} {b : Bool} : dgo P ops ms base ((i, ⟨d, .assign x, ty, pos, af, some (j, b)⟩) :: l) ps S σ Q ↔ if wantG ops S j b = true then dgo P ops ms base l ps (S.store d (ev S x)) σ Q else dgo P ops ms base l ps (S.store d undef) σ Q := by
  rw [dgo_cons]; exact ite_iff one_some
theorem y_pick {x y z : Operand} : dgo P ops ms base ((i, ⟨d, .pick x y z, ty, pos, af, none⟩) :: l) ps S σ Q ↔ ∃ v, apick (ev S x) (ev S y) (ev S z) = some v ∧ dgo P ops ms base l ps (S.store d v) σ Q := by
  rw [dgo_cons, wanted_none, if_pos rfl]; exact Iff.rfl
theorem yg_pick {x y z : Operand} {j : Nat} {b : Bool} : dgo P ops ms base ((i, ⟨d, .pick x y z, ty, pos, af, some (j, b)⟩) :: l) ps S σ Q ↔ if wantG ops S j b = true then ∃ v, apick (ev S x) (ev S y) (ev S z) = some v ∧ dgo P ops ms base l ps (S.store d v) σ Q else dgo P ops ms base l ps (S.store d undef) σ Q := by
  rw [dgo_cons]; exact Iff.rfl
theorem y_build {t : TypeId} {qs : Array (Nat × Operand)} : dgo P ops ms base ((i, ⟨d, .build t qs, ty, pos, af, none⟩) :: l) ps S σ Q ↔ ∃ v, abuild P t (qs.map fun (i, x) => (i, ev S x)) = some v ∧ dgo P ops ms base l ps (S.store d v) σ Q := by
  rw [dgo_cons, wanted_none, if_pos rfl]; exact Iff.rfl
theorem yg_build {t : TypeId} {qs : Array (Nat × Operand)} {j : Nat} {b : Bool} : dgo P ops ms base ((i, ⟨d, .build t qs, ty, pos, af, some (j, b)⟩) :: l) ps S σ Q ↔ if wantG ops S j b = true then ∃ v, abuild P t (qs.map fun (i, x) => (i, ev S x)) = some v ∧ dgo P ops ms base l ps (S.store d v) σ Q else dgo P ops ms base l ps (S.store d undef) σ Q := by
  rw [dgo_cons]; exact Iff.rfl
theorem y_nilCheck {x : Operand} : dgo P ops ms base ((i, ⟨d, .nilCheck x, ty, pos, af, none⟩) :: l) ps S σ Q ↔ ∃ v, anilCheck (ev S x) = some v ∧ dgo P ops ms base l ps (S.store d v) σ Q := by
  rw [dgo_cons, wanted_none, if_pos rfl]; exact Iff.rfl
theorem yg_nilCheck {x : Operand} {j : Nat} {b : Bool} : dgo P ops ms base ((i, ⟨d, .nilCheck x, ty, pos, af, some (j, b)⟩) :: l) ps S σ Q ↔ if wantG ops S j b = true then ∃ v, anilCheck (ev S x) = some v ∧ dgo P ops ms base l ps (S.store d v) σ Q else dgo P ops ms base l ps (S.store d undef) σ Q := by
  rw [dgo_cons]; exact Iff.rfl
theorem y_binOp {op : BinOp} {t t' : TypeId} {x y : Operand} : dgo P ops ms base ((i, ⟨d, .binOp op t x y t', ty, pos, af, none⟩) :: l) ps S σ Q ↔ ∃ v, abin P op t x y (ev S x) (ev S y) = some v ∧ dgo P ops ms base l ps (S.store d v) σ Q := by
  rw [dgo_cons, wanted_none, if_pos rfl]; exact Iff.rfl
theorem yg_binOp {op : BinOp} {t t' : TypeId} {x y : Operand} {j : Nat} {b : Bool} : dgo P ops ms base ((i, ⟨d, .binOp op t x y t', ty, pos, af, some (j, b)⟩) :: l) ps S σ Q ↔ if wantG ops S j b = true then ∃ v, abin P op t x y (ev S x) (ev S y) = some v ∧ dgo P ops ms base l ps (S.store d v) σ Q else dgo P ops ms base l ps (S.store d undef) σ Q := by
  rw [dgo_cons]; exact Iff.rfl
theorem y_unOp {op : UnOp} {t : TypeId} {x : Operand} : dgo P ops ms base ((i, ⟨d, .unOp op t x, ty, pos, af, none⟩) :: l) ps S σ Q ↔ ∃ v, aun P op (ev S x) = some v ∧ dgo P ops ms base l ps (S.store d v) σ Q := by
  rw [dgo_cons, wanted_none, if_pos rfl]; exact Iff.rfl
theorem yg_unOp {op : UnOp} {t : TypeId} {x : Operand} {j : Nat} {b : Bool} : dgo P ops ms base ((i, ⟨d, .unOp op t x, ty, pos, af, some (j, b)⟩) :: l) ps S σ Q ↔ if wantG ops S j b = true then ∃ v, aun P op (ev S x) = some v ∧ dgo P ops ms base l ps (S.store d v) σ Q else dgo P ops ms base l ps (S.store d undef) σ Q := by
  rw [dgo_cons]; exact Iff.rfl
theorem y_convert {s t : TypeId} {x : Operand} : dgo P ops ms base ((i, ⟨d, .convert s t x, ty, pos, af, none⟩) :: l) ps S σ Q ↔ ∃ v, aconv P s t (ev S x) = some v ∧ dgo P ops ms base l ps (S.store d v) σ Q := by
  rw [dgo_cons, wanted_none, if_pos rfl]; exact Iff.rfl
theorem yg_convert {s t : TypeId} {x : Operand} {j : Nat} {b : Bool} : dgo P ops ms base ((i, ⟨d, .convert s t x, ty, pos, af, some (j, b)⟩) :: l) ps S σ Q ↔ if wantG ops S j b = true then ∃ v, aconv P s t (ev S x) = some v ∧ dgo P ops ms base l ps (S.store d v) σ Q else dgo P ops ms base l ps (S.store d undef) σ Q := by
  rw [dgo_cons]; exact Iff.rfl
theorem y_makeFunc {fn : Fn} {fs cs : Array Operand} : dgo P ops ms base ((i, ⟨d, .makeFunc fn fs cs, ty, pos, af, none⟩) :: l) ps S σ Q ↔ dgo P ops ms base l ps (S.store d (.func fn (fs.map (ev S)) (cs.map (ev S)))) σ Q := by
  rw [dgo_cons, wanted_none, if_pos rfl]; exact one_some
theorem yg_makeFunc {fn : Fn} {fs cs : Array Operand} {j : Nat} {b : Bool} : dgo P ops ms base ((i, ⟨d, .makeFunc fn fs cs, ty, pos, af, some (j, b)⟩) :: l) ps S σ Q ↔ if wantG ops S j b = true then dgo P ops ms base l ps (S.store d (.func fn (fs.map (ev S)) (cs.map (ev S)))) σ Q else dgo P ops ms base l ps (S.store d undef) σ Q := by
  rw [dgo_cons]; exact ite_iff one_some
theorem y_fieldAddr {t : TypeId} {x : Operand} {f : Nat} : dgo P ops ms base ((i, ⟨d, .fieldAddr t x f, ty, pos, af, none⟩) :: l) ps S σ Q ↔ ∃ v, afieldAddr P t (ev S x) f = some v ∧ dgo P ops ms base l ps (S.store d v) σ Q := by
  rw [dgo_cons, wanted_none, if_pos rfl]; exact Iff.rfl
theorem yg_fieldAddr {t : TypeId} {x : Operand} {f : Nat} {j : Nat} {b : Bool} : dgo P ops ms base ((i, ⟨d, .fieldAddr t x f, ty, pos, af, some (j, b)⟩) :: l) ps S σ Q ↔ if wantG ops S j b = true then ∃ v, afieldAddr P t (ev S x) f = some v ∧ dgo P ops ms base l ps (S.store d v) σ Q else dgo P ops ms base l ps (S.store d undef) σ Q := by
  rw [dgo_cons]; exact Iff.rfl
theorem y_field {t : TypeId} {x : Operand} {f : Nat} : dgo P ops ms base ((i, ⟨d, .field t x f, ty, pos, af, none⟩) :: l) ps S σ Q ↔ ∃ v, afield P t (ev S x) f = some v ∧ dgo P ops ms base l ps (S.store d v) σ Q := by
  rw [dgo_cons, wanted_none, if_pos rfl]; exact Iff.rfl
theorem yg_field {t : TypeId} {x : Operand} {f : Nat} {j : Nat} {b : Bool} : dgo P ops ms base ((i, ⟨d, .field t x f, ty, pos, af, some (j, b)⟩) :: l) ps S σ Q ↔ if wantG ops S j b = true then ∃ v, afield P t (ev S x) f = some v ∧ dgo P ops ms base l ps (S.store d v) σ Q else dgo P ops ms base l ps (S.store d undef) σ Q := by
  rw [dgo_cons]; exact Iff.rfl
theorem y_indexAddr {t : TypeId} {x y : Operand} : dgo P ops ms base ((i, ⟨d, .indexAddr t x y, ty, pos, af, none⟩) :: l) ps S σ Q ↔ ∃ v, aindexAddr P t (ev S x) (ev S y) = some v ∧ dgo P ops ms base l ps (S.store d v) σ Q := by
  rw [dgo_cons, wanted_none, if_pos rfl]; exact Iff.rfl
theorem yg_indexAddr {t : TypeId} {x y : Operand} {j : Nat} {b : Bool} : dgo P ops ms base ((i, ⟨d, .indexAddr t x y, ty, pos, af, some (j, b)⟩) :: l) ps S σ Q ↔ if wantG ops S j b = true then ∃ v, aindexAddr P t (ev S x) (ev S y) = some v ∧ dgo P ops ms base l ps (S.store d v) σ Q else dgo P ops ms base l ps (S.store d undef) σ Q := by
  rw [dgo_cons]; exact Iff.rfl
theorem y_index {t : TypeId} {x y : Operand} : dgo P ops ms base ((i, ⟨d, .index t x y, ty, pos, af, none⟩) :: l) ps S σ Q ↔ ∃ v, aindex P t (ev S x) (ev S y) = some v ∧ dgo P ops ms base l ps (S.store d v) σ Q := by
  rw [dgo_cons, wanted_none, if_pos rfl]; exact Iff.rfl
theorem yg_index {t : TypeId} {x y : Operand} {j : Nat} {b : Bool} : dgo P ops ms base ((i, ⟨d, .index t x y, ty, pos, af, some (j, b)⟩) :: l) ps S σ Q ↔ if wantG ops S j b = true then ∃ v, aindex P t (ev S x) (ev S y) = some v ∧ dgo P ops ms base l ps (S.store d v) σ Q else dgo P ops ms base l ps (S.store d undef) σ Q := by
  rw [dgo_cons]; exact Iff.rfl
theorem y_extract {x : Operand} {k : Nat} : dgo P ops ms base ((i, ⟨d, .extract x k, ty, pos, af, none⟩) :: l) ps S σ Q ↔ ∃ v, aextract (ev S x) k = some v ∧ dgo P ops ms base l ps (S.store d v) σ Q := by
  rw [dgo_cons, wanted_none, if_pos rfl]; exact Iff.rfl
theorem yg_extract {x : Operand} {k : Nat} {j : Nat} {b : Bool} : dgo P ops ms base ((i, ⟨d, .extract x k, ty, pos, af, some (j, b)⟩) :: l) ps S σ Q ↔ if wantG ops S j b = true then ∃ v, aextract (ev S x) k = some v ∧ dgo P ops ms base l ps (S.store d v) σ Q else dgo P ops ms base l ps (S.store d undef) σ Q := by
  rw [dgo_cons]; exact Iff.rfl
theorem y_len {as : Array Operand} {ts : Array TypeId} : dgo P ops ms base ((i, ⟨d, .call ⟨.builtin .len, as, ts⟩, ty, pos, af, none⟩) :: l) ps S σ Q ↔ ∃ v, acallPure P (ev S) ⟨d, .call ⟨.builtin .len, as, ts⟩, ty, pos, af, none⟩ ⟨.builtin .len, as, ts⟩ = some v ∧ dgo P ops ms base l ps (S.store d v) σ Q := by
  rw [dgo_cons, wanted_none, if_pos rfl]; exact Iff.rfl
theorem yg_len {as : Array Operand} {ts : Array TypeId} {j : Nat} {b : Bool} : dgo P ops ms base ((i, ⟨d, .call ⟨.builtin .len, as, ts⟩, ty, pos, af, some (j, b)⟩) :: l) ps S σ Q ↔ if wantG ops S j b = true then ∃ v, acallPure P (ev S) ⟨d, .call ⟨.builtin .len, as, ts⟩, ty, pos, af, none⟩ ⟨.builtin .len, as, ts⟩ = some v ∧ dgo P ops ms base l ps (S.store d v) σ Q else dgo P ops ms base l ps (S.store d undef) σ Q := by
  rw [dgo_cons]; exact Iff.rfl
theorem y_min {as : Array Operand} {ts : Array TypeId} : dgo P ops ms base ((i, ⟨d, .call ⟨.builtin .min, as, ts⟩, ty, pos, af, none⟩) :: l) ps S σ Q ↔ ∃ v, acallPure P (ev S) ⟨d, .call ⟨.builtin .min, as, ts⟩, ty, pos, af, none⟩ ⟨.builtin .min, as, ts⟩ = some v ∧ dgo P ops ms base l ps (S.store d v) σ Q := by
  rw [dgo_cons, wanted_none, if_pos rfl]; exact Iff.rfl
theorem yg_min {as : Array Operand} {ts : Array TypeId} {j : Nat} {b : Bool} : dgo P ops ms base ((i, ⟨d, .call ⟨.builtin .min, as, ts⟩, ty, pos, af, some (j, b)⟩) :: l) ps S σ Q ↔ if wantG ops S j b = true then ∃ v, acallPure P (ev S) ⟨d, .call ⟨.builtin .min, as, ts⟩, ty, pos, af, none⟩ ⟨.builtin .min, as, ts⟩ = some v ∧ dgo P ops ms base l ps (S.store d v) σ Q else dgo P ops ms base l ps (S.store d undef) σ Q := by
  rw [dgo_cons]; exact Iff.rfl
theorem y_max {as : Array Operand} {ts : Array TypeId} : dgo P ops ms base ((i, ⟨d, .call ⟨.builtin .max, as, ts⟩, ty, pos, af, none⟩) :: l) ps S σ Q ↔ ∃ v, acallPure P (ev S) ⟨d, .call ⟨.builtin .max, as, ts⟩, ty, pos, af, none⟩ ⟨.builtin .max, as, ts⟩ = some v ∧ dgo P ops ms base l ps (S.store d v) σ Q := by
  rw [dgo_cons, wanted_none, if_pos rfl]; exact Iff.rfl
theorem yg_max {as : Array Operand} {ts : Array TypeId} {j : Nat} {b : Bool} : dgo P ops ms base ((i, ⟨d, .call ⟨.builtin .max, as, ts⟩, ty, pos, af, some (j, b)⟩) :: l) ps S σ Q ↔ if wantG ops S j b = true then ∃ v, acallPure P (ev S) ⟨d, .call ⟨.builtin .max, as, ts⟩, ty, pos, af, none⟩ ⟨.builtin .max, as, ts⟩ = some v ∧ dgo P ops ms base l ps (S.store d v) σ Q else dgo P ops ms base l ps (S.store d undef) σ Q := by
  rw [dgo_cons]; exact Iff.rfl
theorem y_load {t : TypeId} {x : Operand} : dgo P ops ms base ((i, ⟨d, .load t x, ty, pos, af, none⟩) :: l) ps S σ Q ↔ ∃ v, aload P σ t (ev S x) = some v ∧ dgo P ops ms base l ((i, fun τ => aload P τ t (ev S x) = some v) :: ps) (S.store d v) σ Q := by
  rw [dgo_cons, wanted_none, if_pos rfl]; exact Iff.rfl
theorem yg_load {t : TypeId} {x : Operand} {j : Nat} {b : Bool} : dgo P ops ms base ((i, ⟨d, .load t x, ty, pos, af, some (j, b)⟩) :: l) ps S σ Q ↔ if wantG ops S j b = true then ∃ v, aload P σ t (ev S x) = some v ∧ dgo P ops ms base l ((i, fun τ => aload P τ t (ev S x) = some v) :: ps) (S.store d v) σ Q else dgo P ops ms base l ps (S.store d undef) σ Q := by
  rw [dgo_cons]; exact Iff.rfl
theorem y_lookup {t : TypeId} {x y : Operand} {ok : Bool} : dgo P ops ms base ((i, ⟨d, .lookup t x y ok, ty, pos, af, none⟩) :: l) ps S σ Q ↔ ∃ v, alookup P σ t (ev S x) (ev S y) ok = some v ∧ dgo P ops ms base l ((i, fun τ => alookup P τ t (ev S x) (ev S y) ok = some v) :: ps) (S.store d v) σ Q := by
  rw [dgo_cons, wanted_none, if_pos rfl]; exact Iff.rfl
theorem yg_lookup {t : TypeId} {x y : Operand} {ok : Bool} {j : Nat} {b : Bool} : dgo P ops ms base ((i, ⟨d, .lookup t x y ok, ty, pos, af, some (j, b)⟩) :: l) ps S σ Q ↔ if wantG ops S j b = true then ∃ v, alookup P σ t (ev S x) (ev S y) ok = some v ∧ dgo P ops ms base l ((i, fun τ => alookup P τ t (ev S x) (ev S y) ok = some v) :: ps) (S.store d v) σ Q else dgo P ops ms base l ps (S.store d undef) σ Q := by
  rw [dgo_cons]; exact Iff.rfl
theorem y_slice {t : TypeId} {x : Operand} {lo hi mx : Option Operand} : dgo P ops ms base ((i, ⟨d, .slice t x lo hi mx, ty, pos, af, none⟩) :: l) ps S σ Q ↔ ∃ v, aslice P σ t (ev S x) (lo.map (ev S)) (hi.map (ev S)) (mx.map (ev S)) = some v ∧ dgo P ops ms base l ((i, fun τ => aslice P τ t (ev S x) (lo.map (ev S)) (hi.map (ev S)) (mx.map (ev S)) = some v) :: ps) (S.store d v) σ Q := by
  rw [dgo_cons, wanted_none, if_pos rfl]; exact Iff.rfl
theorem yg_slice {t : TypeId} {x : Operand} {lo hi mx : Option Operand} {j : Nat} {b : Bool} : dgo P ops ms base ((i, ⟨d, .slice t x lo hi mx, ty, pos, af, some (j, b)⟩) :: l) ps S σ Q ↔ if wantG ops S j b = true then ∃ v, aslice P σ t (ev S x) (lo.map (ev S)) (hi.map (ev S)) (mx.map (ev S)) = some v ∧ dgo P ops ms base l ((i, fun τ => aslice P τ t (ev S x) (lo.map (ev S)) (hi.map (ev S)) (mx.map (ev S)) = some v) :: ps) (S.store d v) σ Q else dgo P ops ms base l ps (S.store d undef) σ Q := by
  rw [dgo_cons]; exact Iff.rfl
theorem y_alloc' {t : TypeId} : dgo P ops ms base ((i, ⟨d, .alloc t, ty, pos, af, none⟩) :: l) ps S σ Q ↔ ∃ v ob, vAlloc P t (base + i) = some (v, ob) ∧ dgo P ops ms base l ((i, fun τ => τ.get (base + i) = some ob) :: ps) (S.store d v) (σ.put (base + i) ob) Q := by
  rw [dgo_cons, wanted_none, if_pos rfl]; exact Iff.rfl
theorem yg_alloc' {t : TypeId} {j : Nat} {b : Bool} : dgo P ops ms base ((i, ⟨d, .alloc t, ty, pos, af, some (j, b)⟩) :: l) ps S σ Q ↔ if wantG ops S j b = true then ∃ v ob, vAlloc P t (base + i) = some (v, ob) ∧ dgo P ops ms base l ((i, fun τ => τ.get (base + i) = some ob) :: ps) (S.store d v) (σ.put (base + i) ob) Q else dgo P ops ms base l ps (S.store d undef) σ Q := by
  rw [dgo_cons]; exact Iff.rfl
theorem y_box {t : TypeId} {x : Operand} : dgo P ops ms base ((i, ⟨d, .box t x, ty, pos, af, none⟩) :: l) ps S σ Q ↔ ∃ v ob, vBox (ev S x) (base + i) = some (v, ob) ∧ dgo P ops ms base l ((i, fun τ => τ.get (base + i) = some ob) :: ps) (S.store d v) (σ.put (base + i) ob) Q := by
  rw [dgo_cons, wanted_none, if_pos rfl]; exact Iff.rfl
theorem yg_box {t : TypeId} {x : Operand} {j : Nat} {b : Bool} : dgo P ops ms base ((i, ⟨d, .box t x, ty, pos, af, some (j, b)⟩) :: l) ps S σ Q ↔ if wantG ops S j b = true then ∃ v ob, vBox (ev S x) (base + i) = some (v, ob) ∧ dgo P ops ms base l ((i, fun τ => τ.get (base + i) = some ob) :: ps) (S.store d v) (σ.put (base + i) ob) Q else dgo P ops ms base l ps (S.store d undef) σ Q := by
  rw [dgo_cons]; exact Iff.rfl
theorem y_buildSlice {t : TypeId} {n : Nat} {qs : Array (Nat × Operand)} : dgo P ops ms base ((i, ⟨d, .buildSlice t n qs, ty, pos, af, none⟩) :: l) ps S σ Q ↔ ∃ v ob, vBuildS P t n (qs.map fun (i, x) => (i, ev S x)) (base + i) = some (v, ob) ∧ dgo P ops ms base l ((i, fun τ => τ.get (base + i) = some ob) :: ps) (S.store d v) (σ.put (base + i) ob) Q := by
  rw [dgo_cons, wanted_none, if_pos rfl]; exact Iff.rfl
theorem yg_buildSlice {t : TypeId} {n : Nat} {qs : Array (Nat × Operand)} {j : Nat} {b : Bool} : dgo P ops ms base ((i, ⟨d, .buildSlice t n qs, ty, pos, af, some (j, b)⟩) :: l) ps S σ Q ↔ if wantG ops S j b = true then ∃ v ob, vBuildS P t n (qs.map fun (i, x) => (i, ev S x)) (base + i) = some (v, ob) ∧ dgo P ops ms base l ((i, fun τ => τ.get (base + i) = some ob) :: ps) (S.store d v) (σ.put (base + i) ob) Q else dgo P ops ms base l ps (S.store d undef) σ Q := by
  rw [dgo_cons]; exact Iff.rfl
theorem y_makeSlice {t : TypeId} {x y : Operand} : dgo P ops ms base ((i, ⟨d, .makeSlice t x y, ty, pos, af, none⟩) :: l) ps S σ Q ↔ ∃ v ob, vMake P t (ev S x) (ev S y) (base + i) = some (v, ob) ∧ dgo P ops ms base l ((i, fun τ => τ.get (base + i) = some ob) :: ps) (S.store d v) (σ.put (base + i) ob) Q := by
  rw [dgo_cons, wanted_none, if_pos rfl]; exact Iff.rfl
theorem yg_makeSlice {t : TypeId} {x y : Operand} {j : Nat} {b : Bool} : dgo P ops ms base ((i, ⟨d, .makeSlice t x y, ty, pos, af, some (j, b)⟩) :: l) ps S σ Q ↔ if wantG ops S j b = true then ∃ v ob, vMake P t (ev S x) (ev S y) (base + i) = some (v, ob) ∧ dgo P ops ms base l ((i, fun τ => τ.get (base + i) = some ob) :: ps) (S.store d v) (σ.put (base + i) ob) Q else dgo P ops ms base l ps (S.store d undef) σ Q := by
  rw [dgo_cons]; exact Iff.rfl
theorem y_makeMap {t : TypeId} {x : Option Operand} : dgo P ops ms base ((i, ⟨d, .makeMap t x, ty, pos, af, none⟩) :: l) ps S σ Q ↔ ∃ v ob, aalloc P (ev S) ⟨d, .makeMap t x, ty, pos, af, none⟩ (base + i) = some (v, ob) ∧ dgo P ops ms base l ((i, fun τ => τ.get (base + i) = some ob) :: ps) (S.store d v) (σ.put (base + i) ob) Q := by
  rw [dgo_cons, wanted_none, if_pos rfl]; exact Iff.rfl
theorem yg_makeMap {t : TypeId} {x : Option Operand} {j : Nat} {b : Bool} : dgo P ops ms base ((i, ⟨d, .makeMap t x, ty, pos, af, some (j, b)⟩) :: l) ps S σ Q ↔ if wantG ops S j b = true then ∃ v ob, aalloc P (ev S) ⟨d, .makeMap t x, ty, pos, af, none⟩ (base + i) = some (v, ob) ∧ dgo P ops ms base l ((i, fun τ => τ.get (base + i) = some ob) :: ps) (S.store d v) (σ.put (base + i) ob) Q else dgo P ops ms base l ps (S.store d undef) σ Q := by
  rw [dgo_cons]; exact Iff.rfl
theorem y_store {t : TypeId} {x y : Operand} : dgo P ops ms base ((i, ⟨d, .store t x y, ty, pos, af, none⟩) :: l) ps S σ Q ↔ (∀ p ∈ ps, p.2 σ) ∧ ∃ σ1, astore P σ t (ev S x) (ev S y) = some σ1 ∧ dgo P ops ms base l (ps.filter fun p => !bit (ms.getD i 0) p.1) (S.store d undef) σ1 Q := by
  rw [dgo_cons, wanted_none, if_pos rfl]; exact Iff.rfl
theorem yg_store {t : TypeId} {x y : Operand} {j : Nat} {b : Bool} : dgo P ops ms base ((i, ⟨d, .store t x y, ty, pos, af, some (j, b)⟩) :: l) ps S σ Q ↔ if wantG ops S j b = true then (∀ p ∈ ps, p.2 σ) ∧ ∃ σ1, astore P σ t (ev S x) (ev S y) = some σ1 ∧ dgo P ops ms base l (ps.filter fun p => !bit (ms.getD i 0) p.1) (S.store d undef) σ1 Q else dgo P ops ms base l ps (S.store d undef) σ Q := by
  rw [dgo_cons]; exact Iff.rfl
theorem y_mapUpdate {t : TypeId} {x y z : Operand} : dgo P ops ms base ((i, ⟨d, .mapUpdate t x y z, ty, pos, af, none⟩) :: l) ps S σ Q ↔ (∀ p ∈ ps, p.2 σ) ∧ ∃ σ1, amapUpdate P σ t (ev S x) (ev S y) (ev S z) = some σ1 ∧ dgo P ops ms base l (ps.filter fun p => !bit (ms.getD i 0) p.1) (S.store d undef) σ1 Q := by
  rw [dgo_cons, wanted_none, if_pos rfl]; exact Iff.rfl
theorem yg_mapUpdate {t : TypeId} {x y z : Operand} {j : Nat} {b : Bool} : dgo P ops ms base ((i, ⟨d, .mapUpdate t x y z, ty, pos, af, some (j, b)⟩) :: l) ps S σ Q ↔ if wantG ops S j b = true then (∀ p ∈ ps, p.2 σ) ∧ ∃ σ1, amapUpdate P σ t (ev S x) (ev S y) (ev S z) = some σ1 ∧ dgo P ops ms base l (ps.filter fun p => !bit (ms.getD i 0) p.1) (S.store d undef) σ1 Q else dgo P ops ms base l ps (S.store d undef) σ Q := by
  rw [dgo_cons]; exact Iff.rfl
theorem y_insert {t : TypeId} {x y z : Operand} : dgo P ops ms base ((i, ⟨d, .insert t x y z, ty, pos, af, none⟩) :: l) ps S σ Q ↔ (∀ p ∈ ps, p.2 σ) ∧ ∃ σ1, amapUpdate P σ t (ev S x) (ev S y) (ev S z) = some σ1 ∧ dgo P ops ms base l (ps.filter fun p => !bit (ms.getD i 0) p.1) (S.store d undef) σ1 Q := by
  rw [dgo_cons, wanted_none, if_pos rfl]; exact Iff.rfl
theorem yg_insert {t : TypeId} {x y z : Operand} {j : Nat} {b : Bool} : dgo P ops ms base ((i, ⟨d, .insert t x y z, ty, pos, af, some (j, b)⟩) :: l) ps S σ Q ↔ if wantG ops S j b = true then (∀ p ∈ ps, p.2 σ) ∧ ∃ σ1, amapUpdate P σ t (ev S x) (ev S y) (ev S z) = some σ1 ∧ dgo P ops ms base l (ps.filter fun p => !bit (ms.getD i 0) p.1) (S.store d undef) σ1 Q else dgo P ops ms base l ps (S.store d undef) σ Q := by
  rw [dgo_cons]; exact Iff.rfl
theorem y_append {x y : Operand} {ts : Array TypeId} : dgo P ops ms base ((i, ⟨d, .call ⟨.builtin .append, #[x, y], ts⟩, ty, pos, af, none⟩) :: l) ps S σ Q ↔ (∀ p ∈ ps, p.2 σ) ∧ ∃ v σ1, aappend P σ (base + i) ⟨.builtin .append, #[x, y], ts⟩ (ev S x) (ev S y) = some (v, σ1) ∧ dgo P ops ms base l (ps.filter fun p => !bit (ms.getD i 0) p.1) (S.store d v) σ1 Q := by
  rw [dgo_cons, wanted_none, if_pos rfl]; exact Iff.rfl
theorem yg_append {x y : Operand} {ts : Array TypeId} {j : Nat} {b : Bool} : dgo P ops ms base ((i, ⟨d, .call ⟨.builtin .append, #[x, y], ts⟩, ty, pos, af, some (j, b)⟩) :: l) ps S σ Q ↔ if wantG ops S j b = true then (∀ p ∈ ps, p.2 σ) ∧ ∃ v σ1, aappend P σ (base + i) ⟨.builtin .append, #[x, y], ts⟩ (ev S x) (ev S y) = some (v, σ1) ∧ dgo P ops ms base l (ps.filter fun p => !bit (ms.getD i 0) p.1) (S.store d v) σ1 Q else dgo P ops ms base l ps (S.store d undef) σ Q := by
  rw [dgo_cons]; exact Iff.rfl
theorem y_call {f : Operand} {as : Array Operand} {ts : Array TypeId} : dgo P ops ms base ((i, ⟨d, .call ⟨.value f, as, ts⟩, ty, pos, af, none⟩) :: l) ps S σ Q ↔ (∀ p ∈ ps, p.2 σ) ∧ ∃ g args, acallee (ev S) ⟨.value f, as, ts⟩ = some (g, args) ∧ wpc P g args σ (dcont P ops ms base l (ps.filter fun p => !bit (ms.getD i 0) p.1) S d Q) := by
  rw [dgo_cons, wanted_none, if_pos rfl]; exact Iff.rfl
theorem yg_call {f : Operand} {as : Array Operand} {ts : Array TypeId} {j : Nat} {b : Bool} : dgo P ops ms base ((i, ⟨d, .call ⟨.value f, as, ts⟩, ty, pos, af, some (j, b)⟩) :: l) ps S σ Q ↔ if wantG ops S j b = true then (∀ p ∈ ps, p.2 σ) ∧ ∃ g args, acallee (ev S) ⟨.value f, as, ts⟩ = some (g, args) ∧ wpc P g args σ (dcont P ops ms base l (ps.filter fun p => !bit (ms.getD i 0) p.1) S d Q) else dgo P ops ms base l ps (S.store d undef) σ Q := by
  rw [dgo_cons]; exact Iff.rfl
end
end Go.AI
