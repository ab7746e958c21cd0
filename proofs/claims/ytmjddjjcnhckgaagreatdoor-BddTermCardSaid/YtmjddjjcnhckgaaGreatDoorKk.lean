import Derived.Test.YtmjddjjcnhckgaaGreatDoorKi
import Derived.Laws.StructEq
set_option linter.unusedVariables false
set_option linter.unusedSimpArgs false
set_option linter.constructorNameAsVariable false
namespace Go.AI
mutual
theorem sameV_refl : ∀ (a : Value), sameV a a = true
 | .bool a | .int j a | .float j a | .complex j a c | .pointer a | .slice a l c | .map a | .chan a | .nilFunc | .nilIface => by simp [sameV]
 | .string a => by simp [sameV]
 | .func f ⟨xs⟩ ⟨ys⟩ => by simp [sameV, sameL_refl xs, sameL_refl ys]
 | .iface t v => by simp [sameV, sameV_refl v]
 | .agg ⟨xs⟩ => by simp [sameV, sameL_refl xs]
 | .tuple ⟨xs⟩ => by simp [sameV, sameL_refl xs]
theorem sameL_refl : ∀ (a : List Value), sameL a a = true
 | [] => by simp [sameL]
 | x :: xs => by simp [sameL, sameV_refl x, sameL_refl xs]
end
theorem sameE_refl : ∀ (a : List (Value × Value)), sameE a a = true
 | [] => by simp [sameE]
 | x :: xs => by simp [sameE, sameV_refl, sameE_refl xs]
theorem sameMeta_refl (m : Mta) : sameMeta m m = true := by simp [sameMeta, nbeq]
theorem sameObj_refl (a : AObj) : sameObj a a = true := by
 cases a with
 | cells cs m => simp [sameObj, sameL_refl, sameMeta_refl]
 | map es => simp [sameObj, sameE_refl]
def aeff1 (P : Program) (σ : St) (ρ : Operand → Value) (o : Oper) (id' : Nat) (K : Value → St → Prop) : Prop :=
 match o.op with
 | .store t a x => ∃ σ1, astore P σ t (ρ a) (ρ x) = some σ1 ∧ K undef σ1
 | .mapUpdate t m k x => ∃ σ1, amapUpdate P σ t (ρ m) (ρ k) (ρ x) = some σ1 ∧ K undef σ1
 | .insert t m k x => ∃ σ1, amapUpdate P σ t (ρ m) (ρ k) (ρ x) = some σ1 ∧ K undef σ1
 | .call c => match c.callee with
  | .builtin .append => match c.args.toList with
   | [s, x] => ∃ v σ1, aappend P σ id' c (ρ s) (ρ x) = some (v, σ1) ∧ K v σ1
   | _ => False
  | .value _ => ∃ g args, acallee ρ c = some (g, args) ∧ wpc P g args σ K
  | _ => False
 | _ => False
def dgo (P : Program) (ops : Array Oper) (ms : List Nat) (base : Nat) : List (Nat × Oper) → List (Nat × (St → Prop)) → Slots → St → (Slots → St → Prop) → Prop
 | [], ps, S, σ, Q => (∀ p ∈ ps, p.2 σ) ∧ Q S σ
 | (i, o) :: rest, ps, S, σ, Q =>
  if wanted ops S o = true then
   match kindOf o with
   | .pure => ∃ v, apure P (ev S) o = some v ∧ dgo P ops ms base rest ps (S.store o.dst v) σ Q
   | .read => ∃ v, aread P σ (ev S) o = some v ∧ dgo P ops ms base rest ((i, fun τ => aread P τ (ev S) o = some v) :: ps) (S.store o.dst v) σ Q
   | .alloc => ∃ v ob, aalloc P (ev S) o (base + i) = some (v, ob) ∧ dgo P ops ms base rest ((i, fun τ => τ.get (base + i) = some ob) :: ps) (S.store o.dst v) (σ.put (base + i) ob) Q
   | .eff => (∀ p ∈ ps, p.2 σ) ∧ aeff1 P σ (ev S) o (base + i) fun v σ1 => dgo P ops ms base rest (ps.filter fun p => !bit (ms.getD i 0) p.1) (S.store o.dst v) σ1 Q
  else dgo P ops ms base rest ps (S.store o.dst undef) σ Q
def dcont (P : Program) (ops : Array Oper) (ms : List Nat) (base : Nat) (l : List (Nat × Oper)) (ps : List (Nat × (St → Prop))) (S : Slots) (d : Option Tmp) (Q : Slots → St → Prop) : Value → St → Prop := fun v σ1 => dgo P ops ms base l ps (S.store d v) σ1 Q
section
variable {P : Program} {ops : Array Oper} {ms : List Nat} {base i : Nat} {l : List (Nat × Oper)} {ps : List (Nat × (St → Prop))} {S : Slots} {σ : St} {Q : Slots → St → Prop} {d : Option Tmp} {ty : TypeId} {pos : String} {af : Array Edge}
def Okp (P : Program) (base : Nat) : List Pend → List (Nat × (St → Prop)) → Prop
 | [], [] => True
 | r :: rs, p :: ps => r.i = p.1 ∧ (∀ σ, p.2 σ → check P base σ r = true) ∧ Okp P base rs ps
 | _, _ => False
theorem okp_all : ∀ (rs : List Pend) (ps : List (Nat × (St → Prop))), Okp P base rs ps → (∀ p ∈ ps, p.2 σ) → rs.all (check P base σ) = true
 | [], [], _, _ => rfl
 | r :: rs, p :: ps, h, hp => by
  simp only [List.all_cons, Bool.and_eq_true]
  exact ⟨h.2.1 σ (hp p (by simp)), okp_all rs ps h.2.2 (fun q hq => hp q (by simp [hq]))⟩
 | [], _ :: _, h, _ => h.elim
 | _ :: _, [], h, _ => h.elim
theorem okp_filter (f : Nat → Bool) : ∀ (rs : List Pend) (ps : List (Nat × (St → Prop))), Okp P base rs ps → Okp P base (rs.filter fun r => f r.i) (ps.filter fun p => f p.1)
 | [], [], _ => trivial
 | r :: rs, p :: ps, h => by
  simp only [List.filter_cons, h.1]
  cases f p.1 with
  | true => exact ⟨h.1, h.2.1, okp_filter f rs ps h.2.2⟩
  | false => exact okp_filter f rs ps h.2.2
 | [], _ :: _, h => h.elim
 | _ :: _, [], h => h.elim
theorem aeff1_ok {o : Oper} {id' : Nat} {ρ : Operand → Value} {K : Value → St → Prop} (h : aeff1 P σ ρ o id' K) : ∃ n v σ1, aeff P (callQ P n n) σ ρ o id' = some (v, σ1) ∧ K v σ1 := by
 unfold aeff1 at h
 unfold aeff
 cases ho : o.op <;> simp only [ho] at h ⊢ <;> try exact h.elim
 case store => obtain ⟨σ1, h1, h2⟩ := h; exact ⟨0, undef, σ1, by simp [h1], h2⟩
 case insert => obtain ⟨σ1, h1, h2⟩ := h; exact ⟨0, undef, σ1, by simp [h1], h2⟩
 case mapUpdate => obtain ⟨σ1, h1, h2⟩ := h; exact ⟨0, undef, σ1, by simp [h1], h2⟩
 case call c =>
  cases hc : c.callee with
  | value f =>
   simp only [hc] at h ⊢
   obtain ⟨g, args, h1, n, r, σ1, h2, h3⟩ := h
   exact ⟨n, r, σ1, by simp only [h1]; exact h2, h3⟩
  | invoke f m => simp only [hc] at h
  | builtin b =>
   cases b <;> simp only [hc] at h ⊢ <;> try exact h.elim
   split at h
   ·rename_i hl; obtain ⟨v, σ1, h1, h2⟩ := h; exact ⟨0, v, σ1, by simp only [hl]; exact h1, h2⟩
   ·exact h.elim
theorem dgo_ok : ∀ (order : List Nat) (ps : List (Nat × (St → Prop))) (S : Slots) (σ : St) (pend : List Pend), (∀ i ∈ order, i < ops.size) → Okp P base pend ps →
    dgo P ops ms base (order.filterMap fun i => (ops[i]?).map fun o => (i, o)) ps S σ Q → ∃ n S' σ', runDraw P (callQ P n n) ops ms base order pend S σ = some (S', σ') ∧ Q S' σ' := by
 intro order
 induction order with
 | nil =>
  intro ps S σ pend _ hok h
  simp only [List.filterMap_nil, dgo] at h
  exact ⟨0, S, σ, by simp only [runDraw, okp_all pend ps hok h.1, cond_true], h.2⟩
 | cons i order ih =>
  intro ps S σ pend hlt hok h
  have hi : ops[i]? = some (ops[i]'(hlt i (by simp))) := Array.getElem?_eq_getElem _
  have hlt' : ∀ j ∈ order, j < ops.size := fun j hj => hlt j (by simp [hj])
  generalize ops[i]'(hlt i (by simp)) = o at hi
  simp only [List.filterMap_cons, hi, Option.map_some, dgo] at h
  simp only [runDraw, hi]
  split at h
  ·rename_i hw
   simp only [hw, cond_true]
   cases hk : kindOf o with
   | pure =>
    simp only [hk] at h ⊢
    obtain ⟨v, h1, h2⟩ := h
    simp only [h1]
    exact ih _ _ _ _ hlt' hok h2
   | read =>
    simp only [hk] at h ⊢
    obtain ⟨v, h1, h2⟩ := h
    simp only [h1]
    refine ih ((i, fun τ => aread P τ (ev S) o = some v) :: ps) _ _ _ hlt' ⟨rfl, fun τ hτ => ?_, hok⟩ h2
    simp only at hτ; simp only [check, hτ]; exact sameV_refl v
   | alloc =>
    simp only [hk] at h ⊢
    obtain ⟨v, ob, h1, h2⟩ := h
    simp only [h1]
    refine ih ((i, fun τ => τ.get (base + i) = some ob) :: ps) _ _ _ hlt' ⟨rfl, fun τ hτ => ?_, hok⟩ h2
    simp only at hτ; simp only [check, hτ]; exact sameObj_refl ob
   | eff =>
    simp only [hk] at h ⊢
    obtain ⟨h0, h⟩ := h
    obtain ⟨n, v, σ1, h1, h2⟩ := aeff1_ok h
    obtain ⟨m, S', σ', h3, h4⟩ := ih _ _ _ (pend.filter fun r => !bit (ms.getD i 0) r.i) hlt' (okp_filter (fun j => !bit (ms.getD i 0) j) pend ps hok) h2
    refine ⟨max n m, S', σ', ?_, h4⟩
    simp only [okp_all pend ps hok h0, cond_true, aeff_le (le_max_call (Nat.le_max_left n m)) h1]
    exact runDraw_le (le_max_call (Nat.le_max_right n m)) _ _ _ _ _ h3
  ·rename_i hw
   have hw' : wanted ops S o = false := by simpa using hw
   simp only [hw', cond_false]
   exact ih _ _ _ _ hlt' hok h
theorem d_go {id : Nat} {order : List Nat} {R : Fl → Slots → St → Prop} (hm : masks ops.toList [] = ms) (ho : canon ops ms = order) (hl : order.all (fun i => Nat.blt i ops.size) = true) (ht : twin ops = none)
    (h : dgo P ops ms σ.next (order.filterMap fun i => (ops[i]?).map fun o => (i, o)) [] S (σ.more ops.size) (R .normal)) : wpx P (.region id ops true) S σ R := by
 refine wpx_region ?_
 obtain ⟨n, S', σ', h1, h2⟩ := dgo_ok order [] S (σ.more ops.size) [] (fun i hi => by have := List.all_eq_true.1 hl i hi; simpa [nblt] using this) trivial h
 refine ⟨n, S', σ', ?_, h2⟩
 have h1' : runDraw P (callQ P n n) ops ms σ.next order [] S { σ with next := σ.next + ops.size } = some (S', σ') := h1
 simp only [runRegion, cond_true, hm, ho, h1', fitTw, okTw, ht]
theorem dgo_nil : dgo P ops ms base [] ps S σ Q ↔ (∀ p ∈ ps, p.2 σ) ∧ Q S σ := Iff.rfl
theorem dgo_cons {o : Oper} : dgo P ops ms base ((i, o) :: l) ps S σ Q ↔ if wanted ops S o = true then
      match kindOf o with
      | .pure => ∃ v, apure P (ev S) o = some v ∧ dgo P ops ms base l ps (S.store o.dst v) σ Q
      | .read => ∃ v, aread P σ (ev S) o = some v ∧ dgo P ops ms base l ((i, fun τ => aread P τ (ev S) o = some v) :: ps) (S.store o.dst v) σ Q
      | .alloc => ∃ v ob, aalloc P (ev S) o (base + i) = some (v, ob) ∧ dgo P ops ms base l ((i, fun τ => τ.get (base + i) = some ob) :: ps) (S.store o.dst v) (σ.put (base + i) ob) Q
      | .eff => (∀ p ∈ ps, p.2 σ) ∧ aeff1 P σ (ev S) o (base + i) fun v σ1 => dgo P ops ms base l (ps.filter fun p => !bit (ms.getD i 0) p.1) (S.store o.dst v) σ1 Q
    else dgo P ops ms base l ps (S.store o.dst undef) σ Q := Iff.rfl
theorem dk_cont {v : Value} {σ1 : St} : dcont P ops ms base l ps S d Q v σ1 ↔ dgo P ops ms base l ps (S.store d v) σ1 Q := Iff.rfl
theorem one_some {x : Value} {Z : Value → Prop} : (∃ v, some x = some v ∧ Z v) ↔ Z x := by simp
theorem y_move {x : Operand} : dgo P ops ms base ((i, ⟨d, .move x, ty, pos, af, none⟩) :: l) ps S σ Q ↔ dgo P ops ms base l ps (S.store d (ev S x)) σ Q := by
 rw [dgo_cons, wanted_none, if_pos rfl]; exact one_some
theorem y_assign {x : Operand} : dgo P ops ms base ((i, ⟨d, .assign x, ty, pos, af, none⟩) :: l) ps S σ Q ↔ dgo P ops ms base l ps (S.store d (ev S x)) σ Q := by
 rw [dgo_cons, wanted_none, if_pos rfl]; exact one_some
theorem y_pick {x y z : Operand} : dgo P ops ms base ((i, ⟨d, .pick x y z, ty, pos, af, none⟩) :: l) ps S σ Q ↔ ∃ v, apick (ev S x) (ev S y) (ev S z) = some v ∧ dgo P ops ms base l ps (S.store d v) σ Q := by
 rw [dgo_cons, wanted_none, if_pos rfl]; exact Iff.rfl
theorem y_build {t : TypeId} {qs : Array (Nat × Operand)} : dgo P ops ms base ((i, ⟨d, .build t qs, ty, pos, af, none⟩) :: l) ps S σ Q ↔ ∃ v, abuild P t (qs.map fun (i, x) => (i, ev S x)) = some v ∧ dgo P ops ms base l ps (S.store d v) σ Q := by
 rw [dgo_cons, wanted_none, if_pos rfl]; exact Iff.rfl
theorem y_nilCheck {x : Operand} : dgo P ops ms base ((i, ⟨d, .nilCheck x, ty, pos, af, none⟩) :: l) ps S σ Q ↔ ∃ v, anilCheck (ev S x) = some v ∧ dgo P ops ms base l ps (S.store d v) σ Q := by
 rw [dgo_cons, wanted_none, if_pos rfl]; exact Iff.rfl
theorem y_binOp {op : BinOp} {t t' : TypeId} {x y : Operand} : dgo P ops ms base ((i, ⟨d, .binOp op t x y t', ty, pos, af, none⟩) :: l) ps S σ Q ↔ ∃ v, abin P op t x y (ev S x) (ev S y) = some v ∧ dgo P ops ms base l ps (S.store d v) σ Q := by
 rw [dgo_cons, wanted_none, if_pos rfl]; exact Iff.rfl
theorem y_unOp {op : UnOp} {t : TypeId} {x : Operand} : dgo P ops ms base ((i, ⟨d, .unOp op t x, ty, pos, af, none⟩) :: l) ps S σ Q ↔ ∃ v, aun P op (ev S x) = some v ∧ dgo P ops ms base l ps (S.store d v) σ Q := by
 rw [dgo_cons, wanted_none, if_pos rfl]; exact Iff.rfl
theorem y_convert {s t : TypeId} {x : Operand} : dgo P ops ms base ((i, ⟨d, .convert s t x, ty, pos, af, none⟩) :: l) ps S σ Q ↔ ∃ v, aconv P s t (ev S x) = some v ∧ dgo P ops ms base l ps (S.store d v) σ Q := by
 rw [dgo_cons, wanted_none, if_pos rfl]; exact Iff.rfl
theorem y_makeFunc {fn : Fn} {fs cs : Array Operand} : dgo P ops ms base ((i, ⟨d, .makeFunc fn fs cs, ty, pos, af, none⟩) :: l) ps S σ Q ↔ dgo P ops ms base l ps (S.store d (.func fn (fs.map (ev S)) (cs.map (ev S)))) σ Q := by
 rw [dgo_cons, wanted_none, if_pos rfl]; exact one_some
theorem y_fieldAddr {t : TypeId} {x : Operand} {f : Nat} : dgo P ops ms base ((i, ⟨d, .fieldAddr t x f, ty, pos, af, none⟩) :: l) ps S σ Q ↔ ∃ v, afieldAddr P t (ev S x) f = some v ∧ dgo P ops ms base l ps (S.store d v) σ Q := by
 rw [dgo_cons, wanted_none, if_pos rfl]; exact Iff.rfl
theorem y_field {t : TypeId} {x : Operand} {f : Nat} : dgo P ops ms base ((i, ⟨d, .field t x f, ty, pos, af, none⟩) :: l) ps S σ Q ↔ ∃ v, afield P t (ev S x) f = some v ∧ dgo P ops ms base l ps (S.store d v) σ Q := by
 rw [dgo_cons, wanted_none, if_pos rfl]; exact Iff.rfl
theorem y_indexAddr {t : TypeId} {x y : Operand} : dgo P ops ms base ((i, ⟨d, .indexAddr t x y, ty, pos, af, none⟩) :: l) ps S σ Q ↔ ∃ v, aindexAddr P t (ev S x) (ev S y) = some v ∧ dgo P ops ms base l ps (S.store d v) σ Q := by
 rw [dgo_cons, wanted_none, if_pos rfl]; exact Iff.rfl
theorem y_index {t : TypeId} {x y : Operand} : dgo P ops ms base ((i, ⟨d, .index t x y, ty, pos, af, none⟩) :: l) ps S σ Q ↔ ∃ v, aindex P t (ev S x) (ev S y) = some v ∧ dgo P ops ms base l ps (S.store d v) σ Q := by
 rw [dgo_cons, wanted_none, if_pos rfl]; exact Iff.rfl
theorem y_extract {x : Operand} {k : Nat} : dgo P ops ms base ((i, ⟨d, .extract x k, ty, pos, af, none⟩) :: l) ps S σ Q ↔ ∃ v, aextract (ev S x) k = some v ∧ dgo P ops ms base l ps (S.store d v) σ Q := by
 rw [dgo_cons, wanted_none, if_pos rfl]; exact Iff.rfl
theorem y_len {as : Array Operand} {ts : Array TypeId} : dgo P ops ms base ((i, ⟨d, .call ⟨.builtin .len, as, ts⟩, ty, pos, af, none⟩) :: l) ps S σ Q ↔ ∃ v, acallPure P (ev S) ⟨d, .call ⟨.builtin .len, as, ts⟩, ty, pos, af, none⟩ ⟨.builtin .len, as, ts⟩ = some v ∧ dgo P ops ms base l ps (S.store d v) σ Q := by
 rw [dgo_cons, wanted_none, if_pos rfl]; exact Iff.rfl
theorem y_min {as : Array Operand} {ts : Array TypeId} : dgo P ops ms base ((i, ⟨d, .call ⟨.builtin .min, as, ts⟩, ty, pos, af, none⟩) :: l) ps S σ Q ↔ ∃ v, acallPure P (ev S) ⟨d, .call ⟨.builtin .min, as, ts⟩, ty, pos, af, none⟩ ⟨.builtin .min, as, ts⟩ = some v ∧ dgo P ops ms base l ps (S.store d v) σ Q := by
 rw [dgo_cons, wanted_none, if_pos rfl]; exact Iff.rfl
theorem y_max {as : Array Operand} {ts : Array TypeId} : dgo P ops ms base ((i, ⟨d, .call ⟨.builtin .max, as, ts⟩, ty, pos, af, none⟩) :: l) ps S σ Q ↔ ∃ v, acallPure P (ev S) ⟨d, .call ⟨.builtin .max, as, ts⟩, ty, pos, af, none⟩ ⟨.builtin .max, as, ts⟩ = some v ∧ dgo P ops ms base l ps (S.store d v) σ Q := by
 rw [dgo_cons, wanted_none, if_pos rfl]; exact Iff.rfl
theorem y_load {t : TypeId} {x : Operand} : dgo P ops ms base ((i, ⟨d, .load t x, ty, pos, af, none⟩) :: l) ps S σ Q ↔ ∃ v, aload P σ t (ev S x) = some v ∧ dgo P ops ms base l ((i, fun τ => aload P τ t (ev S x) = some v) :: ps) (S.store d v) σ Q := by
 rw [dgo_cons, wanted_none, if_pos rfl]; exact Iff.rfl
theorem y_lookup {t : TypeId} {x y : Operand} {ok : Bool} : dgo P ops ms base ((i, ⟨d, .lookup t x y ok, ty, pos, af, none⟩) :: l) ps S σ Q ↔ ∃ v, alookup P σ t (ev S x) (ev S y) ok = some v ∧ dgo P ops ms base l ((i, fun τ => alookup P τ t (ev S x) (ev S y) ok = some v) :: ps) (S.store d v) σ Q := by
 rw [dgo_cons, wanted_none, if_pos rfl]; exact Iff.rfl
theorem y_slice {t : TypeId} {x : Operand} {lo hi mx : Option Operand} : dgo P ops ms base ((i, ⟨d, .slice t x lo hi mx, ty, pos, af, none⟩) :: l) ps S σ Q ↔ ∃ v, aslice P σ t (ev S x) (lo.map (ev S)) (hi.map (ev S)) (mx.map (ev S)) = some v ∧ dgo P ops ms base l ((i, fun τ => aslice P τ t (ev S x) (lo.map (ev S)) (hi.map (ev S)) (mx.map (ev S)) = some v) :: ps) (S.store d v) σ Q := by
 rw [dgo_cons, wanted_none, if_pos rfl]; exact Iff.rfl
theorem y_alloc' {t : TypeId} : dgo P ops ms base ((i, ⟨d, .alloc t, ty, pos, af, none⟩) :: l) ps S σ Q ↔ ∃ v ob, vAlloc P t (base + i) = some (v, ob) ∧ dgo P ops ms base l ((i, fun τ => τ.get (base + i) = some ob) :: ps) (S.store d v) (σ.put (base + i) ob) Q := by
 rw [dgo_cons, wanted_none, if_pos rfl]; exact Iff.rfl
theorem y_box {t : TypeId} {x : Operand} : dgo P ops ms base ((i, ⟨d, .box t x, ty, pos, af, none⟩) :: l) ps S σ Q ↔ ∃ v ob, vBox (ev S x) (base + i) = some (v, ob) ∧ dgo P ops ms base l ((i, fun τ => τ.get (base + i) = some ob) :: ps) (S.store d v) (σ.put (base + i) ob) Q := by
 rw [dgo_cons, wanted_none, if_pos rfl]; exact Iff.rfl
theorem y_buildSlice {t : TypeId} {n : Nat} {qs : Array (Nat × Operand)} : dgo P ops ms base ((i, ⟨d, .buildSlice t n qs, ty, pos, af, none⟩) :: l) ps S σ Q ↔ ∃ v ob, vBuildS P t n (qs.map fun (i, x) => (i, ev S x)) (base + i) = some (v, ob) ∧ dgo P ops ms base l ((i, fun τ => τ.get (base + i) = some ob) :: ps) (S.store d v) (σ.put (base + i) ob) Q := by
 rw [dgo_cons, wanted_none, if_pos rfl]; exact Iff.rfl
theorem y_makeSlice {t : TypeId} {x y : Operand} : dgo P ops ms base ((i, ⟨d, .makeSlice t x y, ty, pos, af, none⟩) :: l) ps S σ Q ↔ ∃ v ob, vMake P t (ev S x) (ev S y) (base + i) = some (v, ob) ∧ dgo P ops ms base l ((i, fun τ => τ.get (base + i) = some ob) :: ps) (S.store d v) (σ.put (base + i) ob) Q := by
 rw [dgo_cons, wanted_none, if_pos rfl]; exact Iff.rfl
theorem y_makeMap {t : TypeId} {x : Option Operand} : dgo P ops ms base ((i, ⟨d, .makeMap t x, ty, pos, af, none⟩) :: l) ps S σ Q ↔ ∃ v ob, aalloc P (ev S) ⟨d, .makeMap t x, ty, pos, af, none⟩ (base + i) = some (v, ob) ∧ dgo P ops ms base l ((i, fun τ => τ.get (base + i) = some ob) :: ps) (S.store d v) (σ.put (base + i) ob) Q := by
 rw [dgo_cons, wanted_none, if_pos rfl]; exact Iff.rfl
theorem y_store {t : TypeId} {x y : Operand} : dgo P ops ms base ((i, ⟨d, .store t x y, ty, pos, af, none⟩) :: l) ps S σ Q ↔ (∀ p ∈ ps, p.2 σ) ∧ ∃ σ1, astore P σ t (ev S x) (ev S y) = some σ1 ∧ dgo P ops ms base l (ps.filter fun p => !bit (ms.getD i 0) p.1) (S.store d undef) σ1 Q := by
 rw [dgo_cons, wanted_none, if_pos rfl]; exact Iff.rfl
theorem y_mapUpdate {t : TypeId} {x y z : Operand} : dgo P ops ms base ((i, ⟨d, .mapUpdate t x y z, ty, pos, af, none⟩) :: l) ps S σ Q ↔ (∀ p ∈ ps, p.2 σ) ∧ ∃ σ1, amapUpdate P σ t (ev S x) (ev S y) (ev S z) = some σ1 ∧ dgo P ops ms base l (ps.filter fun p => !bit (ms.getD i 0) p.1) (S.store d undef) σ1 Q := by
 rw [dgo_cons, wanted_none, if_pos rfl]; exact Iff.rfl
theorem y_insert {t : TypeId} {x y z : Operand} : dgo P ops ms base ((i, ⟨d, .insert t x y z, ty, pos, af, none⟩) :: l) ps S σ Q ↔ (∀ p ∈ ps, p.2 σ) ∧ ∃ σ1, amapUpdate P σ t (ev S x) (ev S y) (ev S z) = some σ1 ∧ dgo P ops ms base l (ps.filter fun p => !bit (ms.getD i 0) p.1) (S.store d undef) σ1 Q := by
 rw [dgo_cons, wanted_none, if_pos rfl]; exact Iff.rfl
theorem y_append {x y : Operand} {ts : Array TypeId} : dgo P ops ms base ((i, ⟨d, .call ⟨.builtin .append, #[x, y], ts⟩, ty, pos, af, none⟩) :: l) ps S σ Q ↔ (∀ p ∈ ps, p.2 σ) ∧ ∃ v σ1, aappend P σ (base + i) ⟨.builtin .append, #[x, y], ts⟩ (ev S x) (ev S y) = some (v, σ1) ∧ dgo P ops ms base l (ps.filter fun p => !bit (ms.getD i 0) p.1) (S.store d v) σ1 Q := by
 rw [dgo_cons, wanted_none, if_pos rfl]; exact Iff.rfl
theorem y_call {f : Operand} {as : Array Operand} {ts : Array TypeId} : dgo P ops ms base ((i, ⟨d, .call ⟨.value f, as, ts⟩, ty, pos, af, none⟩) :: l) ps S σ Q ↔ (∀ p ∈ ps, p.2 σ) ∧ ∃ g args, acallee (ev S) ⟨.value f, as, ts⟩ = some (g, args) ∧ wpc P g args σ (dcont P ops ms base l (ps.filter fun p => !bit (ms.getD i 0) p.1) S d Q) := by
 rw [dgo_cons, wanted_none, if_pos rfl]; exact Iff.rfl
end
end Go.AI
namespace Go.AI
section
variable {P : Program} {σ : St}
theorem ver_put {id g : Nat} {ob : AObj} : (σ.put id ob).ver g = σ.ver g := rfl
theorem good_tip {z id : Nat} (h : σ.ver id = 0) : σ.good (tipMeta z id) = true := by simp [St.good, tipMeta, h, nbeq]
theorem row_good {id : Nat} {cs : List Value} {m : Mta} (h : σ.row id = some (cs, m)) : σ.good m = true := by
 unfold St.row at h
 split at h
 ·rename_i cs' m' e
  cases hg : σ.good m' with
  | true => simp [hg] at h; obtain ⟨rfl, rfl⟩ := h; exact hg
  | false => simp [hg] at h
 ·cases h
def Own (σ : St) (id z : Nat) (s : Value) (n : Nat) (cs : List Value) : Prop :=
 ∃ k m, s = .slice (some ⟨id, 0, none⟩) n k ∧ id < σ.next ∧ σ.row id = some (cs, m) ∧ cs.length = n * z ∧ m.wr = true ∧ m.z = z ∧ (k = n ∨ (m.tip = true ∧ m.grp.isSome = true))
theorem Own.mono {σ' : St} {id z : Nat} {s : Value} {n : Nat} {cs : List Value} (h : Own σ id z s n cs) (hn : σ.next ≤ σ'.next) (e : σ'.row id = σ.row id) : Own σ' id z s n cs := by
 obtain ⟨k, m, h1, h3, h4, h5⟩ := h
 exact ⟨k, m, h1, by omega, e.trans h4, h5⟩
structure But (a b : Nat) (σ σ' : St) : Prop where
 next : σ'.next = σ.next
 vers : σ'.vers = σ.vers
 get : ∀ j, j ≠ a → j ≠ b → σ'.get j = σ.get j
 row : ∀ j, j ≠ a → j ≠ b → σ'.row j = σ.row j
theorem row_put_ne {j id : Nat} {ob : AObj} (h : j ≠ id) : (σ.put id ob).row j = σ.row j := by
 unfold St.row
 rw [St.get_put, if_neg h]; rfl
theorem But.exn {a b n : Nat} {σ' : St} (h : But a b σ σ') (ha : n ≤ a) (hb : n ≤ b) : EXn n σ σ' :=
 ⟨by rw [h.next]; exact Nat.le_refl _, fun j hj => h.get j (by omega) (by omega), fun j hj => h.row j (by omega) (by omega), fun hf g hg => by
  have := hf g (by rw [← h.next]; exact hg)
  unfold St.ver at this ⊢; rw [h.vers]; exact this, fun g _ => by unfold St.ver; rw [h.vers]⟩
theorem grow_own {id z b n x id' : Nat} {s : Value} {cs xs : List Value} (h : Own σ id z s n cs) (hv : σ.ver id' = 0) (hlt : id' < σ.next) (hne : id ≠ id') (hb : (n + x) * b ≤ 1073741824) (hx : xs.length = x * z) :
    ∃ v σ', agrow σ id' z b x xs s = some (v, σ') ∧ Own σ' id' z v (n + x) (cs ++ xs) ∧ But id id' σ σ' := by
 obtain ⟨k, m, rfl, h3, h4, h5, hw, t2, h6⟩ := h
 have hcut : cut cs 0 (n * z) = some cs := by rw [cut_go (by omega)]; simp [← h5]
 have hl : (cs ++ xs).length = (n + x) * z := by rw [List.length_append, h5, hx, Nat.add_mul]
 unfold agrow
 simp only [h4, hcut]
 rw [nble, Bool.cond_decide, if_pos hb]
 by_cases hk : k = n
 ·simp only [nbeq, hk, decide_true, cond_true]
  refine ⟨_, _, rfl, ⟨_, tipMeta z id', rfl, hlt, ?_, hl, rfl, rfl, Or.inr ⟨rfl, rfl⟩⟩, rfl, rfl, fun j h1 h2 => ?_, fun j h1 h2 => ?_⟩
  ·rw [row_put, if_pos rfl, good_tip hv, if_pos rfl]
  ·rw [St.get_put, if_neg h2]
  ·exact row_put_ne h2
 ·obtain ⟨t1, t3⟩ := h6.resolve_left hk
  have hg := row_good h4
  simp only [nbeq, hk, decide_false, cond_false, t1, hw, t2, h5, Nat.zero_add, decide_true, t3, Bool.and_self, cond_true]
  refine ⟨_, _, rfl, ⟨_, { m with lim := n * z }, rfl, hlt, ?_, hl, hw, t2, Or.inr ⟨t1, t3⟩⟩, rfl, rfl, fun j h1 h2 => ?_, fun j h1 h2 => ?_⟩
  ·have hg' : σ.good ({ wr := true, tip := true, z := z, grp := m.grp, lim := n * z } : Mta) = true := hg
   rw [row_put, if_pos rfl, St.good_put, hg', if_pos rfl]; simp only [t1, hw, t2]
  ·rw [St.get_put, if_neg h2, St.get_put, if_neg h1]
  ·rw [row_put_ne h2, row_put_ne h1]
theorem app_own {t t1 e : TypeId} {id z b n x id' : Nat} {zv : Value} {u : TypeDesc} {aops : Array Operand} {s y : Value} {cs xs : List Value} (h : Own σ id z s n cs) (ht : P.underlying t = some (.slice e)) (hu : P.underlying t1 = some u) (hi : infoOf P e = some (z, b, zv))
    (hf : fits u y = true) (hs : aSource σ z y = some (x, xs)) (h1 : xs.all one = true) (hz : 1 ≤ z) (hb1 : 1 ≤ b) (hzv : zv.cells.size = z) (hx0 : x ≠ 0)
    (hv : σ.ver id' = 0) (hlt : id' < σ.next) (hne : id ≠ id') (hb : (n + x) * b ≤ 1073741824) (hx : xs.length = x * z) :
    ∃ v σ', aappend P σ id' ⟨.builtin .append, aops, #[t, t1]⟩ s y = some (v, σ') ∧ Own σ' id' z v (n + x) (cs ++ xs) ∧ But id id' σ σ' := by
 have hsl : isSlice s = true := by obtain ⟨k, m, rfl, _⟩ := h; rfl
 rw [app_eq ht hu hi hf hs h1 hz hb1 hzv hsl hx0]
 exact grow_own h hv hlt hne hb hx
theorem app_nil {t t1 e : TypeId} {z b x id' : Nat} {zv : Value} {u : TypeDesc} {aops : Array Operand} {y : Value} {xs : List Value} (ht : P.underlying t = some (.slice e)) (hu : P.underlying t1 = some u) (hi : infoOf P e = some (z, b, zv))
    (hf : fits u y = true) (hs : aSource σ z y = some (x, xs)) (h1 : xs.all one = true) (hz : 1 ≤ z) (hb1 : 1 ≤ b) (hzv : zv.cells.size = z) (hx0 : x ≠ 0)
    (hv : σ.ver id' = 0) (hlt : id' < σ.next) (hb : x * b ≤ 1073741824) (hx : xs.length = x * z) :
    ∃ v σ', aappend P σ id' ⟨.builtin .append, aops, #[t, t1]⟩ (.slice none 0 0) y = some (v, σ') ∧ Own σ' id' z v x xs ∧ But id' id' σ σ' := by
 rw [app_eq ht hu hi hf hs h1 hz hb1 hzv rfl hx0]
 unfold agrow
 simp only
 rw [nble, Bool.cond_decide, if_pos hb]
 refine ⟨_, _, rfl, ⟨_, tipMeta z id', rfl, hlt, ?_, hx, rfl, rfl, Or.inr ⟨rfl, rfl⟩⟩, rfl, rfl, fun j h1 h2 => ?_, fun j h1 h2 => ?_⟩
 ·rw [row_put, if_pos rfl, good_tip hv, if_pos rfl]
 ·rw [St.get_put, if_neg h2]
 ·exact row_put_ne h2
end
end Go.AI
namespace Go.AI
section
variable {P : Program}
theorem still_ite {α : Type} {c : Prop} [Decidable c] {a b : Sem α} : still P (if c then a else b) = if c then still P a else still P b := by split <;> rfl
theorem still_eq_struct {d : Nat} {t : TypeId} {fs : Array Field} {xs ys : Array Value} (ht : P.underlying t = some (.struct fs)) (hp : P.stoodInHeld t = false) :
    still P (Op.equalIn (d + 1) t (.agg xs) (.agg ys)) = still P (Op.eqFields d xs ys fs.toList) := by
 rw [Op.equalIn.eq_2, still_bind, still_underlying, ht]
 simp only [Option.bind_some]
 rw [still_bind]
 have : still P program = some P := rfl
 rw [this]
 simp only [Option.bind_some, hp, Bool.false_eq_true, if_false]
 rw [← Array.forIn_toList]
 generalize fs.toList = l
 clear ht
 induction l with
 | nil => simp [Op.eqFields, still_bind, still_pure]
 | cons f l ih =>
  simp only [List.forIn_cons, Op.eqFields, still_bind, still_ite]
  split
  ·cases still P (part f.type xs f.offset) with
   | none => rfl
   | some a =>
    cases still P (part f.type ys f.offset) with
    | none => rfl
    | some b =>
     simp only [Option.bind_some]
     cases still P (Op.equalIn d f.type a b) with
     | none => rfl
     | some r =>
      cases r with
      | false => simp [still_pure]
      | true =>
       simp only [Option.bind_some, Bool.not_true, Bool.false_eq_true, if_false, still_pure]
       simpa only [still_bind] using ih
  ·simp only [still_pure, Option.bind_some]
   simpa only [still_bind] using ih
theorem still_eq_int {d : Nat} {t : TypeId} {k k' : IntKind} {a b : Int} (h : P.underlying t = some (.int k')) : still P (Op.equalIn (d + 1) t (.int k a) (.int k b)) = some (a == b) := by
 rw [Op.equalIn.eq_2, still_bind, still_underlying, h]; simp [still_pure]
theorem abin_eql {t : TypeId} {x y : Operand} {xs ys : Array Value} {r : Bool} (h1 : xs.toList.all plain0 = true) (h2 : ys.toList.all plain0 = true) (hg : still P (eqGuard .eql t x y (.agg xs) (.agg ys)) = some ()) (he : still P (Op.equal t (.agg xs) (.agg ys)) = some r) :
    abin P .eql t x y (.agg xs) (.agg ys) = some (.bool r) := by
 simp only [abin, plain1, h1, h2, Bool.and_self, cond_true, stillP, still_bind, hg, Option.bind_some, binOp, he, still_pure, plain0]
theorem abin_neq {t : TypeId} {x y : Operand} {xs ys : Array Value} {r : Bool} (h1 : xs.toList.all plain0 = true) (h2 : ys.toList.all plain0 = true) (hg : still P (eqGuard .neq t x y (.agg xs) (.agg ys)) = some ()) (he : still P (Op.equal t (.agg xs) (.agg ys)) = some r) :
    abin P .neq t x y (.agg xs) (.agg ys) = some (.bool (!r)) := by
 simp only [abin, plain1, h1, h2, Bool.and_self, cond_true, stillP, still_bind, hg, Option.bind_some, binOp, he, still_pure, plain0]
theorem at_set (S : Slots) (d k : Nat) (v : Value) : Slots.at (Tr.set S d v) k = if k = d then v else S.at k := by
 unfold Slots.at
 rw [Tr.get_set]; split <;> rfl
end
end Go.AI
namespace Go.AI
def ex1 {α : Type} (r : Option α) (K : α → Prop) : Prop := ∃ v, r = some v ∧ K v
theorem ex1_some {α : Type} {v : α} {K : α → Prop} : ex1 (some v) K ↔ K v := by simp [ex1]
theorem ex_pair {α β : Type} {r : Option (α × β)} {Z : α → β → Prop} : (∃ v ob, r = some (v, ob) ∧ Z v ob) ↔ ex1 r (fun p => Z p.1 p.2) := by
 constructor
 ·rintro ⟨v, ob, h1, h2⟩; exact ⟨(v, ob), h1, h2⟩
 ·rintro ⟨⟨v, ob⟩, h1, h2⟩; exact ⟨v, ob, h1, h2⟩
section
variable {P : Program} {ops : Array Oper} {base i : Nat} {l : List Oper} {S : Slots} {σ : St} {Q : Slots → St → Prop} {d : Option Tmp} {ty : TypeId} {pos : String} {af : Array Edge}
def nx (P : Program) (ops : Array Oper) (base : Nat) (l : List Oper) (i : Nat) (S : Slots) (d : Option Tmp) (σ : St) (Q : Slots → St → Prop) : Value → Prop := fun v => wpo P ops base l (i + 1) (S.store d v) σ Q
def nxa (P : Program) (ops : Array Oper) (base : Nat) (l : List Oper) (i : Nat) (S : Slots) (d : Option Tmp) (σ : St) (Q : Slots → St → Prop) : Value × AObj → Prop := fun p => wpo P ops base l (i + 1) (S.store d p.1) (σ.put (base + i) p.2) Q
def nxs (P : Program) (ops : Array Oper) (base : Nat) (l : List Oper) (i : Nat) (S : Slots) (d : Option Tmp) (Q : Slots → St → Prop) : St → Prop := fun σ1 => wpo P ops base l (i + 1) (S.store d undef) σ1 Q
def nxe (P : Program) (ops : Array Oper) (base : Nat) (l : List Oper) (i : Nat) (S : Slots) (d : Option Tmp) (Q : Slots → St → Prop) : Value × St → Prop := fun p => wpo P ops base l (i + 1) (S.store d p.1) p.2 Q
def nxc (P : Program) (σ : St) (K : Value → St → Prop) : FuncId × Array Value → Prop := fun p => wpc P p.1 p.2 σ K
def nxr (R : Value → St → Prop) (σ : St) : List Value → Prop := fun vs => R (answer vs) σ
theorem nx_go {v : Value} : nx P ops base l i S d σ Q v ↔ wpo P ops base l (i + 1) (S.store d v) σ Q := Iff.rfl
theorem nxa_go {v : Value} {ob : AObj} : nxa P ops base l i S d σ Q (v, ob) ↔ wpo P ops base l (i + 1) (S.store d v) (σ.put (base + i) ob) Q := Iff.rfl
theorem nxs_go : nxs P ops base l i S d Q σ ↔ wpo P ops base l (i + 1) (S.store d undef) σ Q := Iff.rfl
theorem nxe_go {v : Value} : nxe P ops base l i S d Q (v, σ) ↔ wpo P ops base l (i + 1) (S.store d v) σ Q := Iff.rfl
theorem nxc_go {g : FuncId} {args : Array Value} {K : Value → St → Prop} : nxc P σ K (g, args) ↔ wpc P g args σ K := Iff.rfl
theorem nxr_go {R : Value → St → Prop} {vs : List Value} : nxr R σ vs ↔ R (answer vs) σ := Iff.rfl
def gsel (P : Program) (ops : Array Oper) (base : Nat) (o : Oper) (l : List Oper) (i : Nat) (S : Slots) (σ : St) (Q : Slots → St → Prop) : Bool → Prop
 | true => wpo P ops base (o :: l) i S σ Q
 | false => wpo P ops base l (i + 1) (S.store o.dst undef) σ Q
theorem gsel_t {o : Oper} : gsel P ops base o l i S σ Q true ↔ wpo P ops base (o :: l) i S σ Q := Iff.rfl
theorem gsel_f {o : Oper} : gsel P ops base o l i S σ Q false ↔ wpo P ops base l (i + 1) (S.store o.dst undef) σ Q := Iff.rfl
theorem z_guard {op : Op} {j : Nat} {b : Bool} : wpo P ops base (⟨d, op, ty, pos, af, some (j, b)⟩ :: l) i S σ Q ↔ gsel P ops base ⟨d, op, ty, pos, af, none⟩ l i S σ Q (wantG ops S j b) := by
 have hw : wanted ops S ⟨d, op, ty, pos, af, some (j, b)⟩ = wantG ops S j b := rfl
 unfold wpo
 simp only [runOps_cons, hw]
 cases h : wantG ops S j b with
 | true =>
  simp only [if_true, gsel_t, wpo, runOps_cons, wanted_none]
  exact Iff.rfl
 | false => simp only [Bool.false_eq_true, if_false, gsel_f, wpo]
theorem z_pick {x y z : Operand} : wpo P ops base (⟨d, .pick x y z, ty, pos, af, none⟩ :: l) i S σ Q ↔ ex1 (apick (ev S x) (ev S y) (ev S z)) (nx P ops base l i S d σ Q) := x_pick
theorem z_build {t : TypeId} {ps : Array (Nat × Operand)} : wpo P ops base (⟨d, .build t ps, ty, pos, af, none⟩ :: l) i S σ Q ↔ ex1 (abuild P t (ps.map fun (i, x) => (i, ev S x))) (nx P ops base l i S d σ Q) := x_build
theorem z_nilCheck {x : Operand} : wpo P ops base (⟨d, .nilCheck x, ty, pos, af, none⟩ :: l) i S σ Q ↔ ex1 (anilCheck (ev S x)) (nx P ops base l i S d σ Q) := x_nilCheck
theorem z_binOp {op : BinOp} {t t' : TypeId} {x y : Operand} : wpo P ops base (⟨d, .binOp op t x y t', ty, pos, af, none⟩ :: l) i S σ Q ↔ ex1 (abin P op t x y (ev S x) (ev S y)) (nx P ops base l i S d σ Q) := x_binOp
theorem z_unOp {op : UnOp} {t : TypeId} {x : Operand} : wpo P ops base (⟨d, .unOp op t x, ty, pos, af, none⟩ :: l) i S σ Q ↔ ex1 (aun P op (ev S x)) (nx P ops base l i S d σ Q) := x_unOp
theorem z_convert {s t : TypeId} {x : Operand} : wpo P ops base (⟨d, .convert s t x, ty, pos, af, none⟩ :: l) i S σ Q ↔ ex1 (aconvS P σ s t (ev S x)) (nx P ops base l i S d σ Q) := x_convert
theorem z_fieldAddr {t : TypeId} {x : Operand} {f : Nat} : wpo P ops base (⟨d, .fieldAddr t x f, ty, pos, af, none⟩ :: l) i S σ Q ↔ ex1 (afieldAddr P t (ev S x) f) (nx P ops base l i S d σ Q) := x_fieldAddr
theorem z_field {t : TypeId} {x : Operand} {f : Nat} : wpo P ops base (⟨d, .field t x f, ty, pos, af, none⟩ :: l) i S σ Q ↔ ex1 (afield P t (ev S x) f) (nx P ops base l i S d σ Q) := x_field
theorem z_indexAddr {t : TypeId} {x y : Operand} : wpo P ops base (⟨d, .indexAddr t x y, ty, pos, af, none⟩ :: l) i S σ Q ↔ ex1 (aindexAddr P t (ev S x) (ev S y)) (nx P ops base l i S d σ Q) := x_indexAddr
theorem z_index {t : TypeId} {x y : Operand} : wpo P ops base (⟨d, .index t x y, ty, pos, af, none⟩ :: l) i S σ Q ↔ ex1 (aindex P t (ev S x) (ev S y)) (nx P ops base l i S d σ Q) := x_index
theorem z_extract {x : Operand} {k : Nat} : wpo P ops base (⟨d, .extract x k, ty, pos, af, none⟩ :: l) i S σ Q ↔ ex1 (aextract (ev S x) k) (nx P ops base l i S d σ Q) := x_extract
theorem z_len {as : Array Operand} {ts : Array TypeId} : wpo P ops base (⟨d, .call ⟨.builtin .len, as, ts⟩, ty, pos, af, none⟩ :: l) i S σ Q ↔ ex1 (acallPure P (ev S) ⟨d, .call ⟨.builtin .len, as, ts⟩, ty, pos, af, none⟩ ⟨.builtin .len, as, ts⟩) (nx P ops base l i S d σ Q) := x_len
theorem z_min {as : Array Operand} {ts : Array TypeId} : wpo P ops base (⟨d, .call ⟨.builtin .min, as, ts⟩, ty, pos, af, none⟩ :: l) i S σ Q ↔ ex1 (acallPure P (ev S) ⟨d, .call ⟨.builtin .min, as, ts⟩, ty, pos, af, none⟩ ⟨.builtin .min, as, ts⟩) (nx P ops base l i S d σ Q) := x_min
theorem z_max {as : Array Operand} {ts : Array TypeId} : wpo P ops base (⟨d, .call ⟨.builtin .max, as, ts⟩, ty, pos, af, none⟩ :: l) i S σ Q ↔ ex1 (acallPure P (ev S) ⟨d, .call ⟨.builtin .max, as, ts⟩, ty, pos, af, none⟩ ⟨.builtin .max, as, ts⟩) (nx P ops base l i S d σ Q) := x_max
theorem z_load {t : TypeId} {x : Operand} : wpo P ops base (⟨d, .load t x, ty, pos, af, none⟩ :: l) i S σ Q ↔ ex1 (aload P σ t (ev S x)) (nx P ops base l i S d σ Q) := x_load
theorem z_lookup {t : TypeId} {x y : Operand} {ok : Bool} : wpo P ops base (⟨d, .lookup t x y ok, ty, pos, af, none⟩ :: l) i S σ Q ↔ ex1 (alookup P σ t (ev S x) (ev S y) ok) (nx P ops base l i S d σ Q) := x_lookup
theorem z_slice {t : TypeId} {x : Operand} {lo hi mx : Option Operand} : wpo P ops base (⟨d, .slice t x lo hi mx, ty, pos, af, none⟩ :: l) i S σ Q ↔ ex1 (aslice P σ t (ev S x) (lo.map (ev S)) (hi.map (ev S)) (mx.map (ev S))) (nx P ops base l i S d σ Q) := x_slice
theorem z_alloc' {t : TypeId} : wpo P ops base (⟨d, .alloc t, ty, pos, af, none⟩ :: l) i S σ Q ↔ ex1 (vAlloc P t (base + i)) (nxa P ops base l i S d σ Q) := x_alloc'.trans ex_pair
theorem z_box {t : TypeId} {x : Operand} : wpo P ops base (⟨d, .box t x, ty, pos, af, none⟩ :: l) i S σ Q ↔ ex1 (vBox (ev S x) (base + i)) (nxa P ops base l i S d σ Q) := x_box.trans ex_pair
theorem z_buildSlice {t : TypeId} {n : Nat} {ps : Array (Nat × Operand)} : wpo P ops base (⟨d, .buildSlice t n ps, ty, pos, af, none⟩ :: l) i S σ Q ↔ ex1 (vBuildS P t n (ps.map fun (i, x) => (i, ev S x)) (base + i)) (nxa P ops base l i S d σ Q) := x_buildSlice.trans ex_pair
theorem z_makeSlice {t : TypeId} {x y : Operand} : wpo P ops base (⟨d, .makeSlice t x y, ty, pos, af, none⟩ :: l) i S σ Q ↔ ex1 (vMake P t (ev S x) (ev S y) (base + i)) (nxa P ops base l i S d σ Q) := x_makeSlice.trans ex_pair
theorem z_makeMap {t : TypeId} {x : Option Operand} : wpo P ops base (⟨d, .makeMap t x, ty, pos, af, none⟩ :: l) i S σ Q ↔ ex1 (aalloc P (ev S) ⟨d, .makeMap t x, ty, pos, af, none⟩ (base + i)) (nxa P ops base l i S d σ Q) := x_makeMap.trans ex_pair
theorem z_store {t : TypeId} {x y : Operand} : wpo P ops base (⟨d, .store t x y, ty, pos, af, none⟩ :: l) i S σ Q ↔ ex1 (astore P σ t (ev S x) (ev S y)) (nxs P ops base l i S d Q) := x_store
theorem z_mapUpdate {t : TypeId} {x y z : Operand} : wpo P ops base (⟨d, .mapUpdate t x y z, ty, pos, af, none⟩ :: l) i S σ Q ↔ ex1 (amapUpdate P σ t (ev S x) (ev S y) (ev S z)) (nxs P ops base l i S d Q) := x_mapUpdate
theorem z_insert {t : TypeId} {x y z : Operand} : wpo P ops base (⟨d, .insert t x y z, ty, pos, af, none⟩ :: l) i S σ Q ↔ ex1 (amapUpdate P σ t (ev S x) (ev S y) (ev S z)) (nxs P ops base l i S d Q) := x_insert
theorem z_append {x y : Operand} {ts : Array TypeId} : wpo P ops base (⟨d, .call ⟨.builtin .append, #[x, y], ts⟩, ty, pos, af, none⟩ :: l) i S σ Q ↔ ex1 (aappend P σ (base + i) ⟨.builtin .append, #[x, y], ts⟩ (ev S x) (ev S y)) (nxe P ops base l i S d Q) := x_append.trans ex_pair
theorem z_call {f : Operand} {as : Array Operand} {ts : Array TypeId} : wpo P ops base (⟨d, .call ⟨.value f, as, ts⟩, ty, pos, af, none⟩ :: l) i S σ Q ↔ ex1 (acallee (ev S) ⟨.value f, as, ts⟩) (nxc P σ (cont P ops base l (i + 1) S d Q)) := k_call.trans ex_pair
theorem zd_n {rs : List ResultVar} {R : Value → St → Prop} : done P rs R .normal S σ ↔ ex1 (resultsOf P S σ rs) (nxr R σ) := Iff.rfl
theorem zd_r {rs : List ResultVar} {R : Value → St → Prop} : done P rs R .ret S σ ↔ ex1 (resultsOf P S σ rs) (nxr R σ) := Iff.rfl
theorem cnd_t {a b : Code} {K : Fl → Slots → St → Prop} : cnd P (.bool true) a b S σ K ↔ wpx P a S σ K := by simp [cnd]
theorem cnd_f {a b : Code} {K : Fl → Slots → St → Prop} : cnd P (.bool false) a b S σ K ↔ wpx P b S σ K := by simp [cnd]
theorem cnd_go {t : Bool} {a b : Code} {K : Fl → Slots → St → Prop} (h1 : t = true → wpx P a S σ K) (h2 : t = false → wpx P b S σ K) : cnd P (.bool t) a b S σ K := by
 cases t
 ·exact cnd_f.2 (h2 rfl)
 ·exact cnd_t.2 (h1 rfl)
end
section
variable {P : Program} {ops : Array Oper} {ms : List Nat} {base i : Nat} {l : List (Nat × Oper)} {ps : List (Nat × (St → Prop))} {S : Slots} {σ : St} {Q : Slots → St → Prop} {d : Option Tmp} {ty : TypeId} {pos : String} {af : Array Edge}
def nd (P : Program) (ops : Array Oper) (ms : List Nat) (base : Nat) (l : List (Nat × Oper)) (ps : List (Nat × (St → Prop))) (S : Slots) (d : Option Tmp) (σ : St) (Q : Slots → St → Prop) : Value → Prop := fun v => dgo P ops ms base l ps (S.store d v) σ Q
def rdv (rd : St → Option Value) (v : Value) : St → Prop := fun τ => rd τ = some v
def ndr (P : Program) (ops : Array Oper) (ms : List Nat) (base : Nat) (l : List (Nat × Oper)) (i : Nat) (ps : List (Nat × (St → Prop))) (rd : St → Option Value) (S : Slots) (d : Option Tmp) (σ : St) (Q : Slots → St → Prop) : Value → Prop := fun v => dgo P ops ms base l ((i, rdv rd v) :: ps) (S.store d v) σ Q
def isOb (id : Nat) (ob : AObj) : St → Prop := fun τ => τ.get id = some ob
def nda (P : Program) (ops : Array Oper) (ms : List Nat) (base : Nat) (l : List (Nat × Oper)) (i : Nat) (ps : List (Nat × (St → Prop))) (S : Slots) (d : Option Tmp) (σ : St) (Q : Slots → St → Prop) : Value × AObj → Prop := fun p => dgo P ops ms base l ((i, isOb (base + i) p.2) :: ps) (S.store d p.1) (σ.put (base + i) p.2) Q
def nds (P : Program) (ops : Array Oper) (ms : List Nat) (base : Nat) (l : List (Nat × Oper)) (i : Nat) (ps : List (Nat × (St → Prop))) (S : Slots) (d : Option Tmp) (Q : Slots → St → Prop) : St → Prop := fun σ1 => dgo P ops ms base l (ps.filter fun p => !bit (ms.getD i 0) p.1) (S.store d undef) σ1 Q
def nde (P : Program) (ops : Array Oper) (ms : List Nat) (base : Nat) (l : List (Nat × Oper)) (i : Nat) (ps : List (Nat × (St → Prop))) (S : Slots) (d : Option Tmp) (Q : Slots → St → Prop) : Value × St → Prop := fun p => dgo P ops ms base l (ps.filter fun q => !bit (ms.getD i 0) q.1) (S.store d p.1) p.2 Q
theorem nd_go {v : Value} : nd P ops ms base l ps S d σ Q v ↔ dgo P ops ms base l ps (S.store d v) σ Q := Iff.rfl
theorem ndr_go {rd : St → Option Value} {v : Value} : ndr P ops ms base l i ps rd S d σ Q v ↔ dgo P ops ms base l ((i, rdv rd v) :: ps) (S.store d v) σ Q := Iff.rfl
theorem rdv_go {rd : St → Option Value} {v : Value} : rdv rd v σ ↔ rd σ = some v := Iff.rfl
theorem isOb_go {id : Nat} {ob : AObj} : isOb id ob σ ↔ σ.get id = some ob := Iff.rfl
theorem nda_go {v : Value} {ob : AObj} : nda P ops ms base l i ps S d σ Q (v, ob) ↔ dgo P ops ms base l ((i, isOb (base + i) ob) :: ps) (S.store d v) (σ.put (base + i) ob) Q := Iff.rfl
theorem nds_go : nds P ops ms base l i ps S d Q σ ↔ dgo P ops ms base l (ps.filter fun p => !bit (ms.getD i 0) p.1) (S.store d undef) σ Q := Iff.rfl
theorem nde_go {v : Value} : nde P ops ms base l i ps S d Q (v, σ) ↔ dgo P ops ms base l (ps.filter fun q => !bit (ms.getD i 0) q.1) (S.store d v) σ Q := Iff.rfl
def dsel (P : Program) (ops : Array Oper) (ms : List Nat) (base : Nat) (o : Oper) (l : List (Nat × Oper)) (i : Nat) (ps : List (Nat × (St → Prop))) (S : Slots) (σ : St) (Q : Slots → St → Prop) : Bool → Prop
 | true => dgo P ops ms base ((i, o) :: l) ps S σ Q
 | false => dgo P ops ms base l ps (S.store o.dst undef) σ Q
theorem dsel_t {o : Oper} : dsel P ops ms base o l i ps S σ Q true ↔ dgo P ops ms base ((i, o) :: l) ps S σ Q := Iff.rfl
theorem dsel_f {o : Oper} : dsel P ops ms base o l i ps S σ Q false ↔ dgo P ops ms base l ps (S.store o.dst undef) σ Q := Iff.rfl
theorem w_guard {op : Op} {j : Nat} {b : Bool} : dgo P ops ms base ((i, ⟨d, op, ty, pos, af, some (j, b)⟩) :: l) ps S σ Q ↔ dsel P ops ms base ⟨d, op, ty, pos, af, none⟩ l i ps S σ Q (wantG ops S j b) := by
 have hw : wanted ops S ⟨d, op, ty, pos, af, some (j, b)⟩ = wantG ops S j b := rfl
 rw [dgo_cons, hw]
 cases h : wantG ops S j b with
 | true => rw [if_pos rfl, dsel_t, dgo_cons, wanted_none, if_pos rfl]; exact Iff.rfl
 | false => rw [if_neg (by simp)]; exact Iff.rfl
theorem ex_pair2 {A : Prop} {α β : Type} {r : Option (α × β)} {Z : α → β → Prop} : (A ∧ ∃ v ob, r = some (v, ob) ∧ Z v ob) ↔ A ∧ ex1 r (fun p => Z p.1 p.2) := by rw [ex_pair]
theorem w_pick {x y z : Operand} : dgo P ops ms base ((i, ⟨d, .pick x y z, ty, pos, af, none⟩) :: l) ps S σ Q ↔ ex1 (apick (ev S x) (ev S y) (ev S z)) (nd P ops ms base l ps S d σ Q) := y_pick
theorem w_build {t : TypeId} {qs : Array (Nat × Operand)} : dgo P ops ms base ((i, ⟨d, .build t qs, ty, pos, af, none⟩) :: l) ps S σ Q ↔ ex1 (abuild P t (qs.map fun (i, x) => (i, ev S x))) (nd P ops ms base l ps S d σ Q) := y_build
theorem w_nilCheck {x : Operand} : dgo P ops ms base ((i, ⟨d, .nilCheck x, ty, pos, af, none⟩) :: l) ps S σ Q ↔ ex1 (anilCheck (ev S x)) (nd P ops ms base l ps S d σ Q) := y_nilCheck
theorem w_binOp {op : BinOp} {t t' : TypeId} {x y : Operand} : dgo P ops ms base ((i, ⟨d, .binOp op t x y t', ty, pos, af, none⟩) :: l) ps S σ Q ↔ ex1 (abin P op t x y (ev S x) (ev S y)) (nd P ops ms base l ps S d σ Q) := y_binOp
theorem w_unOp {op : UnOp} {t : TypeId} {x : Operand} : dgo P ops ms base ((i, ⟨d, .unOp op t x, ty, pos, af, none⟩) :: l) ps S σ Q ↔ ex1 (aun P op (ev S x)) (nd P ops ms base l ps S d σ Q) := y_unOp
theorem w_convert {s t : TypeId} {x : Operand} : dgo P ops ms base ((i, ⟨d, .convert s t x, ty, pos, af, none⟩) :: l) ps S σ Q ↔ ex1 (aconv P s t (ev S x)) (nd P ops ms base l ps S d σ Q) := y_convert
theorem w_fieldAddr {t : TypeId} {x : Operand} {f : Nat} : dgo P ops ms base ((i, ⟨d, .fieldAddr t x f, ty, pos, af, none⟩) :: l) ps S σ Q ↔ ex1 (afieldAddr P t (ev S x) f) (nd P ops ms base l ps S d σ Q) := y_fieldAddr
theorem w_field {t : TypeId} {x : Operand} {f : Nat} : dgo P ops ms base ((i, ⟨d, .field t x f, ty, pos, af, none⟩) :: l) ps S σ Q ↔ ex1 (afield P t (ev S x) f) (nd P ops ms base l ps S d σ Q) := y_field
theorem w_indexAddr {t : TypeId} {x y : Operand} : dgo P ops ms base ((i, ⟨d, .indexAddr t x y, ty, pos, af, none⟩) :: l) ps S σ Q ↔ ex1 (aindexAddr P t (ev S x) (ev S y)) (nd P ops ms base l ps S d σ Q) := y_indexAddr
theorem w_index {t : TypeId} {x y : Operand} : dgo P ops ms base ((i, ⟨d, .index t x y, ty, pos, af, none⟩) :: l) ps S σ Q ↔ ex1 (aindex P t (ev S x) (ev S y)) (nd P ops ms base l ps S d σ Q) := y_index
theorem w_extract {x : Operand} {k : Nat} : dgo P ops ms base ((i, ⟨d, .extract x k, ty, pos, af, none⟩) :: l) ps S σ Q ↔ ex1 (aextract (ev S x) k) (nd P ops ms base l ps S d σ Q) := y_extract
theorem w_len {as : Array Operand} {ts : Array TypeId} : dgo P ops ms base ((i, ⟨d, .call ⟨.builtin .len, as, ts⟩, ty, pos, af, none⟩) :: l) ps S σ Q ↔ ex1 (acallPure P (ev S) ⟨d, .call ⟨.builtin .len, as, ts⟩, ty, pos, af, none⟩ ⟨.builtin .len, as, ts⟩) (nd P ops ms base l ps S d σ Q) := y_len
theorem w_min {as : Array Operand} {ts : Array TypeId} : dgo P ops ms base ((i, ⟨d, .call ⟨.builtin .min, as, ts⟩, ty, pos, af, none⟩) :: l) ps S σ Q ↔ ex1 (acallPure P (ev S) ⟨d, .call ⟨.builtin .min, as, ts⟩, ty, pos, af, none⟩ ⟨.builtin .min, as, ts⟩) (nd P ops ms base l ps S d σ Q) := y_min
theorem w_max {as : Array Operand} {ts : Array TypeId} : dgo P ops ms base ((i, ⟨d, .call ⟨.builtin .max, as, ts⟩, ty, pos, af, none⟩) :: l) ps S σ Q ↔ ex1 (acallPure P (ev S) ⟨d, .call ⟨.builtin .max, as, ts⟩, ty, pos, af, none⟩ ⟨.builtin .max, as, ts⟩) (nd P ops ms base l ps S d σ Q) := y_max
theorem w_load {t : TypeId} {x : Operand} : dgo P ops ms base ((i, ⟨d, .load t x, ty, pos, af, none⟩) :: l) ps S σ Q ↔ ex1 (aload P σ t (ev S x)) (ndr P ops ms base l i ps (fun τ => aload P τ t (ev S x)) S d σ Q) := y_load
theorem w_lookup {t : TypeId} {x y : Operand} {ok : Bool} : dgo P ops ms base ((i, ⟨d, .lookup t x y ok, ty, pos, af, none⟩) :: l) ps S σ Q ↔ ex1 (alookup P σ t (ev S x) (ev S y) ok) (ndr P ops ms base l i ps (fun τ => alookup P τ t (ev S x) (ev S y) ok) S d σ Q) := y_lookup
theorem w_slice {t : TypeId} {x : Operand} {lo hi mx : Option Operand} : dgo P ops ms base ((i, ⟨d, .slice t x lo hi mx, ty, pos, af, none⟩) :: l) ps S σ Q ↔ ex1 (aslice P σ t (ev S x) (lo.map (ev S)) (hi.map (ev S)) (mx.map (ev S))) (ndr P ops ms base l i ps (fun τ => aslice P τ t (ev S x) (lo.map (ev S)) (hi.map (ev S)) (mx.map (ev S))) S d σ Q) := y_slice
theorem w_alloc' {t : TypeId} : dgo P ops ms base ((i, ⟨d, .alloc t, ty, pos, af, none⟩) :: l) ps S σ Q ↔ ex1 (vAlloc P t (base + i)) (nda P ops ms base l i ps S d σ Q) := y_alloc'.trans ex_pair
theorem w_box {t : TypeId} {x : Operand} : dgo P ops ms base ((i, ⟨d, .box t x, ty, pos, af, none⟩) :: l) ps S σ Q ↔ ex1 (vBox (ev S x) (base + i)) (nda P ops ms base l i ps S d σ Q) := y_box.trans ex_pair
theorem w_buildSlice {t : TypeId} {n : Nat} {qs : Array (Nat × Operand)} : dgo P ops ms base ((i, ⟨d, .buildSlice t n qs, ty, pos, af, none⟩) :: l) ps S σ Q ↔ ex1 (vBuildS P t n (qs.map fun (i, x) => (i, ev S x)) (base + i)) (nda P ops ms base l i ps S d σ Q) := y_buildSlice.trans ex_pair
theorem w_makeSlice {t : TypeId} {x y : Operand} : dgo P ops ms base ((i, ⟨d, .makeSlice t x y, ty, pos, af, none⟩) :: l) ps S σ Q ↔ ex1 (vMake P t (ev S x) (ev S y) (base + i)) (nda P ops ms base l i ps S d σ Q) := y_makeSlice.trans ex_pair
theorem w_makeMap {t : TypeId} {x : Option Operand} : dgo P ops ms base ((i, ⟨d, .makeMap t x, ty, pos, af, none⟩) :: l) ps S σ Q ↔ ex1 (aalloc P (ev S) ⟨d, .makeMap t x, ty, pos, af, none⟩ (base + i)) (nda P ops ms base l i ps S d σ Q) := y_makeMap.trans ex_pair
theorem w_store {t : TypeId} {x y : Operand} : dgo P ops ms base ((i, ⟨d, .store t x y, ty, pos, af, none⟩) :: l) ps S σ Q ↔ (∀ p ∈ ps, p.2 σ) ∧ ex1 (astore P σ t (ev S x) (ev S y)) (nds P ops ms base l i ps S d Q) := y_store
theorem w_mapUpdate {t : TypeId} {x y z : Operand} : dgo P ops ms base ((i, ⟨d, .mapUpdate t x y z, ty, pos, af, none⟩) :: l) ps S σ Q ↔ (∀ p ∈ ps, p.2 σ) ∧ ex1 (amapUpdate P σ t (ev S x) (ev S y) (ev S z)) (nds P ops ms base l i ps S d Q) := y_mapUpdate
theorem w_insert {t : TypeId} {x y z : Operand} : dgo P ops ms base ((i, ⟨d, .insert t x y z, ty, pos, af, none⟩) :: l) ps S σ Q ↔ (∀ p ∈ ps, p.2 σ) ∧ ex1 (amapUpdate P σ t (ev S x) (ev S y) (ev S z)) (nds P ops ms base l i ps S d Q) := y_insert
theorem w_append {x y : Operand} {ts : Array TypeId} : dgo P ops ms base ((i, ⟨d, .call ⟨.builtin .append, #[x, y], ts⟩, ty, pos, af, none⟩) :: l) ps S σ Q ↔ (∀ p ∈ ps, p.2 σ) ∧ ex1 (aappend P σ (base + i) ⟨.builtin .append, #[x, y], ts⟩ (ev S x) (ev S y)) (nde P ops ms base l i ps S d Q) := y_append.trans ex_pair2
theorem w_call {f : Operand} {as : Array Operand} {ts : Array TypeId} : dgo P ops ms base ((i, ⟨d, .call ⟨.value f, as, ts⟩, ty, pos, af, none⟩) :: l) ps S σ Q ↔ (∀ p ∈ ps, p.2 σ) ∧ ex1 (acallee (ev S) ⟨.value f, as, ts⟩) (nxc P σ (dcont P ops ms base l (ps.filter fun p => !bit (ms.getD i 0) p.1) S d Q)) := y_call.trans ex_pair2
def lpq (I : Nat → Slots → St → Prop) (m : Nat) (Q : Fl → Slots → St → Prop) : Fl → Slots → St → Prop
 | .normal, S, σ => ∃ m', m' < m ∧ I m' S σ
 | fl, S, σ => Q fl S σ
theorem lp_n {I : Nat → Slots → St → Prop} {m : Nat} {K : Fl → Slots → St → Prop} : lpq I m K .normal S σ ↔ ∃ m', m' < m ∧ I m' S σ := Iff.rfl
theorem lp_e {I : Nat → Slots → St → Prop} {m k : Nat} {K : Fl → Slots → St → Prop} : lpq I m K (.exit k) S σ ↔ K (.exit k) S σ := Iff.rfl
theorem lp_r {I : Nat → Slots → St → Prop} {m : Nat} {K : Fl → Slots → St → Prop} : lpq I m K .ret S σ ↔ K .ret S σ := Iff.rfl
theorem loop_go {c : Code} {K : Fl → Slots → St → Prop} (I : Nat → Slots → St → Prop) (m : Nat) (hI : I m S σ) (h : ∀ m S σ, I m S σ → wpx P c S σ (lpq I m K)) : wpx P (.loop c) S σ K := by
 refine wpx_loop I (fun m S σ hI => wpx_mono (h m S σ hI) ?_) m S σ hI
 intro fl S' σ' hq
 cases fl <;> exact hq
def cutq (I : Slots → St → Prop) (Q : Fl → Slots → St → Prop) : Fl → Slots → St → Prop
 | .normal, S, σ => I S σ
 | fl, S, σ => Q fl S σ
theorem ct_n {I : Slots → St → Prop} {K : Fl → Slots → St → Prop} : cutq I K .normal S σ ↔ I S σ := Iff.rfl
theorem ct_e {I : Slots → St → Prop} {k : Nat} {K : Fl → Slots → St → Prop} : cutq I K (.exit k) S σ ↔ K (.exit k) S σ := Iff.rfl
theorem ct_r {I : Slots → St → Prop} {K : Fl → Slots → St → Prop} : cutq I K .ret S σ ↔ K .ret S σ := Iff.rfl
theorem seq_cut {a b : Code} {K : Fl → Slots → St → Prop} (I : Slots → St → Prop) (h1 : wpx P a S σ (cutq I K)) (h2 : ∀ S τ, I S τ → wpx P b S τ K) : wpx P (.seq a b) S σ K := by
 refine wpx_seq (wpx_mono h1 ?_)
 intro fl S' σ' h
 cases fl with
 | normal => exact h2 S' σ' h
 | exit k => exact h
 | ret => exact h
theorem cut_0 {cs : List Value} : cut cs 0 0 = some [] := by simp [cut]
theorem cut_s {a : Value} {cs : List Value} {off n : Nat} : cut (a :: cs) (off + 1) n = cut cs off n := by simp [cut]
theorem cut_c {a : Value} {cs : List Value} {n : Nat} : cut (a :: cs) 0 (n + 1) = (cut cs 0 n).map (a :: ·) := by
 simp only [cut, List.drop_zero, List.take_succ_cons, List.length_cons, nbeq]
 by_cases h : (List.take n cs).length = n
 ·simp only [h, decide_true, cond_true, Option.map_some]
 ·have : ¬ (List.take n cs).length + 1 = n + 1 := by omega
  simp only [h, this, decide_false, cond_false, Option.map_none]
theorem slice_in {t e : TypeId} {z id off len c : Nat} {cs : List Value} {m : Mta} {lo hi : Option Value} {l h : Option Int} (ht : P.underlying t = some (.slice e)) (hz : szOf P e = some z) (hr : σ.row id = some (cs, m)) (hm : m.z = z)
    (hl : intOpt lo = some l) (hh : intOpt hi = some h) (h0 : 0 ≤ l.getD 0) (h1 : l.getD 0 < h.getD (len : Int)) (h2 : h.getD (len : Int) ≤ (len : Int)) :
    ∃ c', aslice P σ t (.slice (some ⟨id, off, none⟩) len c) lo hi none = some (.slice (some ⟨id, off + (l.getD 0).toNat * z, none⟩) ((h.getD (len : Int)).toNat - (l.getD 0).toNat) c') := by
 have hz' : rowZ σ id z = true := by simp [rowZ, hr, hm, nbeq]
 have hc : (decide (0 ≤ l.getD 0) && decide (l.getD 0 ≤ h.getD (len : Int)) && decide (h.getD (len : Int) ≤ (len : Int))) = true := by
  simp only [Bool.and_eq_true, decide_eq_true_eq]; exact ⟨⟨h0, by omega⟩, h2⟩
 have hm0 : intOpt (none : Option Value) = some none := rfl
 simp only [aslice, ht, hz, hl, hh, hm0, hc, cond_true, hz', nbeq]
 generalize l.getD 0 = a at *
 generalize h.getD (len : Int) = b at *
 by_cases g1 : c = len ∧ b.toNat = len
 ·have g2 : ¬ a.toNat = len := by omega
  refine ⟨len - a.toNat, ?_⟩
  simp [g1, g2]
 ·have g1' : (decide (c = len) && decide (b.toNat = len)) = false := by
   simp only [Bool.and_eq_false_iff, decide_eq_false_iff_not]
   by_cases g : c = len
   ·exact Or.inr (fun h => g1 ⟨g, h⟩)
   ·exact Or.inl g
  simp only [g1', cond_false]
  by_cases g3 : b.toNat = len ∧ a.toNat = 0
  ·refine ⟨c, ?_⟩
   simp [g3]
  ·have g3' : (decide (b.toNat = len) && decide (a.toNat = 0)) = false := by
    simp only [Bool.and_eq_false_iff, decide_eq_false_iff_not]
    by_cases g : b.toNat = len
    ·exact Or.inr (fun h => g3 ⟨g, h⟩)
    ·exact Or.inl g
   have g4 : decide (a < (len : Int)) = true := by simp; omega
   refine ⟨b.toNat - a.toNat + 1, ?_⟩
   simp only [g3', cond_false, g4, cond_true]
theorem slice_ex {A : Option Value} {f : Nat → Value} {K : Value → Prop} (h : ∃ c, A = some (f c)) (k : ∀ c, K (f c)) : ex1 A K := by
 obtain ⟨c, h⟩ := h
 exact ⟨f c, h, k c⟩
theorem len_eq {ρ : Operand → Value} {o : Oper} {x : Operand} {t : TypeId} : acallPure P ρ o ⟨.builtin .len, #[x], #[t]⟩ = alen P t (ρ x) := rfl
theorem app_ex {A : Option (Value × St)} {R : Value → St → Prop} {K : Value × St → Prop} (h : ∃ v σ', A = some (v, σ') ∧ R v σ') (k : ∀ v σ', R v σ' → K (v, σ')) : ex1 A K := by
 obtain ⟨v, σ', h1, h2⟩ := h
 exact ⟨(v, σ'), h1, k v σ' h2⟩
end
theorem RUNA : type_of% (
 And.intro (And.intro (And.intro (And.intro (And.intro (And.intro (And.intro (@c_skip) (@c_label)) (And.intro (@c_exit) (@c_ret))) (And.intro (And.intro (@c_scope) (@c_block)) (And.intro (@c_cond)
 (And.intro (@cnd_t) (@cnd_f))))) (And.intro (And.intro (And.intro (@c_text) (@t_n)) (And.intro (@t_e) (@t_r))) (And.intro (And.intro (@b_n) (@b_r)) (And.intro (@b_e) (And.intro (@zd_n) (@zd_r))))))
 (And.intro (And.intro (And.intro (And.intro (@res_nil) (@res_tmp)) (And.intro (@res_cell) (@ans0))) (And.intro (And.intro (@ans1) (@ans2)) (And.intro (@x_nil) (And.intro (@x_move) (@x_assign)))))
 (And.intro (And.intro (And.intro (@z_pick) (@z_build)) (And.intro (@z_nilCheck) (And.intro (@z_binOp) (@z_unOp)))) (And.intro (And.intro (@z_convert) (@x_makeFunc)) (And.intro (@z_fieldAddr)
 (And.intro (@z_field) (@z_indexAddr))))))) (And.intro (And.intro (And.intro (And.intro (And.intro (@z_index) (@z_extract)) (And.intro (@z_len) (@z_min))) (And.intro (And.intro (@z_max) (@z_load))
 (And.intro (@z_lookup) (And.intro (@z_slice) (@z_alloc'))))) (And.intro (And.intro (And.intro (@z_box) (@z_buildSlice)) (And.intro (@z_makeSlice) (And.intro (@z_makeMap) (@z_store)))) (And.intro
 (And.intro (@z_mapUpdate) (@z_insert)) (And.intro (@z_append) (And.intro (@z_call) (@callee_fn)))))) (And.intro (And.intro (And.intro (And.intro (@ev_tmp) (@ev_const)) (And.intro (@ev_func)
 (@at_node0))) (And.intro (And.intro (@at_node1) (@at_node2)) (And.intro (@at_nil) (And.intro (@store_some) (@store_none))))) (And.intro (And.intro (And.intro (@set_node0) (@set_node1)) (And.intro
 (@set_node2) (And.intro (@set_nil0) (@set_nil1)))) (And.intro (And.intro (@set_nil2) (@n_lss)) (And.intro (@n_leq) (And.intro (@n_gtr) (@n_geq)))))))) (And.intro (And.intro (And.intro (And.intro
 (And.intro (And.intro (@n_eql) (@n_neq)) (And.intro (@n_add) (@n_sub))) (And.intro (And.intro (@n_mul) (@n_and)) (And.intro (@n_or) (And.intro (@n_xor) (@n_not))))) (And.intro (And.intro (And.intro
 (@p_t) (@p_f)) (And.intro (@p_bb) (@nc_some))) (And.intro (And.intro (@ex_tup) (@not_false_eq_true)) (And.intro (@and_assoc) (And.intro (@true_and) (@and_true)))))) (And.intro (And.intro (And.intro
 (And.intro (@Nat.add_zero) (@Nat.zero_add)) (And.intro (@decide_eq_true_eq) (@Bool.false_eq_true))) (And.intro (And.intro (@Bool.not_true) (@Bool.not_false)) (And.intro (@row_put) (And.intro
 (@St.get_put) (@row_more))))) (And.intro (And.intro (And.intro (@get_more) (@next_more)) (And.intro (@good_more) (And.intro (@next_put) (@good_box)))) (And.intro (And.intro (@Go.AI.good_row)
 (@St.good_put)) (And.intro (@decide_eq_false_iff_not) (And.intro (@beq_true) (@beq_false))))))) (And.intro (And.intro (And.intro (And.intro (And.intro (@Bool.not_eq_true') (@Bool.and_true)) (And.intro
 (@k_cont) (@stw_box))) (And.intro (And.intro (@stw_row) (@decide_true)) (And.intro (@Nat.add_assoc) (And.intro (@Nat.add_left_cancel_iff) (@Nat.add_eq_left))))) (And.intro (And.intro (And.intro
 (@Nat.left_eq_add) (@Nat.le_refl)) (And.intro (@and_self) (And.intro (@z_guard) (@gsel_t)))) (And.intro (And.intro (@gsel_f) (@ex1_some)) (And.intro (@nx_go) (And.intro (@nxa_go) (@nxs_go))))))
 (And.intro (And.intro (And.intro (And.intro (@nxe_go) (@nxc_go)) (And.intro (@nxr_go) (@at_set))) (And.intro (And.intro (@len_eq) (@lp_n)) (And.intro (@lp_e) (And.intro (@lp_r) (@cut_0))))) (And.intro
 (And.intro (And.intro (@cut_s) (@cut_c)) (And.intro (@Nat.mul_one) (And.intro (@Nat.zero_mul) (@Nat.sub_zero)))) (And.intro (And.intro (@Int.toNat_natCast) (@Int.toNat_zero)) (And.intro (@ct_n)
 (And.intro (@ct_e) (@ct_r))))))))) :=
 And.intro (And.intro (And.intro (And.intro (And.intro (And.intro (And.intro (@c_skip) (@c_label)) (And.intro (@c_exit) (@c_ret))) (And.intro (And.intro (@c_scope) (@c_block)) (And.intro (@c_cond)
 (And.intro (@cnd_t) (@cnd_f))))) (And.intro (And.intro (And.intro (@c_text) (@t_n)) (And.intro (@t_e) (@t_r))) (And.intro (And.intro (@b_n) (@b_r)) (And.intro (@b_e) (And.intro (@zd_n) (@zd_r))))))
 (And.intro (And.intro (And.intro (And.intro (@res_nil) (@res_tmp)) (And.intro (@res_cell) (@ans0))) (And.intro (And.intro (@ans1) (@ans2)) (And.intro (@x_nil) (And.intro (@x_move) (@x_assign)))))
 (And.intro (And.intro (And.intro (@z_pick) (@z_build)) (And.intro (@z_nilCheck) (And.intro (@z_binOp) (@z_unOp)))) (And.intro (And.intro (@z_convert) (@x_makeFunc)) (And.intro (@z_fieldAddr)
 (And.intro (@z_field) (@z_indexAddr))))))) (And.intro (And.intro (And.intro (And.intro (And.intro (@z_index) (@z_extract)) (And.intro (@z_len) (@z_min))) (And.intro (And.intro (@z_max) (@z_load))
 (And.intro (@z_lookup) (And.intro (@z_slice) (@z_alloc'))))) (And.intro (And.intro (And.intro (@z_box) (@z_buildSlice)) (And.intro (@z_makeSlice) (And.intro (@z_makeMap) (@z_store)))) (And.intro
 (And.intro (@z_mapUpdate) (@z_insert)) (And.intro (@z_append) (And.intro (@z_call) (@callee_fn)))))) (And.intro (And.intro (And.intro (And.intro (@ev_tmp) (@ev_const)) (And.intro (@ev_func)
 (@at_node0))) (And.intro (And.intro (@at_node1) (@at_node2)) (And.intro (@at_nil) (And.intro (@store_some) (@store_none))))) (And.intro (And.intro (And.intro (@set_node0) (@set_node1)) (And.intro
 (@set_node2) (And.intro (@set_nil0) (@set_nil1)))) (And.intro (And.intro (@set_nil2) (@n_lss)) (And.intro (@n_leq) (And.intro (@n_gtr) (@n_geq)))))))) (And.intro (And.intro (And.intro (And.intro
 (And.intro (And.intro (@n_eql) (@n_neq)) (And.intro (@n_add) (@n_sub))) (And.intro (And.intro (@n_mul) (@n_and)) (And.intro (@n_or) (And.intro (@n_xor) (@n_not))))) (And.intro (And.intro (And.intro
 (@p_t) (@p_f)) (And.intro (@p_bb) (@nc_some))) (And.intro (And.intro (@ex_tup) (@not_false_eq_true)) (And.intro (@and_assoc) (And.intro (@true_and) (@and_true)))))) (And.intro (And.intro (And.intro
 (And.intro (@Nat.add_zero) (@Nat.zero_add)) (And.intro (@decide_eq_true_eq) (@Bool.false_eq_true))) (And.intro (And.intro (@Bool.not_true) (@Bool.not_false)) (And.intro (@row_put) (And.intro
 (@St.get_put) (@row_more))))) (And.intro (And.intro (And.intro (@get_more) (@next_more)) (And.intro (@good_more) (And.intro (@next_put) (@good_box)))) (And.intro (And.intro (@Go.AI.good_row)
 (@St.good_put)) (And.intro (@decide_eq_false_iff_not) (And.intro (@beq_true) (@beq_false))))))) (And.intro (And.intro (And.intro (And.intro (And.intro (@Bool.not_eq_true') (@Bool.and_true)) (And.intro
 (@k_cont) (@stw_box))) (And.intro (And.intro (@stw_row) (@decide_true)) (And.intro (@Nat.add_assoc) (And.intro (@Nat.add_left_cancel_iff) (@Nat.add_eq_left))))) (And.intro (And.intro (And.intro
 (@Nat.left_eq_add) (@Nat.le_refl)) (And.intro (@and_self) (And.intro (@z_guard) (@gsel_t)))) (And.intro (And.intro (@gsel_f) (@ex1_some)) (And.intro (@nx_go) (And.intro (@nxa_go) (@nxs_go))))))
 (And.intro (And.intro (And.intro (And.intro (@nxe_go) (@nxc_go)) (And.intro (@nxr_go) (@at_set))) (And.intro (And.intro (@len_eq) (@lp_n)) (And.intro (@lp_e) (And.intro (@lp_r) (@cut_0))))) (And.intro
 (And.intro (And.intro (@cut_s) (@cut_c)) (And.intro (@Nat.mul_one) (And.intro (@Nat.zero_mul) (@Nat.sub_zero)))) (And.intro (And.intro (@Int.toNat_natCast) (@Int.toNat_zero)) (And.intro (@ct_n)
 (And.intro (@ct_e) (@ct_r))))))))
theorem YRUNA : type_of% (
 And.intro (And.intro (And.intro (And.intro (And.intro (@dgo_nil) (And.intro (@dk_cont) (@y_move))) (And.intro (@y_assign) (And.intro (@w_pick) (@w_build)))) (And.intro (And.intro (@w_nilCheck)
 (And.intro (@w_binOp) (@w_unOp))) (And.intro (@w_convert) (And.intro (@y_makeFunc) (@w_fieldAddr))))) (And.intro (And.intro (And.intro (@w_field) (And.intro (@w_indexAddr) (@w_index))) (And.intro
 (@w_extract) (And.intro (@w_len) (@w_min)))) (And.intro (And.intro (@w_max) (And.intro (@w_load) (@w_lookup))) (And.intro (@w_slice) (And.intro (@w_alloc') (@w_box)))))) (And.intro (And.intro
 (And.intro (And.intro (@w_buildSlice) (And.intro (@w_makeSlice) (@w_makeMap))) (And.intro (@w_store) (And.intro (@w_mapUpdate) (@w_insert)))) (And.intro (And.intro (@w_append) (And.intro (@w_call)
 (@false_imp_iff))) (And.intro (@Bool.not_eq_true) (And.intro (@Bool.not_eq_eq_eq_not) (@w_guard))))) (And.intro (And.intro (And.intro (@dsel_t) (And.intro (@dsel_f) (@nd_go))) (And.intro (@ndr_go)
 (And.intro (@rdv_go) (@isOb_go)))) (And.intro (And.intro (@nda_go) (And.intro (@nds_go) (@nde_go))) (And.intro (And.intro (@nbeq) (@decide_false)) (And.intro (@Nat.zero_ne_one) (@Nat.one_ne_zero))))))) :=
 And.intro (And.intro (And.intro (And.intro (And.intro (@dgo_nil) (And.intro (@dk_cont) (@y_move))) (And.intro (@y_assign) (And.intro (@w_pick) (@w_build)))) (And.intro (And.intro (@w_nilCheck)
 (And.intro (@w_binOp) (@w_unOp))) (And.intro (@w_convert) (And.intro (@y_makeFunc) (@w_fieldAddr))))) (And.intro (And.intro (And.intro (@w_field) (And.intro (@w_indexAddr) (@w_index))) (And.intro
 (@w_extract) (And.intro (@w_len) (@w_min)))) (And.intro (And.intro (@w_max) (And.intro (@w_load) (@w_lookup))) (And.intro (@w_slice) (And.intro (@w_alloc') (@w_box)))))) (And.intro (And.intro
 (And.intro (And.intro (@w_buildSlice) (And.intro (@w_makeSlice) (@w_makeMap))) (And.intro (@w_store) (And.intro (@w_mapUpdate) (@w_insert)))) (And.intro (And.intro (@w_append) (And.intro (@w_call)
 (@false_imp_iff))) (And.intro (@Bool.not_eq_true) (And.intro (@Bool.not_eq_eq_eq_not) (@w_guard))))) (And.intro (And.intro (And.intro (@dsel_t) (And.intro (@dsel_f) (@nd_go))) (And.intro (@ndr_go)
 (And.intro (@rdv_go) (@isOb_go)))) (And.intro (And.intro (@nda_go) (And.intro (@nds_go) (@nde_go))) (And.intro (And.intro (@nbeq) (@decide_false)) (And.intro (@Nat.zero_ne_one) (@Nat.one_ne_zero))))))
end Go.AI
namespace Go.AI
def calleeV : Value → Array Value → Option (FuncId × Array Value)
 | .func (.func g) first captured, as => some (g, first ++ as ++ captured)
 | _, _ => none
theorem k_tmp {S : Slots} {t : Tmp} {as : Array Operand} {ts : Array TypeId} : acallee (ev S) ⟨.value (.tmp t), as, ts⟩ = calleeV (S.at t) (as.map (ev S)) := by
 simp only [acallee, ev]
 cases S.at t <;> try rfl
 rename_i f xs ys; cases f <;> rfl
theorem k_val {g : FuncId} {first captured as : Array Value} : calleeV (.func (.func g) first captured) as = some (g, first ++ as ++ captured) := rfl
section
variable {P : Program} {κ : Type} [DecidableEq κ]
structure Keyed (P : Program) (kt : TypeId) {κ : Type} [DecidableEq κ] (enc : κ → Value) : Prop where
 pl : ∀ k, plain1 (enc k) = true
 ck : ∀ b k, still P (Instr.checkKey b 10000 kt (enc k)) = some ()
 eq : (∃ d, P.underlying kt = some d ∧ ∀ a b, Instr.sameNow d (enc a) (enc b) = some (decide (a = b))) ∨
  (∃ d, P.underlying kt = some d ∧ (∀ a b, Instr.sameNow d (enc a) (enc b) = none) ∧ ∀ a b, still P (Op.equal kt (enc a) (enc b)) = some (decide (a = b)))
 sb : ∀ k, Instr.sameBits 10000 (enc k) (enc k) = true
def fndM (k : κ) : List (κ × Value) → Nat → Option (Nat × Value)
 | [], _ => none
 | e :: es, i => if k = e.1 then some (i, e.2) else fndM k es (i + 1)
def mget (k : κ) : List (κ × Value) → Option Value
 | [] => none
 | e :: es => if k = e.1 then some e.2 else mget k es
theorem fndM_get (k : κ) : ∀ (es : List (κ × Value)) (i : Nat), (fndM k es i).map (·.2) = mget k es := by
 intro es
 induction es with
 | nil => intro i; rfl
 | cons e es ih => intro i; simp only [fndM, mget]; split <;> simp [ih]
theorem fndM_at (k : κ) : ∀ (es : List (κ × Value)) (i j : Nat) (v : Value), fndM k es i = some (j, v) → i ≤ j ∧ (∃ u, es[j - i]? = some (k, u)) ∧ (∀ x k', mget k' (es.modify (j - i) fun _ => (k, x)) = if k' = k then some x else mget k' es) := by
 intro es
 induction es with
 | nil => intro i j v h; simp [fndM] at h
 | cons e es ih =>
  intro i j v h
  simp only [fndM] at h
  split at h
  ·rename_i he
   cases h
   refine ⟨Nat.le_refl _, ⟨e.2, by simp [he]⟩, fun x k' => ?_⟩
   rw [Nat.sub_self, List.modify_zero_cons]
   simp only [mget]
   by_cases hk : k' = k
   ·simp [hk]
   ·rw [if_neg hk, if_neg hk, if_neg (by rw [← he]; exact hk)]
  ·rename_i he
   obtain ⟨h1, ⟨u, h2⟩, h3⟩ := ih (i + 1) j v h
   obtain ⟨q, hq⟩ : ∃ q, j - i = q + 1 := ⟨j - (i + 1), by omega⟩
   have hq' : j - (i + 1) = q := by omega
   rw [hq'] at h2 h3
   refine ⟨by omega, ⟨u, by rw [hq]; simpa using h2⟩, fun x k' => ?_⟩
   rw [hq, List.modify_succ_cons]
   simp only [mget, h3]
   by_cases hk : k' = k
   ·subst hk; rw [if_neg he]; simp
   ·simp [hk]
theorem mget_none (k : κ) : ∀ (es : List (κ × Value)) (i : Nat), fndM k es i = none → ∀ x k', mget k' (es ++ [(k, x)]) = if k' = k then some x else mget k' es := by
 intro es
 induction es with
 | nil => intro i _ x k'; simp [mget]
 | cons e es ih =>
  intro i h x k'
  simp only [fndM] at h
  split at h
  ·cases h
  ·rename_i he
   simp only [List.cons_append, mget, ih _ h]
   by_cases hk : k' = k
   ·subst hk; rw [if_neg he]; simp
   ·simp [hk]
def encE (enc : κ → Value) (es : List (κ × Value)) : List (Value × Value) := es.map fun e => (enc e.1, e.2)
theorem find_now {kt : TypeId} {enc : κ → Value} {d : TypeDesc} {k : κ} : ∀ (es : List (κ × Value)) (i : Nat), (∀ e ∈ es, Instr.sameNow d (enc k) (enc e.1) = some (decide (k = e.1))) → Instr.findNow d (enc k) (entries (encE enc es)) i = some (fndM k es i) := by
 intro es
 induction es with
 | nil => intro i _; rfl
 | cons e es ih =>
  intro i h
  have h1 := h e (by simp)
  have h2 := ih (i + 1) (fun x hx => h x (by simp [hx]))
  simp only [encE, entries, List.map_cons] at h2 ⊢
  simp only [Instr.findNow, h1, fndM]
  by_cases hk : k = e.1
  ·simp [hk]
  ·simp only [hk, decide_false, if_false]; exact h2
theorem find_ask {kt : TypeId} {enc : κ → Value} {k : κ} : ∀ (es : List (κ × Value)) (i : Nat), (∀ e ∈ es, still P (Op.equal kt (enc k) (enc e.1)) = some (decide (k = e.1))) → still P (Instr.findAsking kt (enc k) (entries (encE enc es)) i) = some (fndM k es i) := by
 intro es
 induction es with
 | nil => intro i _; rfl
 | cons e es ih =>
  intro i h
  have h1 := h e (by simp)
  have h2 := ih (i + 1) (fun x hx => h x (by simp [hx]))
  simp only [encE, entries, List.map_cons] at h2 ⊢
  simp only [Instr.findAsking, still_bind, h1, Option.bind_some, fndM]
  by_cases hk : k = e.1
  ·simp [hk, still_pure]
  ·simp only [hk, decide_false, Bool.false_eq_true, if_false]; exact h2
theorem find_key {kt : TypeId} {enc : κ → Value} (K : Keyed P kt enc) (k : κ) (es : List (κ × Value)) : still P (Instr.findKey kt (enc k) (entries (encE enc es))) = some (fndM k es 0) := by
 unfold Instr.findKey
 rcases K.eq with ⟨d, h1, h2⟩ | ⟨d, h1, h2, h3⟩
 ·rw [still_bind, still_underlying, h1]
  simp only [Option.bind_some]
  rw [find_now (kt := kt) es 0 (fun x _ => h2 k x.1)]; rfl
 ·rw [still_bind, still_underlying, h1]
  simp only [Option.bind_some]
  cases es with
  | nil => rfl
  | cons e es =>
   have : Instr.findNow d (enc k) (entries (encE enc (e :: es))) 0 = none := by
    simp only [encE, entries, List.map_cons, Instr.findNow, h2]
   rw [this]
   exact find_ask (e :: es) 0 (fun x _ => h3 k x.1)
theorem afind_key {kt : TypeId} {enc : κ → Value} (K : Keyed P kt enc) (k : κ) (es : List (κ × Value)) : afind P kt (enc k) (encE enc es) = some (fndM k es 0) := by
 unfold afind
 have hall : (encE enc es).all (fun e => plain1 e.1) = true := by
  simp only [encE, List.all_map, List.all_eq_true]; intro x _; exact K.pl x.1
 rw [K.pl k, hall, K.ck false k, K.ck true k, find_key K]; rfl
theorem mm_none {ρ : Operand → Value} {d : Option Tmp} {t ty : TypeId} {pos : String} {af : Array Edge} {g : Option (Nat × Bool)} {id : Nat} : aalloc P ρ ⟨d, .makeMap t none, ty, pos, af, g⟩ id = some (.map (some id), .map []) := rfl
theorem row_putm {σ : St} {id k : Nat} {es : List (Value × Value)} : (σ.put id (.map es)).row k = if k = id then none else σ.row k := by
 unfold St.row
 rw [St.get_put]
 by_cases h : k = id
 ·rw [if_pos h, if_pos h]
 ·rw [if_neg h, if_neg h]; rfl
theorem lk_get {σ τ : St} {id : Nat} {t : TypeId} {k : Value} {ok : Bool} (h : σ.get id = τ.get id) : alookup P σ t (.map (some id)) k ok = alookup P τ t (.map (some id)) k ok := by
 simp only [alookup, mapOf, h]
theorem ex1_of {α : Type} {A : Option α} {K : α → Prop} {v : α} (h : A = some v) (k : K v) : ex1 A K := ⟨v, h, k⟩
theorem gen_go {c : Code} {S : Slots} {σ : St} {Q : Fl → Slots → St → Prop} (J : Slots → St → Prop) (h : J S σ) (k : ∀ S σ, J S σ → wpx P c S σ Q) : wpx P c S σ Q := k S σ h
def MP (enc : κ → Value) (σ : St) (id : Nat) (g : κ → Option Value) : Prop := ∃ es, σ.get id = some (.map (encE enc es)) ∧ ∀ k, mget k es = g k
theorem MP.new {enc : κ → Value} {σ : St} {id : Nat} (h : σ.get id = some (.map [])) : MP enc σ id (fun _ => none) := ⟨[], h, fun _ => rfl⟩
theorem MP.of {enc : κ → Value} {σ τ : St} {id : Nat} {g : κ → Option Value} (h : MP enc σ id g) (e : τ.get id = σ.get id) : MP enc τ id g := by
 obtain ⟨es, h1, h2⟩ := h; exact ⟨es, e.trans h1, h2⟩
def mset (g : κ → Option Value) (k : κ) (x : Value) : κ → Option Value := fun k' => if k' = k then some x else g k'
theorem lookup_some {t kt et : TypeId} {enc : κ → Value} (K : Keyed P kt enc) (ht : P.underlying t = some (.map kt et)) {σ : St} {id : Nat} {g : κ → Option Value} (h : MP enc σ id g) {k : κ} {v : Value} (hk : g k = some v) (ok : Bool) :
    alookup P σ t (.map (some id)) (enc k) ok = some (bif ok then .tuple #[v, .bool true] else v) := by
 obtain ⟨es, h1, h2⟩ := h
 have h3 := fndM_get k es 0
 rw [h2 k, hk] at h3
 simp only [alookup, ht, mapOf, h1, afind_key K]
 cases hf : fndM k es 0 with
 | none => rw [hf] at h3; cases h3
 | some x => rw [hf] at h3; simp only [Option.map_some, Option.some.injEq] at h3; simp only [h3]
theorem lookup_none {t kt et : TypeId} {enc : κ → Value} (K : Keyed P kt enc) (ht : P.underlying t = some (.map kt et)) {σ : St} {id : Nat} {g : κ → Option Value} (h : MP enc σ id g) {k : κ} (hk : g k = none) {z : Value} (hz : still P (zeroValue et) = some z) (hp : plain1 z = true) (ok : Bool) :
    alookup P σ t (.map (some id)) (enc k) ok = some (bif ok then .tuple #[z, .bool false] else z) := by
 obtain ⟨es, h1, h2⟩ := h
 have h3 := fndM_get k es 0
 rw [h2 k, hk] at h3
 simp only [alookup, ht, mapOf, h1, afind_key K]
 cases hf : fndM k es 0 with
 | none => simp only [hz, hp, cond_true]
 | some x => rw [hf] at h3; cases h3
theorem update_ok {t kt et : TypeId} {enc : κ → Value} (K : Keyed P kt enc) (ht : P.underlying t = some (.map kt et)) {σ : St} {id : Nat} {g : κ → Option Value} (h : MP enc σ id g) (k : κ) (x : Value) :
    ∃ es', amapUpdate P σ t (.map (some id)) (enc k) x = some (σ.put id (.map es')) ∧ MP enc (σ.put id (.map es')) id (mset g k x) := by
 obtain ⟨es, h1, h2⟩ := h
 simp only [amapUpdate, ht, h1, afind_key K]
 cases hf : fndM k es 0 with
 | none =>
  refine ⟨_, rfl, es ++ [(k, x)], ?_, fun k' => ?_⟩
  ·rw [St.get_put, if_pos rfl]; simp [encE]
  ·rw [mget_none k es 0 hf x k', mset, h2 k']
 | some y =>
  obtain ⟨j, v⟩ := y
  obtain ⟨_, ⟨u, h4⟩, h5⟩ := fndM_at k es 0 j v hf
  rw [Nat.sub_zero] at h4 h5
  have h6 : (((encE enc es)[j]?.map (·.1)).getD (enc k)) = enc k := by simp [encE, h4]
  simp only [h6, K.sb, cond_true]
  refine ⟨_, rfl, es.modify j (fun _ => (k, x)), ?_, fun k' => ?_⟩
  ·rw [St.get_put, if_pos rfl]
   simp only [encE]
   congr 2
   refine List.ext_getElem? fun n => ?_
   simp only [List.getElem?_modify, List.getElem?_map]
   by_cases hj : j = n
   ·subst hj; simp [h4]
   ·simp [hj]
  ·rw [h5 x k', mset, h2 k']
theorem update_ex {t kt et : TypeId} {enc : κ → Value} (K : Keyed P kt enc) (ht : P.underlying t = some (.map kt et)) {σ τ : St} {id : Nat} {g : κ → Option Value} (h : MP enc τ id g) (hg : σ.get id = τ.get id) {k : κ} {x kv : Value} (hk : kv = enc k) {R : St → Prop}
    (hR : ∀ es', MP enc (σ.put id (.map es')) id (mset g k x) → R (σ.put id (.map es'))) : ex1 (amapUpdate P σ t (.map (some id)) kv x) R := by
 subst hk
 obtain ⟨es', h1, h2⟩ := update_ok K ht (h.of hg) k x
 exact ⟨_, h1, hR es' h2⟩
end
end Go.AI
namespace Go.AI
theorem RUNB : type_of% (
 And.intro (And.intro (And.intro (And.intro (And.intro (@Option.getD_some.{0}) (@Option.map_some.{0,0})) (And.intro (@Option.bind_some.{0,0}) (And.intro (@ne_eq.{1}) (@Option.some.injEq.{0}))))
 (And.intro (And.intro (@Prod.mk.injEq.{0,0}) (@exists_and_left.{1})) (And.intro (@exists_eq_left'.{1}) (And.intro (@exists_eq_left.{1}) (@List.size_toArray.{0}))))) (And.intro (And.intro (And.intro
 (@List.length_cons.{0}) (@List.length_nil.{0})) (And.intro (@if_true.{1}) (And.intro (@if_false.{1}) (@exists_eq'.{1})))) (And.intro (And.intro (@exists_const.{1}) (@List.getElem?_cons_zero.{0}))
 (And.intro (@List.getElem?_cons_succ.{0}) (And.intro (@List.map_toArray.{0,0}) (@List.map_cons.{0,0})))))) (And.intro (And.intro (And.intro (And.intro (@List.map_nil.{0,0}) (@beq_iff_eq.{0}))
 (And.intro (@List.all_cons.{0}) (And.intro (@List.all_nil.{0}) (@cond_true.{1})))) (And.intro (And.intro (@List.set_cons_zero.{0}) (@List.set_cons_succ.{0})) (And.intro (@List.drop_zero.{0})
 (And.intro (@List.drop_succ_cons.{0}) (@List.take_succ_cons.{0}))))) (And.intro (And.intro (And.intro (@List.take_zero.{0}) (@List.getElem?_toArray.{0})) (And.intro (@Option.map_none.{0,0}) (And.intro
 (@Option.getD_none.{0}) (@k_tmp)))) (And.intro (And.intro (@k_val) (And.intro (@List.append_toArray.{0}) (@List.nil_append.{0}))) (And.intro (@List.cons_append.{0}) (And.intro (@mm_none)
 (@row_putm))))))) :=
 And.intro (And.intro (And.intro (And.intro (And.intro (@Option.getD_some.{0}) (@Option.map_some.{0,0})) (And.intro (@Option.bind_some.{0,0}) (And.intro (@ne_eq.{1}) (@Option.some.injEq.{0}))))
 (And.intro (And.intro (@Prod.mk.injEq.{0,0}) (@exists_and_left.{1})) (And.intro (@exists_eq_left'.{1}) (And.intro (@exists_eq_left.{1}) (@List.size_toArray.{0}))))) (And.intro (And.intro (And.intro
 (@List.length_cons.{0}) (@List.length_nil.{0})) (And.intro (@if_true.{1}) (And.intro (@if_false.{1}) (@exists_eq'.{1})))) (And.intro (And.intro (@exists_const.{1}) (@List.getElem?_cons_zero.{0}))
 (And.intro (@List.getElem?_cons_succ.{0}) (And.intro (@List.map_toArray.{0,0}) (@List.map_cons.{0,0})))))) (And.intro (And.intro (And.intro (And.intro (@List.map_nil.{0,0}) (@beq_iff_eq.{0}))
 (And.intro (@List.all_cons.{0}) (And.intro (@List.all_nil.{0}) (@cond_true.{1})))) (And.intro (And.intro (@List.set_cons_zero.{0}) (@List.set_cons_succ.{0})) (And.intro (@List.drop_zero.{0})
 (And.intro (@List.drop_succ_cons.{0}) (@List.take_succ_cons.{0}))))) (And.intro (And.intro (And.intro (@List.take_zero.{0}) (@List.getElem?_toArray.{0})) (And.intro (@Option.map_none.{0,0}) (And.intro
 (@Option.getD_none.{0}) (@k_tmp)))) (And.intro (And.intro (@k_val) (And.intro (@List.append_toArray.{0}) (@List.nil_append.{0}))) (And.intro (@List.cons_append.{0}) (And.intro (@mm_none)
 (@row_putm))))))
theorem YRUNB : type_of% (
 And.intro (And.intro (And.intro (@List.filterMap_cons.{0,0}) (@List.filterMap_nil.{0,0})) (And.intro (@List.filter_cons.{0}) (And.intro (@List.filter_nil.{0}) (@List.forall_mem_cons.{0})))) (And.intro
 (And.intro (@List.not_mem_nil.{0}) (And.intro (@implies_true.{1}) (@implies_true.{0}))) (And.intro (@List.getD_cons_zero.{0}) (And.intro (@List.getD_cons_succ.{0}) (@eq_self.{1}))))) :=
 And.intro (And.intro (And.intro (@List.filterMap_cons.{0,0}) (@List.filterMap_nil.{0,0})) (And.intro (@List.filter_cons.{0}) (And.intro (@List.filter_nil.{0}) (@List.forall_mem_cons.{0})))) (And.intro
 (And.intro (@List.not_mem_nil.{0}) (And.intro (@implies_true.{1}) (@implies_true.{0}))) (And.intro (@List.getD_cons_zero.{0}) (And.intro (@List.getD_cons_succ.{0}) (@eq_self.{1}))))
end Go.AI
