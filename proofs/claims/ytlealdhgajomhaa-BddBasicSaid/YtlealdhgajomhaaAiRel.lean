/- The relation between the abstract machine's state and the model's world. -/
import Derived.Test.YtlealdhgajomhaaAiDef
namespace Go.AI
set_option linter.unusedVariables false
set_option linter.unusedSimpArgs false

/-! ## Tries -/
theorem Tr.get_nil {α : Type} (n : Nat) : (Tr.nil : Tr α).get n = none := rfl

theorem nbeq (a b : Nat) : Nat.beq a b = decide (a = b) := by
  cases h : Nat.beq a b with
  | true => simp [Nat.eq_of_beq_eq_true h]
  | false => simp [Nat.ne_of_beq_eq_false h]
theorem nble (a b : Nat) : Nat.ble a b = decide (a ≤ b) := by
  cases h : Nat.ble a b with
  | true => simp [Nat.le_of_ble_eq_true h]
  | false => symm; rw [decide_eq_false_iff_not]; intro hl; rw [Nat.ble_eq_true_of_le hl] at h; cases h
theorem nblt (a b : Nat) : Nat.blt a b = decide (a < b) := by
  simp [Nat.blt, nble, Nat.succ_le_iff]

theorem Tr.get_node {α : Type} (v : Option α) (l r : Tr α) (n : Nat) : (Tr.node v l r).get n = if n = 0 then v else if n % 2 = 1 then l.get (n / 2) else r.get (n / 2 - 1) := by
  simp only [Tr.get, nbeq, Bool.cond_decide]

theorem Tr.get_setF {α : Type} : ∀ (f : Nat) (t : Tr α) (n m : Nat) (x : α), n < f → (Tr.setF f t n x).get m = if m = n then some x else t.get m := by
  intro f
  induction f with
  | zero => intro t n m x h; omega
  | succ f ih =>
    intro t n m x h
    cases t with
    | nil =>
      simp only [Tr.setF, nbeq, Bool.cond_decide]
      split
      · rename_i hn; subst hn
        simp only [Tr.get_node, Tr.get_nil]
        split <;> simp
      · split
        · simp only [Tr.get_node, Tr.get_nil]
          split
          · rw [if_neg (by omega)]
          · split
            · rw [ih _ _ _ _ (by omega), Tr.get_nil]
              by_cases e : m = n
              · subst e; simp
              · rw [if_neg e, if_neg (by omega)]
            · rw [if_neg (by omega)]
        · simp only [Tr.get_node, Tr.get_nil]
          split
          · rw [if_neg (by omega)]
          · split
            · rw [if_neg (by omega)]
            · rw [ih _ _ _ _ (by omega), Tr.get_nil]
              by_cases e : m = n
              · subst e; simp
              · rw [if_neg e, if_neg (by omega)]
    | node v l r =>
      simp only [Tr.setF, nbeq, Bool.cond_decide]
      split
      · rename_i hn; subst hn
        simp only [Tr.get_node]
        split <;> simp_all
      · split
        · simp only [Tr.get_node]
          split
          · rw [if_neg (by omega)]
          · split
            · rw [ih _ _ _ _ (by omega)]
              by_cases e : m = n
              · subst e; simp
              · rw [if_neg e, if_neg (by omega)]
            · rw [if_neg (by omega)]
        · simp only [Tr.get_node]
          split
          · rw [if_neg (by omega)]
          · split
            · rw [if_neg (by omega)]
            · rw [ih _ _ _ _ (by omega)]
              by_cases e : m = n
              · subst e; simp
              · rw [if_neg e, if_neg (by omega)]

theorem Tr.get_set {α : Type} (t : Tr α) (n m : Nat) (x : α) : (t.set n x).get m = if m = n then some x else t.get m :=
  Tr.get_setF _ _ _ _ _ (Nat.lt_succ_self n)

/-! ## Computations that look at the program alone -/
theorem still_run {α : Type} {P : Program} {s : Sem α} {a : α} (h : still P s = some a) (w : World) : s.run P w = .ok a w := by
  induction s with
  | pure b => simp only [still, Option.some.injEq] at h; subst h; rfl
  | program k ih => simp only [still] at h; exact ih _ h
  | mark m k ih => simp only [still] at h; exact ih h
  | _ => simp [still] at h

theorem still_bind {α β : Type} {P : Program} (s : Sem α) (k : α → Sem β) : still P (s >>= k) = (still P s).bind fun a => still P (k a) := by
  induction s with
  | pure b => rfl
  | program k ih => exact ih _
  | mark m k ih => exact ih
  | _ => rfl

theorem still_pure {α : Type} {P : Program} (a : α) : still P (pure a : Sem α) = some a := rfl

/-! ## The relation on values -/
structure Place where
  /-- the block -/
  b : Nat
  /-- where it begins in it -/
  o : Nat
  /-- where what is kept for it ends -/
  e : Nat
  /-- the size of an element -/
  z : Nat

abbrev Mp := Nat → Option Place

inductive VR (μ : Mp) : Value → Value → Prop where
  | same (v : Value) (h : plain0 v = true) : VR μ v v
  | ptr (id off : Nat) (p : Place) (h : μ id = some p) : VR μ (.pointer (some ⟨id, off, none⟩)) (.pointer (some ⟨p.b, p.o + off, none⟩))
  | slc (id off len c cap : Nat) (p : Place) (h : μ id = some p) (hc : c = len → cap = len) (hl : len ≤ cap) (he : p.o + off + cap * p.z ≤ p.e) :
      VR μ (.slice (some ⟨id, off, none⟩) len c) (.slice (some ⟨p.b, p.o + off, none⟩) len cap)
  | emp (a : Addr) (cap : Nat) : VR μ (.slice (some ⟨0, 0, some 0⟩) 0 0) (.slice (some a) 0 cap)
  | mp (id : Nat) (p : Place) (h : μ id = some p) : VR μ (.map (some id)) (.map (some p.b))
  | fn (f : Fn) (xs ys us vs : Array Value) (hl : xs.toList.length = us.toList.length) (h : ∀ (i : Nat) (x u : Value), xs.toList[i]? = some x → us.toList[i]? = some u → VR μ x u)
      (hl' : ys.toList.length = vs.toList.length) (h' : ∀ (i : Nat) (x u : Value), ys.toList[i]? = some x → vs.toList[i]? = some u → VR μ x u) : VR μ (.func f xs ys) (.func f us vs)
  | iface (t : TypeId) (x u : Value) (h : VR μ x u) : VR μ (.iface t x) (.iface t u)
  | agg (xs us : Array Value) (hl : xs.toList.length = us.toList.length) (h : ∀ (i : Nat) (x u : Value), xs.toList[i]? = some x → us.toList[i]? = some u → VR μ x u) : VR μ (.agg xs) (.agg us)
  | tuple (xs us : Array Value) (hl : xs.toList.length = us.toList.length) (h : ∀ (i : Nat) (x u : Value), xs.toList[i]? = some x → us.toList[i]? = some u → VR μ x u) : VR μ (.tuple xs) (.tuple us)

def VRL (μ : Mp) (xs us : List Value) : Prop := xs.length = us.length ∧ ∀ (i : Nat) (x u : Value), xs[i]? = some x → us[i]? = some u → VR μ x u

def Ext (n : Nat) (μ μ' : Mp) : Prop := (∀ id p, μ id = some p → μ' id = some p) ∧ ∀ id, id < n → μ' id = μ id

theorem Ext.refl (n : Nat) (μ : Mp) : Ext n μ μ := ⟨fun _ _ h => h, fun _ _ => rfl⟩
theorem Ext.trans {n n' : Nat} {μ μ' μ'' : Mp} (h : Ext n μ μ') (h' : Ext n' μ' μ'') (hn : n ≤ n') : Ext n μ μ'' :=
  ⟨fun id p e => h'.1 id p (h.1 id p e), fun id hi => (h'.2 id (by omega)).trans (h.2 id hi)⟩
theorem Ext.mono {n n' : Nat} {μ μ' : Mp} (h : Ext n μ μ') (hn : n' ≤ n) : Ext n' μ μ' := ⟨h.1, fun id hi => h.2 id (by omega)⟩

theorem VR.mono' {μ μ' : Mp} (h : ∀ id p, μ id = some p → μ' id = some p) {v u : Value} (r : VR μ v u) : VR μ' v u := by
  induction r with
  | same v hv => exact .same v hv
  | ptr id off p hp => exact .ptr id off p (h _ _ hp)
  | slc id off len c cap p hp hc hl he => exact .slc id off len c cap p (h _ _ hp) hc hl he
  | emp a cap => exact .emp a cap
  | mp id p hp => exact .mp id p (h _ _ hp)
  | fn f xs ys us vs hl _ hl' _ ih ih' => exact .fn f xs ys us vs hl ih hl' ih'
  | iface t x u _ ih => exact .iface t x u ih
  | agg xs us hl _ ih => exact .agg xs us hl ih
  | tuple xs us hl _ ih => exact .tuple xs us hl ih

theorem VRL.mono' {μ μ' : Mp} (h : ∀ id p, μ id = some p → μ' id = some p) {xs us : List Value} (r : VRL μ xs us) : VRL μ' xs us :=
  ⟨r.1, fun i x u hx hu => (r.2 i x u hx hu).mono' h⟩

theorem VR.mono {n : Nat} {μ μ' : Mp} (h : Ext n μ μ') {v u : Value} (r : VR μ v u) : VR μ' v u := r.mono' h.1
theorem VRL.mono {n : Nat} {μ μ' : Mp} (h : Ext n μ μ') {xs us : List Value} (r : VRL μ xs us) : VRL μ' xs us := r.mono' h.1

section
variable {μ : Mp}

theorem VR.eq0 {v u : Value} (r : VR μ v u) (h : plain0 v = true) : u = v := by
  cases r <;> first | rfl | simp [plain0] at h

theorem VRL.nil : VRL μ [] [] := ⟨rfl, fun i x u h => by simp at h⟩

theorem VRL.cons {x u : Value} {xs us : List Value} (h : VR μ x u) (r : VRL μ xs us) : VRL μ (x :: xs) (u :: us) := by
  refine ⟨by simp [r.1], fun i y v hy hv => ?_⟩
  cases i with
  | zero => simp at hy hv; subst hy; subst hv; exact h
  | succ i => simp at hy hv; exact r.2 i y v hy hv

theorem VRL.cons_inv {x : Value} {xs us : List Value} (r : VRL μ (x :: xs) us) : ∃ u vs, us = u :: vs ∧ VR μ x u ∧ VRL μ xs vs := by
  cases us with
  | nil => have := r.1; simp at this
  | cons u vs => exact ⟨u, vs, rfl, r.2 0 x u (by simp) (by simp), by simpa using r.1, fun i y v hy hv => r.2 (i + 1) y v (by simpa using hy) (by simpa using hv)⟩

theorem VRL.nil_inv {us : List Value} (r : VRL μ [] us) : us = [] := by
  have := r.1; simpa using this.symm

theorem VRL.get {xs us : List Value} (r : VRL μ xs us) {i : Nat} {x : Value} (h : xs[i]? = some x) : ∃ u, us[i]? = some u ∧ VR μ x u := by
  have hi : i < xs.length := by
    rcases Nat.lt_or_ge i xs.length with h' | h'
    · exact h'
    · simp [List.getElem?_eq_none h'] at h
  have : us[i]? = some (us[i]'(r.1 ▸ hi)) := List.getElem?_eq_getElem _
  exact ⟨_, this, r.2 i x _ h this⟩

theorem VRL.append {xs us ys vs : List Value} (r : VRL μ xs us) (s : VRL μ ys vs) : VRL μ (xs ++ ys) (us ++ vs) := by
  induction xs generalizing us with
  | nil => rw [r.nil_inv]; exact s
  | cons x xs ih => obtain ⟨u, us', rfl, h, r'⟩ := r.cons_inv; exact .cons h (ih r')

theorem VRL.eq0 {xs us : List Value} (r : VRL μ xs us) (h : xs.all plain0 = true) : us = xs := by
  induction xs generalizing us with
  | nil => exact r.nil_inv
  | cons x xs ih =>
    obtain ⟨u, us', rfl, hx, r'⟩ := r.cons_inv
    simp only [List.all_cons, Bool.and_eq_true] at h
    rw [hx.eq0 h.1, ih r' h.2]

theorem VRL.same {xs : List Value} (h : xs.all plain0 = true) : VRL μ xs xs := by
  induction xs with
  | nil => exact .nil
  | cons x xs ih =>
    simp only [List.all_cons, Bool.and_eq_true] at h
    exact .cons (.same x h.1) (ih h.2)

theorem VR.aggL {xs us : Array Value} (r : VR μ (.agg xs) (.agg us)) : VRL μ xs.toList us.toList := by
  cases r with
  | same _ h => simp [plain0] at h
  | agg _ _ hl h => exact ⟨hl, h⟩

theorem VR.agg_inv {xs : Array Value} {u : Value} (r : VR μ (.agg xs) u) : ∃ us, u = .agg us ∧ VRL μ xs.toList us.toList := by
  cases r with
  | same _ h => simp [plain0] at h
  | agg _ us hl h => exact ⟨us, rfl, hl, h⟩

theorem VR.tuple_inv {xs : Array Value} {u : Value} (r : VR μ (.tuple xs) u) : ∃ us, u = .tuple us ∧ VRL μ xs.toList us.toList := by
  cases r with
  | same _ h => simp [plain0] at h
  | tuple _ us hl h => exact ⟨us, rfl, hl, h⟩

theorem VR.mkAgg {xs us : List Value} (r : VRL μ xs us) : VR μ (.agg xs.toArray) (.agg us.toArray) := .agg _ _ (by simpa using r.1) (by simpa using r.2)
theorem VR.mkAgg' {xs us : Array Value} (r : VRL μ xs.toList us.toList) : VR μ (.agg xs) (.agg us) := .agg _ _ r.1 r.2
theorem VR.mkTuple {xs us : List Value} (r : VRL μ xs us) : VR μ (.tuple xs.toArray) (.tuple us.toArray) := .tuple _ _ (by simpa using r.1) (by simpa using r.2)

theorem VR.eq1 {v u : Value} (r : VR μ v u) (h : plain1 v = true) : u = v := by
  cases v with
  | agg cs =>
    obtain ⟨us, rfl, hl⟩ := r.agg_inv
    have := hl.eq0 (by simpa [plain1] using h)
    rw [Array.toList_inj.1 this]
  | _ => exact r.eq0 (by simpa [plain1] using h)

theorem VR.same1 {v : Value} (h : plain1 v = true) : VR μ v v := by
  cases v with
  | agg cs => exact .mkAgg' (.same (by simpa [plain1] using h))
  | _ => exact .same _ (by simpa [plain1] using h)

theorem VR.undef : VR μ Go.undef Go.undef := .tuple _ _ rfl (fun i x u h => by simp at h)

theorem VR.cells {v u : Value} (r : VR μ v u) : VRL μ v.cells.toList u.cells.toList := by
  cases r with
  | same v h =>
    have hc : v.cells = #[v] := by cases v <;> first | rfl | simp [plain0] at h
    rw [hc]; exact .same (by simpa using h)
  | agg xs us hl h => exact ⟨hl, h⟩
  | ptr id off p h => exact .cons (.ptr id off p h) .nil
  | slc id off len c cap p h hc hl he => exact .cons (.slc id off len c cap p h hc hl he) .nil
  | emp a cap => exact .cons (.emp a cap) .nil
  | mp id p h => exact .cons (.mp id p h) .nil
  | fn f xs ys us vs hl h hl' h' => exact .cons (.fn f xs ys us vs hl h hl' h') .nil
  | iface t x u h => exact .cons (.iface t x u h) .nil
  | tuple xs us hl h => exact .cons (.tuple xs us hl h) .nil

theorem VR.one_eq {v u : Value} (r : VR μ v u) : one u = one v := by
  cases r <;> rfl

theorem VRL.one_eq {xs us : List Value} (r : VRL μ xs us) : us.all one = xs.all one := by
  induction xs generalizing us with
  | nil => rw [r.nil_inv]
  | cons x xs ih => obtain ⟨u, us', rfl, h, r'⟩ := r.cons_inv; simp [h.one_eq, ih r']

theorem VRL.drop {xs us : List Value} (r : VRL μ xs us) (n : Nat) : VRL μ (xs.drop n) (us.drop n) :=
  ⟨by simp [r.1], fun i x u hx hu => r.2 (n + i) x u (by simpa using hx) (by simpa using hu)⟩

theorem VRL.take {xs us : List Value} (r : VRL μ xs us) (n : Nat) : VRL μ (xs.take n) (us.take n) := by
  refine ⟨by simp [r.1], fun i x u hx hu => ?_⟩
  rw [List.getElem?_take] at hx hu
  split at hx
  · rename_i hi; rw [if_pos hi] at hu; exact r.2 i x u hx hu
  · cases hx

theorem VRL.set {xs us : List Value} (r : VRL μ xs us) {x u : Value} (h : VR μ x u) (n : Nat) : VRL μ (xs.set n x) (us.set n u) := by
  refine ⟨by simp [r.1], fun i y v hy hv => ?_⟩
  rw [List.getElem?_set] at hy hv
  split at hy
  · rename_i e
    rw [if_pos e] at hv
    split at hy
    · split at hv
      · simp at hy hv; subst hy; subst hv; exact h
      · cases hv
    · cases hy
  · rename_i e; rw [if_neg e] at hv; exact r.2 i y v hy hv

theorem VRL.toArray_cells {xs us : List Value} (r : VRL μ xs us) : VRL μ xs.toArray.toList us.toArray.toList := by simpa using r
end

/-! ## The relation on states -/
/-- two stretches of memory do not meet -/
def Off (p : Place) (lo hi : Nat) (q : Place) (lo' hi' : Nat) : Prop := p.b = q.b → ∀ x, lo ≤ x → x < hi → lo' ≤ x → x < hi' → False

structure RowAt (w0 : World) (μ : Mp) (w : World) (p : Place) (cs : List Value) (m : Mta) : Prop where
  row : ∃ C t fr, w.heap[p.b]? = some (.cells C t fr) ∧ (∀ (i : Nat) (v : Value), cs[i]? = some v → ∃ u, C[p.o + i]? = some u ∧ VR μ v u) ∧ (m.tip = true → p.e ≤ C.size)
  wr : m.wr = true → w0.heap.size ≤ p.b
  tip : m.tip = true → p.o + cs.length ≤ p.e
  z : p.z = m.z

structure MapAt (w0 : World) (μ : Mp) (w : World) (p : Place) (es : List (Value × Value)) : Prop where
  map : ∃ ES clock, w.heap[p.b]? = some (.map ES clock) ∧ VRL μ (es.map (·.1)) (ES.toList.map (·.key)) ∧ VRL μ (es.map (·.2)) (ES.toList.map (·.val))
  wr : w0.heap.size ≤ p.b

def sameGrp (m n : Mta) : Prop := ∃ g v v', m.grp = some (g, v) ∧ n.grp = some (g, v')

/-- what was there at the start is as it was; what is new is not frozen -/
structure Kept (w0 w : World) : Prop where
  os : w.os = w0.os
  output : w.output = w0.output
  size : w0.heap.size ≤ w.heap.size
  old : ∀ k, k < w0.heap.size → w.heap[k]? = w0.heap[k]?
  new : ∀ k C t fr, w0.heap.size ≤ k → w.heap[k]? = some (.cells C t fr) → fr = (0, 0)

theorem Kept.grown {w0 w : World} (h : Kept w0 w) : RowKit.Grown w0 w := by
  refine ⟨⟨h.os, h.output, fun i hi => ?_⟩, fun a => ?_, h.size⟩
  · rw [h.old i hi]
    cases w0.heap[i]? with
    | none => trivial
    | some o => cases o <;> first | exact ⟨rfl, rfl, rfl, fun _ _ => rfl⟩ | exact .inr ⟨rfl, rfl⟩ | rfl
  · by_cases ha : a.block < w0.heap.size
    · simp only [World.frozen?, h.old _ ha]
    · have e : w0.heap[a.block]? = none := by simp; omega
      simp only [World.frozen?, e]
      cases hb : w.heap[a.block]? with
      | none => rfl
      | some o =>
        cases o with
        | cells C t fr => rw [h.new _ _ _ _ (by omega) hb]; simp
        | _ => rfl

theorem Kept.refl (w : World) : Kept w w := ⟨rfl, rfl, Nat.le_refl _, fun _ _ => rfl, fun k C t fr hk h => by
  rw [Array.getElem?_eq_none hk] at h; cases h⟩

structure Sim (w0 : World) (P : Program) (μ : Mp) (σ : St) (w : World) : Prop where
  kept : Kept w0 w
  dom : ∀ id, σ.next ≤ id → μ id = none
  glob : ∀ g, g < P.globals.size → ∃ p, μ g = some p ∧ p.b = g ∧ p.o = 0
  row : ∀ id p cs m, μ id = some p → σ.get id = some (.cells cs m) → σ.good m = true → RowAt w0 μ w p cs m
  map : ∀ id p es, μ id = some p → σ.get id = some (.map es) → MapAt w0 μ w p es
  off : ∀ i j p q cs ds m n, i ≠ j → μ i = some p → μ j = some q → σ.get i = some (.cells cs m) → σ.get j = some (.cells ds n) → σ.good m = true → σ.good n = true →
    m.wr = true → ¬ sameGrp m n → Off p p.o (p.o + cs.length) q q.o (q.o + ds.length)
  tip : ∀ i j p q cs ds m n, i ≠ j → μ i = some p → μ j = some q → σ.get i = some (.cells cs m) → σ.get j = some (.cells ds n) → σ.good m = true → σ.good n = true →
    m.tip = true → Off p (p.o + cs.length) p.e q q.o (q.o + ds.length) ∧ (n.tip = true → Off p (p.o + cs.length) p.e q (q.o + ds.length) q.e)
  maps : ∀ i j p q es fs, i ≠ j → μ i = some p → μ j = some q → σ.get i = some (.map es) → σ.get j = some (.map fs) → p.b ≠ q.b
  vers : ∀ id cs m g v, σ.get id = some (.cells cs m) → m.grp = some (g, v) → v ≤ σ.ver g

theorem Off.symm {p q : Place} {a b c d : Nat} (h : Off p a b q c d) : Off q c d p a b := fun e x h1 h2 h3 h4 => h e.symm x h3 h4 h1 h2

theorem St.get_put (σ : St) (id k : Nat) (o : AObj) : (σ.put id o).get k = if k = id then some o else σ.get k := Tr.get_set _ _ _ _
theorem St.ver_put (σ : St) (id g : Nat) (o : AObj) : (σ.put id o).ver g = σ.ver g := rfl
theorem St.next_put (σ : St) (id : Nat) (o : AObj) : (σ.put id o).next = σ.next := rfl
theorem St.good_put (σ : St) (id : Nat) (o : AObj) (m : Mta) : (σ.put id o).good m = σ.good m := rfl
theorem St.get_bump (σ : St) (g v k : Nat) : (σ.bump g v).get k = σ.get k := rfl
theorem St.next_bump (σ : St) (g v : Nat) : (σ.bump g v).next = σ.next := rfl
theorem St.ver_bump (σ : St) (g v k : Nat) : (σ.bump g v).ver k = if k = g then v else σ.ver k := by
  simp only [St.ver, St.bump, Tr.get_set]; split <;> rfl
theorem St.good_iff (σ : St) (m : Mta) : σ.good m = true ↔ ∀ g v, m.grp = some (g, v) → σ.ver g = v := by
  unfold St.good
  cases hm : m.grp with
  | none => simp
  | some x => obtain ⟨g, v⟩ := x; simp [nbeq]

theorem St.row_some {σ : St} {id : Nat} {cs : List Value} {m : Mta} (h : σ.row id = some (cs, m)) : σ.get id = some (.cells cs m) ∧ σ.good m = true := by
  unfold St.row at h
  split at h
  · rename_i cs' m' hg
    cases hb : σ.good m' with
    | true => simp only [hb, cond_true, Option.some.injEq, Prod.mk.injEq] at h; obtain ⟨rfl, rfl⟩ := h; exact ⟨hg, hb⟩
    | false => simp [hb] at h
  · cases h

end Go.AI
