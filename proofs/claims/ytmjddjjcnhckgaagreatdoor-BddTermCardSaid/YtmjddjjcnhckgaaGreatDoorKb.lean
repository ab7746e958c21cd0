import Derived.Test.YtmjddjjcnhckgaaGreatDoorKa
import Derived.Laws.BytesString
set_option linter.unusedVariables false
set_option linter.unusedSimpArgs false
set_option linter.constructorNameAsVariable false
namespace Go.AI
theorem Tr.get_nil {α : Type} (n : Nat) : (Tr.nil : Tr α).get n = none := rfl
theorem nbeq (a b : Nat) : Nat.beq a b = decide (a = b) := by
 cases h : Nat.beq a b with
 | true => simp [Nat.eq_of_beq_eq_true h]
 | false => simp [Nat.ne_of_beq_eq_false h]
theorem nble (a b : Nat) : Nat.ble a b = decide (a ≤ b) := by
 cases h : Nat.ble a b with
 | true => simp [Nat.le_of_ble_eq_true h]
 | false => symm; rw [decide_eq_false_iff_not]; intro hl; rw [Nat.ble_eq_true_of_le hl] at h; cases h
theorem nblt (a b : Nat) : Nat.blt a b = decide (a < b) := by
 simp [Nat.blt, nble, Nat.succ_le_iff]
theorem Tr.get_node {α : Type} (v : Option α) (l r : Tr α) (n : Nat) : (Tr.node v l r).get n = if n = 0 then v else if n % 2 = 1 then l.get (n / 2) else r.get (n / 2 - 1) := by
 simp only [Tr.get, nbeq, Bool.cond_decide]
theorem Tr.get_setF {α : Type} : ∀ (f : Nat) (t : Tr α) (n m : Nat) (x : α), n < f → (Tr.setF f t n x).get m = if m = n then some x else t.get m := by
 intro f
 induction f with
 | zero => intro t n m x h; omega
 | succ f ih =>
  intro t n m x h
  cases t with
  | nil =>
   simp only [Tr.setF, nbeq, Bool.cond_decide]
   split
   ·rename_i hn; subst hn
    simp only [Tr.get_node, Tr.get_nil]
    split <;> simp
   ·split
    ·simp only [Tr.get_node, Tr.get_nil]
     split
     ·rw [if_neg (by omega)]
     ·split
      ·rw [ih _ _ _ _ (by omega), Tr.get_nil]
       by_cases e : m = n
       ·subst e; simp
       ·rw [if_neg e, if_neg (by omega)]
      ·rw [if_neg (by omega)]
    ·simp only [Tr.get_node, Tr.get_nil]
     split
     ·rw [if_neg (by omega)]
     ·split
      ·rw [if_neg (by omega)]
      ·rw [ih _ _ _ _ (by omega), Tr.get_nil]
       by_cases e : m = n
       ·subst e; simp
       ·rw [if_neg e, if_neg (by omega)]
  | node v l r =>
   simp only [Tr.setF, nbeq, Bool.cond_decide]
   split
   ·rename_i hn; subst hn
    simp only [Tr.get_node]
    split <;> simp_all
   ·split
    ·simp only [Tr.get_node]
     split
     ·rw [if_neg (by omega)]
     ·split
      ·rw [ih _ _ _ _ (by omega)]
       by_cases e : m = n
       ·subst e; simp
       ·rw [if_neg e, if_neg (by omega)]
      ·rw [if_neg (by omega)]
    ·simp only [Tr.get_node]
     split
     ·rw [if_neg (by omega)]
     ·split
      ·rw [if_neg (by omega)]
      ·rw [ih _ _ _ _ (by omega)]
       by_cases e : m = n
       ·subst e; simp
       ·rw [if_neg e, if_neg (by omega)]
theorem Tr.get_set {α : Type} (t : Tr α) (n m : Nat) (x : α) : (t.set n x).get m = if m = n then some x else t.get m :=
 Tr.get_setF _ _ _ _ _ (Nat.lt_succ_self n)
theorem still_run {α : Type} {P : Program} {s : Sem α} {a : α} (h : still P s = some a) (w : World) : s.run P w = .ok a w := by
 induction s with
 | pure b => simp only [still, Option.some.injEq] at h; subst h; rfl
 | program k ih => simp only [still] at h; exact ih _ h
 | mark m k ih => simp only [still] at h; exact ih h
 | _ => simp [still] at h
theorem still_bind {α β : Type} {P : Program} (s : Sem α) (k : α → Sem β) : still P (s >>= k) = (still P s).bind fun a => still P (k a) := by
 induction s with
 | pure b => rfl
 | program k ih => exact ih _
 | mark m k ih => exact ih
 | _ => rfl
theorem still_pure {α : Type} {P : Program} (a : α) : still P (pure a : Sem α) = some a := rfl
structure Place where
 b : Nat
 o : Nat
 e : Nat
 z : Nat
abbrev Mp := Nat → Option Place
inductive VR (μ : Mp) : Value → Value → Prop where
 | same (v : Value) (h : plain0 v = true) : VR μ v v
 | ptr (id off : Nat) (p : Place) (h : μ id = some p) : VR μ (.pointer (some ⟨id, off, none⟩)) (.pointer (some ⟨p.b, p.o + off, none⟩))
 | slc (id off len c cap : Nat) (p : Place) (h : μ id = some p) (hc : c = len → cap = len) (hl : len ≤ cap) (he : p.o + off + cap * p.z ≤ p.e) :
      VR μ (.slice (some ⟨id, off, none⟩) len c) (.slice (some ⟨p.b, p.o + off, none⟩) len cap)
 | emp (a : Addr) (cap : Nat) : VR μ (.slice (some ⟨0, 0, some 0⟩) 0 0) (.slice (some a) 0 cap)
 | mp (id : Nat) (p : Place) (h : μ id = some p) : VR μ (.map (some id)) (.map (some p.b))
 | fn (f : Fn) (xs ys us vs : Array Value) (hl : xs.toList.length = us.toList.length) (h : ∀ (i : Nat) (x u : Value), xs.toList[i]? = some x → us.toList[i]? = some u → VR μ x u)
      (hl' : ys.toList.length = vs.toList.length) (h' : ∀ (i : Nat) (x u : Value), ys.toList[i]? = some x → vs.toList[i]? = some u → VR μ x u) : VR μ (.func f xs ys) (.func f us vs)
 | iface (t : TypeId) (x u : Value) (h : VR μ x u) : VR μ (.iface t x) (.iface t u)
 | agg (xs us : Array Value) (hl : xs.toList.length = us.toList.length) (h : ∀ (i : Nat) (x u : Value), xs.toList[i]? = some x → us.toList[i]? = some u → VR μ x u) : VR μ (.agg xs) (.agg us)
 | tuple (xs us : Array Value) (hl : xs.toList.length = us.toList.length) (h : ∀ (i : Nat) (x u : Value), xs.toList[i]? = some x → us.toList[i]? = some u → VR μ x u) : VR μ (.tuple xs) (.tuple us)
def VRL (μ : Mp) (xs us : List Value) : Prop := xs.length = us.length ∧ ∀ (i : Nat) (x u : Value), xs[i]? = some x → us[i]? = some u → VR μ x u
def Ext (n : Nat) (μ μ' : Mp) : Prop := (∀ id p, μ id = some p → μ' id = some p) ∧ ∀ id, id < n → μ' id = μ id
theorem Ext.refl (n : Nat) (μ : Mp) : Ext n μ μ := ⟨fun _ _ h => h, fun _ _ => rfl⟩
theorem Ext.trans {n n' : Nat} {μ μ' μ'' : Mp} (h : Ext n μ μ') (h' : Ext n' μ' μ'') (hn : n ≤ n') : Ext n μ μ'' :=
 ⟨fun id p e => h'.1 id p (h.1 id p e), fun id hi => (h'.2 id (by omega)).trans (h.2 id hi)⟩
theorem Ext.mono {n n' : Nat} {μ μ' : Mp} (h : Ext n μ μ') (hn : n' ≤ n) : Ext n' μ μ' := ⟨h.1, fun id hi => h.2 id (by omega)⟩
theorem VR.mono' {μ μ' : Mp} (h : ∀ id p, μ id = some p → μ' id = some p) {v u : Value} (r : VR μ v u) : VR μ' v u := by
 induction r with
 | same v hv => exact .same v hv
 | ptr id off p hp => exact .ptr id off p (h _ _ hp)
 | slc id off len c cap p hp hc hl he => exact .slc id off len c cap p (h _ _ hp) hc hl he
 | emp a cap => exact .emp a cap
 | mp id p hp => exact .mp id p (h _ _ hp)
 | fn f xs ys us vs hl _ hl' _ ih ih' => exact .fn f xs ys us vs hl ih hl' ih'
 | iface t x u _ ih => exact .iface t x u ih
 | agg xs us hl _ ih => exact .agg xs us hl ih
 | tuple xs us hl _ ih => exact .tuple xs us hl ih
theorem VRL.mono' {μ μ' : Mp} (h : ∀ id p, μ id = some p → μ' id = some p) {xs us : List Value} (r : VRL μ xs us) : VRL μ' xs us :=
 ⟨r.1, fun i x u hx hu => (r.2 i x u hx hu).mono' h⟩
theorem VR.mono {n : Nat} {μ μ' : Mp} (h : Ext n μ μ') {v u : Value} (r : VR μ v u) : VR μ' v u := r.mono' h.1
theorem VRL.mono {n : Nat} {μ μ' : Mp} (h : Ext n μ μ') {xs us : List Value} (r : VRL μ xs us) : VRL μ' xs us := r.mono' h.1
section
variable {μ : Mp}
theorem VR.eq0 {v u : Value} (r : VR μ v u) (h : plain0 v = true) : u = v := by
 cases r <;> first | rfl | simp [plain0] at h
theorem VRL.nil : VRL μ [] [] := ⟨rfl, fun i x u h => by simp at h⟩
theorem VRL.cons {x u : Value} {xs us : List Value} (h : VR μ x u) (r : VRL μ xs us) : VRL μ (x :: xs) (u :: us) := by
 refine ⟨by simp [r.1], fun i y v hy hv => ?_⟩
 cases i with
 | zero => simp at hy hv; subst hy; subst hv; exact h
 | succ i => simp at hy hv; exact r.2 i y v hy hv
theorem VRL.cons_inv {x : Value} {xs us : List Value} (r : VRL μ (x :: xs) us) : ∃ u vs, us = u :: vs ∧ VR μ x u ∧ VRL μ xs vs := by
 cases us with
 | nil => have := r.1; simp at this
 | cons u vs => exact ⟨u, vs, rfl, r.2 0 x u (by simp) (by simp), by simpa using r.1, fun i y v hy hv => r.2 (i + 1) y v (by simpa using hy) (by simpa using hv)⟩
theorem VRL.nil_inv {us : List Value} (r : VRL μ [] us) : us = [] := by
 have := r.1; simpa using this.symm
theorem VRL.get {xs us : List Value} (r : VRL μ xs us) {i : Nat} {x : Value} (h : xs[i]? = some x) : ∃ u, us[i]? = some u ∧ VR μ x u := by
 have hi : i < xs.length := by
  rcases Nat.lt_or_ge i xs.length with h' | h'
  ·exact h'
  ·simp [List.getElem?_eq_none h'] at h
 have : us[i]? = some (us[i]'(r.1 ▸ hi)) := List.getElem?_eq_getElem _
 exact ⟨_, this, r.2 i x _ h this⟩
theorem VRL.append {xs us ys vs : List Value} (r : VRL μ xs us) (s : VRL μ ys vs) : VRL μ (xs ++ ys) (us ++ vs) := by
 induction xs generalizing us with
 | nil => rw [r.nil_inv]; exact s
 | cons x xs ih => obtain ⟨u, us', rfl, h, r'⟩ := r.cons_inv; exact .cons h (ih r')
theorem VRL.eq0 {xs us : List Value} (r : VRL μ xs us) (h : xs.all plain0 = true) : us = xs := by
 induction xs generalizing us with
 | nil => exact r.nil_inv
 | cons x xs ih =>
  obtain ⟨u, us', rfl, hx, r'⟩ := r.cons_inv
  simp only [List.all_cons, Bool.and_eq_true] at h
  rw [hx.eq0 h.1, ih r' h.2]
theorem VRL.same {xs : List Value} (h : xs.all plain0 = true) : VRL μ xs xs := by
 induction xs with
 | nil => exact .nil
 | cons x xs ih =>
  simp only [List.all_cons, Bool.and_eq_true] at h
  exact .cons (.same x h.1) (ih h.2)
theorem VR.agg_inv {xs : Array Value} {u : Value} (r : VR μ (.agg xs) u) : ∃ us, u = .agg us ∧ VRL μ xs.toList us.toList := by
 cases r with
 | same _ h => simp [plain0] at h
 | agg _ us hl h => exact ⟨us, rfl, hl, h⟩
theorem VR.tuple_inv {xs : Array Value} {u : Value} (r : VR μ (.tuple xs) u) : ∃ us, u = .tuple us ∧ VRL μ xs.toList us.toList := by
 cases r with
 | same _ h => simp [plain0] at h
 | tuple _ us hl h => exact ⟨us, rfl, hl, h⟩
theorem VR.mkAgg {xs us : List Value} (r : VRL μ xs us) : VR μ (.agg xs.toArray) (.agg us.toArray) := .agg _ _ (by simpa using r.1) (by simpa using r.2)
theorem VR.mkAgg' {xs us : Array Value} (r : VRL μ xs.toList us.toList) : VR μ (.agg xs) (.agg us) := .agg _ _ r.1 r.2
theorem VR.mkTuple {xs us : List Value} (r : VRL μ xs us) : VR μ (.tuple xs.toArray) (.tuple us.toArray) := .tuple _ _ (by simpa using r.1) (by simpa using r.2)
theorem VR.eq1 {v u : Value} (r : VR μ v u) (h : plain1 v = true) : u = v := by
 cases v with
 | agg cs =>
  obtain ⟨us, rfl, hl⟩ := r.agg_inv
  have := hl.eq0 (by simpa [plain1] using h)
  rw [Array.toList_inj.1 this]
 | _ => exact r.eq0 (by simpa [plain1] using h)
theorem VR.same1 {v : Value} (h : plain1 v = true) : VR μ v v := by
 cases v with
 | agg cs => exact .mkAgg' (.same (by simpa [plain1] using h))
 | _ => exact .same _ (by simpa [plain1] using h)
theorem VR.undef : VR μ Go.undef Go.undef := .tuple _ _ rfl (fun i x u h => by simp at h)
theorem VR.cells {v u : Value} (r : VR μ v u) : VRL μ v.cells.toList u.cells.toList := by
 cases r with
 | same v h =>
  have hc : v.cells = #[v] := by cases v <;> first | rfl | simp [plain0] at h
  rw [hc]; exact .same (by simpa using h)
 | agg xs us hl h => exact ⟨hl, h⟩
 | ptr id off p h => exact .cons (.ptr id off p h) .nil
 | slc id off len c cap p h hc hl he => exact .cons (.slc id off len c cap p h hc hl he) .nil
 | emp a cap => exact .cons (.emp a cap) .nil
 | mp id p h => exact .cons (.mp id p h) .nil
 | fn f xs ys us vs hl h hl' h' => exact .cons (.fn f xs ys us vs hl h hl' h') .nil
 | iface t x u h => exact .cons (.iface t x u h) .nil
 | tuple xs us hl h => exact .cons (.tuple xs us hl h) .nil
theorem VR.one_eq {v u : Value} (r : VR μ v u) : one u = one v := by
 cases r <;> rfl
theorem VRL.one_eq {xs us : List Value} (r : VRL μ xs us) : us.all one = xs.all one := by
 induction xs generalizing us with
 | nil => rw [r.nil_inv]
 | cons x xs ih => obtain ⟨u, us', rfl, h, r'⟩ := r.cons_inv; simp [h.one_eq, ih r']
theorem VRL.drop {xs us : List Value} (r : VRL μ xs us) (n : Nat) : VRL μ (xs.drop n) (us.drop n) :=
 ⟨by simp [r.1], fun i x u hx hu => r.2 (n + i) x u (by simpa using hx) (by simpa using hu)⟩
theorem VRL.take {xs us : List Value} (r : VRL μ xs us) (n : Nat) : VRL μ (xs.take n) (us.take n) := by
 refine ⟨by simp [r.1], fun i x u hx hu => ?_⟩
 rw [List.getElem?_take] at hx hu
 split at hx
 ·rename_i hi; rw [if_pos hi] at hu; exact r.2 i x u hx hu
 ·cases hx
theorem VRL.set {xs us : List Value} (r : VRL μ xs us) {x u : Value} (h : VR μ x u) (n : Nat) : VRL μ (xs.set n x) (us.set n u) := by
 refine ⟨by simp [r.1], fun i y v hy hv => ?_⟩
 rw [List.getElem?_set] at hy hv
 split at hy
 ·rename_i e
  rw [if_pos e] at hv
  split at hy
  ·split at hv
   ·simp at hy hv; subst hy; subst hv; exact h
   ·cases hv
  ·cases hy
 ·rename_i e; rw [if_neg e] at hv; exact r.2 i y v hy hv
theorem VRL.toArray_cells {xs us : List Value} (r : VRL μ xs us) : VRL μ xs.toArray.toList us.toArray.toList := by simpa using r
end
def Off (p : Place) (lo hi : Nat) (q : Place) (lo' hi' : Nat) : Prop := p.b = q.b → ∀ x, lo ≤ x → x < hi → lo' ≤ x → x < hi' → False
structure RowAt (w0 : World) (μ : Mp) (w : World) (p : Place) (cs : List Value) (m : Mta) : Prop where
 row : ∃ C t fr, w.heap[p.b]? = some (.cells C t fr) ∧ (∀ (i : Nat) (v : Value), cs[i]? = some v → ∃ u, C[p.o + i]? = some u ∧ VR μ v u) ∧ (m.tip = true → p.e ≤ C.size)
 wr : m.wr = true → w0.heap.size ≤ p.b
 tip : m.tip = true → p.o + cs.length ≤ p.e
 z : p.z = m.z
structure MapAt (w0 : World) (μ : Mp) (w : World) (p : Place) (es : List (Value × Value)) : Prop where
 map : ∃ ES clock, w.heap[p.b]? = some (.map ES clock) ∧ VRL μ (es.map (·.1)) (ES.toList.map (·.key)) ∧ VRL μ (es.map (·.2)) (ES.toList.map (·.val))
 wr : w0.heap.size ≤ p.b
def sameGrp (m n : Mta) : Prop := ∃ g v v', m.grp = some (g, v) ∧ n.grp = some (g, v')
structure Kept (w0 w : World) : Prop where
 os : w.os = w0.os
 output : w.output = w0.output
 size : w0.heap.size ≤ w.heap.size
 old : ∀ k, k < w0.heap.size → w.heap[k]? = w0.heap[k]?
 new : ∀ k C t fr, w0.heap.size ≤ k → w.heap[k]? = some (.cells C t fr) → fr = (0, 0)
theorem Kept.grown {w0 w : World} (h : Kept w0 w) : RowKit.Grown w0 w := by
 refine ⟨⟨h.os, h.output, fun i hi => ?_⟩, fun a => ?_, h.size⟩
 ·rw [h.old i hi]
  cases w0.heap[i]? with
  | none => trivial
  | some o => cases o <;> first | exact ⟨rfl, rfl, rfl, fun _ _ => rfl⟩ | exact .inr ⟨rfl, rfl⟩ | rfl
 ·by_cases ha : a.block < w0.heap.size
  ·simp only [World.frozen?, h.old _ ha]
  ·have e : w0.heap[a.block]? = none := by simp; omega
   simp only [World.frozen?, e]
   cases hb : w.heap[a.block]? with
   | none => rfl
   | some o =>
    cases o with
    | cells C t fr => rw [h.new _ _ _ _ (by omega) hb]; simp
    | _ => rfl
theorem Kept.refl (w : World) : Kept w w := ⟨rfl, rfl, Nat.le_refl _, fun _ _ => rfl, fun k C t fr hk h => by
 rw [Array.getElem?_eq_none hk] at h; cases h⟩
structure Sim (w0 : World) (P : Program) (μ : Mp) (σ : St) (w : World) : Prop where
 kept : Kept w0 w
 dom : ∀ id, σ.next ≤ id → μ id = none
 glob : ∀ g, g < P.globals.size → ∃ p, μ g = some p ∧ p.b = g ∧ p.o = 0
 row : ∀ id p cs m, μ id = some p → σ.get id = some (.cells cs m) → σ.good m = true → RowAt w0 μ w p cs m
 map : ∀ id p es, μ id = some p → σ.get id = some (.map es) → MapAt w0 μ w p es
 off : ∀ i j p q cs ds m n, i ≠ j → μ i = some p → μ j = some q → σ.get i = some (.cells cs m) → σ.get j = some (.cells ds n) → σ.good m = true → σ.good n = true →
  m.wr = true → ¬ sameGrp m n → Off p p.o (p.o + cs.length) q q.o (q.o + ds.length)
 tip : ∀ i j p q cs ds m n, i ≠ j → μ i = some p → μ j = some q → σ.get i = some (.cells cs m) → σ.get j = some (.cells ds n) → σ.good m = true → σ.good n = true →
  m.tip = true → Off p (p.o + cs.length) p.e q q.o (q.o + ds.length) ∧ (n.tip = true → Off p (p.o + cs.length) p.e q (q.o + ds.length) q.e)
 maps : ∀ i j p q es fs, i ≠ j → μ i = some p → μ j = some q → σ.get i = some (.map es) → σ.get j = some (.map fs) → p.b ≠ q.b
 vers : ∀ id cs m g v, σ.get id = some (.cells cs m) → m.grp = some (g, v) → v ≤ σ.ver g
 lim : ∀ i j p q cs ds m n, i ≠ j → μ i = some p → μ j = some q → σ.get i = some (.cells cs m) → σ.get j = some (.cells ds n) → σ.good m = true → σ.good n = true →
  m.tip = true → Off p (p.o + m.lim) (p.o + cs.length) q q.o (q.o + ds.length)
theorem Off.symm {p q : Place} {a b c d : Nat} (h : Off p a b q c d) : Off q c d p a b := fun e x h1 h2 h3 h4 => h e.symm x h3 h4 h1 h2
theorem St.get_put (σ : St) (id k : Nat) (o : AObj) : (σ.put id o).get k = if k = id then some o else σ.get k := Tr.get_set _ _ _ _
theorem St.ver_put (σ : St) (id g : Nat) (o : AObj) : (σ.put id o).ver g = σ.ver g := rfl
theorem St.next_put (σ : St) (id : Nat) (o : AObj) : (σ.put id o).next = σ.next := rfl
theorem St.good_put (σ : St) (id : Nat) (o : AObj) (m : Mta) : (σ.put id o).good m = σ.good m := rfl
theorem St.get_bump (σ : St) (g v k : Nat) : (σ.bump g v).get k = σ.get k := rfl
theorem St.ver_bump (σ : St) (g v k : Nat) : (σ.bump g v).ver k = if k = g then v else σ.ver k := by
 simp only [St.ver, St.bump, Tr.get_set]; split <;> rfl
theorem St.good_iff (σ : St) (m : Mta) : σ.good m = true ↔ ∀ g v, m.grp = some (g, v) → σ.ver g = v := by
 unfold St.good
 cases hm : m.grp with
 | none => simp
 | some x => obtain ⟨g, v⟩ := x; simp [nbeq]
theorem St.row_some {σ : St} {id : Nat} {cs : List Value} {m : Mta} (h : σ.row id = some (cs, m)) : σ.get id = some (.cells cs m) ∧ σ.good m = true := by
 unfold St.row at h
 split at h
 ·rename_i cs' m' hg
  cases hb : σ.good m' with
  | true => simp only [hb, cond_true, Option.some.injEq, Prod.mk.injEq] at h; obtain ⟨rfl, rfl⟩ := h; exact ⟨hg, hb⟩
  | false => simp [hb] at h
 ·cases h
end Go.AI
namespace Go.AI
section
variable {P : Program} {μ : Mp}
theorem still_typeInfo (t : TypeId) : still P (typeInfo t) = P.info? t := by
 unfold typeInfo
 simp only [bind, Sem.bind, program, still]
 cases P.info? t <;> rfl
theorem still_underlying (t : TypeId) : still P (underlying t) = P.underlying t := by
 unfold underlying
 simp only [bind, Sem.bind, program, still]
 cases P.underlying t <;> rfl
theorem still_sizeOf (t : TypeId) : still P (Go.sizeOf t) = szOf P t := by
 unfold Go.sizeOf szOf
 rw [still_bind, still_typeInfo]
 cases P.info? t <;> rfl
theorem still_isAgg (t : TypeId) : still P (isAgg t) = aggOf P t := by
 unfold isAgg aggOf
 rw [still_bind, still_underlying]
 cases h : P.underlying t with
 | none => rfl
 | some d => cases d <;> rfl
theorem stillP_ok {s : Sem Value} {v : Value} (h : stillP P s = some v) : ∃ v', still P s = some v' ∧ VR μ v v' := by
 unfold stillP at h
 split at h <;> try cases h
 rename_i u hu
 cases hp : plain1 u with
 | false => simp [hp] at h
 | true => simp only [hp, cond_true, Option.some.injEq] at h; subst h; exact ⟨u, hu, .same1 hp⟩
theorem VRL.extract {xs us : Array Value} (r : VRL μ xs.toList us.toList) (i j : Nat) : VRL μ (xs.extract i j).toList (us.extract i j).toList := by
 simp only [Array.toList_extract, List.extract_eq_take_drop]
 exact (r.drop i).take (j - i)
theorem VRL.size {xs us : Array Value} (r : VRL μ xs.toList us.toList) : xs.size = us.size := by simpa using r.1
theorem apart_ok {t : TypeId} {cs us : Array Value} {off : Nat} {v : Value} (r : VRL μ cs.toList us.toList) (h : apart P t cs off = some v) : ∃ v', still P (part t us off) = some v' ∧ VR μ v v' := by
 unfold apart at h
 unfold part
 rw [still_bind, still_isAgg]
 cases ha : aggOf P t with
 | none => simp [ha] at h
 | some b =>
  cases b with
  | true =>
   simp only [ha] at h
   cases hs : szOf P t with
   | none => simp [hs] at h
   | some n =>
    simp only [hs, Option.some.injEq] at h
    subst h
    refine ⟨.agg (us.extract off (off + n)), ?_, .mkAgg' (r.extract _ _)⟩
    simp only [Option.bind_some, if_true, still_bind, still_sizeOf, hs, still_pure]
  | false =>
   simp only [ha] at h
   obtain ⟨u, hu, hr⟩ := r.get (i := off) (x := v) (by simpa using h)
   refine ⟨u, ?_, hr⟩
   have : us[off]? = some u := by simpa using hu
   simp [this, still_pure]
theorem fill_fold (place : Nat) : ∀ (c c' : List Value) (k : Nat) (A A' : Array Value), VRL μ c c' → VRL μ A.toList A'.toList →
    VRL μ ((c.zipIdx k).foldl (fun (cs : Array Value) x => cs.setIfInBounds (place + x.2) x.1) A).toList ((c'.zipIdx k).foldl (fun (cs : Array Value) x => cs.setIfInBounds (place + x.2) x.1) A').toList := by
 intro c
 induction c with
 | nil => intro c' k A A' hc hA; rw [hc.nil_inv]; simpa using hA
 | cons x c ih =>
  intro c' k A A' hc hA
  obtain ⟨u, c'', rfl, hx, hc'⟩ := hc.cons_inv
  simp only [List.zipIdx_cons, List.foldl_cons]
  refine ih _ _ _ _ hc' ?_
  simp only [Array.toList_setIfInBounds]
  exact hA.set hx _
def PR (μ : Mp) : List (Nat × Value) → List (Nat × Value) → Prop
 | [], [] => True
 | (i, x) :: xs, (j, u) :: us => i = j ∧ VR μ x u ∧ PR μ xs us
 | _, _ => False
theorem fill_ok (place : Nat → Option (Nat × Nat)) : ∀ (ps qs : List (Nat × Value)) (A A' : Array Value) (r : Array Value), PR μ ps qs → VRL μ A.toList A'.toList → Instr.fill place A ps = some r →
    ∃ r', Instr.fill place A' qs = some r' ∧ VRL μ r.toList r'.toList := by
 intro ps
 induction ps with
 | nil =>
  intro qs A A' r hp hA h
  cases qs with
  | nil => simp only [Instr.fill, Option.some.injEq] at h; subst h; exact ⟨A', rfl, hA⟩
  | cons q qs => exact hp.elim
 | cons p ps ih =>
  intro qs A A' r hp hA h
  obtain ⟨i, x⟩ := p
  cases qs with
  | nil => exact hp.elim
  | cons q qs =>
   obtain ⟨j, u⟩ := q
   obtain ⟨rfl, hx, hp'⟩ := hp
   have hsz : u.cells.size = x.cells.size := (hx.cells.size).symm
   have hsA : A'.size = A.size := hA.size.symm
   simp only [Instr.fill] at h ⊢
   cases hpl : place i with
   | none => simp [hpl] at h
   | some os =>
    obtain ⟨off, size⟩ := os
    simp only [hpl] at h ⊢
    rw [hsz, hsA]
    split at h
    ·cases h
    ·rename_i hn
     rw [if_neg hn]
     refine ih _ _ _ _ hp' ?_ h
     have := fill_fold (μ := μ) off x.cells.toList u.cells.toList 0 A A' hx.cells hA
     rw [← Array.foldl_toList, ← Array.foldl_toList, Array.toList_zipIdx, Array.toList_zipIdx]; exact this
theorem PR_map {ρ ρ' : Operand → Value} (l : List (Nat × Operand)) (h : ∀ x ∈ l, VR μ (ρ x.2) (ρ' x.2)) : PR μ (l.map fun (i, x) => (i, ρ x)) (l.map fun (i, x) => (i, ρ' x)) := by
 induction l with
 | nil => trivial
 | cons x l ih => exact ⟨rfl, h x (by simp), ih fun y hy => h y (by simp [hy])⟩
theorem VRL_map {ρ ρ' : Operand → Value} (l : List Operand) (h : ∀ x ∈ l, VR μ (ρ x) (ρ' x)) : VRL μ (l.map ρ) (l.map ρ') := by
 induction l with
 | nil => exact .nil
 | cons x l ih => exact .cons (h x (by simp)) (ih fun y hy => h y (by simp [hy]))
theorem abuild_ok {t : TypeId} {ps qs : Array (Nat × Value)} {v : Value} (r : PR μ ps.toList qs.toList) (h : abuild P t ps = some v) : ∃ v', still P (Instr.build t qs) = some v' ∧ VR μ v v' := by
 unfold abuild at h
 cases hz : still P (zeroValue t) with
 | none => simp [hz] at h
 | some z =>
  simp only [hz] at h
  cases hp : z.cells.toList.all plain0 with
  | false => simp [hp] at h
  | true =>
   simp only [hp, cond_true] at h
   unfold Instr.build
   simp only [still_bind, hz, Option.bind_some, still_underlying]
   cases hu : P.underlying t with
   | none => simp [hu] at h
   | some d =>
    simp only [hu] at h
    cases d with
    | struct fs =>
     simp only at h
     cases hm : still P (fs.mapM fun f => do pure (f.offset, ← Go.sizeOf f.type)) with
     | none => rw [hm] at h; cases h
     | some places =>
      simp only [hm, Option.map_eq_some_iff] at h
      obtain ⟨cs, hf, rfl⟩ := h
      obtain ⟨cs', hf', hr⟩ := fill_ok _ _ _ _ _ _ r (VRL.same hp) hf
      refine ⟨.agg cs', ?_, .mkAgg' hr⟩
      simp only [Option.bind_some, still_bind, hm]
      rw [hf']
      rfl
    | array n e =>
     simp only at h
     cases hs : szOf P e with
     | none => simp [hs] at h
     | some s =>
      simp only [hs, Option.map_eq_some_iff] at h
      obtain ⟨cs, hf, rfl⟩ := h
      obtain ⟨cs', hf', hr⟩ := fill_ok _ _ _ _ _ _ r (VRL.same hp) hf
      refine ⟨.agg cs', ?_, .mkAgg' hr⟩
      simp only [Option.bind_some, still_bind, still_sizeOf, hs]
      rw [hf']
      rfl
    | _ => simp at h
theorem add_none (id off n : Nat) : (Addr.mk id off none).add n = ⟨id, off + n, none⟩ := by
 unfold Addr.add; split
 ·rename_i h; subst h; rfl
 ·rfl
theorem VR.ptr_inv {id off : Nat} {u : Value} (r : VR μ (.pointer (some ⟨id, off, none⟩)) u) : ∃ p, μ id = some p ∧ u = .pointer (some ⟨p.b, p.o + off, none⟩) := by
 cases r with
 | same _ h => simp [plain0] at h
 | ptr _ _ p h => exact ⟨p, h, rfl⟩
theorem VR.slc_inv {id off len c : Nat} {u : Value} (r : VR μ (.slice (some ⟨id, off, none⟩) len c) u) :
    ∃ p cap, μ id = some p ∧ u = .slice (some ⟨p.b, p.o + off, none⟩) len cap ∧ (c = len → cap = len) ∧ len ≤ cap ∧ p.o + off + cap * p.z ≤ p.e := by
 cases r with
 | same _ h => simp [plain0] at h
 | slc _ _ _ _ cap p h hc hl he => exact ⟨p, cap, h, rfl, hc, hl, he⟩
theorem VR.nilslc_inv {len c : Nat} {u : Value} (r : VR μ (.slice none len c) u) : len = 0 ∧ c = 0 ∧ u = .slice none 0 0 := by
 cases r with
 | same _ h => simp only [plain0, nbeq, Bool.and_eq_true, decide_eq_true_eq] at h; obtain ⟨rfl, rfl⟩ := h; exact ⟨rfl, rfl, rfl⟩
theorem VR.int_inv {k : IntKind} {n : Int} {u : Value} (r : VR μ (.int k n) u) : u = .int k n := r.eq0 rfl
theorem VR.bool_inv {b : Bool} {u : Value} (r : VR μ (.bool b) u) : u = .bool b := r.eq0 rfl
theorem VR.string_inv {s : ByteArray} {u : Value} (r : VR μ (.string s) u) : u = .string s := r.eq0 rfl
theorem afieldAddr_ok {s : TypeId} {a b v : Value} {f : Nat} (r : VR μ a b) (h : afieldAddr P s a f = some v) : ∃ v', still P (Instr.fieldAt s b f) = some v' ∧ VR μ v v' := by
 unfold afieldAddr at h
 unfold Instr.fieldAt
 rw [still_bind, still_underlying]
 split at h <;> try cases h
 rename_i fs hu
 split at h <;> try cases h
 rename_i fd hf
 split at h <;> try cases h
 rename_i n hn
 split at h <;> try cases h
 rename_i id off
 obtain ⟨p, hp, rfl⟩ := r.ptr_inv
 rw [nbeq, Bool.cond_decide] at h
 split at h
 ·cases h
 ·rename_i hn0
  cases h
  refine ⟨.pointer (some ⟨p.b, p.o + (off + fd.offset), none⟩), ?_, .ptr _ _ p hp⟩
  simp only [hu, Option.bind_some, hf, Instr.sureAddr, still_bind, still_pure, fieldPlace, still_sizeOf, hn, if_neg hn0, add_none, Nat.add_assoc]
theorem afield_ok {t : TypeId} {a b v : Value} {f : Nat} (r : VR μ a b) (h : afield P t a f = some v) : ∃ v', still P (Instr.field t b f) = some v' ∧ VR μ v v' := by
 unfold afield at h
 unfold Instr.field
 rw [still_bind, still_underlying]
 split at h <;> try cases h
 rename_i fs hu
 split at h <;> try cases h
 rename_i fd hf
 split at h <;> try cases h
 obtain ⟨us, rfl, hl⟩ := r.agg_inv
 obtain ⟨v', hv, hr⟩ := apart_ok hl h
 refine ⟨v', ?_, hr⟩
 simp only [hu, Option.bind_some, hf, asAgg, still_bind, still_pure, hv]
theorem inRange_iff {i : Int} {n : Nat} : inRange i n = true ↔ 0 ≤ i ∧ i < (n : Int) := by simp [inRange]
theorem aindexAddr_ok {t : TypeId} {a b i j v : Value} (r : VR μ a b) (ri : VR μ i j) (h : aindexAddr P t a i = some v) : ∃ v', still P (Instr.indexAt t b j) = some v' ∧ VR μ v v' := by
 unfold aindexAddr at h
 unfold Instr.indexAt
 split at h <;> try cases h
 rename_i k n
 obtain rfl := ri.int_inv
 rw [still_bind]
 simp only [asIntOf, still_pure, Option.bind_some]
 rw [still_bind, still_underlying]
 split at h <;> try cases h
 ·rename_i e hu
  split at h <;> try cases h
  rename_i id off len c
  obtain ⟨p, cap, hp, rfl, _⟩ := r.slc_inv
  split at h <;> try cases h
  rename_i z hz
  cases hin : inRange n len with
  | false => simp [hin] at h
  | true =>
   simp only [hin, cond_true, Option.some.injEq] at h
   subst h
   rw [inRange_iff] at hin
   refine ⟨.pointer (some ⟨p.b, p.o + (off + n.toNat * z), none⟩), ?_, .ptr _ _ p hp⟩
   simp only [hu, Option.bind_some, still_bind, still_pure, still_underlying, if_pos hin, still_sizeOf, hz, add_none, Nat.add_assoc]
 ·rename_i len e hu
  split at h <;> try cases h
  rename_i id off
  obtain ⟨p, hp, rfl⟩ := r.ptr_inv
  split at h <;> try cases h
  rename_i z hz
  cases hin : inRange n len with
  | false => simp [hin] at h
  | true =>
   simp only [hin, cond_true, Option.some.injEq] at h
   subst h
   rw [inRange_iff] at hin
   refine ⟨.pointer (some ⟨p.b, p.o + (off + n.toNat * z), none⟩), ?_, .ptr _ _ p hp⟩
   simp only [hu, Option.bind_some, still_bind, still_pure, still_underlying, if_pos hin, still_sizeOf, hz, add_none, Nat.add_assoc, Instr.sureAddr]
theorem aindex_ok {t : TypeId} {a b i j v : Value} (r : VR μ a b) (ri : VR μ i j) (h : aindex P t a i = some v) : ∃ v', still P (Instr.index t b j) = some v' ∧ VR μ v v' := by
 unfold aindex at h
 split at h <;> try cases h
 ·rename_i hu
  cases hp : (plain0 a && plain0 i) with
  | false => simp [hp] at h
  | true =>
   simp only [hp, cond_true] at h
   simp only [Bool.and_eq_true] at hp
   obtain rfl := r.eq0 hp.1
   obtain rfl := ri.eq0 hp.2
   exact stillP_ok h
 ·rename_i len e hu
  split at h <;> try cases h
  rename_i k n cs
  obtain rfl := ri.int_inv
  obtain ⟨us, rfl, hl⟩ := r.agg_inv
  split at h <;> try cases h
  rename_i z hz
  cases hin : inRange n len with
  | false => simp [hin] at h
  | true =>
   simp only [hin, cond_true] at h
   rw [inRange_iff] at hin
   obtain ⟨v', hv, hr⟩ := apart_ok hl h
   refine ⟨v', ?_, hr⟩
   unfold Instr.index
   simp only [asIntOf, still_bind, still_pure, Option.bind_some, still_underlying, hu, if_pos hin, still_sizeOf, hz, hv]
theorem sliceBound_ok {n : Int} {k : IntKind} {y : Nat} {code : BoundsCode} (h0 : 0 ≤ n) (h1 : n ≤ (y : Int)) : still P (Instr.sliceBound (.int k n) y code) = some n.toNat := by
 unfold Instr.sliceBound
 simp only [asIntOf, still_bind, still_pure, Option.bind_some]
 rw [if_pos ⟨h0, h1⟩]; rfl
theorem intOpt_some {a : Option Value} {l : Option Int} (h : intOpt a = some l) : (a = none ∧ l = none) ∨ ∃ k n, a = some (.int k n) ∧ l = some n := by
 unfold intOpt at h
 split at h
 ·cases h; exact .inl ⟨rfl, rfl⟩
 ·rename_i k n; cases h; exact .inr ⟨k, n, rfl, rfl⟩
 ·cases h
def OR (μ : Mp) : Option Value → Option Value → Prop
 | none, none => True
 | some x, some u => VR μ x u
 | _, _ => False
theorem OR_map {ρ ρ' : Operand → Value} (x : Option Operand) (h : ∀ y, x = some y → VR μ (ρ y) (ρ' y)) : OR μ (x.map ρ) (x.map ρ') := by
 cases x with
 | none => trivial
 | some y => exact h y rfl
theorem OR.int {a b : Option Value} {l : Option Int} (r : OR μ a b) (h : intOpt a = some l) : b = a := by
 rcases intOpt_some h with ⟨rfl, rfl⟩ | ⟨k, n, rfl, rfl⟩
 ·cases b with
  | none => rfl
  | some x => exact r.elim
 ·cases b with
  | none => exact r.elim
  | some x => rw [VR.int_inv r]
theorem OR.plain {a b : Option Value} (r : OR μ a b) (h : plain0 (a.getD (.bool true)) = true) : b = a := by
 cases a with
 | none => cases b with
  | none => rfl
  | some x => exact r.elim
 | some y => cases b with
  | none => exact r.elim
  | some x => rw [VR.eq0 r h]
theorem sliceBounds_ok {lo hi mx : Option Value} {len cap : Nat} {l h m : Option Int} (hl : intOpt lo = some l) (hh : intOpt hi = some h) (hm : intOpt mx = some m)
    (hmh : m ≠ none → h ≠ none) (h0 : 0 ≤ l.getD 0) (h1 : l.getD 0 ≤ h.getD (len : Int)) (h2 : h.getD (len : Int) ≤ m.getD (cap : Int)) (h3 : m.getD (cap : Int) ≤ (cap : Int)) (h4 : len ≤ cap) :
    still P (Instr.sliceBounds true len cap lo hi mx) = some ((l.getD 0).toNat, (h.getD (len : Int)).toNat, (m.getD (cap : Int)).toNat) := by
 unfold Instr.sliceBounds
 rcases intOpt_some hm with ⟨rfl, rfl⟩ | ⟨km, nm, rfl, rfl⟩
 ·rcases intOpt_some hh with ⟨rfl, rfl⟩ | ⟨kh, nh, rfl, rfl⟩
  ·rcases intOpt_some hl with ⟨rfl, rfl⟩ | ⟨kl, nl, rfl, rfl⟩
   ·simp [still_bind, still_pure]
   ·simp only [Option.getD_none, Option.getD_some] at *
    simp only [still_bind, still_pure, Option.bind_some, sliceBound_ok h0 h1, Int.toNat_natCast]
  ·rcases intOpt_some hl with ⟨rfl, rfl⟩ | ⟨kl, nl, rfl, rfl⟩
   ·simp only [Option.getD_none, Option.getD_some] at *
    simp only [still_bind, still_pure, Option.bind_some, sliceBound_ok (show 0 ≤ nh by omega) h2, Int.toNat_natCast, Int.toNat_zero]
   ·simp only [Option.getD_none, Option.getD_some] at *
    simp only [still_bind, still_pure, Option.bind_some, sliceBound_ok (show 0 ≤ nh by omega) h2, Int.toNat_natCast]
    rw [sliceBound_ok h0 (by omega)]; rfl
 ·rcases intOpt_some hh with ⟨rfl, rfl⟩ | ⟨kh, nh, rfl, rfl⟩
  ·exact absurd rfl (hmh (by simp))
  ·rcases intOpt_some hl with ⟨rfl, rfl⟩ | ⟨kl, nl, rfl, rfl⟩
   ·simp only [Option.getD_none, Option.getD_some] at *
    simp only [still_bind, still_pure, Option.bind_some, sliceBound_ok (show 0 ≤ nm by omega) h3, Int.toNat_zero]
    rw [sliceBound_ok (show 0 ≤ nh by omega) (by omega)]; rfl
   ·simp only [Option.getD_none, Option.getD_some] at *
    simp only [still_bind, still_pure, Option.bind_some, sliceBound_ok (show 0 ≤ nm by omega) h3]
    rw [sliceBound_ok (show 0 ≤ nh by omega) (by omega)]
    simp only [Option.bind_some]
    rw [sliceBound_ok h0 (by omega)]; rfl
theorem aslice_ok {σ : St} {t : TypeId} {a b v : Value} {lo hi mx lo' hi' mx' : Option Value} (hZ : ∀ id p z, μ id = some p → rowZ σ id z = true → p.z = z)
    (r : VR μ a b) (rl : OR μ lo lo') (rh : OR μ hi hi') (rm : OR μ mx mx') (h : aslice P σ t a lo hi mx = some v) :
    ∃ v', still P (Instr.sliceAt t b lo' hi' mx') = some v' ∧ VR μ v v' := by
 unfold aslice at h
 split at h <;> try cases h
 ·rename_i hu
  split at h <;> try cases h
  rename_i s
  obtain rfl := r.string_inv
  cases hp : (mx.isNone && plain0 (lo.getD (.bool true)) && plain0 (hi.getD (.bool true))) with
  | false => simp [hp] at h
  | true =>
   simp only [hp, cond_true] at h
   simp only [Bool.and_eq_true] at hp
   obtain rfl := rl.plain hp.1.2
   obtain rfl := rh.plain hp.2
   have : mx = none := by simpa using hp.1.1
   subst this
   obtain rfl : mx' = none := by cases mx' with | none => rfl | some x => exact rm.elim
   exact stillP_ok h
 ·rename_i e hu
  split at h <;> try cases h
  rename_i base len c
  split at h <;> try cases h
  rename_i z l hh m hz hl hhi hm
  obtain rfl := rl.int hl
  obtain rfl := rh.int hhi
  obtain rfl := rm.int hm
  simp only at h
  cases hb : (decide (0 ≤ l.getD 0) && decide (l.getD 0 ≤ hh.getD (len : Int)) && decide (hh.getD (len : Int) ≤ (len : Int))) with
  | false => rw [hb] at h; cases h
  | true =>
   rw [hb] at h
   simp only [Bool.and_eq_true, decide_eq_true_eq] at hb
   obtain ⟨⟨h0, h1⟩, h2⟩ := hb
   simp only [cond_true] at h
   have hS : ∀ x, still P (Instr.sliceAt t x lo' hi' mx') = still P (Instr.slice t x lo' hi' mx') := by
    intro x; unfold Instr.sliceAt; rw [still_bind, still_underlying, hu]; rfl
   rw [hS]
   have hzero : ∀ a' cap, len = 0 → mx' = none → still P (Instr.slice t (.slice (some a') len cap) lo' hi' mx') = some (.slice (some a') len cap) := by
    rintro a' cap rfl rfl
    unfold Instr.slice
    rw [still_bind, still_underlying, hu]
    simp only [Option.bind_some]
    rcases intOpt_some hm with ⟨_, rfl⟩ | ⟨_, _, e, _⟩
    ·have hB := sliceBounds_ok (P := P) (len := 0) (cap := cap) hl hhi hm (by simp) h0 h1 (by simp only [Option.getD_none, Int.natCast_zero] at h2 ⊢; omega) (by simp) (Nat.zero_le _)
     simp only [Option.getD_none] at hB
     rw [still_bind, hB]
     have e1 : (l.getD 0).toNat = 0 := by simp only [Int.natCast_zero] at h2 h1; omega
     have e2 : (hh.getD ((0 : Nat) : Int)).toNat = 0 := by simp only [Int.natCast_zero] at h2 h1 ⊢; omega
     simp only [Option.bind_some, still_bind, still_sizeOf, hz, e1, e2, Int.toNat_natCast, Nat.sub_self, Nat.sub_zero, still_pure, Nat.zero_mul]
     split
     ·rfl
     ·simp only [Option.map_some, Addr.add, if_true]
    ·cases e
   by_cases hsp : ∃ x y s, base = some ⟨x, y, some s⟩
   ·obtain ⟨x, y, s, rfl⟩ := hsp
    simp only at h
    cases hc0 : (Nat.beq len 0 && mx'.isNone) with
    | false => rw [hc0] at h; cases h
    | true =>
     rw [hc0] at h
     simp only [cond_true, Option.some.injEq] at h
     subst h
     simp only [Bool.and_eq_true] at hc0
     have hl0 := Nat.eq_of_beq_eq_true hc0.1
     have hmn : mx' = none := by simpa using hc0.2
     cases r with
     | same _ hp => simp [plain0] at hp
     | emp a' cap => exact ⟨_, hzero a' cap rfl hmn, .emp a' cap⟩
   by_cases hrz0 : ∃ id off, base = some ⟨id, off, none⟩ ∧ rowZ σ id z = false
   ·obtain ⟨id, off, rfl, hrz⟩ := hrz0
    simp only [hrz, cond_false] at h
    cases hc0 : (Nat.beq len 0 && mx'.isNone) with
    | false => rw [hc0] at h; cases h
    | true =>
     rw [hc0] at h
     simp only [cond_true, Option.some.injEq] at h
     subst h
     simp only [Bool.and_eq_true] at hc0
     have hl0 := Nat.eq_of_beq_eq_true hc0.1
     have hmn : mx' = none := by simpa using hc0.2
     obtain ⟨p, cap, hp, rfl, hc, hlc, he⟩ := r.slc_inv
     exact ⟨_, hzero _ cap hl0 hmn, r⟩
   unfold Instr.slice
   rw [still_bind, still_underlying, hu]
   simp only [Option.bind_some]
   split at h
   ·
    obtain ⟨rfl, rfl, rfl⟩ := r.nilslc_inv
    cases hmx : mx'.isNone with
    | false => simp [hmx] at h
    | true =>
     simp only [hmx, cond_true, Option.some.injEq] at h
     subst h
     have : mx' = none := by simpa using hmx
     subst this
     rcases intOpt_some hm with ⟨_, rfl⟩ | ⟨_, _, e, _⟩
     ·have hB := sliceBounds_ok (P := P) (len := 0) (cap := 0) hl hhi hm (by simp) h0 h1 (by simpa using h2) (by simp) (Nat.le_refl _)
      refine ⟨.slice none 0 0, ?_, .same _ rfl⟩
      simp only [Option.getD_none] at hB
      rw [still_bind, hB]
      have e1 : (l.getD 0).toNat = 0 := by simp only [Int.natCast_zero] at h2 h1; omega
      have e2 : (hh.getD ((0 : Nat) : Int)).toNat = 0 := by simp only [Int.natCast_zero] at h2 h1 ⊢; omega
      simp only [Option.bind_some, still_bind, still_sizeOf, hz, e1, e2, Int.toNat_natCast, if_true, Nat.sub_self, still_pure]
     ·cases e
   ·rename_i id off
    obtain ⟨p, cap, hp, rfl, hc, hlc, he⟩ := r.slc_inv
    cases hrz : rowZ σ id z with
    | false => exact absurd ⟨id, off, rfl, hrz⟩ hrz0
    | true =>
    rw [hrz] at h
    simp only [cond_true] at h
    have hpz := hZ id p z hp hrz
    generalize hL : (l.getD 0).toNat = L at *
    generalize hH : (hh.getD (len : Int)).toNat = H at *
    have hLH : L ≤ H := by omega
    have hHl : H ≤ len := by omega
    have hmul : p.o + (off + L * z) + (cap - L) * p.z ≤ p.e := by
     have : (cap - L) * p.z = cap * p.z - L * p.z := Nat.sub_mul _ _ _
     have h' : L * p.z ≤ cap * p.z := Nat.mul_le_mul_right _ (by omega)
     rw [← hpz]; omega
    split at h
    ·
     rename_i hmn
     rcases intOpt_some hm with ⟨rfl, _⟩ | ⟨_, _, _, e⟩
     ·have hB := sliceBounds_ok (P := P) (len := len) (cap := cap) hl hhi hm (by simp) h0 h1 (by simp; omega) (by simp) hlc
      simp only [Option.getD_none, Int.toNat_natCast, hL, hH] at hB
      simp only
      rw [still_bind, hB]
      simp only [Option.bind_some, still_bind, still_sizeOf, hz, still_pure]
      refine ⟨_, rfl, ?_⟩
      simp only [nbeq, Bool.cond_decide, ← Bool.decide_and] at h
      split at h
      ·rename_i hcl
       obtain ⟨hcl, hhl⟩ := hcl
       have hcap := hc hcl
       subst hcap
       split at h
       ·rename_i hll
        cases h
        rw [if_pos hll.symm, hhl, hll, Nat.sub_self]
        exact .slc id off 0 0 0 p hp (fun _ => rfl) (Nat.le_refl _) (by simp; have := Nat.zero_le (cap * p.z); omega)
       ·rename_i hll
        cases h
        rw [if_neg (by omega), hhl]
        simp only [Option.map_some, add_none, Nat.add_assoc]
        exact .slc id (off + L * z) (cap - L) (cap - L) (cap - L) p hp (fun _ => rfl) (Nat.le_refl _) hmul
      ·split at h
       ·rename_i hcl hhl
        cases h
        obtain ⟨hhl, hl0⟩ := hhl
        have : ¬ cap = L ∨ cap = 0 := by omega
        subst hhl; subst hl0
        have e3 : (if cap = 0 then some (Addr.mk p.b (p.o + off) none) else Option.map (fun x => x.add (0 * z)) (some (Addr.mk p.b (p.o + off) none))) = some (Addr.mk p.b (p.o + off) none) := by
         split
         ·rfl
         ·simp [add_none]
        rw [e3]
        exact .slc id off _ c cap p hp hc hlc he
       ·split at h
        ·rename_i hll
         cases h
         rw [if_neg (by omega)]
         simp only [Option.map_some, add_none, Nat.add_assoc]
         exact .slc id (off + L * z) (H - L) (H - L + 1) (cap - L) p hp (fun e => by omega) (by omega) hmul
        ·cases h
         rw [show H - L = 0 by omega]
         split
         ·exact .emp _ _
         ·simp only [Option.map_some]; exact .emp _ _
     ·cases e
    ·rename_i m'
     rcases intOpt_some hm with ⟨_, e⟩ | ⟨km, nm, rfl, e⟩
     ·cases e
     ·cases e
      cases hd : (decide (hh.getD (len : Int) = m') && decide (l.getD 0 < m') && hh.isSome) with
      | false => rw [hd] at h; cases h
      | true =>
       rw [hd] at h
       simp only [Bool.and_eq_true, decide_eq_true_eq] at hd
       obtain ⟨⟨hd1, hd2⟩, hd3⟩ := hd
       simp only [cond_true, Option.some.injEq] at h
       subst h
       have hn : hh ≠ none := by intro e; subst e; cases hd3
       have hB := sliceBounds_ok (P := P) (len := len) (cap := cap) hl hhi hm (fun _ => hn) h0 h1 (by simp; omega) (by simp; omega) hlc
       simp only [Option.getD_some, hL, hH] at hB
       simp only
       rw [still_bind, hB]
       simp only [Option.bind_some, still_bind, still_sizeOf, hz, still_pure]
       refine ⟨_, rfl, ?_⟩
       have hm' : m'.toNat = H := by omega
       rw [hm', if_neg (by omega)]
       simp only [Option.map_some, add_none, Nat.add_assoc]
       have hm2 : p.o + (off + L * z) + (H - L) * p.z ≤ p.e := by
        have : (H - L) * p.z ≤ (cap - L) * p.z := Nat.mul_le_mul_right _ (by omega)
        omega
       exact .slc id (off + L * z) (H - L) (H - L) (H - L) p hp (fun _ => rfl) (Nat.le_refl _) hm2
   ·exact absurd ⟨_, _, _, rfl⟩ hsp
theorem alen_ok {t : TypeId} {a b v : Value} {ts : Array TypeId} {ty : TypeId} {us : Array Value} (r : VR μ a b) (ht : ts[0]? = some t) (hb : us[0]? = some b) (h : alen P t a = some v) :
    ∃ v', still P (Builtin.len_ ts ty us) = some v' ∧ VR μ v v' := by
 unfold alen at h
 unfold Builtin.len_
 simp only [ht, hb]
 rw [still_bind, still_underlying]
 split at h <;> try cases h
 ·rename_i e hu
  split at h <;> try cases h
  rename_i base n c
  have : ∃ base' cap, b = .slice base' n cap := by
   cases base with
   | none => obtain ⟨rfl, rfl, rfl⟩ := r.nilslc_inv; exact ⟨none, 0, rfl⟩
   | some a =>
    cases r with
    | same _ h => simp [plain0] at h
    | slc id off len c cap p h hc hl he => exact ⟨_, _, rfl⟩
    | emp a cap => exact ⟨_, _, rfl⟩
  obtain ⟨base', cap, rfl⟩ := this
  exact ⟨goInt n, by simp [hu, still_pure], .same _ rfl⟩
 ·rename_i hu
  split at h <;> try cases h
  rename_i s
  obtain rfl := r.string_inv
  exact ⟨goInt s.size, by simp [hu, still_pure], .same _ rfl⟩
 ·rename_i n e hu
  exact ⟨goInt n, by simp [hu, still_pure], .same _ rfl⟩
theorem eq_slice_nil {t e : TypeId} (ht : P.underlying t = some (.slice e)) (a : Addr) (l c l' c' : Nat) : still P (Op.equal t (.slice (some a) l c) (.slice none l' c')) = some false := by
 unfold Op.equal
 rw [show Op.maxDepth = Nat.succ 9999 from rfl, Op.equalIn.eq_2, still_bind, still_underlying, ht]; rfl
theorem eq_nil_slice {t e : TypeId} (ht : P.underlying t = some (.slice e)) (a : Addr) (l c l' c' : Nat) : still P (Op.equal t (.slice none l' c') (.slice (some a) l c)) = some false := by
 unfold Op.equal
 rw [show Op.maxDepth = Nat.succ 9999 from rfl, Op.equalIn.eq_2, still_bind, still_underlying, ht]; rfl
theorem anil_ok {op : BinOp} {t : TypeId} {a b c d v : Value} {x y : Operand} (r : VR μ a b) (s : VR μ c d) (ht : ∃ e, P.underlying t = some (.slice e)) (h : anil op a c = some v) :
    ∃ v', still P (do eqGuard op t x y b d; binOp op t b d) = some v' ∧ VR μ v v' := by
 obtain ⟨e, ht⟩ := ht
 unfold anil at h
 simp only at h
 split at h
 ·rename_i a0 l c l' c'
  obtain ⟨rfl, rfl, rfl⟩ := s.nilslc_inv
  have : ∃ a1 l1 c1, b = .slice (some a1) l1 c1 := by
   cases r with
   | same _ h => simp [plain0] at h
   | slc id off len c cap p h hc hl he => exact ⟨_, _, _, rfl⟩
   | emp a cap => exact ⟨_, _, _, rfl⟩
  obtain ⟨a1, l1, c1, rfl⟩ := this
  cases op <;> simp only at h <;> first
   | (cases h; refine ⟨_, ?_, .same _ rfl⟩; simp only [still_bind, eqGuard, Bool.not_true, Bool.false_eq_true, if_false, still_pure, Option.bind_some, binOp, eq_slice_nil ht]; done)
   | cases h
 ·rename_i l c a0 l' c'
  obtain ⟨rfl, rfl, rfl⟩ := r.nilslc_inv
  have : ∃ a1 l1 c1, d = .slice (some a1) l1 c1 := by
   cases s with
   | same _ h => simp [plain0] at h
   | slc id off len c cap p h hc hl he => exact ⟨_, _, _, rfl⟩
   | emp a cap => exact ⟨_, _, _, rfl⟩
  obtain ⟨a1, l1, c1, rfl⟩ := this
  cases op <;> simp only at h <;> first
   | (cases h; refine ⟨_, ?_, .same _ rfl⟩; simp only [still_bind, eqGuard, Bool.not_true, Bool.false_eq_true, if_false, still_pure, Option.bind_some, binOp, eq_nil_slice ht]; done)
   | cases h
 ·cases h
theorem callee_operands (c : Call) : ∀ x ∈ c.args.toList, x ∈ (Op.call c).operands := by
 intro x hx
 simp only [Op.operands, Call.operands]
 exact Array.mem_append.2 (.inr (Array.mem_toList_iff.1 hx))
theorem apure_ok {ρ ρ' : Operand → Value} {o : Oper} {v : Value} (hρ : ∀ x ∈ o.op.operands, VR μ (ρ x) (ρ' x)) (h : apure P ρ o = some v) :
    ∃ v', still P (execOp ρ' o) = some (.value v') ∧ VR μ v v' := by
 have fin : ∀ {s : Sem Value}, (∃ v', still P s = some v' ∧ VR μ v v') → ∃ v', still P (do pure (Next.value (← s))) = some (.value v') ∧ VR μ v v' := by
  rintro s ⟨v', h1, h2⟩
  exact ⟨v', by rw [still_bind, h1]; rfl, h2⟩
 unfold apure at h
 unfold execOp
 cases ho : o.op <;> simp only [ho] at h hρ ⊢ <;> try cases h
 case move x => exact ⟨_, rfl, hρ x (by simp [Op.operands])⟩
 case assign x => exact ⟨_, rfl, hρ x (by simp [Op.operands])⟩
 case pick c a b =>
  have hc := hρ c (by simp [Op.operands])
  split at h <;> try cases h
  ·rename_i hb
   rw [hb] at hc
   rw [hc.bool_inv]
   exact ⟨_, rfl, hρ a (by simp [Op.operands])⟩
  ·rename_i hb
   rw [hb] at hc
   rw [hc.bool_inv]
   exact ⟨_, rfl, hρ b (by simp [Op.operands])⟩
 case build t parts =>
  refine fin (abuild_ok ?_ h)
  simpa using PR_map parts.toList (fun x hx => hρ x.2 (by simp [Op.operands]; exact ⟨_, Array.mem_toList_iff.1 hx⟩))
 case nilCheck x =>
  have hx := hρ x (by simp [Op.operands])
  split at h <;> try cases h
  rename_i a ha
  rw [ha] at hx
  generalize ρ' x = u at hx ⊢
  cases hx with
  | same _ h => simp [plain0] at h
  | ptr id off p hp => exact ⟨_, rfl, .ptr id off p hp⟩
 case binOp op t x y yt =>
  have hx := hρ x (by simp [Op.operands])
  have hy := hρ y (by simp [Op.operands])
  cases hp : (plain1 (ρ x) && plain1 (ρ y)) with
  | true =>
   simp only [hp, cond_true] at h
   simp only [Bool.and_eq_true] at hp
   rw [hx.eq1 hp.1, hy.eq1 hp.2]
   exact fin (stillP_ok h)
  | false =>
   simp only [hp, cond_false] at h
   split at h <;> try cases h
   rename_i e hu
   exact fin (anil_ok hx hy ⟨e, hu⟩ h)
 case unOp op t x =>
  have hx := hρ x (by simp [Op.operands])
  cases hp : plain0 (ρ x) with
  | true => simp only [hp, cond_true] at h; rw [hx.eq0 hp]; exact fin (stillP_ok h)
  | false => simp [hp] at h
 case convert s d x =>
  have hx := hρ x (by simp [Op.operands])
  cases hp : plain0 (ρ x) with
  | true => simp only [hp, cond_true] at h; rw [hx.eq0 hp]; exact fin (stillP_ok h)
  | false => simp [hp] at h
 case makeFunc fn first captured =>
  refine ⟨.func fn (first.map ρ') (captured.map ρ'), rfl, ?_⟩
  have h1 := VRL_map (μ := μ) (ρ := ρ) (ρ' := ρ') first.toList (fun x hx => hρ x (by simp [Op.operands]; exact .inl (Array.mem_toList_iff.1 hx)))
  have h2 := VRL_map (μ := μ) (ρ := ρ) (ρ' := ρ') captured.toList (fun x hx => hρ x (by simp [Op.operands]; exact .inr (Array.mem_toList_iff.1 hx)))
  exact .fn fn _ _ _ _ (by simp) (by simpa using h1.2) (by simp) (by simpa using h2.2)
 case fieldAddr s x f => exact fin (afieldAddr_ok (hρ x (by simp [Op.operands])) h)
 case field t x f => exact fin (afield_ok (hρ x (by simp [Op.operands])) h)
 case indexAddr t x i => exact fin (aindexAddr_ok (hρ x (by simp [Op.operands])) (hρ i (by simp [Op.operands])) h)
 case index t x i => exact fin (aindex_ok (hρ x (by simp [Op.operands])) (hρ i (by simp [Op.operands])) h)
 case extract t i =>
  have hx := hρ t (by simp [Op.operands])
  split at h <;> try cases h
  rename_i vs hvs
  rw [hvs] at hx
  obtain ⟨us, he, hl⟩ := hx.tuple_inv
  rw [he]
  obtain ⟨u, hu, hr⟩ := hl.get (i := i) (x := v) (by simpa using h)
  refine fin ⟨u, ?_, hr⟩
  have : us[i]? = some u := by simpa using hu
  simp [Instr.extract, this, still_pure]
 case call c =>
  unfold acallPure at h
  have hargs := VRL_map (μ := μ) (ρ := ρ) (ρ' := ρ') c.args.toList (fun x hx => hρ x (callee_operands c x hx))
  split at h <;> try cases h
  ·rename_i hc
   split at h <;> try cases h
   rename_i t x ht hx
   have hx' : c.args.toList[0]? = some x := by simpa using hx
   obtain ⟨v', h1, h2⟩ := alen_ok (P := P) (ts := c.argTypes) (ty := o.type) (us := c.args.map ρ') (hρ x (callee_operands c x (List.mem_of_getElem? hx'))) ht (by simp [hx]) h
   refine ⟨v', ?_, h2⟩
   simp only [resolve, hc, still_bind, still_pure, Option.bind_some, invoke, builtin, h1]
  ·rename_i hc
   cases hp : (c.args.map ρ).toList.all plain0 with
   | false => rw [hp] at h; cases h
   | true =>
    simp only [hp, cond_true] at h
    have e : c.args.map ρ' = c.args.map ρ := by
     apply Array.toList_inj.1
     simpa using hargs.eq0 (by simpa using hp)
    obtain ⟨v', h1, h2⟩ := stillP_ok (μ := μ) h
    refine ⟨v', ?_, h2⟩
    simp only [resolve, hc, still_bind, still_pure, Option.bind_some, invoke, builtin, e, h1]
  ·rename_i hc
   cases hp : (c.args.map ρ).toList.all plain0 with
   | false => rw [hp] at h; cases h
   | true =>
    simp only [hp, cond_true] at h
    have e : c.args.map ρ' = c.args.map ρ := by
     apply Array.toList_inj.1
     simpa using hargs.eq0 (by simpa using hp)
    obtain ⟨v', h1, h2⟩ := stillP_ok (μ := μ) h
    refine ⟨v', ?_, h2⟩
    simp only [resolve, hc, still_bind, still_pure, Option.bind_some, invoke, builtin, e, h1]
end
end Go.AI
namespace Go.AI
section
variable {w0 : World} {P : Program} {μ : Mp} {σ : St} {w : World}
theorem cut_some {cs l : List Value} {off n : Nat} (h : cut cs off n = some l) : l = (cs.drop off).take n ∧ n ≤ cs.length - off := by
 unfold cut at h
 simp only [nbeq, Bool.cond_decide] at h
 split at h
 ·rename_i hl; cases h; refine ⟨rfl, ?_⟩; simp at hl; omega
 ·cases h
theorem row_cut {C : Array Value} {cs : List Value} {o off n : Nat} (hrow : ∀ (i : Nat) (v : Value), cs[i]? = some v → ∃ u, C[o + i]? = some u ∧ VR μ v u) (hl : n ≤ cs.length - off) :
    VRL μ ((cs.drop off).take n) ((C.toList.drop (o + off)).take n) := by
 have hsz : n = 0 ∨ o + off + n ≤ C.size := by
  rcases Nat.eq_zero_or_pos n with h | h
  ·exact .inl h
  ·right
   have : off + n - 1 < cs.length := by omega
   obtain ⟨u, hu, _⟩ := hrow (off + n - 1) _ (List.getElem?_eq_getElem this)
   have := (Array.getElem?_eq_some_iff.1 hu).1
   omega
 refine ⟨by simp; omega, fun i x u hx hu => ?_⟩
 rw [List.getElem?_take] at hx hu
 split at hx
 ·rename_i hi
  rw [if_pos hi] at hu
  rw [List.getElem?_drop] at hx hu
  obtain ⟨u', hu', hr⟩ := hrow _ _ hx
  have : C.toList[o + off + i]? = some u' := by rw [Nat.add_assoc]; simpa using hu'
  rw [this] at hu
  cases hu
  exact hr
 ·cases hx
theorem cell_eq {w : World} {b o : Nat} {C : Array Value} {t : TypeId} {fr : Nat × Nat} (h : w.heap[b]? = some (.cells C t fr)) : w.cell? ⟨b, o, none⟩ = C[o]? := by
 simp [World.cell?, h]
theorem run_cut {w : World} {b o n : Nat} {C : Array Value} {t : TypeId} {fr : Nat × Nat} (h : w.heap[b]? = some (.cells C t fr)) (hl : ((C.toList.drop o).take n).length = n) :
    (loadCells ⟨b, o, none⟩ n).run P w = .ok ((C.toList.drop o).take n).toArray w := by
 have := run_loadCells_list (P := P) w ⟨b, o, none⟩ ((C.toList.drop o).take n) (fun j v hj => by
  rw [add_none, cell_eq h]
  rw [List.getElem?_take] at hj
  split at hj
  ·rw [List.getElem?_drop] at hj; simpa using hj
  ·cases hj)
 rw [hl] at this
 exact this
theorem aload_ok {t : TypeId} {a b v : Value} (S : Sim w0 P μ σ w) (r : VR μ a b) (h : aload P σ t a = some v) : ∃ v', (Instr.loadAt t b).run P w = .ok v' w ∧ VR μ v v' := by
 unfold aload at h
 split at h <;> try cases h
 rename_i id off
 obtain ⟨p, hp, rfl⟩ := r.ptr_inv
 split at h <;> try cases h
 rename_i cs m hrow
 obtain ⟨hg, hgood⟩ := St.row_some hrow
 obtain ⟨C, ty, fr, hC, hcs, _⟩ := (S.row id p cs m hp hg hgood).row
 unfold Instr.loadAt
 simp only [Instr.sureAddr, loadVar, Sem.run_bind, Sem.run_pure, Result.andThen_ok]
 split at h <;> try cases h
 ·rename_i hag
  rw [still_run (by rw [still_isAgg]; exact hag)]
  split at h <;> try cases h
  rename_i n hn
  rw [Option.map_eq_some_iff] at h
  obtain ⟨l, hl, rfl⟩ := h
  obtain ⟨rfl, hle⟩ := cut_some hl
  have hv := row_cut hcs hle
  refine ⟨_, ?_, .mkAgg hv⟩
  have hlen : ((C.toList.drop (p.o + off)).take n).length = n := by rw [← hv.1]; simp; omega
  simp only [Result.andThen_ok, if_true, Sem.run_bind, still_run (w := w) (show still P (Go.sizeOf t) = some n by rw [still_sizeOf]; exact hn), run_cut hC hlen, Sem.run_pure]
 ·rename_i hag
  rw [still_run (by rw [still_isAgg]; exact hag)]
  obtain ⟨u, hu, hr⟩ := hcs _ _ h
  refine ⟨u, ?_, hr⟩
  simp [cell_eq hC, hu]
theorem rowZ_ok (S : Sim w0 P μ σ w) (id : Nat) (p : Place) (z : Nat) (hp : μ id = some p) (h : rowZ σ id z = true) : p.z = z := by
 unfold rowZ at h
 split at h
 ·rename_i cs m hrow
  obtain ⟨hg, hgood⟩ := St.row_some hrow
  rw [nbeq, decide_eq_true_eq] at h
  rw [← h]; exact (S.row id p cs m hp hg hgood).z
 ·cases h
def FR (μ : Mp) : Option (Nat × Value) → Option (Nat × Value) → Prop
 | none, none => True
 | some (i, v), some (j, u) => i = j ∧ VR μ v u
 | _, _ => False
theorem keys_cons {k v : Value} {es : List (Value × Value)} {ES : List MapEntry} (hk : VRL μ (((k, v) :: es).map (·.1)) (ES.map (·.key))) (hv : VRL μ (((k, v) :: es).map (·.2)) (ES.map (·.val))) :
    ∃ E ES', ES = E :: ES' ∧ VR μ k E.key ∧ VR μ v E.val ∧ VRL μ (es.map (·.1)) (ES'.map (·.key)) ∧ VRL μ (es.map (·.2)) (ES'.map (·.val)) := by
 cases ES with
 | nil => have := hk.1; simp at this
 | cons E ES' =>
  simp only [List.map_cons] at hk hv
  obtain ⟨u, us, e1, h1, h2⟩ := hk.cons_inv
  obtain ⟨u', us', e2, h3, h4⟩ := hv.cons_inv
  cases e1; cases e2
  exact ⟨E, ES', rfl, h1, h3, h2, h4⟩
theorem findNow_ok (d : TypeDesc) (k : Value) : ∀ (es : List (Value × Value)) (ES : List MapEntry) (i : Nat), VRL μ (es.map (·.1)) (ES.map (·.key)) → VRL μ (es.map (·.2)) (ES.map (·.val)) →
    es.all (fun e => plain1 e.1) = true →
    (Instr.findNow d k (entries es) i = none ∧ Instr.findNow d k ES i = none) ∨ ∃ r r', Instr.findNow d k (entries es) i = some r ∧ Instr.findNow d k ES i = some r' ∧ FR μ r r' := by
 intro es
 induction es with
 | nil =>
  intro ES i hk hv _
  have : ES = [] := by have := hk.1; simpa using this.symm
  subst this
  exact .inr ⟨none, none, rfl, rfl, trivial⟩
 | cons e es ih =>
  intro ES i hk hv hp
  obtain ⟨k', v'⟩ := e
  obtain ⟨E, ES', rfl, h1, h2, h3, h4⟩ := keys_cons hk hv
  simp only [List.all_cons, Bool.and_eq_true] at hp
  have hkey : E.key = k' := h1.eq1 hp.1
  simp only [entries, List.map_cons, Instr.findNow, hkey]
  cases Instr.sameNow d k k' with
  | none => exact .inl ⟨rfl, rfl⟩
  | some b =>
   cases b with
   | true => exact .inr ⟨_, _, rfl, rfl, rfl, h2⟩
   | false => exact ih ES' (i + 1) h3 h4 hp.2
theorem findAsking_ok (kt : TypeId) (k : Value) : ∀ (es : List (Value × Value)) (ES : List MapEntry) (i : Nat) (r : Option (Nat × Value)), VRL μ (es.map (·.1)) (ES.map (·.key)) → VRL μ (es.map (·.2)) (ES.map (·.val)) →
    es.all (fun e => plain1 e.1) = true → still P (Instr.findAsking kt k (entries es) i) = some r → ∃ r', still P (Instr.findAsking kt k ES i) = some r' ∧ FR μ r r' := by
 intro es
 induction es with
 | nil =>
  intro ES i r hk hv _ h
  have : ES = [] := by have := hk.1; simpa using this.symm
  subst this
  simp only [entries, List.map_nil, Instr.findAsking, still_pure, Option.some.injEq] at h
  subst h
  exact ⟨none, rfl, trivial⟩
 | cons e es ih =>
  intro ES i r hk hv hp h
  obtain ⟨k', v'⟩ := e
  obtain ⟨E, ES', rfl, h1, h2, h3, h4⟩ := keys_cons hk hv
  simp only [List.all_cons, Bool.and_eq_true] at hp
  have hkey : E.key = k' := h1.eq1 hp.1
  simp only [entries, List.map_cons, Instr.findAsking, still_bind] at h
  simp only [Instr.findAsking, still_bind, hkey]
  cases hq : still P (Op.equal kt k k') with
  | none => simp [hq] at h
  | some b =>
   simp only [hq, Option.bind_some] at h ⊢
   cases b with
   | true => simp only [if_true, still_pure, Option.some.injEq] at h ⊢; subst h; exact ⟨_, rfl, rfl, h2⟩
   | false => simp only [Bool.false_eq_true, if_false] at h ⊢; exact ih ES' (i + 1) r h3 h4 hp.2 h
theorem afind_ok {kt : TypeId} {k : Value} {es : List (Value × Value)} {ES : List MapEntry} {r : Option (Nat × Value)} (hk : VRL μ (es.map (·.1)) (ES.map (·.key))) (hv : VRL μ (es.map (·.2)) (ES.map (·.val)))
    (h : afind P kt k es = some r) : plain1 k = true ∧ es.all (fun e => plain1 e.1) = true ∧ (∀ b, still P (Instr.checkKey b 10000 kt k) = some ()) ∧ ∃ r', still P (Instr.findKey kt k ES) = some r' ∧ FR μ r r' := by
 unfold afind at h
 cases hp : (plain1 k && es.all (fun e => plain1 e.1)) with
 | false => simp only [hp, cond_false] at h; cases h
 | true =>
  simp only [hp, cond_true] at h
  simp only [Bool.and_eq_true] at hp
  split at h <;> try cases h
  rename_i u1 u2 h1 h2
  refine ⟨hp.1, hp.2, fun b => by cases b; exact h1; exact h2, ?_⟩
  unfold Instr.findKey at h ⊢
  simp only [still_bind, still_underlying] at h ⊢
  cases hu : P.underlying kt with
  | none => simp [hu] at h
  | some d =>
   simp only [hu, Option.bind_some] at h ⊢
   rcases findNow_ok (μ := μ) d k es ES 0 hk hv hp.2 with ⟨e1, e2⟩ | ⟨r1, r2, e1, e2, hr⟩
   ·simp only [e1] at h
    simp only [e2]
    exact findAsking_ok kt k es ES 0 r hk hv hp.2 h
   ·simp only [e1, still_pure, Option.some.injEq] at h
    subst h
    exact ⟨r2, by simp only [e2, still_pure], hr⟩
theorem run_getObj_map {w : World} {b : Nat} {ES : Array MapEntry} {c : Nat} (h : w.heap[b]? = some (.map ES c)) : (getObj b).run P w = .ok (.map ES c) w := by
 simp [getObj, Sem.run, h]
theorem alookup_ok {t : TypeId} {m m' k k' v : Value} {ok : Bool} (S : Sim w0 P μ σ w) (rm : VR μ m m') (rk : VR μ k k') (h : alookup P σ t m k ok = some v) :
    ∃ v', (Instr.lookup t m' k' ok).run P w = .ok v' w ∧ VR μ v v' := by
 unfold alookup at h
 split at h <;> try cases h
 rename_i kt et hu
 have hes : ∃ es ES, mapOf σ m = some es ∧
      VRL μ (es.map (·.1)) (ES.toList.map (·.key)) ∧ VRL μ (es.map (·.2)) (ES.toList.map (·.val)) ∧
      ((m' = .map none ∧ ES = #[]) ∨ ∃ b c, m' = .map (some b) ∧ w.heap[b]? = some (.map ES c)) := by
  cases he : mapOf σ m with
  | none => simp [he] at h
  | some es =>
   unfold mapOf at he
   split at he <;> try cases he
   ·obtain rfl := rm.eq0 rfl
    exact ⟨[], #[], rfl, .nil, .nil, .inl ⟨rfl, rfl⟩⟩
   ·rename_i id
    split at he <;> try cases he
    rename_i hg
    cases rm with
    | same _ h => simp [plain0] at h
    | mp _ p hp =>
     obtain ⟨ES, c, hC, h1, h2⟩ := (S.map id p es hp hg).map
     exact ⟨es, ES, rfl, h1, h2, .inr ⟨p.b, c, rfl, hC⟩⟩
 obtain ⟨es, ES, he, hk, hv, hm⟩ := hes
 rw [he] at h
 simp only at h
 cases hf : afind P kt k es with
 | none => simp [hf] at h
 | some r =>
  obtain ⟨hpk, _, hchk, r', hfind, hFR⟩ := afind_ok (ES := ES.toList) hk hv hf
  obtain rfl := rk.eq1 hpk
  simp only [hf] at h
  have key : ∀ (val : Value) (found : Bool), (match r' with | some (_, u) => Result.ok (α := Value × Bool) (u, true) w | none => ((zeroValue et).run P w).andThen fun z w' => .ok (z, false) w') = .ok (val, found) w →
        (Instr.lookup t m' k' ok).run P w = .ok (if ok = true then .tuple #[val, .bool found] else val) w := by
   intro val found hres
   unfold Instr.lookup
   simp only [Sem.run_bind, still_run (w := w) (show still P (underlying t) = some (.map kt et) by rw [still_underlying]; exact hu), Result.andThen_ok]
   rcases hm with ⟨rfl, rfl⟩ | ⟨b, c, rfl, hC⟩
   ·simp only [Sem.run_bind, Sem.run_pure, Result.andThen_ok, still_run (w := w) (hchk _), still_run (w := w) hfind]
    cases r' with
    | none =>
     simp only [Sem.run_bind] at hres ⊢
     cases hz : (zeroValue et).run P w with
     | ok z wz => simp only [hz, Result.andThen_ok] at hres ⊢; cases hres; rfl
     | halt x wz => simp [hz] at hres
    | some iu => cases hres; rfl
   ·simp only [Sem.run_bind, run_getObj_map hC, Sem.run_pure, Result.andThen_ok, still_run (w := w) (hchk _), still_run (w := w) hfind]
    cases r' with
    | none =>
     simp only [Sem.run_bind] at hres ⊢
     cases hz : (zeroValue et).run P w with
     | ok z wz => simp only [hz, Result.andThen_ok] at hres ⊢; cases hres; rfl
     | halt x wz => simp [hz] at hres
    | some iu => cases hres; rfl
  have pair : ∀ (val val' : Value) (found : Bool), VR μ val val' → VR μ (bif ok then .tuple #[val, .bool found] else val) (if ok = true then .tuple #[val', .bool found] else val') := by
   intro val val' found hr
   cases ok with
   | true => exact .mkTuple (.cons hr (.cons (.same _ rfl) .nil))
   | false => exact hr
  cases r with
  | none =>
   cases r' with
   | some x => exact hFR.elim
   | none =>
    simp only at h
    cases hz : still P (zeroValue et) with
    | none => simp [hz] at h
    | some z =>
     simp only [hz] at h
     cases hpz : plain1 z with
     | false => simp [hpz] at h
     | true =>
      simp only [hpz, cond_true, Option.some.injEq] at h
      subst h
      exact ⟨_, key z false (by simp [still_run hz]), pair z z false (.same1 hpz)⟩
  | some iv =>
   obtain ⟨i, val⟩ := iv
   cases r' with
   | none => exact hFR.elim
   | some ju =>
    obtain ⟨j, u⟩ := ju
    obtain ⟨rfl, hr⟩ := hFR
    simp only [Option.some.injEq] at h
    subst h
    exact ⟨_, key u true rfl, pair val u true hr⟩
theorem aread_ok {ρ ρ' : Operand → Value} {o : Oper} {v : Value} (S : Sim w0 P μ σ w) (hρ : ∀ x ∈ o.op.operands, VR μ (ρ x) (ρ' x)) (h : aread P σ ρ o = some v) :
    ∃ v', (execOp ρ' o).run P w = .ok (.value v') w ∧ VR μ v v' := by
 unfold aread at h
 unfold execOp
 cases ho : o.op <;> simp only [ho] at h hρ ⊢ <;> try cases h
 case load t a =>
  obtain ⟨v', h1, h2⟩ := aload_ok S (hρ a (by simp [Op.operands])) h
  exact ⟨v', by simp [h1], h2⟩
 case lookup t m k ok =>
  obtain ⟨v', h1, h2⟩ := alookup_ok S (hρ m (by simp [Op.operands])) (hρ k (by simp [Op.operands])) h
  exact ⟨v', by simp [h1], h2⟩
 case slice t x lo hi mx =>
  obtain ⟨v', h1, h2⟩ := aslice_ok (μ := μ) (P := P) (rowZ_ok S) (hρ x (by simp [Op.operands])) (OR_map lo fun y hy => hρ y (by simp [Op.operands, hy])) (OR_map hi fun y hy => hρ y (by simp [Op.operands, hy]))
   (OR_map mx fun y hy => hρ y (by simp [Op.operands, hy])) h
  exact ⟨v', by simp [still_run h1], h2⟩
theorem bytesOf_eq : ∀ (l : List Value) (ns : List Int), bytesOf l = some ns → l = ns.map (Value.int .u8) := by
 intro l
 induction l with
 | nil => intro ns h; simp only [bytesOf, Option.some.injEq] at h; subst h; rfl
 | cons x l ih =>
  intro ns h
  unfold bytesOf at h
  split at h
  ·cases ‹_ :: _ = []›
  ·rename_i n r e
   cases e
   rw [Option.map_eq_some_iff] at h
   obtain ⟨ns', h1, rfl⟩ := h
   rw [ih ns' h1]; rfl
  ·cases h
theorem bytesOf_plain {l : List Value} {ns : List Int} (h : bytesOf l = some ns) : l.all plain0 = true := by
 rw [bytesOf_eq l ns h, List.all_eq_true]
 intro x hx
 obtain ⟨n, _, rfl⟩ := List.mem_map.1 hx
 rfl
theorem abytes_ok {s d : TypeId} {a b v : Value} (S : Sim w0 P μ σ w) (r : VR μ a b) (h : abytes P σ s d a = some v) : (convert s d b).run P w = .ok v w := by
 unfold abytes at h
 split at h <;> try cases h
 rename_i e hs hd
 split at h <;> try cases h
 rename_i he
 split at h <;> try cases h
 ·rename_i id off n c
  obtain ⟨p, cap, hp, rfl, _⟩ := r.slc_inv
  split at h <;> try cases h
  rename_i cs m hrow
  split at h <;> try cases h
  rename_i l hl
  rw [Option.map_eq_some_iff] at h
  obtain ⟨ns, hns, rfl⟩ := h
  obtain ⟨hg, hgood⟩ := St.row_some hrow
  obtain ⟨C, ty, fr, hC, hcs, _⟩ := (S.row id p cs m hp hg hgood).row
  obtain ⟨rfl, hle⟩ := cut_some hl
  have hv := row_cut hcs hle
  have hlen : ((C.toList.drop (p.o + off)).take n).length = n := by rw [← hv.1]; simp; omega
  have heq := hv.eq0 (bytesOf_plain hns)
  rw [run_convert_bytes_string w s d e _ _ _ hs he hd]
  refine run_bytesToString w _ n cap ns ?_
  rw [run_cut hC hlen, heq, bytesOf_eq _ _ hns]
 ·cases r with
  | same _ hp => simp [plain0] at hp
  | emp a' cap =>
   rw [run_convert_bytes_string w s d e _ _ _ hs he hd]
   exact run_bytesToString w a' 0 cap [] rfl
end
end Go.AI
