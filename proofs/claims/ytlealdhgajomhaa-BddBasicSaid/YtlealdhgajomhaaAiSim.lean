/- Rules by which simp runs the abstract machine. -/
import Derived.Test.YtlealdhgajomhaaAiWp
namespace Go.AI
set_option linter.unusedVariables false
set_option linter.unusedSimpArgs false

/-! ### tries whose keys are numerals -/
theorem Tr.setF_fuel {α : Type} : ∀ (f g : Nat) (t : Tr α) (n : Nat) (x : α), n < f → n < g → Tr.setF f t n x = Tr.setF g t n x := by
  intro f
  induction f with
  | zero => intro g t n x h; omega
  | succ f ih =>
    intro g t n x h1 h2
    obtain ⟨g, rfl⟩ : ∃ g', g = g' + 1 := ⟨g - 1, by omega⟩
    cases t with
    | nil =>
      simp only [Tr.setF, nbeq, Bool.cond_decide]
      split
      · rfl
      · split
        · rw [ih g .nil (n / 2) x (by omega) (by omega)]
        · rw [ih g .nil (n / 2 - 1) x (by omega) (by omega)]
    | node v l r =>
      simp only [Tr.setF, nbeq, Bool.cond_decide]
      split
      · rfl
      · split
        · rw [ih g l (n / 2) x (by omega) (by omega)]
        · rw [ih g r (n / 2 - 1) x (by omega) (by omega)]

theorem Tr.set_nil {α : Type} (n : Nat) (x : α) : (Tr.nil : Tr α).set n x = if n = 0 then .node (some x) .nil .nil else if n % 2 = 1 then .node none ((Tr.nil : Tr α).set (n / 2) x) .nil else .node none .nil ((Tr.nil : Tr α).set (n / 2 - 1) x) := by
  simp only [Tr.set]
  rw [Tr.setF]
  simp only [nbeq, Bool.cond_decide]
  split
  · rfl
  · split
    · rw [Tr.setF_fuel n (n / 2 + 1) _ _ _ (by omega) (by omega)]
    · rw [Tr.setF_fuel n (n / 2 - 1 + 1) _ _ _ (by omega) (by omega)]

theorem Tr.set_node {α : Type} (v : Option α) (l r : Tr α) (n : Nat) (x : α) : (Tr.node v l r).set n x = if n = 0 then .node (some x) l r else if n % 2 = 1 then .node v (l.set (n / 2) x) r else .node v l (r.set (n / 2 - 1) x) := by
  simp only [Tr.set]
  rw [Tr.setF]
  simp only [nbeq, Bool.cond_decide]
  split
  · rfl
  · split
    · rw [Tr.setF_fuel n (n / 2 + 1) _ _ _ (by omega) (by omega)]
    · rw [Tr.setF_fuel n (n / 2 - 1 + 1) _ _ _ (by omega) (by omega)]

theorem set_nil0 {α : Type} (x : α) : (Tr.nil : Tr α).set 0 x = .node (some x) .nil .nil := by rw [Tr.set_nil, if_pos rfl]
theorem set_nil1 {α : Type} {n : Nat} (x : α) (h : n % 2 = 1) : (Tr.nil : Tr α).set n x = .node none ((Tr.nil : Tr α).set (n / 2) x) .nil := by rw [Tr.set_nil, if_neg (by omega), if_pos h]
theorem set_nil2 {α : Type} {n : Nat} (x : α) (h : n % 2 = 0) (h0 : n ≠ 0) : (Tr.nil : Tr α).set n x = .node none .nil ((Tr.nil : Tr α).set (n / 2 - 1) x) := by rw [Tr.set_nil, if_neg h0, if_neg (by omega)]
theorem set_node0 {α : Type} (v : Option α) (l r : Tr α) (x : α) : (Tr.node v l r).set 0 x = .node (some x) l r := by rw [Tr.set_node, if_pos rfl]
theorem set_node1 {α : Type} {n : Nat} (v : Option α) (l r : Tr α) (x : α) (h : n % 2 = 1) : (Tr.node v l r).set n x = .node v (l.set (n / 2) x) r := by rw [Tr.set_node, if_neg (by omega), if_pos h]
theorem set_node2 {α : Type} {n : Nat} (v : Option α) (l r : Tr α) (x : α) (h : n % 2 = 0) (h0 : n ≠ 0) : (Tr.node v l r).set n x = .node v l (r.set (n / 2 - 1) x) := by rw [Tr.set_node, if_neg h0, if_neg (by omega)]

section
variable {P : Program} {ops : Array Oper} {base i : Nat} {l : List Oper} {S : Slots} {σ : St} {Q : Slots → St → Prop}

theorem runOps_cons {c : CallT} {o : Oper} : runOps P c ops base (o :: l) i S σ = if wanted ops S o = true then (aop P c base i o S σ).bind (fun x => runOps P c ops base l (i + 1) (S.store o.dst x.1) x.2) else runOps P c ops base l (i + 1) (S.store o.dst undef) σ := by
  simp only [runOps]
  cases wanted ops S o with
  | false => rfl
  | true =>
    simp only [cond_true, if_true]
    cases aop P c base i o S σ <;> rfl

theorem x_nil : wpo P ops base [] i S σ Q ↔ Q S σ := by
  constructor
  · rintro ⟨n, S', σ', h1, h2⟩; simp only [runOps, Option.some.injEq, Prod.mk.injEq] at h1; obtain ⟨rfl, rfl⟩ := h1; exact h2
  · exact wpo_nil

variable {d : Option Tmp} {ty : TypeId} {pos : String} {af : Array Edge}

/-- an operation without a guard and without a state -/
theorem x_pure {op : Op} {g : Option (Nat × Bool)} (hk : kindOf ⟨d, op, ty, pos, af, g⟩ = .pure) : wpo P ops base (⟨d, op, ty, pos, af, g⟩ :: l) i S σ Q ↔
    if wanted ops S ⟨d, op, ty, pos, af, g⟩ = true then ∃ v, apure P (ev S) ⟨d, op, ty, pos, af, g⟩ = some v ∧ wpo P ops base l (i + 1) (S.store d v) σ Q else wpo P ops base l (i + 1) (S.store d undef) σ Q := by
  constructor
  · rintro ⟨n, S', σ', h1, h2⟩
    rw [runOps_cons] at h1
    split
    · rename_i hw
      rw [if_pos hw] at h1
      simp only [aop, hk] at h1
      cases ha : apure P (ev S) ⟨d, op, ty, pos, af, g⟩ with
      | none => simp [ha] at h1
      | some v => simp only [ha, Option.map_some, Option.bind_some] at h1; exact ⟨v, rfl, n, S', σ', h1, h2⟩
    · rename_i hw
      rw [if_neg hw] at h1
      exact ⟨n, S', σ', h1, h2⟩
  · intro h
    split at h
    · rename_i hw; obtain ⟨v, h1, h2⟩ := h; exact wpo_pure hw hk h1 h2
    · rename_i hw; exact wpo_skip (by simpa using hw) h

theorem x_read {op : Op} {g : Option (Nat × Bool)} (hk : kindOf ⟨d, op, ty, pos, af, g⟩ = .read) : wpo P ops base (⟨d, op, ty, pos, af, g⟩ :: l) i S σ Q ↔
    if wanted ops S ⟨d, op, ty, pos, af, g⟩ = true then ∃ v, aread P σ (ev S) ⟨d, op, ty, pos, af, g⟩ = some v ∧ wpo P ops base l (i + 1) (S.store d v) σ Q else wpo P ops base l (i + 1) (S.store d undef) σ Q := by
  constructor
  · rintro ⟨n, S', σ', h1, h2⟩
    rw [runOps_cons] at h1
    split
    · rename_i hw
      rw [if_pos hw] at h1
      simp only [aop, hk] at h1
      cases ha : aread P σ (ev S) ⟨d, op, ty, pos, af, g⟩ with
      | none => simp [ha] at h1
      | some v => simp only [ha, Option.map_some, Option.bind_some] at h1; exact ⟨v, rfl, n, S', σ', h1, h2⟩
    · rename_i hw
      rw [if_neg hw] at h1
      exact ⟨n, S', σ', h1, h2⟩
  · intro h
    split at h
    · rename_i hw; obtain ⟨v, h1, h2⟩ := h; exact wpo_read hw hk h1 h2
    · rename_i hw; exact wpo_skip (by simpa using hw) h

theorem x_alloc {op : Op} {g : Option (Nat × Bool)} (hk : kindOf ⟨d, op, ty, pos, af, g⟩ = .alloc) : wpo P ops base (⟨d, op, ty, pos, af, g⟩ :: l) i S σ Q ↔
    if wanted ops S ⟨d, op, ty, pos, af, g⟩ = true then ∃ v ob, aalloc P (ev S) ⟨d, op, ty, pos, af, g⟩ (base + i) = some (v, ob) ∧ wpo P ops base l (i + 1) (S.store d v) (σ.put (base + i) ob) Q else wpo P ops base l (i + 1) (S.store d undef) σ Q := by
  constructor
  · rintro ⟨n, S', σ', h1, h2⟩
    rw [runOps_cons] at h1
    split
    · rename_i hw
      rw [if_pos hw] at h1
      simp only [aop, hk] at h1
      cases ha : aalloc P (ev S) ⟨d, op, ty, pos, af, g⟩ (base + i) with
      | none => simp [ha] at h1
      | some v => simp only [ha, Option.map_some, Option.bind_some] at h1; exact ⟨v.1, v.2, rfl, n, S', σ', h1, h2⟩
    · rename_i hw
      rw [if_neg hw] at h1
      exact ⟨n, S', σ', h1, h2⟩
  · intro h
    split at h
    · rename_i hw; obtain ⟨v, ob, h1, h2⟩ := h; exact wpo_alloc hw hk h1 h2
    · rename_i hw; exact wpo_skip (by simpa using hw) h
end

section
variable {P : Program}
/-! ### the frame -/
theorem at_nil (i : Nat) : Slots.at (Tr.nil : Tr Value) i = undef := rfl
theorem at_node (v : Option Value) (l r : Tr Value) (n : Nat) : Slots.at (Tr.node v l r) n = if n = 0 then v.getD undef else if n % 2 = 1 then Slots.at l (n / 2) else Slots.at r (n / 2 - 1) := by
  simp only [Slots.at, Tr.get_node]
  split
  · rfl
  · split <;> rfl
theorem at_node0 (v : Option Value) (l r : Tr Value) : Slots.at (Tr.node v l r) 0 = v.getD undef := by rw [at_node, if_pos rfl]
theorem at_node1 (v : Option Value) (l r : Tr Value) {n : Nat} (h : n % 2 = 1) : Slots.at (Tr.node v l r) n = Slots.at l (n / 2) := by rw [at_node, if_neg (by omega), if_pos h]
theorem at_node2 (v : Option Value) (l r : Tr Value) {n : Nat} (h : n % 2 = 0) (h0 : n ≠ 0) : Slots.at (Tr.node v l r) n = Slots.at r (n / 2 - 1) := by rw [at_node, if_neg h0, if_neg (by omega)]
theorem store_some (S : Slots) (d : Tmp) (v : Value) : Slots.store S (some d) v = Tr.set S d v := rfl
theorem store_none (S : Slots) (v : Value) : Slots.store S none v = S := rfl
theorem ev_tmp (S : Slots) (t : Tmp) : ev S (.tmp t) = S.at t := rfl
theorem ev_const (S : Slots) (v : Value) : ev S (.const v) = v := rfl
theorem ev_func (S : Slots) (f : FuncId) : ev S (.func f) = .func (.func f) #[] #[] := rfl
theorem wanted_none (ops : Array Oper) (S : Slots) (d : Option Tmp) (op : Op) (ty : TypeId) (pos : String) (af : Array Edge) : wanted ops S ⟨d, op, ty, pos, af, none⟩ = true := rfl
end
end Go.AI
