/- Weakest preconditions over the abstract machine, without fuel. -/
import Derived.Test.YtlealdhgajomhaaAiSound
namespace Go.AI
set_option linter.unusedVariables false
set_option linter.unusedSimpArgs false

section
variable {P : Program}

abbrev CallT := FuncId → Array Value → St → Option (Value × St)

/-- 'k' answers wherever 'c' does, and alike -/
def Le (c k : CallT) : Prop := ∀ f args σ r, c f args σ = some r → k f args σ = some r

theorem aeff_le {c k : CallT} (h : Le c k) {σ : St} {ρ : Operand → Value} {o : Oper} {id : Nat} {r : Value × St} (e : aeff P c σ ρ o id = some r) : aeff P k σ ρ o id = some r := by
  unfold aeff at e ⊢
  split at e <;> try exact e
  split at e <;> try exact e
  rename_i c' _ _ _
  cases hc : acallee ρ c' with
  | none => simp [hc] at e
  | some x => obtain ⟨g, args⟩ := x; simp only [hc] at e ⊢; exact h _ _ _ _ e

theorem aop_le {c k : CallT} (h : Le c k) {base i : Nat} {o : Oper} {S : Slots} {σ : St} {r : Value × St} (e : aop P c base i o S σ = some r) : aop P k base i o S σ = some r := by
  unfold aop at e ⊢
  cases hk : kindOf o with
  | pure => simp only [hk] at e ⊢; exact e
  | read => simp only [hk] at e ⊢; exact e
  | alloc => simp only [hk] at e ⊢; exact e
  | eff => simp only [hk] at e ⊢; exact aeff_le h e

theorem runOps_le {c k : CallT} (h : Le c k) {ops : Array Oper} {base : Nat} : ∀ (l : List Oper) (i : Nat) (S : Slots) (σ : St) (r : Slots × St), runOps P c ops base l i S σ = some r → runOps P k ops base l i S σ = some r := by
  intro l
  induction l with
  | nil => intro i S σ r e; exact e
  | cons o l ih =>
    intro i S σ r e
    simp only [runOps] at e ⊢
    cases hw : wanted ops S o with
    | false => simp only [hw, cond_false] at e ⊢; exact ih _ _ _ _ e
    | true =>
      simp only [hw, cond_true] at e ⊢
      cases ha : aop P c base i o S σ with
      | none => simp [ha] at e
      | some x => obtain ⟨v, σ'⟩ := x; simp only [ha] at e; simp only [aop_le h ha]; exact ih _ _ _ _ e

theorem runDraw_le {c k : CallT} (h : Le c k) {ops : Array Oper} {ms : List Nat} {base : Nat} : ∀ (l : List Nat) (pend : List Pend) (S : Slots) (σ : St) (r : Slots × St), runDraw P c ops ms base l pend S σ = some r → runDraw P k ops ms base l pend S σ = some r := by
  intro l
  induction l with
  | nil => intro pend S σ r e; exact e
  | cons i l ih =>
    intro pend S σ r e
    simp only [runDraw] at e ⊢
    cases ho : ops[i]? with
    | none => simp [ho] at e
    | some o =>
      simp only [ho] at e ⊢
      cases hw : wanted ops S o with
      | false => simp only [hw, cond_false] at e ⊢; exact ih _ _ _ _ e
      | true =>
        simp only [hw, cond_true] at e ⊢
        cases hk : kindOf o with
        | pure =>
          simp only [hk] at e ⊢
          cases ha : apure P (ev S) o with
          | none => simp [ha] at e
          | some v => simp only [ha] at e ⊢; exact ih _ _ _ _ e
        | read =>
          simp only [hk] at e ⊢
          cases ha : aread P σ (ev S) o with
          | none => simp [ha] at e
          | some v => simp only [ha] at e ⊢; exact ih _ _ _ _ e
        | alloc =>
          simp only [hk] at e ⊢
          cases ha : aalloc P (ev S) o (base + i) with
          | none => simp [ha] at e
          | some v => simp only [ha] at e ⊢; exact ih _ _ _ _ e
        | eff =>
          simp only [hk] at e ⊢
          cases hc : pend.all (check P base σ) with
          | false => simp [hc] at e
          | true =>
            simp only [hc, cond_true] at e ⊢
            cases ha : aeff P c σ (ev S) o (base + i) with
            | none => simp [ha] at e
            | some v => simp only [ha] at e; simp only [aeff_le h ha]; exact ih _ _ _ _ e

theorem runRegion_le {c k : CallT} (h : Le c k) {ops : Array Oper} {draw : Bool} {S : Slots} {σ : St} {r : Slots × St} (e : runRegion P c ops draw S σ = some r) : runRegion P k ops draw S σ = some r := by
  unfold runRegion at e ⊢
  cases draw with
  | false => exact runOps_le h _ _ _ _ _ e
  | true => exact runDraw_le h _ _ _ _ _ e

theorem iter_le {b d : Slots → St → Option (Fl × Slots × St)} (h : ∀ S σ r, b S σ = some r → d S σ = some r) : ∀ (n m : Nat) (S : Slots) (σ : St) (r : Fl × Slots × St), n ≤ m → iter b n S σ = some r → iter d m S σ = some r := by
  intro n
  induction n with
  | zero => intro m S σ r _ e; simp [iter] at e
  | succ n ih =>
    intro m S σ r hm e
    obtain ⟨m, rfl⟩ : ∃ m', m = m' + 1 := ⟨m - 1, by omega⟩
    simp only [iter] at e ⊢
    cases hb : b S σ with
    | none => simp [hb] at e
    | some x =>
      obtain ⟨fl, S', σ'⟩ := x
      rw [hb] at e
      rw [h _ _ _ hb]
      cases fl with
      | normal => exact ih m S' σ' r (by omega) e
      | exit k => exact e
      | ret => exact e

theorem exec_le {c k : CallT} (h : Le c k) {L M : Nat} (hL : L ≤ M) : ∀ (code : Code) (S : Slots) (σ : St) (r : Fl × Slots × St), exec P c L code S σ = some r → exec P k M code S σ = some r := by
  intro code
  induction code with
  | skip => intro S σ r e; exact e
  | label l => intro S σ r e; exact e
  | region id ops draw =>
    intro S σ r e
    simp only [exec, Option.map_eq_some_iff] at e ⊢
    obtain ⟨x, h1, h2⟩ := e
    exact ⟨x, runRegion_le h h1, h2⟩
  | seq a b iha ihb =>
    intro S σ r e
    simp only [exec] at e ⊢
    cases ha : exec P c L a S σ with
    | none => simp [ha] at e
    | some x =>
      obtain ⟨fl, S', σ'⟩ := x
      rw [ha] at e
      rw [iha _ _ _ ha]
      cases fl with
      | normal => exact ihb _ _ _ e
      | exit k => exact e
      | ret => exact e
  | cond x a b iha ihb =>
    intro S σ r e
    simp only [exec] at e ⊢
    split at e <;> try cases e
    · exact iha _ _ _ e
    · exact ihb _ _ _ e
  | block id a iha =>
    intro S σ r e
    simp only [exec] at e ⊢
    cases ha : exec P c L a S σ with
    | none => simp [ha] at e
    | some x => rw [ha] at e; rw [iha _ _ _ ha]; exact e
  | loop a iha =>
    intro S σ r e
    simp only [exec] at e ⊢
    exact iter_le (fun S σ r => iha S σ r) L M S σ r hL e
  | exit n => intro S σ r e; exact e
  | ret => intro S σ r e; exact e
  | scope a iha => intro S σ r e; exact iha S σ r e
  | goto l => intro S σ r e; simp [exec] at e
  | refuse s => intro S σ r e; simp [exec] at e
  | rangeFunc x ts a b _ _ => intro S σ r e; simp [exec] at e

theorem callF_le {L M : Nat} (hL : L ≤ M) : ∀ (n m : Nat), n ≤ m → Le (callF P L n) (callF P M m) := by
  intro n
  induction n with
  | zero => intro m _ f args σ r e; simp [callF] at e
  | succ n ih =>
    intro m hm f args σ r e
    obtain ⟨m, rfl⟩ : ∃ m', m = m' + 1 := ⟨m - 1, by omega⟩
    simp only [callF] at e ⊢
    cases hf : P.funcs[f]? with
    | none => simp [hf] at e
    | some fn =>
      simp only [hf] at e ⊢
      cases hb : fn.body with
      | none => simp [hb] at e
      | some c =>
        simp only [hb] at e ⊢
        cases hx : exec P (callF P L n) L c (fillS args.toList 0 .nil) σ with
        | none => simp [hx] at e
        | some x => rw [hx] at e; rw [exec_le (ih m (by omega)) hL _ _ _ _ hx]; exact e

/-! ### weakest preconditions -/
/-- a call -/
def wpc (P : Program) (f : FuncId) (args : Array Value) (σ : St) (Q : Value → St → Prop) : Prop := ∃ n r σ', callF P n n f args σ = some (r, σ') ∧ Q r σ'
/-- code -/
def wpx (P : Program) (c : Code) (S : Slots) (σ : St) (Q : Fl → Slots → St → Prop) : Prop := ∃ n fl S' σ', exec P (callF P n n) n c S σ = some (fl, S', σ') ∧ Q fl S' σ'
/-- a region -/
def wpr (P : Program) (ops : Array Oper) (draw : Bool) (S : Slots) (σ : St) (Q : Slots → St → Prop) : Prop := ∃ n S' σ', runRegion P (callF P n n) ops draw S σ = some (S', σ') ∧ Q S' σ'
/-- operations -/
def wpo (P : Program) (ops : Array Oper) (base : Nat) (l : List Oper) (i : Nat) (S : Slots) (σ : St) (Q : Slots → St → Prop) : Prop := ∃ n S' σ', runOps P (callF P n n) ops base l i S σ = some (S', σ') ∧ Q S' σ'

theorem wpc_mono {f : FuncId} {args : Array Value} {σ : St} {Q R : Value → St → Prop} (h : wpc P f args σ Q) (hq : ∀ r σ', Q r σ' → R r σ') : wpc P f args σ R := by
  obtain ⟨n, r, σ', h1, h2⟩ := h; exact ⟨n, r, σ', h1, hq _ _ h2⟩
theorem wpx_mono {c : Code} {S : Slots} {σ : St} {Q R : Fl → Slots → St → Prop} (h : wpx P c S σ Q) (hq : ∀ fl S' σ', Q fl S' σ' → R fl S' σ') : wpx P c S σ R := by
  obtain ⟨n, fl, S', σ', h1, h2⟩ := h; exact ⟨n, fl, S', σ', h1, hq _ _ _ h2⟩

/-- what stands behind -/
def thenx (P : Program) (c : Code) (Q : Fl → Slots → St → Prop) : Fl → Slots → St → Prop
  | .normal, S, σ => wpx P c S σ Q
  | fl, S, σ => Q fl S σ

theorem le_max_call {a b : Nat} (h : a ≤ b) : Le (callF P a a) (callF P b b) := callF_le h a b h

theorem wpx_seq {a b : Code} {S : Slots} {σ : St} {Q : Fl → Slots → St → Prop} (h : wpx P a S σ (thenx P b Q)) : wpx P (.seq a b) S σ Q := by
  obtain ⟨n, fl, S', σ', h1, h2⟩ := h
  cases fl with
  | normal =>
    obtain ⟨m, fl2, S2, σ2, h3, h4⟩ := h2
    refine ⟨max n m, fl2, S2, σ2, ?_, h4⟩
    simp only [exec, exec_le (le_max_call (Nat.le_max_left n m)) (Nat.le_max_left n m) _ _ _ _ h1]
    exact exec_le (le_max_call (Nat.le_max_right n m)) (Nat.le_max_right n m) _ _ _ _ h3
  | exit k => exact ⟨n, .exit k, S', σ', by simp only [exec, h1], h2⟩
  | ret => exact ⟨n, .ret, S', σ', by simp only [exec, h1], h2⟩

theorem wpx_skip {S : Slots} {σ : St} {Q : Fl → Slots → St → Prop} (h : Q .normal S σ) : wpx P .skip S σ Q := ⟨0, _, _, _, rfl, h⟩
theorem wpx_label {l : Nat} {S : Slots} {σ : St} {Q : Fl → Slots → St → Prop} (h : Q .normal S σ) : wpx P (.label l) S σ Q := ⟨0, _, _, _, rfl, h⟩
theorem wpx_exit {k : Nat} {S : Slots} {σ : St} {Q : Fl → Slots → St → Prop} (h : Q (.exit k) S σ) : wpx P (.exit k) S σ Q := ⟨0, _, _, _, rfl, h⟩
theorem wpx_ret {S : Slots} {σ : St} {Q : Fl → Slots → St → Prop} (h : Q .ret S σ) : wpx P .ret S σ Q := ⟨0, _, _, _, rfl, h⟩
theorem wpx_scope {c : Code} {S : Slots} {σ : St} {Q : Fl → Slots → St → Prop} (h : wpx P c S σ Q) : wpx P (.scope c) S σ Q := h
theorem wpx_cond {x : Operand} {a b : Code} {S : Slots} {σ : St} {Q : Fl → Slots → St → Prop} {t : Bool} (ht : ev S x = .bool t) (h : wpx P (if t = true then a else b) S σ Q) : wpx P (.cond x a b) S σ Q := by
  obtain ⟨n, fl, S', σ', h1, h2⟩ := h
  refine ⟨n, fl, S', σ', ?_, h2⟩
  cases t with
  | true => simp only [exec, ht]; exact h1
  | false => simp only [exec, ht]; exact h1
theorem wpx_cond_t {x : Operand} {a b : Code} {S : Slots} {σ : St} {Q : Fl → Slots → St → Prop} (ht : ev S x = .bool true) (h : wpx P a S σ Q) : wpx P (.cond x a b) S σ Q := wpx_cond ht h
theorem wpx_cond_f {x : Operand} {a b : Code} {S : Slots} {σ : St} {Q : Fl → Slots → St → Prop} (ht : ev S x = .bool false) (h : wpx P b S σ Q) : wpx P (.cond x a b) S σ Q := wpx_cond ht h

def inBlockx (id : Nat) (Q : Fl → Slots → St → Prop) : Fl → Slots → St → Prop
  | .exit k, S, σ => if k = id then Q .normal S σ else Q (.exit k) S σ
  | fl, S, σ => Q fl S σ

theorem wpx_block {id : Nat} {c : Code} {S : Slots} {σ : St} {Q : Fl → Slots → St → Prop} (h : wpx P c S σ (inBlockx id Q)) : wpx P (.block id c) S σ Q := by
  obtain ⟨n, fl, S', σ', h1, h2⟩ := h
  cases fl with
  | normal => exact ⟨n, .normal, S', σ', by simp only [exec, h1], h2⟩
  | ret => exact ⟨n, .ret, S', σ', by simp only [exec, h1], h2⟩
  | exit k =>
    by_cases e : k = id
    · refine ⟨n, .normal, S', σ', ?_, by simpa [inBlockx, e] using h2⟩
      simp [exec, h1, nbeq, e]
    · refine ⟨n, .exit k, S', σ', ?_, by simpa [inBlockx, e] using h2⟩
      simp [exec, h1, nbeq, e]

/-- a loop: an invariant and a measure -/
theorem wpx_loop {c : Code} {Q : Fl → Slots → St → Prop} (I : Nat → Slots → St → Prop)
    (h : ∀ m S σ, I m S σ → wpx P c S σ fun fl S' σ' => match fl with | .normal => ∃ m', m' < m ∧ I m' S' σ' | fl => Q fl S' σ') :
    ∀ (m : Nat) (S : Slots) (σ : St), I m S σ → wpx P (.loop c) S σ Q := by
  have main : ∀ (m : Nat) (S : Slots) (σ : St), I m S σ → ∃ n fl S' σ', iter (fun S σ => exec P (callF P n n) n c S σ) n S σ = some (fl, S', σ') ∧ Q fl S' σ' := by
    intro m
    induction m using Nat.strongRecOn with
    | _ m ih =>
      intro S σ hI
      obtain ⟨n, fl, S', σ', h1, h2⟩ := h m S σ hI
      cases fl with
      | normal =>
        obtain ⟨m', hm, hI'⟩ := h2
        obtain ⟨k, fl2, S2, σ2, h3, h4⟩ := ih m' hm S' σ' hI'
        refine ⟨max n k + 1, fl2, S2, σ2, ?_, h4⟩
        simp only [iter]
        rw [exec_le (le_max_call (show n ≤ max n k + 1 by omega)) (by omega) _ _ _ _ h1]
        exact iter_le (fun S σ r e => exec_le (le_max_call (show k ≤ max n k + 1 by omega)) (by omega) _ _ _ _ e) k (max n k) S' σ' _ (by omega) h3
      | exit j => refine ⟨n + 1, .exit j, S', σ', ?_, h2⟩; simp only [iter]; rw [exec_le (le_max_call (Nat.le_succ n)) (Nat.le_succ n) _ _ _ _ h1]
      | ret => refine ⟨n + 1, .ret, S', σ', ?_, h2⟩; simp only [iter]; rw [exec_le (le_max_call (Nat.le_succ n)) (Nat.le_succ n) _ _ _ _ h1]
  intro m S σ hI
  obtain ⟨n, fl, S', σ', h1, h2⟩ := main m S σ hI
  exact ⟨n, fl, S', σ', by simpa only [exec] using h1, h2⟩

theorem wpx_region {id : Nat} {ops : Array Oper} {draw : Bool} {S : Slots} {σ : St} {Q : Fl → Slots → St → Prop} (h : wpr P ops draw S σ (Q .normal)) : wpx P (.region id ops draw) S σ Q := by
  obtain ⟨n, S', σ', h1, h2⟩ := h
  exact ⟨n, .normal, S', σ', by simp [exec, h1], h2⟩

theorem wpr_text {ops : Array Oper} {S : Slots} {σ : St} {Q : Slots → St → Prop} (h : wpo P ops σ.next ops.toList 0 S { σ with next := σ.next + ops.size } Q) : wpr P ops false S σ Q := h

theorem wpo_nil {ops : Array Oper} {base i : Nat} {S : Slots} {σ : St} {Q : Slots → St → Prop} (h : Q S σ) : wpo P ops base [] i S σ Q := ⟨0, S, σ, rfl, h⟩

theorem wpo_skip {ops : Array Oper} {base i : Nat} {o : Oper} {l : List Oper} {S : Slots} {σ : St} {Q : Slots → St → Prop} (hw : wanted ops S o = false) (h : wpo P ops base l (i + 1) (S.store o.dst undef) σ Q) : wpo P ops base (o :: l) i S σ Q := by
  obtain ⟨n, S', σ', h1, h2⟩ := h
  exact ⟨n, S', σ', by simp only [runOps, hw, cond_false]; exact h1, h2⟩

theorem wpo_pure {ops : Array Oper} {base i : Nat} {o : Oper} {l : List Oper} {S : Slots} {σ : St} {Q : Slots → St → Prop} {v : Value} (hw : wanted ops S o = true) (hk : kindOf o = .pure) (hv : apure P (ev S) o = some v)
    (h : wpo P ops base l (i + 1) (S.store o.dst v) σ Q) : wpo P ops base (o :: l) i S σ Q := by
  obtain ⟨n, S', σ', h1, h2⟩ := h
  exact ⟨n, S', σ', by simp only [runOps, hw, cond_true, aop, hk, hv, Option.map_some]; exact h1, h2⟩

theorem wpo_read {ops : Array Oper} {base i : Nat} {o : Oper} {l : List Oper} {S : Slots} {σ : St} {Q : Slots → St → Prop} {v : Value} (hw : wanted ops S o = true) (hk : kindOf o = .read) (hv : aread P σ (ev S) o = some v)
    (h : wpo P ops base l (i + 1) (S.store o.dst v) σ Q) : wpo P ops base (o :: l) i S σ Q := by
  obtain ⟨n, S', σ', h1, h2⟩ := h
  exact ⟨n, S', σ', by simp only [runOps, hw, cond_true, aop, hk, hv, Option.map_some]; exact h1, h2⟩

theorem wpo_alloc {ops : Array Oper} {base i : Nat} {o : Oper} {l : List Oper} {S : Slots} {σ : St} {Q : Slots → St → Prop} {v : Value} {ob : AObj} (hw : wanted ops S o = true) (hk : kindOf o = .alloc) (hv : aalloc P (ev S) o (base + i) = some (v, ob))
    (h : wpo P ops base l (i + 1) (S.store o.dst v) (σ.put (base + i) ob) Q) : wpo P ops base (o :: l) i S σ Q := by
  obtain ⟨n, S', σ', h1, h2⟩ := h
  exact ⟨n, S', σ', by simp only [runOps, hw, cond_true, aop, hk, hv, Option.map_some]; exact h1, h2⟩

/-- an effect of its own, not a call -/
theorem wpo_eff {ops : Array Oper} {base i : Nat} {o : Oper} {l : List Oper} {S : Slots} {σ σ1 : St} {Q : Slots → St → Prop} {v : Value} (hw : wanted ops S o = true) (hk : kindOf o = .eff) (hv : ∀ c, aeff P c σ (ev S) o (base + i) = some (v, σ1))
    (h : wpo P ops base l (i + 1) (S.store o.dst v) σ1 Q) : wpo P ops base (o :: l) i S σ Q := by
  obtain ⟨n, S', σ', h1, h2⟩ := h
  exact ⟨n, S', σ', by simp only [runOps, hw, cond_true, aop, hk, hv]; exact h1, h2⟩

/-- a call of a Go function -/
theorem wpo_call {ops : Array Oper} {base i : Nat} {o : Oper} {l : List Oper} {S : Slots} {σ : St} {Q : Slots → St → Prop} {g : FuncId} {args : Array Value} (hw : wanted ops S o = true) (hk : kindOf o = .eff)
    (hv : ∀ c : CallT, aeff P c σ (ev S) o (base + i) = c g args σ) (h : wpc P g args σ fun r σ1 => wpo P ops base l (i + 1) (S.store o.dst r) σ1 Q) : wpo P ops base (o :: l) i S σ Q := by
  obtain ⟨n, r, σ1, h1, m, S', σ', h2, h3⟩ := h
  refine ⟨max n m, S', σ', ?_, h3⟩
  simp only [runOps, hw, cond_true, aop, hk, hv, le_max_call (Nat.le_max_left n m) _ _ _ _ h1]
  exact runOps_le (le_max_call (Nat.le_max_right n m)) _ _ _ _ _ h2

/-- a function's body -/
theorem wpc_body {f : FuncId} {fn : Func} {c : Code} {args : Array Value} {σ : St} {Q : Value → St → Prop} (hf : P.funcs[f]? = some fn) (hb : fn.body = some c)
    (h : wpx P c (fillS args.toList 0 .nil) σ fun fl S' σ' => (match fl with | .exit _ => False | _ => True) ∧ ∃ vs, resultsOf P S' σ' fn.results.toList = some vs ∧ Q (answer vs) σ') : wpc P f args σ Q := by
  obtain ⟨n, fl, S', σ', h1, h2, vs, h3, h4⟩ := h
  refine ⟨n + 1, answer vs, σ', ?_, h4⟩
  simp only [callF, hf, hb]
  rw [exec_le (callF_le (Nat.le_succ n) n n (Nat.le_refl n)) (Nat.le_succ n) _ _ _ _ h1]
  cases fl with
  | exit k => exact h2.elim
  | normal => simp [h3]
  | ret => simp [h3]

/-- **From the abstract machine to the model.** -/
theorem wpc_calls (hP : okProg P = true) {w0 : World} {f : FuncId} {args args' : Array Value} {σ : St} {Q : Value → St → Prop} (h : wpc P f args σ Q) {μ : Mp} {w : World} (Z : Sim w0 P μ σ w) (hargs : VRL μ args.toList args'.toList) :
    Calls P f args' w fun e w' => ∃ μ' r σ' r', Q r σ' ∧ e = .returned r' ∧ VR μ' r r' ∧ Sim w0 P μ' σ' w' := by
  obtain ⟨n, r, σ', h1, h2⟩ := h
  exact (callF_ok hP n n f args args' σ σ' w μ r h1 Z hargs).2.mono fun e w' ⟨μ', r', he, hr, hZ, _, _⟩ => ⟨μ', r, σ', r', h2, he, hr, hZ⟩

end
end Go.AI
