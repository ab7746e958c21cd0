import Derived.Test.YtmjddjjcnhckgaaGreatDoorKe
import Derived.IntWalk
set_option linter.unusedVariables false
set_option linter.unusedSimpArgs false
set_option linter.constructorNameAsVariable false
namespace Go.AI
def orcA : Orc := ⟨102, fun a b => bif decide (b = 10) then (bif decide (a = -1) then some [45, 49] else bif decide (a = -2) then some [45, 50] else bif decide (a = -3) then some [45, 51] else none) else none, 102⟩
def knwL (f : FuncId) (args : List Value) : Option (List UInt8 × List UInt8) :=
 bif Nat.beq f 50 then (match args with
  | [.int .i64 a] => bif decide (a = 0) then some ([48], [49]) else bif decide (a = 1) then some ([49], [49]) else bif decide (a = 2) then some ([50], [49]) else bif decide (a = 3) then some ([51], [49])
   else bif decide (a = -1) then some ([45, 49], [49]) else bif decide (a = -2) then some ([45, 50], [49]) else bif decide (a = -3) then some ([45, 51], [49]) else none
  | _ => none)
 else bif Nat.beq f 51 then (match args with
  | [.string a, .string b] => bif decide (a = ⟨#[49]⟩) && decide (b = ⟨#[50]⟩) then some ([49], [50]) else bif decide (a = ⟨#[45, 53]⟩) && decide (b = ⟨#[51]⟩) then some ([45, 53], [51]) else none
  | _ => none) else none
def numV (p : List UInt8 × List UInt8) : Value := .agg #[.int .i64 1, .string ⟨p.1.toArray⟩, .string ⟨p.2.toArray⟩, .string ⟨#[]⟩, .string ⟨#[]⟩, .string ⟨#[]⟩, .slice none 0 0]
def orQ (f : FuncId) (args : Array Value) : Option Value := match orA orcA f args with
 | some v => some v
 | none => (knwL f args.toList).map numV
def callQ (P : Program) (L : Nat) : Nat → FuncId → Array Value → St → Option (Value × St)
 | 0, _, _, _ => none
 | n + 1, f, args, σ => match orQ f args with
  | some v => some (v, σ)
  | none => match P.funcs[f]? with
   | some fn => match fn.body with
    | some c => match exec P (callQ P L n) L c (fillS args.toList 0 .nil) σ with
     | some (.exit _, _, _) => none
     | some (_, S, σ') => (resultsOf P S σ' fn.results.toList).map fun vs => (answer vs, σ')
     | none => none
    | none => none
   | none => none
abbrev noOr (f : FuncId) : Bool := !(Nat.beq f orcA.n || Nat.beq f orcA.m || (Nat.beq f 50 || Nat.beq f 51))
theorem noOr_none {f : FuncId} {args : Array Value} (h : noOr f = true) : orQ f args = none := by
 unfold noOr at h
 rw [Bool.not_eq_true', Bool.or_eq_false_iff, Bool.or_eq_false_iff, Bool.or_eq_false_iff] at h
 unfold orQ orA knwL
 rw [h.1.1, h.1.2, h.2.1, h.2.2]; rfl
def KnwOK (P : Program) (w0 : World) : Prop := ∀ f args p, knwL f args = some p → ∀ w, Kept w0 w →
 (∃ fn c, P.funcs[f]? = some fn ∧ fn.body = some c ∧ (fn.name == "runtime.NumGoroutine") = false) ∧ Calls P f args.toArray w fun e w' => e = .returned (numV p) ∧ Kept w w'
structure OrQOK (P : Program) (w0 : World) : Prop where
 o : OrcOK P w0 orcA
 k : KnwOK P w0
theorem knwL_plain {f : FuncId} {args : List Value} {p : List UInt8 × List UInt8} (h : knwL f args = some p) : args.all plain0 = true := by
 unfold knwL at h
 cases h1 : Nat.beq f 50 with
 | true =>
  rw [h1, cond_true] at h
  split at h
  ·rfl
  ·cases h
 | false =>
  rw [h1, cond_false] at h
  cases h2 : Nat.beq f 51 with
  | true =>
   rw [h2, cond_true] at h
   split at h
   ·rfl
   ·cases h
  | false => rw [h2] at h; cases h
theorem numV_vr {μ : Mp} (p : List UInt8 × List UInt8) : VR μ (numV p) (numV p) :=
 .agg _ _ rfl fun i x u hx hu => by
  have h := VRL.same (μ := μ) (xs := [.int .i64 1, .string ⟨p.1.toArray⟩, .string ⟨p.2.toArray⟩, .string ⟨#[]⟩, .string ⟨#[]⟩, .string ⟨#[]⟩, .slice none 0 0]) rfl
  exact h.2 i x u hx hu
section
variable {w0 : World} {P : Program}
theorem callQ_ok (hP : okProg P = true) (hO : OrQOK P w0) (L : Nat) : ∀ n, CallOK w0 P (callQ P L n) := by
 have hP0 := hP
 simp only [okProg, Bool.and_eq_true, List.all_eq_true] at hP
 obtain ⟨hfs, hfol⟩ := hP
 intro n
 induction n with
 | zero => intro f args args' σ σ' w μ r h; simp [callQ] at h
 | succ n ih =>
  intro f args args' σ σ' w μ r h Z hargs
  simp only [callQ] at h
  split at h
  ·rename_i v hv
   simp only [Option.some.injEq, Prod.mk.injEq] at h
   obtain ⟨rfl, rfl⟩ := h
   unfold orQ at hv
   split at hv
   ·rename_i v' hv'
    cases hv
    exact callO_ok hP0 hO.o 0 1 f args args' σ σ w μ v (by simp only [callO, hv']) Z hargs
   ·rw [Option.map_eq_some_iff] at hv
    obtain ⟨p, hp, rfl⟩ := hv
    have q3 : args' = args.toList.toArray := by rw [← Array.toArray_toList (xs := args'), hargs.eq0 (knwL_plain hp)]
    subst q3
    obtain ⟨g1, g2⟩ := hO.k f _ p hp w Z.kept
    exact ⟨g1, g2.mono fun e w' ⟨h5, h6⟩ => ⟨μ, _, h5, numV_vr p, Z.keep h6, .refl _ _, Nat.le_refl _⟩⟩
  split at h <;> try cases h
  rename_i fn hf
  split at h <;> try cases h
  rename_i c hb
  have hfn := hfs fn (by have : P.funcs.toList[f]? = some fn := (by simpa using hf); exact List.mem_of_getElem? this)
  simp only [okFunc, hb, Bool.and_eq_true, Bool.not_eq_true'] at hfn
  refine ⟨⟨fn, c, hf, hb, hfn.2⟩, ?_⟩
  cases hx : exec P (callQ P L n) L c (fillS args.toList 0 .nil) σ with
  | none => simp [hx] at h
  | some x =>
   obtain ⟨fl, S', σ1⟩ := x
   have A0 : AR μ (fillS args.toList 0 .nil) fn.ntmps { tmps := args' ++ Array.replicate (fn.ntmps - args'.size) undef, defers := [] } := by
    have hsz := hargs.size
    refine ⟨by simp; omega, rfl, fun i => ?_⟩
    rw [fillS_at]
    simp only [Nat.zero_le, true_and, Nat.zero_add, Nat.sub_zero, Array.length_toList]
    rw [Array.getD_eq_getD_getElem?]
    by_cases hi : i < args.size
    ·rw [if_pos hi, Array.getElem?_append_left (by omega)]
     have h1 : args.toList[i]? = some args[i] := by simp [hi]
     obtain ⟨u, hu, hr⟩ := hargs.get h1
     have hu' : args'[i]? = some u := by simpa using hu
     rw [h1, hu']; exact hr
    ·rw [if_neg hi, Array.getElem?_append_right (by omega)]
     have : ((Array.replicate (fn.ntmps - args'.size) undef)[i - args'.size]?).getD undef = undef := by
      by_cases h2 : i - args'.size < fn.ntmps - args'.size
      ·simp [h2]
      ·simp [h2]
     rw [this]
     exact .undef
   have fin : ∀ (R : Exit), R = .normal ∨ R = .ret → (resultsOf P S' σ1 fn.results.toList).map (fun vs => (answer vs, σ1)) = some (r, σ') →
          Post w0 P μ σ.next fn.ntmps S' σ1 (bodyPost P fn (fun e w' => ∃ μ' r', e = .returned r' ∧ VR μ' r r' ∧ Sim w0 P μ' σ' w' ∧ Ext σ.next μ μ' ∧ σ.next ≤ σ'.next) R) := by
    intro R hR hres a' w' μ' A' Z' E hl
    rw [Option.map_eq_some_iff] at hres
    obtain ⟨vs, hvs, he⟩ := hres
    cases he
    obtain ⟨v', h1, h2⟩ := answer_ok A' Z' hvs
    rcases hR with rfl | rfl
    ·exact ⟨A'.defers, v', h1, μ', v', rfl, h2, Z', E, hl⟩
    ·exact ⟨A'.defers, v', h1, μ', v', rfl, h2, Z', E, hl⟩
   refine calls_of_wp hf hb ?_
   cases fl with
   | exit k => simp [hx] at h
   | normal => simp only [hx] at h; exact exec_ok ih hfol L fn.ntmps c _ σ .normal S' σ1 _ w μ _ hx hfn.1 A0 Z (fin .normal (.inl rfl) h)
   | ret => simp only [hx] at h; exact exec_ok ih hfol L fn.ntmps c _ σ .ret S' σ1 _ w μ _ hx hfn.1 A0 Z (fin .ret (.inr rfl) h)
end
end Go.AI
namespace Go.AI
section
variable {P : Program}
abbrev CallT := FuncId → Array Value → St → Option (Value × St)
def Le (c k : CallT) : Prop := ∀ f args σ r, c f args σ = some r → k f args σ = some r
theorem aeff_le {c k : CallT} (h : Le c k) {σ : St} {ρ : Operand → Value} {o : Oper} {id : Nat} {r : Value × St} (e : aeff P c σ ρ o id = some r) : aeff P k σ ρ o id = some r := by
 unfold aeff at e ⊢
 split at e <;> try exact e
 split at e <;> try exact e
 rename_i c' _ _ _
 cases hc : acallee ρ c' with
 | none => simp [hc] at e
 | some x => obtain ⟨g, args⟩ := x; simp only [hc] at e ⊢; exact h _ _ _ _ e
theorem aop_le {c k : CallT} (h : Le c k) {base i : Nat} {o : Oper} {S : Slots} {σ : St} {r : Value × St} (e : aop P c base i o S σ = some r) : aop P k base i o S σ = some r := by
 unfold aop at e ⊢
 cases hk : kindOf o with
 | pure => simp only [hk] at e ⊢; exact e
 | read => simp only [hk] at e ⊢; exact e
 | alloc => simp only [hk] at e ⊢; exact e
 | eff => simp only [hk] at e ⊢; exact aeff_le h e
theorem runOps_le {c k : CallT} (h : Le c k) {ops : Array Oper} {base : Nat} : ∀ (l : List Oper) (i : Nat) (S : Slots) (σ : St) (r : Slots × St), runOps P c ops base l i S σ = some r → runOps P k ops base l i S σ = some r := by
 intro l
 induction l with
 | nil => intro i S σ r e; exact e
 | cons o l ih =>
  intro i S σ r e
  simp only [runOps] at e ⊢
  cases hw : wanted ops S o with
  | false => simp only [hw, cond_false] at e ⊢; exact ih _ _ _ _ e
  | true =>
   simp only [hw, cond_true] at e ⊢
   cases ha : aop P c base i o S σ with
   | none => simp [ha] at e
   | some x => obtain ⟨v, σ'⟩ := x; simp only [ha] at e; simp only [aop_le h ha]; exact ih _ _ _ _ e
theorem runDraw_le {c k : CallT} (h : Le c k) {ops : Array Oper} {ms : List Nat} {base : Nat} : ∀ (l : List Nat) (pend : List Pend) (S : Slots) (σ : St) (r : Slots × St), runDraw P c ops ms base l pend S σ = some r → runDraw P k ops ms base l pend S σ = some r := by
 intro l
 induction l with
 | nil => intro pend S σ r e; exact e
 | cons i l ih =>
  intro pend S σ r e
  simp only [runDraw] at e ⊢
  cases ho : ops[i]? with
  | none => simp [ho] at e
  | some o =>
   simp only [ho] at e ⊢
   cases hw : wanted ops S o with
   | false => simp only [hw, cond_false] at e ⊢; exact ih _ _ _ _ e
   | true =>
    simp only [hw, cond_true] at e ⊢
    cases hk : kindOf o with
    | pure =>
     simp only [hk] at e ⊢
     cases ha : apure P (ev S) o with
     | none => simp [ha] at e
     | some v => simp only [ha] at e ⊢; exact ih _ _ _ _ e
    | read =>
     simp only [hk] at e ⊢
     cases ha : aread P σ (ev S) o with
     | none => simp [ha] at e
     | some v => simp only [ha] at e ⊢; exact ih _ _ _ _ e
    | alloc =>
     simp only [hk] at e ⊢
     cases ha : aalloc P (ev S) o (base + i) with
     | none => simp [ha] at e
     | some v => simp only [ha] at e ⊢; exact ih _ _ _ _ e
    | eff =>
     simp only [hk] at e ⊢
     cases hc : pend.all (check P base σ) with
     | false => simp [hc] at e
     | true =>
      simp only [hc, cond_true] at e ⊢
      cases ha : aeff P c σ (ev S) o (base + i) with
      | none => simp [ha] at e
      | some v => simp only [ha] at e; simp only [aeff_le h ha]; exact ih _ _ _ _ e
theorem runRegion_le {c k : CallT} (h : Le c k) {ops : Array Oper} {draw : Bool} {S : Slots} {σ : St} {r : Slots × St} (e : runRegion P c ops draw S σ = some r) : runRegion P k ops draw S σ = some r := by
 unfold runRegion at e ⊢
 cases draw with
 | false => exact runOps_le h _ _ _ _ _ e
 | true =>
  simp only [cond_true] at e ⊢
  cases hr : runDraw P c ops (masks ops.toList []) σ.next (canon ops (masks ops.toList [])) [] S { σ with next := σ.next + ops.size } with
  | none => rw [hr] at e; cases e
  | some x => rw [runDraw_le h _ _ _ _ _ hr]; rw [hr] at e; exact e
theorem iter_le {b d : Slots → St → Option (Fl × Slots × St)} (h : ∀ S σ r, b S σ = some r → d S σ = some r) : ∀ (n m : Nat) (S : Slots) (σ : St) (r : Fl × Slots × St), n ≤ m → iter b n S σ = some r → iter d m S σ = some r := by
 intro n
 induction n with
 | zero => intro m S σ r _ e; simp [iter] at e
 | succ n ih =>
  intro m S σ r hm e
  obtain ⟨m, rfl⟩ : ∃ m', m = m' + 1 := ⟨m - 1, by omega⟩
  simp only [iter] at e ⊢
  cases hb : b S σ with
  | none => simp [hb] at e
  | some x =>
   obtain ⟨fl, S', σ'⟩ := x
   rw [hb] at e
   rw [h _ _ _ hb]
   cases fl with
   | normal => exact ih m S' σ' r (by omega) e
   | exit k => exact e
   | ret => exact e
theorem exec_le {c k : CallT} (h : Le c k) {L M : Nat} (hL : L ≤ M) : ∀ (code : Code) (S : Slots) (σ : St) (r : Fl × Slots × St), exec P c L code S σ = some r → exec P k M code S σ = some r := by
 intro code
 induction code with
 | skip => intro S σ r e; exact e
 | label l => intro S σ r e; exact e
 | region id ops draw =>
  intro S σ r e
  simp only [exec, Option.map_eq_some_iff] at e ⊢
  obtain ⟨x, h1, h2⟩ := e
  exact ⟨x, runRegion_le h h1, h2⟩
 | seq a b iha ihb =>
  intro S σ r e
  simp only [exec] at e ⊢
  cases ha : exec P c L a S σ with
  | none => simp [ha] at e
  | some x =>
   obtain ⟨fl, S', σ'⟩ := x
   rw [ha] at e
   rw [iha _ _ _ ha]
   cases fl with
   | normal => exact ihb _ _ _ e
   | exit k => exact e
   | ret => exact e
 | cond x a b iha ihb =>
  intro S σ r e
  simp only [exec] at e ⊢
  split at e <;> try cases e
  ·exact iha _ _ _ e
  ·exact ihb _ _ _ e
 | block id a iha =>
  intro S σ r e
  simp only [exec] at e ⊢
  cases ha : exec P c L a S σ with
  | none => simp [ha] at e
  | some x => rw [ha] at e; rw [iha _ _ _ ha]; exact e
 | loop a iha =>
  intro S σ r e
  simp only [exec] at e ⊢
  exact iter_le (fun S σ r => iha S σ r) L M S σ r hL e
 | exit n => intro S σ r e; exact e
 | ret => intro S σ r e; exact e
 | scope a iha => intro S σ r e; exact iha S σ r e
 | goto l => intro S σ r e; simp [exec] at e
 | refuse s => intro S σ r e; simp [exec] at e
 | rangeFunc x ts a b _ _ => intro S σ r e; simp [exec] at e
theorem callQ_le {L M : Nat} (hL : L ≤ M) : ∀ (n m : Nat), n ≤ m → Le (callQ P L n) (callQ P M m) := by
 intro n
 induction n with
 | zero => intro m _ f args σ r e; simp [callQ] at e
 | succ n ih =>
  intro m hm f args σ r e
  obtain ⟨m, rfl⟩ : ∃ m', m = m' + 1 := ⟨m - 1, by omega⟩
  simp only [callQ] at e ⊢
  cases ho : orQ f args with
  | some v => simp only [ho] at e ⊢; exact e
  | none =>
  simp only [ho] at e ⊢
  cases hf : P.funcs[f]? with
  | none => simp [hf] at e
  | some fn =>
   simp only [hf] at e ⊢
   cases hb : fn.body with
   | none => simp [hb] at e
   | some c =>
    simp only [hb] at e ⊢
    cases hx : exec P (callQ P L n) L c (fillS args.toList 0 .nil) σ with
    | none => simp [hx] at e
    | some x => rw [hx] at e; rw [exec_le (ih m (by omega)) hL _ _ _ _ hx]; exact e
def wpc (P : Program) (f : FuncId) (args : Array Value) (σ : St) (Q : Value → St → Prop) : Prop := ∃ n r σ', callQ P n n f args σ = some (r, σ') ∧ Q r σ'
def wpx (P : Program) (c : Code) (S : Slots) (σ : St) (Q : Fl → Slots → St → Prop) : Prop := ∃ n fl S' σ', exec P (callQ P n n) n c S σ = some (fl, S', σ') ∧ Q fl S' σ'
def wpr (P : Program) (ops : Array Oper) (draw : Bool) (S : Slots) (σ : St) (Q : Slots → St → Prop) : Prop := ∃ n S' σ', runRegion P (callQ P n n) ops draw S σ = some (S', σ') ∧ Q S' σ'
def wpo (P : Program) (ops : Array Oper) (base : Nat) (l : List Oper) (i : Nat) (S : Slots) (σ : St) (Q : Slots → St → Prop) : Prop := ∃ n S' σ', runOps P (callQ P n n) ops base l i S σ = some (S', σ') ∧ Q S' σ'
theorem wpc_mono {f : FuncId} {args : Array Value} {σ : St} {Q R : Value → St → Prop} (h : wpc P f args σ Q) (hq : ∀ r σ', Q r σ' → R r σ') : wpc P f args σ R := by
 obtain ⟨n, r, σ', h1, h2⟩ := h; exact ⟨n, r, σ', h1, hq _ _ h2⟩
theorem wpx_mono {c : Code} {S : Slots} {σ : St} {Q R : Fl → Slots → St → Prop} (h : wpx P c S σ Q) (hq : ∀ fl S' σ', Q fl S' σ' → R fl S' σ') : wpx P c S σ R := by
 obtain ⟨n, fl, S', σ', h1, h2⟩ := h; exact ⟨n, fl, S', σ', h1, hq _ _ _ h2⟩
def thenx (P : Program) (c : Code) (Q : Fl → Slots → St → Prop) : Fl → Slots → St → Prop
 | .normal, S, σ => wpx P c S σ Q
 | fl, S, σ => Q fl S σ
theorem le_max_call {a b : Nat} (h : a ≤ b) : Le (callQ P a a) (callQ P b b) := callQ_le h a b h
theorem wpx_seq {a b : Code} {S : Slots} {σ : St} {Q : Fl → Slots → St → Prop} (h : wpx P a S σ (thenx P b Q)) : wpx P (.seq a b) S σ Q := by
 obtain ⟨n, fl, S', σ', h1, h2⟩ := h
 cases fl with
 | normal =>
  obtain ⟨m, fl2, S2, σ2, h3, h4⟩ := h2
  refine ⟨max n m, fl2, S2, σ2, ?_, h4⟩
  simp only [exec, exec_le (le_max_call (Nat.le_max_left n m)) (Nat.le_max_left n m) _ _ _ _ h1]
  exact exec_le (le_max_call (Nat.le_max_right n m)) (Nat.le_max_right n m) _ _ _ _ h3
 | exit k => exact ⟨n, .exit k, S', σ', by simp only [exec, h1], h2⟩
 | ret => exact ⟨n, .ret, S', σ', by simp only [exec, h1], h2⟩
theorem wpx_skip {S : Slots} {σ : St} {Q : Fl → Slots → St → Prop} (h : Q .normal S σ) : wpx P .skip S σ Q := ⟨0, _, _, _, rfl, h⟩
theorem wpx_label {l : Nat} {S : Slots} {σ : St} {Q : Fl → Slots → St → Prop} (h : Q .normal S σ) : wpx P (.label l) S σ Q := ⟨0, _, _, _, rfl, h⟩
theorem wpx_exit {k : Nat} {S : Slots} {σ : St} {Q : Fl → Slots → St → Prop} (h : Q (.exit k) S σ) : wpx P (.exit k) S σ Q := ⟨0, _, _, _, rfl, h⟩
theorem wpx_ret {S : Slots} {σ : St} {Q : Fl → Slots → St → Prop} (h : Q .ret S σ) : wpx P .ret S σ Q := ⟨0, _, _, _, rfl, h⟩
theorem wpx_cond {x : Operand} {a b : Code} {S : Slots} {σ : St} {Q : Fl → Slots → St → Prop} {t : Bool} (ht : ev S x = .bool t) (h : wpx P (if t = true then a else b) S σ Q) : wpx P (.cond x a b) S σ Q := by
 obtain ⟨n, fl, S', σ', h1, h2⟩ := h
 refine ⟨n, fl, S', σ', ?_, h2⟩
 cases t with
 | true => simp only [exec, ht]; exact h1
 | false => simp only [exec, ht]; exact h1
theorem wpx_cond_t {x : Operand} {a b : Code} {S : Slots} {σ : St} {Q : Fl → Slots → St → Prop} (ht : ev S x = .bool true) (h : wpx P a S σ Q) : wpx P (.cond x a b) S σ Q := wpx_cond ht h
theorem wpx_cond_f {x : Operand} {a b : Code} {S : Slots} {σ : St} {Q : Fl → Slots → St → Prop} (ht : ev S x = .bool false) (h : wpx P b S σ Q) : wpx P (.cond x a b) S σ Q := wpx_cond ht h
def inBlockx (id : Nat) (Q : Fl → Slots → St → Prop) : Fl → Slots → St → Prop
 | .exit k, S, σ => if k = id then Q .normal S σ else Q (.exit k) S σ
 | fl, S, σ => Q fl S σ
theorem wpx_block {id : Nat} {c : Code} {S : Slots} {σ : St} {Q : Fl → Slots → St → Prop} (h : wpx P c S σ (inBlockx id Q)) : wpx P (.block id c) S σ Q := by
 obtain ⟨n, fl, S', σ', h1, h2⟩ := h
 cases fl with
 | normal => exact ⟨n, .normal, S', σ', by simp only [exec, h1], h2⟩
 | ret => exact ⟨n, .ret, S', σ', by simp only [exec, h1], h2⟩
 | exit k =>
  by_cases e : k = id
  ·refine ⟨n, .normal, S', σ', ?_, by simpa [inBlockx, e] using h2⟩
   simp [exec, h1, nbeq, e]
  ·refine ⟨n, .exit k, S', σ', ?_, by simpa [inBlockx, e] using h2⟩
   simp [exec, h1, nbeq, e]
theorem wpx_loop {c : Code} {Q : Fl → Slots → St → Prop} (I : Nat → Slots → St → Prop)
    (h : ∀ m S σ, I m S σ → wpx P c S σ fun fl S' σ' => match fl with | .normal => ∃ m', m' < m ∧ I m' S' σ' | fl => Q fl S' σ') :
    ∀ (m : Nat) (S : Slots) (σ : St), I m S σ → wpx P (.loop c) S σ Q := by
 have main : ∀ (m : Nat) (S : Slots) (σ : St), I m S σ → ∃ n fl S' σ', iter (fun S σ => exec P (callQ P n n) n c S σ) n S σ = some (fl, S', σ') ∧ Q fl S' σ' := by
  intro m
  induction m using Nat.strongRecOn with
  | _ m ih =>
   intro S σ hI
   obtain ⟨n, fl, S', σ', h1, h2⟩ := h m S σ hI
   cases fl with
   | normal =>
    obtain ⟨m', hm, hI'⟩ := h2
    obtain ⟨k, fl2, S2, σ2, h3, h4⟩ := ih m' hm S' σ' hI'
    refine ⟨max n k + 1, fl2, S2, σ2, ?_, h4⟩
    simp only [iter]
    rw [exec_le (le_max_call (show n ≤ max n k + 1 by omega)) (by omega) _ _ _ _ h1]
    exact iter_le (fun S σ r e => exec_le (le_max_call (show k ≤ max n k + 1 by omega)) (by omega) _ _ _ _ e) k (max n k) S' σ' _ (by omega) h3
   | exit j => refine ⟨n + 1, .exit j, S', σ', ?_, h2⟩; simp only [iter]; rw [exec_le (le_max_call (Nat.le_succ n)) (Nat.le_succ n) _ _ _ _ h1]
   | ret => refine ⟨n + 1, .ret, S', σ', ?_, h2⟩; simp only [iter]; rw [exec_le (le_max_call (Nat.le_succ n)) (Nat.le_succ n) _ _ _ _ h1]
 intro m S σ hI
 obtain ⟨n, fl, S', σ', h1, h2⟩ := main m S σ hI
 exact ⟨n, fl, S', σ', by simpa only [exec] using h1, h2⟩
theorem wpx_region {id : Nat} {ops : Array Oper} {draw : Bool} {S : Slots} {σ : St} {Q : Fl → Slots → St → Prop} (h : wpr P ops draw S σ (Q .normal)) : wpx P (.region id ops draw) S σ Q := by
 obtain ⟨n, S', σ', h1, h2⟩ := h
 exact ⟨n, .normal, S', σ', by simp [exec, h1], h2⟩
theorem wpr_text {ops : Array Oper} {S : Slots} {σ : St} {Q : Slots → St → Prop} (h : wpo P ops σ.next ops.toList 0 S { σ with next := σ.next + ops.size } Q) : wpr P ops false S σ Q := h
theorem wpo_nil {ops : Array Oper} {base i : Nat} {S : Slots} {σ : St} {Q : Slots → St → Prop} (h : Q S σ) : wpo P ops base [] i S σ Q := ⟨0, S, σ, rfl, h⟩
theorem wpo_skip {ops : Array Oper} {base i : Nat} {o : Oper} {l : List Oper} {S : Slots} {σ : St} {Q : Slots → St → Prop} (hw : wanted ops S o = false) (h : wpo P ops base l (i + 1) (S.store o.dst undef) σ Q) : wpo P ops base (o :: l) i S σ Q := by
 obtain ⟨n, S', σ', h1, h2⟩ := h
 exact ⟨n, S', σ', by simp only [runOps, hw, cond_false]; exact h1, h2⟩
theorem wpo_pure {ops : Array Oper} {base i : Nat} {o : Oper} {l : List Oper} {S : Slots} {σ : St} {Q : Slots → St → Prop} {v : Value} (hw : wanted ops S o = true) (hk : kindOf o = .pure) (hv : apure P (ev S) o = some v)
    (h : wpo P ops base l (i + 1) (S.store o.dst v) σ Q) : wpo P ops base (o :: l) i S σ Q := by
 obtain ⟨n, S', σ', h1, h2⟩ := h
 exact ⟨n, S', σ', by simp only [runOps, hw, cond_true, aop, hk, apureS, hv, Option.map_some]; exact h1, h2⟩
theorem wpo_read {ops : Array Oper} {base i : Nat} {o : Oper} {l : List Oper} {S : Slots} {σ : St} {Q : Slots → St → Prop} {v : Value} (hw : wanted ops S o = true) (hk : kindOf o = .read) (hv : aread P σ (ev S) o = some v)
    (h : wpo P ops base l (i + 1) (S.store o.dst v) σ Q) : wpo P ops base (o :: l) i S σ Q := by
 obtain ⟨n, S', σ', h1, h2⟩ := h
 exact ⟨n, S', σ', by simp only [runOps, hw, cond_true, aop, hk, hv, Option.map_some]; exact h1, h2⟩
theorem wpo_alloc {ops : Array Oper} {base i : Nat} {o : Oper} {l : List Oper} {S : Slots} {σ : St} {Q : Slots → St → Prop} {v : Value} {ob : AObj} (hw : wanted ops S o = true) (hk : kindOf o = .alloc) (hv : aalloc P (ev S) o (base + i) = some (v, ob))
    (h : wpo P ops base l (i + 1) (S.store o.dst v) (σ.put (base + i) ob) Q) : wpo P ops base (o :: l) i S σ Q := by
 obtain ⟨n, S', σ', h1, h2⟩ := h
 exact ⟨n, S', σ', by simp only [runOps, hw, cond_true, aop, hk, hv, Option.map_some]; exact h1, h2⟩
theorem wpo_eff {ops : Array Oper} {base i : Nat} {o : Oper} {l : List Oper} {S : Slots} {σ σ1 : St} {Q : Slots → St → Prop} {v : Value} (hw : wanted ops S o = true) (hk : kindOf o = .eff) (hv : ∀ c, aeff P c σ (ev S) o (base + i) = some (v, σ1))
    (h : wpo P ops base l (i + 1) (S.store o.dst v) σ1 Q) : wpo P ops base (o :: l) i S σ Q := by
 obtain ⟨n, S', σ', h1, h2⟩ := h
 exact ⟨n, S', σ', by simp only [runOps, hw, cond_true, aop, hk, hv]; exact h1, h2⟩
theorem wpo_call {ops : Array Oper} {base i : Nat} {o : Oper} {l : List Oper} {S : Slots} {σ : St} {Q : Slots → St → Prop} {g : FuncId} {args : Array Value} (hw : wanted ops S o = true) (hk : kindOf o = .eff)
    (hv : ∀ c : CallT, aeff P c σ (ev S) o (base + i) = c g args σ) (h : wpc P g args σ fun r σ1 => wpo P ops base l (i + 1) (S.store o.dst r) σ1 Q) : wpo P ops base (o :: l) i S σ Q := by
 obtain ⟨n, r, σ1, h1, m, S', σ', h2, h3⟩ := h
 refine ⟨max n m, S', σ', ?_, h3⟩
 simp only [runOps, hw, cond_true, aop, hk, hv, le_max_call (Nat.le_max_left n m) _ _ _ _ h1]
 exact runOps_le (le_max_call (Nat.le_max_right n m)) _ _ _ _ _ h2
theorem wpc_knw {f : FuncId} {args : Array Value} {p : List UInt8 × List UInt8} {σ : St} (h : knwL f args.toList = some p) (ho : orA orcA f args = none) : wpc P f args σ fun r σ' => r = numV p ∧ σ' = σ :=
 ⟨1, numV p, σ, by simp only [callQ, orQ, ho, h, Option.map_some], rfl, rfl⟩
theorem wpc_body {f : FuncId} {fn : Func} {c : Code} {args : Array Value} {σ : St} {Q : Value → St → Prop} (hf : P.funcs[f]? = some fn) (hb : fn.body = some c) (hno : noOr f = true)
    (h : wpx P c (fillS args.toList 0 .nil) σ fun fl S' σ' => (match fl with | .exit _ => False | _ => True) ∧ ∃ vs, resultsOf P S' σ' fn.results.toList = some vs ∧ Q (answer vs) σ') : wpc P f args σ Q := by
 obtain ⟨n, fl, S', σ', h1, h2, vs, h3, h4⟩ := h
 refine ⟨n + 1, answer vs, σ', ?_, h4⟩
 simp only [callQ, noOr_none hno, hf, hb]
 rw [exec_le (callQ_le (Nat.le_succ n) n n (Nat.le_refl n)) (Nat.le_succ n) _ _ _ _ h1]
 cases fl with
 | exit k => exact h2.elim
 | normal => simp [h3]
 | ret => simp [h3]
theorem wpc_calls (hP : okProg P = true) {w0 : World} (hO : OrQOK P w0) {f : FuncId} {args args' : Array Value} {σ : St} {Q : Value → St → Prop} (h : wpc P f args σ Q) {μ : Mp} {w : World} (Z : Sim w0 P μ σ w) (hargs : VRL μ args.toList args'.toList) :
    Calls P f args' w fun e w' => ∃ μ' r σ' r', Q r σ' ∧ e = .returned r' ∧ VR μ' r r' ∧ Sim w0 P μ' σ' w' := by
 obtain ⟨n, r, σ', h1, h2⟩ := h
 exact (callQ_ok hP hO n n f args args' σ σ' w μ r h1 Z hargs).2.mono fun e w' ⟨μ', r', he, hr, hZ, _, _⟩ => ⟨μ', r, σ', r', h2, he, hr, hZ⟩
end
end Go.AI
namespace Go.AI
theorem Tr.setF_fuel {α : Type} : ∀ (f g : Nat) (t : Tr α) (n : Nat) (x : α), n < f → n < g → Tr.setF f t n x = Tr.setF g t n x := by
 intro f
 induction f with
 | zero => intro g t n x h; omega
 | succ f ih =>
  intro g t n x h1 h2
  obtain ⟨g, rfl⟩ : ∃ g', g = g' + 1 := ⟨g - 1, by omega⟩
  cases t with
  | nil =>
   simp only [Tr.setF, nbeq, Bool.cond_decide]
   split
   ·rfl
   ·split
    ·rw [ih g .nil (n / 2) x (by omega) (by omega)]
    ·rw [ih g .nil (n / 2 - 1) x (by omega) (by omega)]
  | node v l r =>
   simp only [Tr.setF, nbeq, Bool.cond_decide]
   split
   ·rfl
   ·split
    ·rw [ih g l (n / 2) x (by omega) (by omega)]
    ·rw [ih g r (n / 2 - 1) x (by omega) (by omega)]
theorem Tr.set_nil {α : Type} (n : Nat) (x : α) : (Tr.nil : Tr α).set n x = if n = 0 then .node (some x) .nil .nil else if n % 2 = 1 then .node none ((Tr.nil : Tr α).set (n / 2) x) .nil else .node none .nil ((Tr.nil : Tr α).set (n / 2 - 1) x) := by
 simp only [Tr.set]
 rw [Tr.setF]
 simp only [nbeq, Bool.cond_decide]
 split
 ·rfl
 ·split
  ·rw [Tr.setF_fuel n (n / 2 + 1) _ _ _ (by omega) (by omega)]
  ·rw [Tr.setF_fuel n (n / 2 - 1 + 1) _ _ _ (by omega) (by omega)]
theorem Tr.set_node {α : Type} (v : Option α) (l r : Tr α) (n : Nat) (x : α) : (Tr.node v l r).set n x = if n = 0 then .node (some x) l r else if n % 2 = 1 then .node v (l.set (n / 2) x) r else .node v l (r.set (n / 2 - 1) x) := by
 simp only [Tr.set]
 rw [Tr.setF]
 simp only [nbeq, Bool.cond_decide]
 split
 ·rfl
 ·split
  ·rw [Tr.setF_fuel n (n / 2 + 1) _ _ _ (by omega) (by omega)]
  ·rw [Tr.setF_fuel n (n / 2 - 1 + 1) _ _ _ (by omega) (by omega)]
theorem set_nil0 {α : Type} (x : α) : (Tr.nil : Tr α).set 0 x = .node (some x) .nil .nil := by rw [Tr.set_nil, if_pos rfl]
theorem set_nil1 {α : Type} {n : Nat} (x : α) (h : n % 2 = 1) : (Tr.nil : Tr α).set n x = .node none ((Tr.nil : Tr α).set (n / 2) x) .nil := by rw [Tr.set_nil, if_neg (by omega), if_pos h]
theorem set_nil2 {α : Type} {n : Nat} (x : α) (h : n % 2 = 0) (h0 : n ≠ 0) : (Tr.nil : Tr α).set n x = .node none .nil ((Tr.nil : Tr α).set (n / 2 - 1) x) := by rw [Tr.set_nil, if_neg h0, if_neg (by omega)]
theorem set_node0 {α : Type} (v : Option α) (l r : Tr α) (x : α) : (Tr.node v l r).set 0 x = .node (some x) l r := by rw [Tr.set_node, if_pos rfl]
theorem set_node1 {α : Type} {n : Nat} (v : Option α) (l r : Tr α) (x : α) (h : n % 2 = 1) : (Tr.node v l r).set n x = .node v (l.set (n / 2) x) r := by rw [Tr.set_node, if_neg (by omega), if_pos h]
theorem set_node2 {α : Type} {n : Nat} (v : Option α) (l r : Tr α) (x : α) (h : n % 2 = 0) (h0 : n ≠ 0) : (Tr.node v l r).set n x = .node v l (r.set (n / 2 - 1) x) := by rw [Tr.set_node, if_neg h0, if_neg (by omega)]
section
variable {P : Program} {ops : Array Oper} {base i : Nat} {l : List Oper} {S : Slots} {σ : St} {Q : Slots → St → Prop}
theorem runOps_cons {c : CallT} {o : Oper} : runOps P c ops base (o :: l) i S σ = if wanted ops S o = true then (aop P c base i o S σ).bind (fun x => runOps P c ops base l (i + 1) (S.store o.dst x.1) x.2) else runOps P c ops base l (i + 1) (S.store o.dst undef) σ := by
 simp only [runOps]
 cases wanted ops S o with
 | false => rfl
 | true =>
  simp only [cond_true, if_true]
  cases aop P c base i o S σ <;> rfl
theorem x_nil : wpo P ops base [] i S σ Q ↔ Q S σ := by
 constructor
 ·rintro ⟨n, S', σ', h1, h2⟩; simp only [runOps, Option.some.injEq, Prod.mk.injEq] at h1; obtain ⟨rfl, rfl⟩ := h1; exact h2
 ·exact wpo_nil
variable {d : Option Tmp} {ty : TypeId} {pos : String} {af : Array Edge}
theorem apureS_eq {op : Op} {g : Option (Nat × Bool)} (hc : isConv op = false) : apureS P σ (ev S) ⟨d, op, ty, pos, af, g⟩ = apure P (ev S) ⟨d, op, ty, pos, af, g⟩ := by
 unfold apureS
 cases apure P (ev S) ⟨d, op, ty, pos, af, g⟩ with
 | some v => rfl
 | none => cases op <;> first | rfl | cases hc
theorem x_pure {op : Op} {g : Option (Nat × Bool)} (hk : kindOf ⟨d, op, ty, pos, af, g⟩ = .pure) (hc : isConv op = false) : wpo P ops base (⟨d, op, ty, pos, af, g⟩ :: l) i S σ Q ↔
    if wanted ops S ⟨d, op, ty, pos, af, g⟩ = true then ∃ v, apure P (ev S) ⟨d, op, ty, pos, af, g⟩ = some v ∧ wpo P ops base l (i + 1) (S.store d v) σ Q else wpo P ops base l (i + 1) (S.store d undef) σ Q := by
 constructor
 ·rintro ⟨n, S', σ', h1, h2⟩
  rw [runOps_cons] at h1
  split
  ·rename_i hw
   rw [if_pos hw] at h1
   simp only [aop, hk, apureS_eq hc] at h1
   cases ha : apure P (ev S) ⟨d, op, ty, pos, af, g⟩ with
   | none => simp [ha] at h1
   | some v => simp only [ha, Option.map_some, Option.bind_some] at h1; exact ⟨v, rfl, n, S', σ', h1, h2⟩
  ·rename_i hw
   rw [if_neg hw] at h1
   exact ⟨n, S', σ', h1, h2⟩
 ·intro h
  split at h
  ·rename_i hw; obtain ⟨v, h1, h2⟩ := h; exact wpo_pure hw hk h1 h2
  ·rename_i hw; exact wpo_skip (by simpa using hw) h
def aconvS (P : Program) (σ : St) (s t : TypeId) (v : Value) : Option Value :=
 match (bif plain0 v then stillP P (convert s t v) else none) with
 | some u => some u
 | none => abytes P σ s t v
theorem x_conv {s t : TypeId} {x : Operand} {g : Option (Nat × Bool)} : wpo P ops base (⟨d, .convert s t x, ty, pos, af, g⟩ :: l) i S σ Q ↔
    if wanted ops S ⟨d, .convert s t x, ty, pos, af, g⟩ = true then ∃ v, aconvS P σ s t (ev S x) = some v ∧ wpo P ops base l (i + 1) (S.store d v) σ Q else wpo P ops base l (i + 1) (S.store d undef) σ Q := by
 have he : apureS P σ (ev S) ⟨d, .convert s t x, ty, pos, af, g⟩ = aconvS P σ s t (ev S x) := rfl
 constructor
 ·rintro ⟨n, S', σ', h1, h2⟩
  rw [runOps_cons] at h1
  split
  ·rename_i hw
   rw [if_pos hw] at h1
   simp only [aop, kindOf, he] at h1
   cases ha : aconvS P σ s t (ev S x) with
   | none => simp [ha] at h1
   | some v => simp only [ha, Option.map_some, Option.bind_some] at h1; exact ⟨v, rfl, n, S', σ', h1, h2⟩
  ·rename_i hw
   rw [if_neg hw] at h1
   exact ⟨n, S', σ', h1, h2⟩
 ·intro h
  split at h
  ·rename_i hw
   obtain ⟨v, h1, n, S', σ', h3, h4⟩ := h
   exact ⟨n, S', σ', by simp only [runOps, hw, cond_true, aop, kindOf, he, h1, Option.map_some]; exact h3, h4⟩
  ·rename_i hw; exact wpo_skip (by simpa using hw) h
theorem x_read {op : Op} {g : Option (Nat × Bool)} (hk : kindOf ⟨d, op, ty, pos, af, g⟩ = .read) : wpo P ops base (⟨d, op, ty, pos, af, g⟩ :: l) i S σ Q ↔
    if wanted ops S ⟨d, op, ty, pos, af, g⟩ = true then ∃ v, aread P σ (ev S) ⟨d, op, ty, pos, af, g⟩ = some v ∧ wpo P ops base l (i + 1) (S.store d v) σ Q else wpo P ops base l (i + 1) (S.store d undef) σ Q := by
 constructor
 ·rintro ⟨n, S', σ', h1, h2⟩
  rw [runOps_cons] at h1
  split
  ·rename_i hw
   rw [if_pos hw] at h1
   simp only [aop, hk] at h1
   cases ha : aread P σ (ev S) ⟨d, op, ty, pos, af, g⟩ with
   | none => simp [ha] at h1
   | some v => simp only [ha, Option.map_some, Option.bind_some] at h1; exact ⟨v, rfl, n, S', σ', h1, h2⟩
  ·rename_i hw
   rw [if_neg hw] at h1
   exact ⟨n, S', σ', h1, h2⟩
 ·intro h
  split at h
  ·rename_i hw; obtain ⟨v, h1, h2⟩ := h; exact wpo_read hw hk h1 h2
  ·rename_i hw; exact wpo_skip (by simpa using hw) h
theorem x_alloc {op : Op} {g : Option (Nat × Bool)} (hk : kindOf ⟨d, op, ty, pos, af, g⟩ = .alloc) : wpo P ops base (⟨d, op, ty, pos, af, g⟩ :: l) i S σ Q ↔
    if wanted ops S ⟨d, op, ty, pos, af, g⟩ = true then ∃ v ob, aalloc P (ev S) ⟨d, op, ty, pos, af, g⟩ (base + i) = some (v, ob) ∧ wpo P ops base l (i + 1) (S.store d v) (σ.put (base + i) ob) Q else wpo P ops base l (i + 1) (S.store d undef) σ Q := by
 constructor
 ·rintro ⟨n, S', σ', h1, h2⟩
  rw [runOps_cons] at h1
  split
  ·rename_i hw
   rw [if_pos hw] at h1
   simp only [aop, hk] at h1
   cases ha : aalloc P (ev S) ⟨d, op, ty, pos, af, g⟩ (base + i) with
   | none => simp [ha] at h1
   | some v => simp only [ha, Option.map_some, Option.bind_some] at h1; exact ⟨v.1, v.2, rfl, n, S', σ', h1, h2⟩
  ·rename_i hw
   rw [if_neg hw] at h1
   exact ⟨n, S', σ', h1, h2⟩
 ·intro h
  split at h
  ·rename_i hw; obtain ⟨v, ob, h1, h2⟩ := h; exact wpo_alloc hw hk h1 h2
  ·rename_i hw; exact wpo_skip (by simpa using hw) h
end
section
variable {P : Program}
theorem at_nil (i : Nat) : Slots.at (Tr.nil : Tr Value) i = undef := rfl
theorem at_node (v : Option Value) (l r : Tr Value) (n : Nat) : Slots.at (Tr.node v l r) n = if n = 0 then v.getD undef else if n % 2 = 1 then Slots.at l (n / 2) else Slots.at r (n / 2 - 1) := by
 simp only [Slots.at, Tr.get_node]
 split
 ·rfl
 ·split <;> rfl
theorem at_node0 (v : Option Value) (l r : Tr Value) : Slots.at (Tr.node v l r) 0 = v.getD undef := by rw [at_node, if_pos rfl]
theorem at_node1 (v : Option Value) (l r : Tr Value) {n : Nat} (h : n % 2 = 1) : Slots.at (Tr.node v l r) n = Slots.at l (n / 2) := by rw [at_node, if_neg (by omega), if_pos h]
theorem at_node2 (v : Option Value) (l r : Tr Value) {n : Nat} (h : n % 2 = 0) (h0 : n ≠ 0) : Slots.at (Tr.node v l r) n = Slots.at r (n / 2 - 1) := by rw [at_node, if_neg h0, if_neg (by omega)]
theorem store_some (S : Slots) (d : Tmp) (v : Value) : Slots.store S (some d) v = Tr.set S d v := rfl
theorem store_none (S : Slots) (v : Value) : Slots.store S none v = S := rfl
theorem ev_tmp (S : Slots) (t : Tmp) : ev S (.tmp t) = S.at t := rfl
theorem ev_const (S : Slots) (v : Value) : ev S (.const v) = v := rfl
theorem ev_func (S : Slots) (f : FuncId) : ev S (.func f) = .func (.func f) #[] #[] := rfl
theorem wanted_none (ops : Array Oper) (S : Slots) (d : Option Tmp) (op : Op) (ty : TypeId) (pos : String) (af : Array Edge) : wanted ops S ⟨d, op, ty, pos, af, none⟩ = true := rfl
end
end Go.AI
namespace Go.AI
def wantG (ops : Array Oper) (S : Slots) (j : Nat) (want : Bool) : Bool :=
 match (ops[j]?.bind (·.dst)).map S.at with
 | some (.bool b) => b == want
 | _ => false
def apick (c a b : Value) : Option Value :=
 match c with
 | .bool true => some a
 | .bool false => some b
 | _ => none
def anilCheck : Value → Option Value
 | .pointer (some a) => some (.pointer (some a))
 | _ => none
def aextract (t : Value) (i : Nat) : Option Value :=
 match t with
 | .tuple vs => vs[i]?
 | _ => none
def vAlloc (P : Program) (t : TypeId) (id : Nat) : Option (Value × AObj) :=
 match still P (zeroValue t) with
  | some z => bif z.cells.toList.all plain0 then some (.pointer (some ⟨id, 0, none⟩), .cells z.cells.toList boxMeta) else none
  | none => none
def vBox (v : Value) (id : Nat) : Option (Value × AObj) := bif v.cells.toList.all one then some (.pointer (some ⟨id, 0, none⟩), .cells v.cells.toList boxMeta) else none
def vBuildS (P : Program) (t : TypeId) (len : Nat) (qs : Array (Nat × Value)) (id : Nat) : Option (Value × AObj) :=
    match P.underlying t with
    | some (.slice e) => match szOf P e with
      | some s => match still P (zeroValue e) with
        | some z =>
          bif z.cells.toList.all plain0 && Nat.ble (len * s) 1000000 && Nat.beq z.cells.size s && Nat.ble 1 s then
            (Instr.fill (fun i => some (i * s, s)) (zerosOf z.cells.toList len).toArray qs.toList).map
              fun cs => (.slice (some ⟨id, 0, none⟩) len len, .cells cs.toList (rowMeta s))
          else none
        | none => none
      | none => none
    | _ => none
def vMake (P : Program) (t : TypeId) (l c : Value) (id : Nat) : Option (Value × AObj) :=
    match P.underlying t, l, c with
    | some (.slice e), .int .i64 n, .int .i64 k => match P.info? e with
      | some info => match info.zero with
        | some z =>
          bif decide (0 ≤ n) && decide (n ≤ k) && decide (k * (info.bytes : Int) ≤ 1073741824) && decide (k ≤ 1073741824) && z.cells.toList.all plain0 && Nat.beq z.cells.size info.size && Nat.ble 1 info.size then
            bif decide (n = k) then some (.slice (some ⟨id, 0, none⟩) n.toNat n.toNat, .cells (zerosOf z.cells.toList n.toNat) (rowMeta info.size))
            else some (.slice (some ⟨id, 0, none⟩) n.toNat (n.toNat + 1), .cells (zerosOf z.cells.toList n.toNat) { wr := true, tip := true, z := info.size, grp := some (id, 0) })
          else none
        | none => none
      | none => none
    | _, _, _ => none
section
variable {P : Program} {ops : Array Oper} {base i : Nat} {l : List Oper} {S : Slots} {σ : St} {Q : Slots → St → Prop} {d : Option Tmp} {ty : TypeId} {pos : String} {af : Array Edge}
def abin (P : Program) (op : BinOp) (t : TypeId) (x y : Operand) (a b : Value) : Option Value :=
 bif plain1 a && plain1 b then stillP P (do eqGuard op t x y a b; binOp op t a b)
 else match P.underlying t with
  | some (.slice _) => anil op a b
  | _ => none
def aun (P : Program) (op : UnOp) (a : Value) : Option Value := bif plain0 a then stillP P (Op.unary op a) else none
def aconv (P : Program) (s t : TypeId) (a : Value) : Option Value := bif plain0 a then stillP P (convert s t a) else none
theorem x_pureS {op : Op} {g : Option (Nat × Bool)} {v : Value} (hk : kindOf ⟨d, op, ty, pos, af, g⟩ = .pure) (hc : isConv op = false) (hv : apure P (ev S) ⟨d, op, ty, pos, af, g⟩ = some v) : wpo P ops base (⟨d, op, ty, pos, af, g⟩ :: l) i S σ Q ↔
    if wanted ops S ⟨d, op, ty, pos, af, g⟩ = true then wpo P ops base l (i + 1) (S.store d v) σ Q else wpo P ops base l (i + 1) (S.store d undef) σ Q := by
 rw [x_pure hk hc, hv]
 simp only [Option.some.injEq, exists_eq_left']
theorem x_move {x : Operand} : wpo P ops base (⟨d, .move x, ty, pos, af, none⟩ :: l) i S σ Q ↔ wpo P ops base l (i + 1) (S.store d (ev S x)) σ Q := by
 rw [x_pureS rfl rfl rfl, wanted_none, if_pos rfl]
theorem x_assign {x : Operand} : wpo P ops base (⟨d, .assign x, ty, pos, af, none⟩ :: l) i S σ Q ↔ wpo P ops base l (i + 1) (S.store d (ev S x)) σ Q := by
 rw [x_pureS rfl rfl rfl, wanted_none, if_pos rfl]
theorem x_pick {x y z : Operand} : wpo P ops base (⟨d, .pick x y z, ty, pos, af, none⟩ :: l) i S σ Q ↔ ∃ v, apick (ev S x) (ev S y) (ev S z) = some v ∧ wpo P ops base l (i + 1) (S.store d v) σ Q := by
 rw [x_pure rfl rfl, wanted_none, if_pos rfl]; rfl
theorem x_build {t : TypeId} {ps : Array (Nat × Operand)} : wpo P ops base (⟨d, .build t ps, ty, pos, af, none⟩ :: l) i S σ Q ↔ ∃ v, abuild P t (ps.map fun (i, x) => (i, ev S x)) = some v ∧ wpo P ops base l (i + 1) (S.store d v) σ Q := by
 rw [x_pure rfl rfl, wanted_none, if_pos rfl]; rfl
theorem x_nilCheck {x : Operand} : wpo P ops base (⟨d, .nilCheck x, ty, pos, af, none⟩ :: l) i S σ Q ↔ ∃ v, anilCheck (ev S x) = some v ∧ wpo P ops base l (i + 1) (S.store d v) σ Q := by
 rw [x_pure rfl rfl, wanted_none, if_pos rfl]; rfl
theorem x_binOp {op : BinOp} {t t' : TypeId} {x y : Operand} : wpo P ops base (⟨d, .binOp op t x y t', ty, pos, af, none⟩ :: l) i S σ Q ↔ ∃ v, abin P op t x y (ev S x) (ev S y) = some v ∧ wpo P ops base l (i + 1) (S.store d v) σ Q := by
 rw [x_pure rfl rfl, wanted_none, if_pos rfl]; rfl
theorem x_unOp {op : UnOp} {t : TypeId} {x : Operand} : wpo P ops base (⟨d, .unOp op t x, ty, pos, af, none⟩ :: l) i S σ Q ↔ ∃ v, aun P op (ev S x) = some v ∧ wpo P ops base l (i + 1) (S.store d v) σ Q := by
 rw [x_pure rfl rfl, wanted_none, if_pos rfl]; rfl
theorem x_convert {s t : TypeId} {x : Operand} : wpo P ops base (⟨d, .convert s t x, ty, pos, af, none⟩ :: l) i S σ Q ↔ ∃ v, aconvS P σ s t (ev S x) = some v ∧ wpo P ops base l (i + 1) (S.store d v) σ Q := by
 rw [x_conv, wanted_none, if_pos rfl]
theorem x_makeFunc {fn : Fn} {fs cs : Array Operand} : wpo P ops base (⟨d, .makeFunc fn fs cs, ty, pos, af, none⟩ :: l) i S σ Q ↔ wpo P ops base l (i + 1) (S.store d (.func fn (fs.map (ev S)) (cs.map (ev S)))) σ Q := by
 rw [x_pureS rfl rfl rfl, wanted_none, if_pos rfl]
theorem x_fieldAddr {t : TypeId} {x : Operand} {f : Nat} : wpo P ops base (⟨d, .fieldAddr t x f, ty, pos, af, none⟩ :: l) i S σ Q ↔ ∃ v, afieldAddr P t (ev S x) f = some v ∧ wpo P ops base l (i + 1) (S.store d v) σ Q := by
 rw [x_pure rfl rfl, wanted_none, if_pos rfl]; rfl
theorem x_field {t : TypeId} {x : Operand} {f : Nat} : wpo P ops base (⟨d, .field t x f, ty, pos, af, none⟩ :: l) i S σ Q ↔ ∃ v, afield P t (ev S x) f = some v ∧ wpo P ops base l (i + 1) (S.store d v) σ Q := by
 rw [x_pure rfl rfl, wanted_none, if_pos rfl]; rfl
theorem x_indexAddr {t : TypeId} {x y : Operand} : wpo P ops base (⟨d, .indexAddr t x y, ty, pos, af, none⟩ :: l) i S σ Q ↔ ∃ v, aindexAddr P t (ev S x) (ev S y) = some v ∧ wpo P ops base l (i + 1) (S.store d v) σ Q := by
 rw [x_pure rfl rfl, wanted_none, if_pos rfl]; rfl
theorem x_index {t : TypeId} {x y : Operand} : wpo P ops base (⟨d, .index t x y, ty, pos, af, none⟩ :: l) i S σ Q ↔ ∃ v, aindex P t (ev S x) (ev S y) = some v ∧ wpo P ops base l (i + 1) (S.store d v) σ Q := by
 rw [x_pure rfl rfl, wanted_none, if_pos rfl]; rfl
theorem x_extract {x : Operand} {k : Nat} : wpo P ops base (⟨d, .extract x k, ty, pos, af, none⟩ :: l) i S σ Q ↔ ∃ v, aextract (ev S x) k = some v ∧ wpo P ops base l (i + 1) (S.store d v) σ Q := by
 rw [x_pure rfl rfl, wanted_none, if_pos rfl]; rfl
theorem x_len {as : Array Operand} {ts : Array TypeId} : wpo P ops base (⟨d, .call ⟨.builtin .len, as, ts⟩, ty, pos, af, none⟩ :: l) i S σ Q ↔ ∃ v, acallPure P (ev S) ⟨d, .call ⟨.builtin .len, as, ts⟩, ty, pos, af, none⟩ ⟨.builtin .len, as, ts⟩ = some v ∧ wpo P ops base l (i + 1) (S.store d v) σ Q := by
 rw [x_pure rfl rfl, wanted_none, if_pos rfl]; rfl
theorem x_min {as : Array Operand} {ts : Array TypeId} : wpo P ops base (⟨d, .call ⟨.builtin .min, as, ts⟩, ty, pos, af, none⟩ :: l) i S σ Q ↔ ∃ v, acallPure P (ev S) ⟨d, .call ⟨.builtin .min, as, ts⟩, ty, pos, af, none⟩ ⟨.builtin .min, as, ts⟩ = some v ∧ wpo P ops base l (i + 1) (S.store d v) σ Q := by
 rw [x_pure rfl rfl, wanted_none, if_pos rfl]; rfl
theorem x_max {as : Array Operand} {ts : Array TypeId} : wpo P ops base (⟨d, .call ⟨.builtin .max, as, ts⟩, ty, pos, af, none⟩ :: l) i S σ Q ↔ ∃ v, acallPure P (ev S) ⟨d, .call ⟨.builtin .max, as, ts⟩, ty, pos, af, none⟩ ⟨.builtin .max, as, ts⟩ = some v ∧ wpo P ops base l (i + 1) (S.store d v) σ Q := by
 rw [x_pure rfl rfl, wanted_none, if_pos rfl]; rfl
theorem x_load {t : TypeId} {x : Operand} : wpo P ops base (⟨d, .load t x, ty, pos, af, none⟩ :: l) i S σ Q ↔ ∃ v, aload P σ t (ev S x) = some v ∧ wpo P ops base l (i + 1) (S.store d v) σ Q := by
 rw [x_read rfl, wanted_none, if_pos rfl]; rfl
theorem x_lookup {t : TypeId} {x y : Operand} {ok : Bool} : wpo P ops base (⟨d, .lookup t x y ok, ty, pos, af, none⟩ :: l) i S σ Q ↔ ∃ v, alookup P σ t (ev S x) (ev S y) ok = some v ∧ wpo P ops base l (i + 1) (S.store d v) σ Q := by
 rw [x_read rfl, wanted_none, if_pos rfl]; rfl
theorem x_slice {t : TypeId} {x : Operand} {lo hi mx : Option Operand} : wpo P ops base (⟨d, .slice t x lo hi mx, ty, pos, af, none⟩ :: l) i S σ Q ↔ ∃ v, aslice P σ t (ev S x) (lo.map (ev S)) (hi.map (ev S)) (mx.map (ev S)) = some v ∧ wpo P ops base l (i + 1) (S.store d v) σ Q := by
 rw [x_read rfl, wanted_none, if_pos rfl]; rfl
theorem x_alloc' {t : TypeId} : wpo P ops base (⟨d, .alloc t, ty, pos, af, none⟩ :: l) i S σ Q ↔ ∃ v ob, vAlloc P t (base + i) = some (v, ob) ∧ wpo P ops base l (i + 1) (S.store d v) (σ.put (base + i) ob) Q := by
 rw [x_alloc rfl, wanted_none, if_pos rfl]; rfl
theorem x_box {t : TypeId} {x : Operand} : wpo P ops base (⟨d, .box t x, ty, pos, af, none⟩ :: l) i S σ Q ↔ ∃ v ob, vBox (ev S x) (base + i) = some (v, ob) ∧ wpo P ops base l (i + 1) (S.store d v) (σ.put (base + i) ob) Q := by
 rw [x_alloc rfl, wanted_none, if_pos rfl]; rfl
theorem x_buildSlice {t : TypeId} {n : Nat} {ps : Array (Nat × Operand)} : wpo P ops base (⟨d, .buildSlice t n ps, ty, pos, af, none⟩ :: l) i S σ Q ↔ ∃ v ob, vBuildS P t n (ps.map fun (i, x) => (i, ev S x)) (base + i) = some (v, ob) ∧ wpo P ops base l (i + 1) (S.store d v) (σ.put (base + i) ob) Q := by
 rw [x_alloc rfl, wanted_none, if_pos rfl]; rfl
theorem x_makeSlice {t : TypeId} {x y : Operand} : wpo P ops base (⟨d, .makeSlice t x y, ty, pos, af, none⟩ :: l) i S σ Q ↔ ∃ v ob, vMake P t (ev S x) (ev S y) (base + i) = some (v, ob) ∧ wpo P ops base l (i + 1) (S.store d v) (σ.put (base + i) ob) Q := by
 rw [x_alloc rfl, wanted_none, if_pos rfl]; rfl
theorem x_makeMap {t : TypeId} {x : Option Operand} : wpo P ops base (⟨d, .makeMap t x, ty, pos, af, none⟩ :: l) i S σ Q ↔ ∃ v ob, aalloc P (ev S) ⟨d, .makeMap t x, ty, pos, af, none⟩ (base + i) = some (v, ob) ∧ wpo P ops base l (i + 1) (S.store d v) (σ.put (base + i) ob) Q := by
 rw [x_alloc rfl, wanted_none, if_pos rfl]
theorem x_eff {op : Op} {g : Option (Nat × Bool)} {r : Option (Value × St)} (hk : kindOf ⟨d, op, ty, pos, af, g⟩ = .eff) (hv : ∀ c, aeff P c σ (ev S) ⟨d, op, ty, pos, af, g⟩ (base + i) = r) : wpo P ops base (⟨d, op, ty, pos, af, g⟩ :: l) i S σ Q ↔
    if wanted ops S ⟨d, op, ty, pos, af, g⟩ = true then ∃ v σ1, r = some (v, σ1) ∧ wpo P ops base l (i + 1) (S.store d v) σ1 Q else wpo P ops base l (i + 1) (S.store d undef) σ Q := by
 constructor
 ·rintro ⟨n, S', σ', h1, h2⟩
  rw [runOps_cons] at h1
  split
  ·rename_i hw
   rw [if_pos hw] at h1
   simp only [aop, hk, hv] at h1
   cases hr : r with
   | none => simp [hr] at h1
   | some v => obtain ⟨v, σ1⟩ := v; simp only [hr, Option.bind_some] at h1; exact ⟨v, σ1, rfl, n, S', σ', h1, h2⟩
  ·rename_i hw
   rw [if_neg hw] at h1
   exact ⟨n, S', σ', h1, h2⟩
 ·intro h
  split at h
  ·rename_i hw; obtain ⟨v, σ1, h1, h2⟩ := h; exact wpo_eff hw hk (fun c => (hv c).trans h1) h2
  ·rename_i hw; exact wpo_skip (by simpa using hw) h
theorem x_callG {op : Op} {g : Option (Nat × Bool)} {c : Call} (hop : op = .call c) (hk : kindOf ⟨d, op, ty, pos, af, g⟩ = .eff) (hb : ∀ b, c.callee ≠ .builtin b) : wpo P ops base (⟨d, op, ty, pos, af, g⟩ :: l) i S σ Q ↔
    if wanted ops S ⟨d, op, ty, pos, af, g⟩ = true then ∃ f args, acallee (ev S) c = some (f, args) ∧ wpc P f args σ fun v σ1 => wpo P ops base l (i + 1) (S.store d v) σ1 Q else wpo P ops base l (i + 1) (S.store d undef) σ Q := by
 have hv : ∀ k : CallT, aeff P k σ (ev S) ⟨d, op, ty, pos, af, g⟩ (base + i) = match acallee (ev S) c with | some (f, args) => k f args σ | none => none := by
  intro k
  subst hop
  unfold aeff
  simp only
  cases hc : c.callee with
  | builtin b => exact absurd hc (hb b)
  | value f => rfl
  | invoke f m => rfl
 constructor
 ·rintro ⟨n, S', σ', h1, h2⟩
  rw [runOps_cons] at h1
  split
  ·rename_i hw
   rw [if_pos hw] at h1
   simp only [aop, hk, hv] at h1
   cases hr : acallee (ev S) c with
   | none => simp [hr] at h1
   | some v =>
    obtain ⟨f, args⟩ := v
    simp only [hr] at h1
    cases hx : callQ P n n f args σ with
    | none => simp [hx] at h1
    | some x => obtain ⟨r, σ1⟩ := x; simp only [hx, Option.bind_some] at h1; exact ⟨f, args, rfl, n, r, σ1, hx, n, S', σ', h1, h2⟩
  ·rename_i hw
   rw [if_neg hw] at h1
   exact ⟨n, S', σ', h1, h2⟩
 ·intro h
  split at h
  ·rename_i hw; obtain ⟨f, args, h1, h2⟩ := h; exact wpo_call hw hk (fun k => by rw [hv, h1]) h2
  ·rename_i hw; exact wpo_skip (by simpa using hw) h
theorem map_undef {r : Option St} {Z : Value → St → Prop} : (∃ v σ1, r.map (fun σ' => (undef, σ')) = some (v, σ1) ∧ Z v σ1) ↔ ∃ σ1, r = some σ1 ∧ Z undef σ1 := by
 cases r with
 | none => simp
 | some s => simp only [Option.map_some, Option.some.injEq, Prod.mk.injEq]; exact ⟨fun ⟨v, σ1, ⟨h1, h2⟩, h⟩ => ⟨σ1, h2, by rw [h1]; exact h⟩, fun ⟨σ1, h1, h⟩ => ⟨_, σ1, ⟨rfl, h1⟩, h⟩⟩
theorem x_store {t : TypeId} {x y : Operand} : wpo P ops base (⟨d, .store t x y, ty, pos, af, none⟩ :: l) i S σ Q ↔ ∃ σ1, astore P σ t (ev S x) (ev S y) = some σ1 ∧ wpo P ops base l (i + 1) (S.store d undef) σ1 Q := by
 rw [x_eff (r := (astore P σ t (ev S x) (ev S y)).map fun σ' => (undef, σ')) rfl (fun _ => rfl), wanted_none, if_pos rfl, map_undef]
theorem x_mapUpdate {t : TypeId} {x y z : Operand} : wpo P ops base (⟨d, .mapUpdate t x y z, ty, pos, af, none⟩ :: l) i S σ Q ↔ ∃ σ1, amapUpdate P σ t (ev S x) (ev S y) (ev S z) = some σ1 ∧ wpo P ops base l (i + 1) (S.store d undef) σ1 Q := by
 rw [x_eff (r := (amapUpdate P σ t (ev S x) (ev S y) (ev S z)).map fun σ' => (undef, σ')) rfl (fun _ => rfl), wanted_none, if_pos rfl, map_undef]
theorem x_insert {t : TypeId} {x y z : Operand} : wpo P ops base (⟨d, .insert t x y z, ty, pos, af, none⟩ :: l) i S σ Q ↔ ∃ σ1, amapUpdate P σ t (ev S x) (ev S y) (ev S z) = some σ1 ∧ wpo P ops base l (i + 1) (S.store d undef) σ1 Q := by
 rw [x_eff (r := (amapUpdate P σ t (ev S x) (ev S y) (ev S z)).map fun σ' => (undef, σ')) rfl (fun _ => rfl), wanted_none, if_pos rfl, map_undef]
theorem x_append {x y : Operand} {ts : Array TypeId} : wpo P ops base (⟨d, .call ⟨.builtin .append, #[x, y], ts⟩, ty, pos, af, none⟩ :: l) i S σ Q ↔ ∃ v σ1, aappend P σ (base + i) ⟨.builtin .append, #[x, y], ts⟩ (ev S x) (ev S y) = some (v, σ1) ∧ wpo P ops base l (i + 1) (S.store d v) σ1 Q := by
 rw [x_eff (r := aappend P σ (base + i) ⟨.builtin .append, #[x, y], ts⟩ (ev S x) (ev S y)) rfl (fun _ => rfl), wanted_none, if_pos rfl]
theorem x_call {f : Operand} {as : Array Operand} {ts : Array TypeId} : wpo P ops base (⟨d, .call ⟨.value f, as, ts⟩, ty, pos, af, none⟩ :: l) i S σ Q ↔ ∃ g args, acallee (ev S) ⟨.value f, as, ts⟩ = some (g, args) ∧ wpc P g args σ fun v σ1 => wpo P ops base l (i + 1) (S.store d v) σ1 Q := by
 rw [x_callG rfl rfl (fun b h => by cases h), wanted_none, if_pos rfl]
theorem row_put (σ : St) (id k : Nat) (cs : List Value) (m : Mta) : (σ.put id (.cells cs m)).row k = if k = id then (if σ.good m = true then some (cs, m) else none) else σ.row k := by
 unfold St.row
 rw [St.get_put]
 by_cases e : k = id
 ·simp only [if_pos e, St.good_put]; cases σ.good m <;> rfl
 ·simp only [if_neg e]; rfl
theorem next_put (σ : St) (id : Nat) (o : AObj) : (σ.put id o).next = σ.next := rfl
theorem good_box (σ : St) : σ.good boxMeta = true := rfl
theorem good_row (σ : St) (z : Nat) : σ.good (rowMeta z) = true := rfl
end
end Go.AI
namespace Go.AI
section
variable {P : Program} {S : Slots} {σ : St} {Q : Fl → Slots → St → Prop}
def St.more (σ : St) (n : Nat) : St := { σ with next := σ.next + n }
theorem row_more {n k : Nat} : (σ.more n).row k = σ.row k := rfl
theorem get_more {n k : Nat} : (σ.more n).get k = σ.get k := rfl
theorem next_more {n : Nat} : (σ.more n).next = σ.next + n := rfl
theorem good_more {n : Nat} {m : Mta} : (σ.more n).good m = σ.good m := rfl
theorem ver_more {n g : Nat} : (σ.more n).ver g = σ.ver g := rfl
def done (P : Program) (rs : List ResultVar) (Q : Value → St → Prop) : Fl → Slots → St → Prop
 | .exit _, _, _ => False
 | _, S, σ => ∃ vs, resultsOf P S σ rs = some vs ∧ Q (answer vs) σ
theorem body_go {f : FuncId} {fn : Func} {c : Code} {args : Array Value} {Q : Value → St → Prop} (hf : P.funcs[f]? = some fn) (hb : fn.body = some c)
    (h : wpx P c (fillS args.toList 0 .nil) σ (done P fn.results.toList Q)) (hno : noOr f = true := by rfl) : wpc P f args σ Q := by
 refine wpc_body hf hb hno (wpx_mono h fun fl S' σ' hd => ?_)
 cases fl with
 | exit k => exact hd.elim
 | normal => exact ⟨trivial, hd⟩
 | ret => exact ⟨trivial, hd⟩
theorem c_seq {a b : Code} : wpx P (.seq a b) S σ Q ↔ wpx P a S σ (thenx P b Q) := by
 refine ⟨fun h => ?_, wpx_seq⟩
 obtain ⟨n, fl, S', σ', h1, h2⟩ := h
 simp only [exec] at h1
 cases ha : exec P (callQ P n n) n a S σ with
 | none => simp [ha] at h1
 | some x =>
  obtain ⟨f1, S1, σ1⟩ := x
  simp only [ha] at h1
  cases f1 with
  | normal => exact ⟨n, .normal, S1, σ1, ha, n, fl, S', σ', h1, h2⟩
  | exit k => cases h1; exact ⟨n, _, _, _, ha, h2⟩
  | ret => cases h1; exact ⟨n, _, _, _, ha, h2⟩
theorem c_skip : wpx P .skip S σ Q ↔ Q .normal S σ := ⟨fun ⟨_, _, _, _, h1, h2⟩ => by cases h1; exact h2, wpx_skip⟩
theorem c_label {l : Nat} : wpx P (.label l) S σ Q ↔ Q .normal S σ := ⟨fun ⟨_, _, _, _, h1, h2⟩ => by cases h1; exact h2, wpx_label⟩
theorem c_exit {k : Nat} : wpx P (.exit k) S σ Q ↔ Q (.exit k) S σ := ⟨fun ⟨_, _, _, _, h1, h2⟩ => by cases h1; exact h2, wpx_exit⟩
theorem c_ret : wpx P .ret S σ Q ↔ Q .ret S σ := ⟨fun ⟨_, _, _, _, h1, h2⟩ => by cases h1; exact h2, wpx_ret⟩
theorem c_scope {c : Code} : wpx P (.scope c) S σ Q ↔ wpx P c S σ Q := Iff.rfl
theorem c_block {id : Nat} {c : Code} : wpx P (.block id c) S σ Q ↔ wpx P c S σ (inBlockx id Q) := by
 refine ⟨fun h => ?_, wpx_block⟩
 obtain ⟨n, fl, S', σ', h1, h2⟩ := h
 simp only [exec] at h1
 cases ha : exec P (callQ P n n) n c S σ with
 | none => simp [ha] at h1
 | some x =>
  obtain ⟨f1, S1, σ1⟩ := x
  simp only [ha] at h1
  cases f1 with
  | normal => cases h1; exact ⟨n, _, _, _, ha, h2⟩
  | ret => cases h1; exact ⟨n, _, _, _, ha, h2⟩
  | exit k =>
   refine ⟨n, _, _, _, ha, ?_⟩
   simp only [nbeq, Bool.cond_decide] at h1
   simp only [inBlockx]
   split at h1 <;> cases h1
   ·rename_i e; rw [if_pos e]; exact h2
   ·rename_i e; rw [if_neg e]; exact h2
def cnd (P : Program) (v : Value) (a b : Code) (S : Slots) (σ : St) (Q : Fl → Slots → St → Prop) : Prop :=
 match v with
 | .bool t => if t = true then wpx P a S σ Q else wpx P b S σ Q
 | _ => False
theorem c_cond {x : Operand} {a b : Code} : wpx P (.cond x a b) S σ Q ↔ cnd P (ev S x) a b S σ Q := by
 constructor
 ·rintro ⟨n, fl, S', σ', h1, h2⟩
  simp only [exec] at h1
  unfold cnd
  split at h1
  ·rename_i e; rw [e]; simp only [if_true]; exact ⟨n, fl, S', σ', h1, h2⟩
  ·rename_i e; rw [e]; exact ⟨n, fl, S', σ', h1, h2⟩
  ·cases h1
 ·intro h
  unfold cnd at h
  split at h
  ·rename_i t e
   split at h
   ·rename_i ht; subst ht; exact wpx_cond_t e h
   ·rename_i ht; exact wpx_cond_f (by rw [e]; simpa using ht) h
  ·exact h.elim
theorem c_text {id : Nat} {ops : Array Oper} : wpx P (.region id ops false) S σ Q ↔ wpo P ops σ.next ops.toList 0 S (σ.more ops.size) (Q .normal) := by
 constructor
 ·rintro ⟨n, fl, S', σ', h1, h2⟩
  simp only [exec, Option.map_eq_some_iff] at h1
  obtain ⟨⟨S1, σ1⟩, h1, e⟩ := h1
  cases e
  exact ⟨n, S1, σ1, h1, h2⟩
 ·exact fun h => wpx_region (wpr_text h)
theorem t_n {c : Code} : thenx P c Q .normal S σ ↔ wpx P c S σ Q := Iff.rfl
theorem t_e {c : Code} {k : Nat} : thenx P c Q (.exit k) S σ ↔ Q (.exit k) S σ := Iff.rfl
theorem t_r {c : Code} : thenx P c Q .ret S σ ↔ Q .ret S σ := Iff.rfl
theorem b_n {id : Nat} : inBlockx id Q .normal S σ ↔ Q .normal S σ := Iff.rfl
theorem b_r {id : Nat} : inBlockx id Q .ret S σ ↔ Q .ret S σ := Iff.rfl
theorem b_e {id k : Nat} : inBlockx id Q (.exit k) S σ ↔ if k = id then Q .normal S σ else Q (.exit k) S σ := Iff.rfl
theorem res_nil : resultsOf P S σ [] = some [] := rfl
theorem res_tmp {t : Tmp} {rs : List ResultVar} : resultsOf P S σ (.tmp t :: rs) = (resultsOf P S σ rs).map (S.at t :: ·) := by
 simp only [resultsOf, result]; cases resultsOf P S σ rs <;> rfl
theorem res_cell {a : Tmp} {t : TypeId} {rs : List ResultVar} : resultsOf P S σ (.cell a t :: rs) = (aload P σ t (S.at a)).bind fun v => (resultsOf P S σ rs).map (v :: ·) := by
 simp only [resultsOf, result]; cases aload P σ t (S.at a) <;> cases resultsOf P S σ rs <;> rfl
theorem ans1 {v : Value} : answer [v] = v := rfl
theorem ans2 {v u : Value} : answer [v, u] = .tuple #[v, u] := rfl
theorem ans0 : answer [] = .tuple #[] := rfl
def cont (P : Program) (ops : Array Oper) (base : Nat) (l : List Oper) (i : Nat) (S : Slots) (d : Option Tmp) (Q : Slots → St → Prop) : Value → St → Prop := fun v σ1 => wpo P ops base l i (S.store d v) σ1 Q
section
variable {ops : Array Oper} {base i : Nat} {l : List Oper} {K : Slots → St → Prop} {d : Option Tmp} {ty : TypeId} {pos : String} {af : Array Edge}
theorem k_call {f : Operand} {as : Array Operand} {ts : Array TypeId} : wpo P ops base (⟨d, .call ⟨.value f, as, ts⟩, ty, pos, af, none⟩ :: l) i S σ K ↔ ∃ g args, acallee (ev S) ⟨.value f, as, ts⟩ = some (g, args) ∧ wpc P g args σ (cont P ops base l (i + 1) S d K) := x_call
theorem k_cont {v : Value} {σ1 : St} : cont P ops base l i S d K v σ1 ↔ wpo P ops base l i (S.store d v) σ1 K := Iff.rfl
theorem callee_fn {S : Slots} {g : FuncId} {as : Array Operand} {ts : Array TypeId} : acallee (ev S) ⟨.value (.func g), as, ts⟩ = some (g, as.map (ev S)) := by
 simp [acallee, ev]
end
section
variable {t : TypeId} {x y : Operand} {k : IntKind} {a b : Int}
theorem n_lss : abin P .lss t x y (.int k a) (.int k b) = some (.bool (decide (a < b))) := by cases k <;> rfl
theorem n_leq : abin P .leq t x y (.int k a) (.int k b) = some (.bool (decide (a ≤ b))) := by cases k <;> rfl
theorem n_gtr : abin P .gtr t x y (.int k a) (.int k b) = some (.bool (decide (b < a))) := by cases k <;> rfl
theorem n_geq : abin P .geq t x y (.int k a) (.int k b) = some (.bool (decide (b ≤ a))) := by cases k <;> rfl
theorem n_eql : abin P .eql t x y (.int k a) (.int k b) = some (.bool (a == b)) := by cases k <;> rfl
theorem n_neq : abin P .neq t x y (.int k a) (.int k b) = some (.bool (a != b)) := by cases k <;> rfl
theorem n_add : abin P .add t x y (.int k a) (.int k b) = some (.int k (k.wrap (a + b))) := by cases k <;> rfl
theorem n_sub : abin P .sub t x y (.int k a) (.int k b) = some (.int k (k.wrap (a - b))) := by cases k <;> rfl
theorem n_mul : abin P .mul t x y (.int k a) (.int k b) = some (.int k (k.wrap (a * b))) := by cases k <;> rfl
theorem n_quo (h : b ≠ 0) : abin P .quo t x y (.int k a) (.int k b) = some (.int k (k.wrap (a.tdiv b))) := by
 cases k <;> simp [abin, plain1, plain0, stillP, still_bind, eqGuard, binOp, Op.intDiv, h, still_pure]
theorem n_rem (h : b ≠ 0) : abin P .rem t x y (.int k a) (.int k b) = some (.int k (a.tmod b)) := by
 cases k <;> simp [abin, plain1, plain0, stillP, still_bind, eqGuard, binOp, Op.intDiv, h, still_pure]
theorem n_shl {k' : IntKind} (h : 0 ≤ b) : abin P .shl t x y (.int k a) (.int k' b) = some (.int k (k.wrap (a * 2 ^ (min b.toNat k.bits)))) := by
 have : ¬ b < 0 := by omega
 cases k <;> simp [abin, plain1, plain0, stillP, still_bind, eqGuard, binOp, Op.shift, this, still_pure]
theorem n_shr {k' : IntKind} (h : 0 ≤ b) : abin P .shr t x y (.int k a) (.int k' b) = some (.int k (a.fdiv (2 ^ (min b.toNat k.bits)))) := by
 have : ¬ b < 0 := by omega
 cases k <;> simp [abin, plain1, plain0, stillP, still_bind, eqGuard, binOp, Op.shift, this, still_pure]
theorem n_and : abin P .and t x y (.int k a) (.int k b) = some (.int k (k.wrap ((BitVec.ofInt k.bits a &&& BitVec.ofInt k.bits b).toNat : Int))) := by cases k <;> rfl
theorem n_or : abin P .or t x y (.int k a) (.int k b) = some (.int k (k.wrap ((BitVec.ofInt k.bits a ||| BitVec.ofInt k.bits b).toNat : Int))) := by cases k <;> rfl
theorem n_xor : abin P .xor t x y (.int k a) (.int k b) = some (.int k (k.wrap ((BitVec.ofInt k.bits a ^^^ BitVec.ofInt k.bits b).toNat : Int))) := by cases k <;> rfl
theorem n_not {c : Bool} : aun P .not (.bool c) = some (.bool (!c)) := rfl
theorem p_t {u v : Value} : apick (.bool true) u v = some u := rfl
theorem p_f {u v : Value} : apick (.bool false) u v = some v := rfl
theorem p_bb {c u v : Bool} : apick (.bool c) (.bool u) (.bool v) = some (.bool (if c = true then u else v)) := by cases c <;> rfl
theorem eq_bool {c e : Bool} (ht : P.underlying t = some .bool) : still P (Op.equal t (.bool c) (.bool e)) = some (c == e) := by
 unfold Op.equal
 rw [show Op.maxDepth = Nat.succ 9999 from rfl, Op.equalIn.eq_2, still_bind, still_underlying, ht]; rfl
theorem n_eqb {c e : Bool} (ht : P.underlying t = some .bool) : abin P .eql t x y (.bool c) (.bool e) = some (.bool (c == e)) := by
 simp only [abin, plain1, plain0, Bool.and_self, cond_true, stillP, still_bind, eqGuard, Bool.not_true, Bool.false_eq_true, if_false, still_pure, Option.bind_some, binOp, eq_bool ht]
theorem n_neb {c e : Bool} (ht : P.underlying t = some .bool) : abin P .neq t x y (.bool c) (.bool e) = some (.bool (!(c == e))) := by
 simp only [abin, plain1, plain0, Bool.and_self, cond_true, stillP, still_bind, eqGuard, Bool.not_true, Bool.false_eq_true, if_false, still_pure, Option.bind_some, binOp, eq_bool ht]
theorem n_conv {s : TypeId} {d : TypeDesc} {k' : IntKind} (hs : P.underlying s = some d) (ht : P.underlying t = some (.int k')) : aconv P s t (.int k a) = some (.int k' (k'.wrap a)) := by
 unfold aconv
 simp only [plain0, cond_true, stillP, convert, still_bind, still_underlying, hs, ht, Option.bind_some, Conv.intToInt, still_pure, plain1]
theorem n_convS {σ : St} {s : TypeId} {d : TypeDesc} {k' : IntKind} (hs : P.underlying s = some d) (ht : P.underlying t = some (.int k')) : aconvS P σ s t (.int k a) = some (.int k' (k'.wrap a)) := by
 have := n_conv (k := k) (a := a) hs ht
 unfold aconv at this
 unfold aconvS
 rw [this]
theorem nc_some {a0 : Addr} : anilCheck (.pointer (some a0)) = some (.pointer (some a0)) := rfl
theorem ex_tup {vs : Array Value} {i : Nat} : aextract (.tuple vs) i = vs[i]? := rfl
end
theorem fa {s : TypeId} {fs : Array Field} {f : Nat} {fd : Field} {n id off : Nat} (hs : P.underlying s = some (.struct fs)) (hf : fs[f]? = some fd) (hn : szOf P fd.type = some n) (h0 : n ≠ 0) :
    afieldAddr P s (.pointer (some ⟨id, off, none⟩)) f = some (.pointer (some ⟨id, off + fd.offset, none⟩)) := by
 simp [afieldAddr, hs, hf, hn, nbeq, h0]
theorem ia {t e : TypeId} {z id off len c : Nat} {k : IntKind} {n : Int} (ht : P.underlying t = some (.slice e)) (hz : szOf P e = some z) (h0 : 0 ≤ n) (h1 : n < (len : Int)) :
    aindexAddr P t (.slice (some ⟨id, off, none⟩) len c) (.int k n) = some (.pointer (some ⟨id, off + n.toNat * z, none⟩)) := by
 simp [aindexAddr, ht, hz, inRange, h0, h1]
def stw (σ : St) (id off n : Nat) (x : Value) (cs : List Value) (m : Mta) : Option St :=
 bif m.wr && Nat.beq x.cells.size n && Nat.ble (off + n) cs.length && x.cells.toList.all one then
  match m.grp with
  | none => some (σ.put id (.cells (putAt cs off x.cells.toList) m))
  | some (g, v) => bif m.tip && Nat.ble m.lim off then some (σ.put id (.cells (putAt cs off x.cells.toList) m)) else some ((σ.put id (.cells (putAt cs off x.cells.toList) { m with grp := some (g, v + 1) })).bump g (v + 1))
 else none
theorem st_eq {t : TypeId} {n id off : Nat} {x : Value} (ht : szOf P t = some n) : astore P σ t (.pointer (some ⟨id, off, none⟩)) x = (σ.row id).bind fun r => stw σ id off n x r.1 r.2 := by
 simp only [astore, ht]; cases σ.row id <;> rfl
theorem stw_go {id off n : Nat} {x : Value} {cs : List Value} {m : Mta} (hw : m.wr = true) (hg : m.grp = none) : stw σ id off n x cs m = if x.cells.size = n ∧ off + n ≤ cs.length ∧ x.cells.toList.all one = true then some (σ.put id (.cells (putAt cs off x.cells.toList) m)) else none := by
 unfold stw
 rw [hw, hg, nbeq, nble, Bool.true_and]
 by_cases h1 : x.cells.size = n
 ·by_cases h2 : off + n ≤ cs.length
  ·cases h3 : x.cells.toList.all one with
   | true => rw [if_pos ⟨h1, h2, rfl⟩]; simp [h1, h2]
   | false => rw [if_neg (fun h => by cases h.2.2)]; simp
  ·rw [if_neg (fun h => h2 h.2.1)]; simp [h2]
 ·rw [if_neg (fun h => h1 h.1)]; simp [h1]
theorem stw_box {id off n : Nat} {x : Value} {cs : List Value} : stw σ id off n x cs boxMeta = if x.cells.size = n ∧ off + n ≤ cs.length ∧ x.cells.toList.all one = true then some (σ.put id (.cells (putAt cs off x.cells.toList) boxMeta)) else none := stw_go rfl rfl
theorem stw_row {id off n z : Nat} {x : Value} {cs : List Value} : stw σ id off n x cs (rowMeta z) = if x.cells.size = n ∧ off + n ≤ cs.length ∧ x.cells.toList.all one = true then some (σ.put id (.cells (putAt cs off x.cells.toList) (rowMeta z))) else none := stw_go rfl rfl
def infoOf (P : Program) (e : TypeId) : Option (Nat × Nat × Value) := (P.info? e).bind fun i => i.zero.map fun v => (i.size, i.bytes, v)
theorem infoOf_some {e : TypeId} {z b : Nat} {v : Value} (h : infoOf P e = some (z, b, v)) : ∃ i, P.info? e = some i ∧ i.size = z ∧ i.bytes = b ∧ i.zero = some v := by
 unfold infoOf at h
 rw [Option.bind_eq_some_iff] at h
 obtain ⟨i, h1, h2⟩ := h
 rw [Option.map_eq_some_iff] at h2
 obtain ⟨u, h3, h4⟩ := h2
 cases h4
 exact ⟨i, h1, rfl, rfl, h3⟩
theorem app_eq {t e : TypeId} {z b : Nat} {zv : Value} {u : TypeDesc} {t1 : TypeId} {id' : Nat} {as : Array Operand} {s x : Value} {n : Nat} {xs : List Value} (ht : P.underlying t = some (.slice e)) (hu : P.underlying t1 = some u) (hi : infoOf P e = some (z, b, zv))
    (hf : fits u x = true) (hs : aSource σ z x = some (n, xs)) (h1 : xs.all one = true) (hz : 1 ≤ z) (hb : 1 ≤ b) (hzv : zv.cells.size = z) (hsl : isSlice s = true) (hn : n ≠ 0) :
    aappend P σ id' ⟨.builtin .append, as, #[t, t1]⟩ s x = agrow σ id' z b n xs s := by
 obtain ⟨i, e1, e2, e3, e4⟩ := infoOf_some hi
 subst e2; subst e3
 simp [aappend, ht, hu, hf, e1, hs, e4, h1, nble, hz, hb, nbeq, hzv, hsl, hn]
theorem mk_eq {t e : TypeId} {z b id : Nat} {zv : Value} {n : Nat} (ht : P.underlying t = some (.slice e)) (hi : infoOf P e = some (z, b, zv))
    (hb : n * b ≤ 1073741824) (hn : n ≤ 1073741824) (hp : zv.cells.toList.all plain0 = true) (hzv : zv.cells.size = z) (hz : 1 ≤ z) :
    vMake P t (.int .i64 n) (.int .i64 n) id = some (.slice (some ⟨id, 0, none⟩) n n, .cells (zerosOf zv.cells.toList n) (rowMeta z)) := by
 obtain ⟨i, e1, e2, e3, e4⟩ := infoOf_some hi
 subst e2; subst e3
 have h' : ((n * i.bytes : Nat) : Int) ≤ ((1073741824 : Nat) : Int) := Int.ofNat_le.2 hb
 rw [Int.natCast_mul] at h'
 simp only [vMake, ht, e1, e4]
 have hc : (decide (0 ≤ (n : Int)) && decide ((n : Int) ≤ (n : Int)) && decide ((n : Int) * (i.bytes : Int) ≤ 1073741824) && decide ((n : Int) ≤ 1073741824) && zv.cells.toList.all plain0 && Nat.beq zv.cells.size i.size && Nat.ble 1 i.size) = true := by
  simp only [Bool.and_eq_true, decide_eq_true_eq, nble, nbeq]
  exact ⟨⟨⟨⟨⟨⟨by omega, Int.le_refl _⟩, h'⟩, by omega⟩, hp⟩, hzv⟩, hz⟩
 rw [hc]
 simp
theorem cut_go {cs : List Value} {off n : Nat} (h : off + n ≤ cs.length) : cut cs off n = some ((cs.drop off).take n) := by
 unfold cut
 have : ((cs.drop off).take n).length = n := by simp; omega
 simp [this, nbeq]
def Fr (σ : St) : Prop := ∀ g, σ.next ≤ g → σ.ver g = 0
structure EXn (n : Nat) (σ σ' : St) : Prop where
 next : σ.next ≤ σ'.next
 get : ∀ id, id < n → σ'.get id = σ.get id
 row : ∀ id, id < n → σ'.row id = σ.row id
 fr : Fr σ → Fr σ'
 ver : ∀ g, g < n → σ'.ver g = σ.ver g
theorem EXn.refl (n : Nat) (σ : St) : EXn n σ σ := ⟨Nat.le_refl _, fun _ _ => rfl, fun _ _ => rfl, id, fun _ _ => rfl⟩
theorem EXn.trans {n : Nat} {a b c : St} (h : EXn n a b) (k : EXn n b c) : EXn n a c := ⟨Nat.le_trans h.next k.next, fun id hi => (k.get id hi).trans (h.get id hi), fun id hi => (k.row id hi).trans (h.row id hi), fun hf => k.fr (h.fr hf), fun g hg => (k.ver g hg).trans (h.ver g hg)⟩
theorem EXn.weak {n m : Nat} {a b : St} (h : EXn n a b) (hm : m ≤ n) : EXn m a b := ⟨h.next, fun id hi => h.get id (by omega), fun id hi => h.row id (by omega), h.fr, fun g hg => h.ver g (by omega)⟩
theorem EXn.more {n : Nat} {a σ : St} (h : EXn n a σ) (k : Nat) : EXn n a (σ.more k) := ⟨by have := h.next; rw [next_more]; omega, h.get, h.row, fun hf g hg => by rw [ver_more]; exact h.fr hf g (by rw [next_more] at hg; omega), h.ver⟩
theorem EXn.put {n : Nat} {a σ : St} (h : EXn n a σ) {id : Nat} (hid : n ≤ id) (ob : AObj) : EXn n a (σ.put id ob) := by
 refine ⟨h.next, fun k hk => ?_, fun k hk => ?_, h.fr, h.ver⟩
 ·rw [St.get_put, if_neg (by omega)]; exact h.get k hk
 ·have e : (σ.put id ob).row k = σ.row k := by
   unfold St.row
   rw [St.get_put, if_neg (by omega)]; rfl
  rw [e]; exact h.row k hk
abbrev EX (σ σ' : St) : Prop := EXn σ.next σ σ'
theorem EX.refl (σ : St) : EX σ σ := EXn.refl _ σ
theorem EX.trans {a b c : St} (h : EX a b) (k : EX b c) : EX a c := EXn.trans h (k.weak h.next)
theorem EXn.thn {n : Nat} {a b c : St} (h : EXn n a b) (hn : n ≤ a.next) (k : EX b c) : EXn n a c := h.trans (k.weak (by have := h.next; omega))
end
end Go.AI
