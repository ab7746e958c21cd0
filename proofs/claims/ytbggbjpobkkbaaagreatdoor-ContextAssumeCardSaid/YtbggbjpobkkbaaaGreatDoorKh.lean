import Derived.Test.YtbggbjpobkkbaaaGreatDoorKg
import Derived.IntWalk
set_option linter.unusedVariables false
set_option linter.unusedSimpArgs false
set_option linter.constructorNameAsVariable false
namespace Go.AI
section
variable {w0 : W0} {P : Program} {call : FuncId → Array Value → St → Option (Value × St)}
theorem aD8 (hcall : eC w0 P call) (hfol : P.toTables.follows .mixedOrders = true) {N id : Nat} {ops : Array Oper} {draw : Bool} {S S' : Slots} {σ σ' : St} {a : Act} {w : World} {μ : Mp} {Q : Exit → Act → World → Prop}
    (h : dZ P call ops draw S σ = some (S', σ')) (hok : cH P N (.region id ops draw) = true) (A : AR μ S N a) (Z : Sim w0 P μ σ w) (hpost : jY w0 P μ σ.next N S' σ' (Q .normal)) :
    (Code.region id ops draw).wp P Q a w := by
 simp only [cH, bjE, List.all_eq_true, Bool.or_eq_true, Bool.not_eq_true'] at hok;obtain ⟨hops, hdr⟩ := hok;unfold dZ at h;have hnone : ∀ j, μ (σ.next + j) = none := fun j => Z.dom _ (by omega)
 cases draw with
 | false =>
  simp only [cdf] at h;refine wp_region ?_;rw [List.range_eq_range'];have := aD5 (Q := Q) (w0 := w0) hcall (ops := ops) (base := σ.next) (N := N) (n0 := σ.next) (nlR _) hops ops.toList 0 S S' { σ with next := σ.next + ops.size } σ' a w μ μ (by simp) (by simp) A (Z.next (Nat.le_add_right _ _))
   (Ext.refl _ _) (nlR _) (fun j _ _ => hnone j) h hpost
  simpa using this
 | true =>
  simp only [cdt] at h;have hD := hdr.resolve_left (by simp)
  have Z' : Sim w0 P μ { σ with next := σ.next + ops.size } { w with drawn := w.drawn + 1 } := (Z.next (Nat.le_add_right _ _)).drawn _
  have hrep : ∀ i, (Array.replicate ops.size false).getD i false = false := fun i => by
   rw [Array.getD_eq_getD_getElem?];by_cases hi : i < ops.size
   ·simp [hi]
   ·simp [hi]
  have hunl : unl (Array.replicate ops.size false) ≤ ops.size := by
   unfold unl; simp only [Array.toList_replicate]; exact Nat.le_trans (List.length_filter_le _ _) (by simp)
  unfold tS at hD;cases ht : twin ops with
  | none =>
   rw [ht] at hD;simp only at hD;have h' : dH P call ops (dX ops.toList []) σ.next (rF ops (dX ops.toList [])) [] S { σ with next := σ.next + ops.size } = some (S', σ') := by
    cases hr : dH P call ops (dX ops.toList []) σ.next (rF ops (dX ops.toList [])) [] S { σ with next := σ.next + ops.size } with
    | none => rw [hr] at h; cases h
    | some r =>
     rw [hr] at h;simp only [fitTw, okTw, ht, cdt] at h;exact h
   obtain ⟨rs, Cs, Es, hrs, C⟩ := aAx _ _ _ _ h';obtain ⟨s, hs0, hsn, htr⟩ := C.first (w0 := w0)
   refine wp_region_any hfol (draw_ok hcall (drawOK hD) hops (nlR _) C hrs hpost ops.size (Array.replicate ops.size false) a _ μ 0 s hunl ?_);refine ⟨by simp, fun i o e _ hl => ?_, fun q e _ => ?_, hs0, htr μ _ (fun r _ => hnone r.i) Z', ?_, fun i _ _ => hnone i, Ext.refl _ _, A.size, A.defers, fun r _ hl => ?_, fun x _ => A.slot x⟩
   ·rw [hrep] at hl; cases hl
   ·rw [hrep]; simp
   ·rw [hsn]; exact nlR _
   ·rw [hrep] at hl; cases hl
  | some ab => rw [ht] at hD; simp at hD
def Fl.out : Fl → Exit
 | .normal => .normal
 | .exit n => .exit n
 | .ret => .ret
def Post (w0 : W0) (P : Program) (μ : Mp) (n N : Nat) (S' : Slots) (σ' : St) (K : Act → World → Prop) : Prop :=
 ∀ a' w' μ', AR μ' S' N a' → Sim w0 P μ' σ' w' → Ext n μ μ' → n ≤ σ'.next → K a' w'
theorem Post.later {μ μ' : Mp} {n n' N : Nat} {S' : Slots} {σ' : St} {K : Act → World → Prop} (h : Post w0 P μ n N S' σ' K) (hE : Ext n μ μ') (hn : n ≤ n') : Post w0 P μ' n' N S' σ' K :=
 fun a' w' μ'' A Z E hl => h a' w' μ'' A Z (hE.trans E hn) (by omega)
theorem jG (hcall : eC w0 P call) (hfol : P.toTables.follows .mixedOrders = true) (L N : Nat) : ∀ (c : Code) (S : Slots) (σ : St) (fl : Fl) (S' : Slots) (σ' : St) (a : Act) (w : World) (μ : Mp) (Q : Exit → Act → World → Prop),
    aX P call L c S σ = some (fl, S', σ') → cH P N c = true → AR μ S N a → Sim w0 P μ σ w → Post w0 P μ σ.next N S' σ' (Q fl.out) → c.wp P Q a w := by
 intro c;induction c with
 | skip =>
  intro S σ fl S' σ' a w μ Q h _ A Z hp;simp only [aX, ojE, pjE] at h;obtain ⟨rfl, rfl, rfl⟩ := h;exact wp_skip (hp a w μ A Z (Ext.refl _ _) (nlR _))
 | label l =>
  intro S σ fl S' σ' a w μ Q h _ A Z hp;simp only [aX, ojE, pjE] at h;obtain ⟨rfl, rfl, rfl⟩ := h;exact wp_label (hp a w μ A Z (Ext.refl _ _) (nlR _))
 | region id ops draw =>
  intro S σ fl S' σ' a w μ Q h hok A Z hp;simp only [aX, mjE] at h;obtain ⟨⟨S1, σ1⟩, h, e⟩ := h;cases e;exact aD8 hcall hfol h hok A Z hp
 | seq x y ihx ihy =>
  intro S σ fl S' σ' a w μ Q h hok A Z hp;simp only [cH, bjE] at hok;simp only [aX] at h;refine wp_seq ?_;cases hx : aX P call L x S σ with
  | none => simp [hx] at h
  | some r =>
   obtain ⟨f1, S1, σ1⟩ := r;simp only [hx] at h;cases f1 with
   | normal =>
    simp only at h;exact ihx S σ .normal S1 σ1 a w μ _ hx hok.1 A Z (fun a' w' μ' A' Z' E hn => ihy S1 σ1 fl S' σ' a' w' μ' Q h hok.2 A' Z' (hp.later E hn))
   | exit n =>
    simp only [ojE, pjE] at h;obtain ⟨rfl, rfl, rfl⟩ := h;exact ihx S σ (.exit n) S1 σ1 a w μ _ hx hok.1 A Z hp
   | ret =>
    simp only [ojE, pjE] at h;obtain ⟨rfl, rfl, rfl⟩ := h;exact ihx S σ .ret S1 σ1 a w μ _ hx hok.1 A Z hp
 | cond c x y ihx ihy =>
  intro S σ fl S' σ' a w μ Q h hok A Z hp;simp only [cH, bjE] at hok;simp only [aX] at h;have hv := ev_ok A Z hok.1.1;split at h <;> try cases h
  ·rename_i hc;rw [hc] at hv;exact wp_cond_true hv.bool_inv (ihx S σ fl S' σ' a w μ Q h hok.1.2 A Z hp)
  ·rename_i hc;rw [hc] at hv;exact wp_cond_false hv.bool_inv (ihy S σ fl S' σ' a w μ Q h hok.2 A Z hp)
 | block id c ih =>
  intro S σ fl S' σ' a w μ Q h hok A Z hp;simp only [cH] at hok;simp only [aX] at h;refine wp_block ?_;cases hx : aX P call L c S σ with
  | none => simp [hx] at h
  | some r =>
   obtain ⟨f1, S1, σ1⟩ := r;simp only [hx] at h;cases f1 with
   | normal =>
    simp only [ojE, pjE] at h;obtain ⟨rfl, rfl, rfl⟩ := h;exact ih S σ .normal S1 σ1 a w μ _ hx hok A Z hp
   | ret =>
    simp only [ojE, pjE] at h;obtain ⟨rfl, rfl, rfl⟩ := h;exact ih S σ .ret S1 σ1 a w μ _ hx hok A Z hp
   | exit n =>
    simp only [cN, Bool.cond_decide] at h;split at h
    ·rename_i hn;simp only [ojE, pjE] at h;obtain ⟨rfl, rfl, rfl⟩ := h;exact ih S σ (.exit n) S1 σ1 a w μ _ hx hok A Z (fun a' w' μ' A' Z' E hl => by
      show Exit.inBlock id Q (.exit n) a' w';simp only [Exit.inBlock, if_pos hn]; exact hp a' w' μ' A' Z' E hl)
    ·rename_i hn;simp only [ojE, pjE] at h;obtain ⟨rfl, rfl, rfl⟩ := h;exact ih S σ (.exit n) S1 σ1 a w μ _ hx hok A Z (fun a' w' μ' A' Z' E hl => by
      show Exit.inBlock id Q (.exit n) a' w';simp only [Exit.inBlock, if_neg hn]; exact hp a' w' μ' A' Z' E hl)
 | loop c ih =>
  intro S σ fl S' σ' a w μ Q h hok A Z hp;simp only [cH] at hok;simp only [aX] at h;refine wp_loop_rounds L ?_;have main : ∀ (n : Nat) (S : Slots) (σ : St) (a : Act) (w : World) (μ : Mp), aDs (fun S σ => aX P call L c S σ) n S σ = some (fl, S', σ') → AR μ S N a → Sim w0 P μ σ w → Post w0 P μ σ.next N S' σ' (Q fl.out) → Code.rounds P c Q n a w := by
   intro n;induction n with
   | zero => intro S σ a w μ h; simp [aDs] at h
   | succ n ihn =>
    intro S σ a w μ h A Z hp;rw [rounds_succ];simp only [aDs] at h;cases hx : aX P call L c S σ with
    | none => simp [hx] at h
    | some r =>
     obtain ⟨f1, S1, σ1⟩ := r;simp only [hx] at h;cases f1 with
     | normal =>
      simp only at h;exact ih S σ .normal S1 σ1 a w μ _ hx hok A Z (fun a' w' μ' A' Z' E hl => ihn S1 σ1 a' w' μ' h A' Z' (hp.later E hl))
     | exit n =>
      simp only [ojE, pjE] at h;obtain ⟨rfl, rfl, rfl⟩ := h;exact ih S σ (.exit n) S1 σ1 a w μ _ hx hok A Z hp
     | ret =>
      simp only [ojE, pjE] at h;obtain ⟨rfl, rfl, rfl⟩ := h;exact ih S σ .ret S1 σ1 a w μ _ hx hok A Z hp
  exact main L S σ a w μ h A Z hp
 | exit n =>
  intro S σ fl S' σ' a w μ Q h _ A Z hp;simp only [aX, ojE, pjE] at h;obtain ⟨rfl, rfl, rfl⟩ := h;exact wp_exit (hp a w μ A Z (Ext.refl _ _) (nlR _))
 | ret =>
  intro S σ fl S' σ' a w μ Q h _ A Z hp;simp only [aX, ojE, pjE] at h;obtain ⟨rfl, rfl, rfl⟩ := h;exact wp_ret (hp a w μ A Z (Ext.refl _ _) (nlR _))
 | scope c ih =>
  intro S σ fl S' σ' a w μ Q h hok A Z hp;simp only [cH] at hok;simp only [aX] at h;refine wp_scope_straight (ih S σ fl S' σ' a w μ _ h hok A Z ?_);cases fl <;> exact hp
 | goto l => intro S σ fl S' σ' a w μ Q h; simp [aX] at h
 | refuse s => intro S σ fl S' σ' a w μ Q h; simp [aX] at h
 | rangeFunc x ts c d _ _ => intro S σ fl S' σ' a w μ Q h; simp [aX] at h
theorem oV : ∀ (l : List Value) (i : Nat) (S : Slots) (k : Nat), (jF l i S).at k = if i ≤ k ∧ k < i + l.length then (l[k - i]?).getD undef else S.at k := by
 intro l;induction l with
 | nil => intro i S k; rw [jF, if_neg (by simp)]
 | cons v l ih =>
  intro i S k;rw [jF, ih];simp only [lcS];by_cases h1 : i + 1 ≤ k ∧ k < i + 1 + l.length
  ·rw [if_pos h1, if_pos (by omega), show k - i = (k - (i + 1)) + 1 by omega]; simp
  ·rw [if_neg h1];by_cases h2 : k = i
   ·subst h2;rw [if_pos (by omega)]
    simp [Slots.at, Tr.get_set]
   ·rw [if_neg (by omega)]
    simp [Slots.at, Tr.get_set, h2]
theorem aD7 {S : Slots} {N : Nat} {a : Act} {σ : St} {w : World} {μ : Mp} (A : AR μ S N a) (Z : Sim w0 P μ σ w) {r : ResultVar} {v : Value} (h : lP P S σ r = some v) :
    ∃ v', (match r with | .tmp t => (pure (a.tmps.getD t undef) : Sem Value) | .cell x t => do loadVar t (← asAddr (a.tmps.getD x undef))).run P w = .ok v' w ∧ VR μ v v' := by
 cases r with
 | tmp t => simp only [lP, ojE] at h; subst h; exact ⟨_, rfl, A.slot t⟩
 | cell x t =>
  simp only [lP] at h;have hx := A.slot x;obtain ⟨v', h1, h2⟩ := mH Z hx h;refine ⟨v', ?_, h2⟩;unfold eG at h;split at h <;> try cases h
  rename_i id off hS;rw [hS] at hx;obtain ⟨p, hp, hu⟩ := hx.ptr_inv;rw [hu] at h1;simp only;rw [hu];simpa [Instr.loadAt, Instr.sureAddr, asAddr] using h1
theorem aCC {S : Slots} {N : Nat} {a : Act} {σ : St} {w : World} {μ : Mp} (A : AR μ S N a) (Z : Sim w0 P μ σ w) : ∀ (l : List ResultVar) (vs : List Value), cA P S σ l = some vs →
    ∃ us, (l.mapM (fun (r : ResultVar) => (match r with | .tmp t => (pure (a.tmps.getD t undef) : Sem Value) | .cell x t => do loadVar t (← asAddr (a.tmps.getD x undef))))).run P w = .ok us w ∧ VRL μ vs us := by
 intro l;induction l with
 | nil => intro vs h; simp only [cA, ojE] at h; subst h; exact ⟨[], rfl, .nil⟩
 | cons r l ih =>
  intro vs h;simp only [cA] at h;split at h <;> try cases h
  rename_i v vs' hv hvs;obtain ⟨u, h1, h2⟩ := aD7 A Z hv;obtain ⟨us, h3, h4⟩ := ih vs' hvs;refine ⟨u :: us, ?_, .cons h2 h4⟩;rw [List.mapM_cons];simp only [Sem.run_bind, h1, Result.andThen_ok, h3, Sem.run_pure]
theorem aF5 {fn : Func} {S : Slots} {N : Nat} {a : Act} {σ : St} {w : World} {μ : Mp} (A : AR μ S N a) (Z : Sim w0 P μ σ w) {vs : List Value} (h : cA P S σ fn.results.toList = some vs) :
    ∃ v', (results fn a.tmps).run P w = .ok v' w ∧ VR μ (kJ vs) v' := by
 obtain ⟨us, h1, h2⟩ := aCC A Z _ _ h;unfold results;rw [Array.mapM_eq_mapM_toList];simp only [Sem.run_bind, Sem.run_map];have h1' : (List.mapM (fun (r : ResultVar) => (match r with | .tmp t => (pure (a.tmps.getD t undef) : Sem Value) | .cell x t => do let __do_lift ← asAddr (a.tmps.getD x undef); loadVar t __do_lift)) fn.results.toList).run P w = .ok us w := h1
 erw [h1'];simp only [Result.andThen_ok, Sem.run_pure];refine ⟨_, rfl, ?_⟩
 match vs, us, h2 with
 | [], us, h2 => rw [h2.nil_inv]; exact .mkTuple .nil
 | [v], us, h2 =>
  obtain ⟨u, us', rfl, h3, h4⟩ := h2.cons_inv;rw [h4.nil_inv];exact h3
 | v1 :: v2 :: vs, us, h2 =>
  have hl := h2.1;rw [dif_neg (by simp only [List.size_toArray, ← hl, lcS]; omega)]
  exact .mkTuple h2
end
end Go.AI
namespace Go.AI
section
variable {w0 : W0} {P : Program} {call : FuncId → Array Value → St → Option (Value × St)}
theorem Kept.trans {a b c : World} (h : Kept a b) (k : Kept b c) : Kept a c := by
 refine ⟨k.os.trans h.os, k.output.trans h.output, Nat.le_trans h.size k.size, fun i hi => ?_, fun i C t fr hi hc => ?_⟩
 ·have := h.size;rw [k.old i (by omega), h.old i hi]
 ·by_cases hb : i < b.heap.size
  ·rw [k.old i hb] at hc; exact h.new i C t fr hi hc
  ·exact k.new i C t fr (by omega) hc
theorem aAb {w : World} {b : Nat} {o : Obj} (h : w.heap[b]? = some o) : b < w.heap.size := by
 by_cases hb : b < w.heap.size
 ·exact hb
 ·rw [Array.getElem?_eq_none (by omega)] at h; cases h
theorem Sim.keep {μ : Mp} {σ : St} {w w' : World} (S : Sim w0 P μ σ w) (K : Kept w w') : Sim w0 P μ σ w' := by
 refine ⟨⟨S.kept.toKept.trans K, fun k o hk => ⟨by have h1 := (S.kept.oth k o hk).1; rw [K.old k (aAb h1)]; exact h1, (S.kept.oth k o hk).2⟩, fun id p h => Nat.lt_of_lt_of_le (S.kept.bnd id p h) K.size⟩, S.dom, S.glob, fun id p cs m h1 h2 h3 => ?_, fun id p es h1 h2 => ?_, S.off, S.tip, S.maps, S.vers, S.lim⟩
 ·obtain ⟨⟨C, t, fr, r1, r2, r3⟩, r4, r5, r6⟩ := S.row id p cs m h1 h2 h3;exact ⟨⟨C, t, fr, by rw [K.old _ (aAb r1)]; exact r1, r2, r3⟩, r4, r5, r6⟩
 ·obtain ⟨⟨ES, clock, r1, r2⟩, r3⟩ := S.map id p es h1 h2;exact ⟨⟨ES, clock, by rw [K.old _ (aAb r1)]; exact r1, r2⟩, r3⟩
structure Orc where
 n : Nat
 s : Int → Int → Option (List UInt8)
 m : Nat
inductive OV where
 | s (l : List UInt8)
 | t
def OV.v : OV → Value
 | .s l => .string ⟨l.toArray⟩
 | .t => .bool true
def orA (O : Orc) (f : FuncId) (args : Array Value) : Option Value :=
 bif Nat.beq f O.n then (match args.toList with
 | [.int .i64 a, .int .i64 b] => ((O.s a b).map OV.s).map OV.v
 | _ => none) else bif Nat.beq f O.m then (match args.toList with
 | [] => some (.bool true)
 | _ => none) else none
def dP (P : Program) (fn : Func) : Option (Fl × Slots × St) → Option (Value × St)
 | some (.exit _, _, _) => none
 | some (_, S, σ') => (cA P S σ' fn.results.toList).map fun vs => (kJ vs, σ')
 | none => none
def uK (P C : Program) (O : Orc) (L : Nat) : Nat → FuncId → Array Value → St → Option (Value × St)
 | 0, _, _, _ => none
 | n + 1, f, args, σ => match orA O f args with
  | some v => some (v, σ)
  | none => match C.funcs[f]? with
   | some fn => match fn.body with
    | some c => dP P fn (aX P (uK P C O L n) L c (jF args.toList 0 .nil) σ)
    | none => none
   | none => none
def RepOK (w0 : W0) (P : Program) (f : FuncId) (fn : Func) (c : Code) : Prop :=
 (∃ fn c, P.funcs[f]? = some fn ∧ fn.body = some c ∧ (fn.name == "runtime.NumGoroutine") = false) ∧
 ∀ (call : FuncId → Array Value → St → Option (Value × St)) (L : Nat), (∀ w1 : W0, w1.toWorld = w0.toWorld → eC w1 P call) → ∀ (args args' : Array Value) (σ σ' : St) (w : World) (μ : Mp) (r : Value),
  dP P fn (aX P call L c (jF args.toList 0 .nil) σ) = some (r, σ') → Sim w0 P μ σ w → VRL μ args.toList args'.toList →
  Calls P f args' w fun e w' => ∃ μ' r', e = .returned r' ∧ VR μ' r r' ∧ Sim w0 P μ' σ' w' ∧ Ext σ.next μ μ' ∧ σ.next ≤ σ'.next
def CodeOK (w0 : W0) (P C : Program) : Prop := ∀ f fn c, C.funcs[f]? = some fn → fn.body = some c → (P.funcs[f]? = some fn ∧ jB P fn = true) ∨ RepOK w0 P f fn c
def OrcOK (P : Program) (w0 : World) (O : Orc) : Prop := (∀ a b s, O.s a b = some s → ∀ w, Kept w0 w →
 (∃ fn c, P.funcs[O.n]? = some fn ∧ fn.body = some c ∧ (fn.name == "runtime.NumGoroutine") = false) ∧ Calls P O.n #[.int .i64 a, .int .i64 b] w fun e w' => e = .returned (.string ⟨s.toArray⟩) ∧ Kept w w') ∧
 (O.m = O.n ∨ ∀ w, Kept w0 w → (∃ fn c, P.funcs[O.m]? = some fn ∧ fn.body = some c ∧ (fn.name == "runtime.NumGoroutine") = false) ∧ Calls P O.m #[] w fun e w' => e = .returned (.bool true) ∧ Kept w w')
theorem vJ (hfol : P.toTables.follows .mixedOrders = true) {L : Nat} {f : FuncId} {fn : Func} {c : Code} (hf : P.funcs[f]? = some fn) (hb : fn.body = some c) (hfn : jB P fn = true) (ih1 : eC w0 P call)
    {args args' : Array Value} {σ σ' : St} {w : World} {μ : Mp} {r : Value} (h : dP P fn (aX P call L c (jF args.toList 0 .nil) σ) = some (r, σ')) (Z : Sim w0 P μ σ w) (hargs : VRL μ args.toList args'.toList) :
    (∃ fn c, P.funcs[f]? = some fn ∧ fn.body = some c ∧ (fn.name == "runtime.NumGoroutine") = false) ∧
    Calls P f args' w fun e w' => ∃ μ' r', e = .returned r' ∧ VR μ' r r' ∧ Sim w0 P μ' σ' w' ∧ Ext σ.next μ μ' ∧ σ.next ≤ σ'.next := by
 simp only [jB, hb, bjE, Bool.not_eq_true'] at hfn;refine ⟨⟨fn, c, hf, hb, hfn.2⟩, ?_⟩;cases hx : aX P call L c (jF args.toList 0 .nil) σ with
 | none => simp [hx, dP] at h
 | some x =>
  obtain ⟨fl, S', σ1⟩ := x;have A0 : AR μ (jF args.toList 0 .nil) fn.ntmps { tmps := args' ++ Array.replicate (fn.ntmps - args'.size) undef, defers := [] } := by
   have hsz := hargs.size;refine ⟨by simp; omega, rfl, fun i => ?_⟩
   rw [oV];simp only [Nat.zero_le, true_and, Nat.zero_add, Nat.sub_zero, Array.length_toList];rw [Array.getD_eq_getD_getElem?];by_cases hi : i < args.size
   ·rw [if_pos hi, Array.getElem?_append_left (by omega)]
    have h1 : args.toList[i]? = some args[i] := by simp [hi]
    obtain ⟨u, hu, hr⟩ := hargs.get h1;have hu' : args'[i]? = some u := by simpa using hu
    rw [h1, hu']; exact hr
   ·rw [if_neg hi, Array.getElem?_append_right (by omega)]
    have : ((Array.replicate (fn.ntmps - args'.size) undef)[i - args'.size]?).getD undef = undef := by
     by_cases h2 : i - args'.size < fn.ntmps - args'.size
     ·simp [h2]
     ·simp [h2]
    rw [this];exact .undef
  have fin : ∀ (R : Exit), R = .normal ∨ R = .ret → (cA P S' σ1 fn.results.toList).map (fun vs => (kJ vs, σ1)) = some (r, σ') →
        Post w0 P μ σ.next fn.ntmps S' σ1 (bodyPost P fn (fun e w' => ∃ μ' r', e = .returned r' ∧ VR μ' r r' ∧ Sim w0 P μ' σ' w' ∧ Ext σ.next μ μ' ∧ σ.next ≤ σ'.next) R) := by
   intro R hR hres a' w' μ' A' Z' E hl;rw [mjE] at hres;obtain ⟨vs, hvs, he⟩ := hres;cases he;obtain ⟨v', h1, h2⟩ := aF5 A' Z' hvs;rcases hR with rfl | rfl
   ·exact ⟨A'.defers, v', h1, μ', v', rfl, h2, Z', E, hl⟩
   ·exact ⟨A'.defers, v', h1, μ', v', rfl, h2, Z', E, hl⟩
  refine calls_of_wp hf hb ?_;cases fl with
  | exit k => simp [hx, dP] at h
  | normal => simp only [hx, dP] at h; exact jG ih1 hfol L fn.ntmps c _ σ .normal S' σ1 _ w μ _ hx hfn.1 A0 Z (fin .normal (.inl rfl) h)
  | ret => simp only [hx, dP] at h; exact jG ih1 hfol L fn.ntmps c _ σ .ret S' σ1 _ w μ _ hx hfn.1 A0 Z (fin .ret (.inr rfl) h)
theorem aB8 {C : Program} (hfol : P.toTables.follows .mixedOrders = true) {W : World} (hC : ∀ w0 : W0, w0.toWorld = W → CodeOK w0 P C) {O : Orc} (hO : OrcOK P W O) (L : Nat) : ∀ n (w0 : W0), w0.toWorld = W → eC w0 P (uK P C O L n) := by
 intro n;induction n with
 | zero => intro w0 hw f args args' σ σ' w μ r h; simp [uK] at h
 | succ n ih =>
  intro w0 hw;have hC1 := hC w0 hw;have ih1 := ih w0 hw;subst hw;intro f args args' σ σ' w μ r h Z hargs;simp only [uK] at h;split at h
  ·rename_i v hv;simp only [ojE, pjE] at h;obtain ⟨rfl, rfl⟩ := h;unfold orA at hv;cases hf : Nat.beq f O.n with
   | false =>
    rw [hf, cdf] at hv;cases hm : Nat.beq f O.m with
    | false => rw [hm] at hv; cases hv
    | true =>
    rw [hm, cdt] at hv;have hfm := nqE hm;subst hfm;split at hv
    ·rename_i he;cases hv;rw [he] at hargs;have q3 : args' = #[] := by rw [← Array.toArray_toList (xs := args'), hargs.nil_inv]
     subst q3;rcases hO.2 with h7 | h7
     ·rw [h7, Nat.beq_refl] at hf; cases hf
     ·obtain ⟨g1, g2⟩ := h7 w Z.kept.toKept;exact ⟨g1, g2.mono fun e w' ⟨h5, h6⟩ => ⟨μ, _, h5, .same _ rfl, Z.keep h6, .refl _ _, nlR _⟩⟩
    ·cases hv
   | true =>
   rw [hf, cdt] at hv;rw [nqE hf];split at hv
   ·rename_i a b he;rw [mjE] at hv;obtain ⟨x, hx, rfl⟩ := hv;rw [mjE] at hx;obtain ⟨s, hs, rfl⟩ := hx;rw [he] at hargs;obtain ⟨u, us, e1, r1, h3⟩ := hargs.cons_inv;obtain ⟨u2, us2, rfl, r2, h4⟩ := h3.cons_inv;rw [h4.nil_inv] at e1;have q1 : u = .int .i64 a := by cases r1; rfl
    have q2 : u2 = .int .i64 b := by cases r2; rfl
    subst q1; subst q2;have q3 : args' = #[.int .i64 a, .int .i64 b] := by rw [← Array.toArray_toList (xs := args'), e1]
    subst q3;obtain ⟨g1, g2⟩ := hO.1 a b s hs w Z.kept.toKept;exact ⟨g1, g2.mono fun e w' ⟨h5, h6⟩ => ⟨μ, _, h5, .same _ rfl, Z.keep h6, .refl _ _, nlR _⟩⟩
   ·cases hv
  split at h <;> try cases h
  rename_i fn hf;split at h <;> try cases h
  rename_i c hb;rcases hC1 f fn c hf hb with ⟨hf, hfn⟩ | ⟨g1, g2⟩
  rotate_left
  ·exact ⟨g1, g2 _ L ih _ _ _ _ _ _ _ h Z hargs⟩
  exact vJ hfol hf hb hfn ih1 h Z hargs
end
end Go.AI
namespace Go.AI
section
variable {P : Program} {ops : Array Oper} {base i : Nat} {l : List Oper} {S : Slots} {σ : St} {Q : Slots → St → Prop} {d : Option Tmp} {ty : TypeId} {pos : String} {af : Array Edge}
def gT (P : Program) (op : BinOp) (t : TypeId) (x y : Operand) (a b : Value) : Option Value :=
 bif aU a && aU b then aY P (do eqGuard op t x y a b; binOp op t a b)
 else match P.underlying t with
  | some (.slice _) => anil op a b
  | _ => none
def aconv (P : Program) (s t : TypeId) (a : Value) : Option Value := bif aC a then aY P (convert s t a) else none
end
end Go.AI
namespace Go.AI
section
variable {P : Program} {S : Slots} {σ : St} {Q : Fl → Slots → St → Prop}
section
variable {t : TypeId} {x y : Operand} {k : IntKind} {a b : Int}
theorem n_lss : gT P .lss t x y (.int k a) (.int k b) = some (.bool (decide (a < b))) := by cases k <;> rfl
theorem n_leq : gT P .leq t x y (.int k a) (.int k b) = some (.bool (decide (a ≤ b))) := by cases k <;> rfl
theorem n_gtr : gT P .gtr t x y (.int k a) (.int k b) = some (.bool (decide (b < a))) := by cases k <;> rfl
theorem n_geq : gT P .geq t x y (.int k a) (.int k b) = some (.bool (decide (b ≤ a))) := by cases k <;> rfl
theorem n_eql : gT P .eql t x y (.int k a) (.int k b) = some (.bool (a == b)) := by cases k <;> rfl
theorem n_neq : gT P .neq t x y (.int k a) (.int k b) = some (.bool (a != b)) := by cases k <;> rfl
theorem n_add : gT P .add t x y (.int k a) (.int k b) = some (.int k (k.wrap (a + b))) := by cases k <;> rfl
theorem n_sub : gT P .sub t x y (.int k a) (.int k b) = some (.int k (k.wrap (a - b))) := by cases k <;> rfl
theorem n_mul : gT P .mul t x y (.int k a) (.int k b) = some (.int k (k.wrap (a * b))) := by cases k <;> rfl
theorem n_quo (h : b ≠ 0) : gT P .quo t x y (.int k a) (.int k b) = some (.int k (k.wrap (a.tdiv b))) := by
 cases k <;> simp [gT, aU, aC, aY, aA, eqGuard, binOp, Op.intDiv, h, aB]
theorem n_rem (h : b ≠ 0) : gT P .rem t x y (.int k a) (.int k b) = some (.int k (a.tmod b)) := by
 cases k <;> simp [gT, aU, aC, aY, aA, eqGuard, binOp, Op.intDiv, h, aB]
theorem n_shl {k' : IntKind} (h : 0 ≤ b) : gT P .shl t x y (.int k a) (.int k' b) = some (.int k (k.wrap (a * 2 ^ (min b.toNat k.bits)))) := by
 have : ¬ b < 0 := by omega
 cases k <;> simp [gT, aU, aC, aY, aA, eqGuard, binOp, Op.shift, this, aB]
theorem n_shr {k' : IntKind} (h : 0 ≤ b) : gT P .shr t x y (.int k a) (.int k' b) = some (.int k (a.fdiv (2 ^ (min b.toNat k.bits)))) := by
 have : ¬ b < 0 := by omega
 cases k <;> simp [gT, aU, aC, aY, aA, eqGuard, binOp, Op.shift, this, aB]
theorem n_and : gT P .and t x y (.int k a) (.int k b) = some (.int k (k.wrap ((BitVec.ofInt k.bits a &&& BitVec.ofInt k.bits b).toNat : Int))) := by cases k <;> rfl
theorem n_or : gT P .or t x y (.int k a) (.int k b) = some (.int k (k.wrap ((BitVec.ofInt k.bits a ||| BitVec.ofInt k.bits b).toNat : Int))) := by cases k <;> rfl
theorem n_xor : gT P .xor t x y (.int k a) (.int k b) = some (.int k (k.wrap ((BitVec.ofInt k.bits a ^^^ BitVec.ofInt k.bits b).toNat : Int))) := by cases k <;> rfl
theorem n_andNot : gT P .andNot t x y (.int k a) (.int k b) = some (.int k (k.wrap ((BitVec.ofInt k.bits a &&& ~~~ BitVec.ofInt k.bits b).toNat : Int))) := by cases k <;> rfl
theorem aFe {c e : Bool} (ht : P.underlying t = some .bool) : aL P (Op.equal t (.bool c) (.bool e)) = some (c == e) := by
 unfold Op.equal;rw [show Op.maxDepth = Nat.succ 9999 from rfl, Op.equalIn.eq_2, aA, aD, ht]; rfl
theorem n_eqb {c e : Bool} (ht : P.underlying t = some .bool) : gT P .eql t x y (.bool c) (.bool e) = some (.bool (c == e)) := by
 simp only [gT, aU, aC, Bool.and_self, cdt, aY, aA, eqGuard, bnT, Bool.false_eq_true, if_false, aB, obS, binOp, aFe ht]
theorem n_neb {c e : Bool} (ht : P.underlying t = some .bool) : gT P .neq t x y (.bool c) (.bool e) = some (.bool (!(c == e))) := by
 simp only [gT, aU, aC, Bool.and_self, cdt, aY, aA, eqGuard, bnT, Bool.false_eq_true, if_false, aB, obS, binOp, aFe ht]
theorem n_conv {s : TypeId} {d : TypeDesc} {k' : IntKind} (hs : P.underlying s = some d) (ht : P.underlying t = some (.int k')) : aconv P s t (.int k a) = some (.int k' (k'.wrap a)) := by
 unfold aconv;simp only [aC, cdt, aY, convert, aA, aD, hs, ht, obS, Conv.intToInt, aB, aU]
end
end
end Go.AI
namespace Go.AI
mutual
theorem fL : ∀ (a : Value), dC a a = true
 | .bool a | .int j a | .float j a | .complex j a c | .pointer a | .slice a l c | .map a | .chan a | .nilFunc | .nilIface => by simp [dC]
 | .string a => by simp [dC]
 | .func f ⟨xs⟩ ⟨ys⟩ => by simp [dC, fM xs, fM ys]
 | .iface t v => by simp [dC, fL v]
 | .agg ⟨xs⟩ => by simp [dC, fM xs]
 | .tuple ⟨xs⟩ => by simp [dC, fM xs]
theorem fM : ∀ (a : List Value), mR a a = true
 | [] => by simp [mR]
 | x :: xs => by simp [mR, fL x, fM xs]
end
theorem rQ : ∀ (a : List (Value × Value)), tE a a = true
 | [] => by simp [tE]
 | x :: xs => by simp [tE, fL, rQ xs]
theorem tD (m : Mta) : lO m m = true := by simp [lO, cN]
theorem nT (a : AObj) : iX a a = true := by
 cases a with
 | cells cs m => simp [iX, fM, tD]
 | map es => simp [iX, rQ]
end Go.AI
namespace Go.PI
open Go.AI
def Rz (σ σ' : St) : Prop := ∀ a cs m, σ.get a = some (.cells cs m) → ∃ cs' b, σ'.get a = some (.cells cs' { m with tip := b })
def g00 : Ga := fun _ => none
section
variable {P : Program} {ν ν' : Nu} {γ γ1 γ' : Ga} {σ σ' : St} {S : PS} {A : Slots} {base : Nat}
theorem Qt.put {id : Nat} {o : AObj} (hf : σ.get id = none) : Qt σ (σ.put id o) :=
 ⟨rfl, fun a ob h => .inl (by rw [aF, if_neg (fun e => by rw [e, hf] at h; cases h)]; exact h)⟩
theorem Qt.row (q : Qt σ σ') {id : Nat} {cs : List Value} {m : Mta} (h : σ.row id = some (cs, m)) : ∃ b, σ'.row id = some (cs, { m with tip := b }) := by
 obtain ⟨h1, h2⟩ := bS h;rcases q.get id _ h1 with e | ⟨cs', m', b, e1, _, e2⟩
 ·exact ⟨m.tip, row_of_get e (by rw [gN q.vers]; exact h2)⟩
 ·simp only [AObj.cells.injEq] at e1; obtain ⟨rfl, rfl⟩ := e1;exact ⟨b, row_of_get e2 (by rw [gN q.vers]; exact h2)⟩
theorem aF6 {t : TypeId} {w u : Value} (hrow : ∀ id cs m, σ.row id = some (cs, m) → ∃ m', σ'.row id = some (cs, m')) (h : eG P σ t w = some u) : eG P σ' t w = some u := by
 unfold eG at h ⊢;split at h
 ·split at h
  ·rename_i cs m hr;obtain ⟨m', hr'⟩ := hrow _ _ _ hr;simp only [hr'];exact h
  ·cases h
 ·cases h
theorem aC6 {t : TypeId} {w u : Value} {lo hi mx : Option Value} (hrow : ∀ id cs m, σ.row id = some (cs, m) → ∃ cs' m', σ'.row id = some (cs', m') ∧ m'.z = m.z)
    (hex : ∀ id off n c, w = .slice (some ⟨id, off, none⟩) n c → ∃ cs m, σ.row id = some (cs, m)) (h : nZ P σ t w lo hi mx = some u) : nZ P σ' t w lo hi mx = some u := by
 unfold nZ at h ⊢;split at h
 ·exact h
 ·rename_i e he;split at h
  ·rename_i a len c;split at h
   ·rename_i z l hh m e1 e2 e3 e4;cases hc : decide (0 ≤ l.getD 0) && decide (l.getD 0 ≤ hh.getD (len : Int)) && decide (hh.getD (len : Int) ≤ (len : Int)) with
    | false => simp only [hc, cdf] at h; cases h
    | true =>
     simp only [hc, cdt] at h ⊢;split at h
     ·exact h
     ·rename_i id off;obtain ⟨cs, mm, hr⟩ := hex id off len c rfl;obtain ⟨cs', m', hr', hz'⟩ := hrow _ _ _ hr;have : yW σ' id z = yW σ id z := by simp only [yW, hr, hr', hz']
      rw [this]; exact h
     ·exact h
   ·cases h
  ·cases h
 ·cases h
theorem aload_qt (q : Qt σ σ') {ρ : Operand → Value} {o : Oper} {t : TypeId} {a : Operand} (ho : o.op = .load t a) {v : Value} (h : gO P σ ρ o = some v) : gO P σ' ρ o = some v := by
 simp only [gO, ho] at h ⊢;refine aF6 (fun id cs m hr => ?_) h
 obtain ⟨b, hb⟩ := q.row hr;exact ⟨_, hb⟩
theorem uI (q : Qt σ σ') {r : iU} (hl : r.ob = none → ∃ t a, r.o.op = .load t a) (hb : ∀ ob, r.ob = some ob → (∀ a, σ.get a = some ob → σ'.get a = some ob)) (h : check P base σ r = true) : check P base σ' r = true := by
 unfold check at h ⊢;split at h
 ·rename_i e;split at h
  ·rename_i v hv;obtain ⟨t, a, ho⟩ := hl e;simp only [aload_qt q ho hv]; exact h
  ·cases h
 ·rename_i ob e;split at h
  ·rename_i ob' hg;have := rP h;subst this;simp only [hb ob' e _ hg]; exact h
  ·cases h
def Stab (P : Program) (base : Nat) (ν : Nu) (σ : St) (r : iU) : Prop := ∀ ν' σ', Keep ν g00 σ σ' → Mon σ ν ν' → Rz σ σ' → check P base σ' r = true
theorem Stab.adv {p p' : PSt} {r : iU} (h : Stab P base ν σ r) (a : Adv ν γ p σ ν' γ' p' σ') : Stab P base ν' σ' r := by
 intro ν'' σ'' k m z;refine h ν'' σ'' (Keep.trans (γ := g00) (γ' := g00) (a.keep.weak fun _ h => by cases h) a.mon k (.refl σ _)) (a.mon.trans m a.keep.dom) fun x cs mm hx => ?_
 obtain ⟨cs', b, h1⟩ := a.rz x cs mm hx;obtain ⟨cs'', b', h2⟩ := z x cs' _ h1;exact ⟨cs'', b', h2⟩
def Looks (base : Nat) (r : iU) (a : Nat) : Prop := (r.ob = none ∧ ∃ t x off, r.o.op = .load t x ∧ ev r.S x = .pointer (some ⟨a, off, none⟩)) ∨ (r.ob ≠ none ∧ base + r.i = a)
theorem aC3 {r : iU} {a : Nat} (hl : Looks base r a) (hg : σ'.get a = σ.get a) (hv : σ'.vers = σ.vers) (h : check P base σ r = true) : check P base σ' r = true := by
 unfold check at h ⊢;rcases hl with ⟨h1, t, x, off, h2, h3⟩ | ⟨h1, h2⟩
 ·rw [h1] at h ⊢;have hrow : σ'.row a = σ.row a := by
   simp only [St.row, hg];cases σ.get a with
   | none => rfl
   | some o => cases o with
    | cells cs m => simp only [gN hv]
    | map es => rfl
  simp only [gO, h2, eG, h3, hrow] at h ⊢;exact h
 ·cases hob : r.ob with
  | none => exact absurd hob h1
  | some ob => rw [hob] at h; simp only [h2, hg] at h ⊢; exact h
structure Trk (P : Program) (base : Nat) (ν : Nu) (p : PSt) (σ : St) (q : fV) (r : iU) : Prop where
 cl : ∀ id, cid q.o q.a q.v = some id → id ∉ p.wr → ∃ a, ν id = some (some a) ∧ Looks base r a ∧ check P base σ r = true
 i : q.i = r.i
 ok : q.stale = false → check P base σ r = true
 box : fZ q.o = false → ∀ ob, r.ob = some ob → ∃ cs, ob = .cells cs boxMeta
 rd : r.ob = none → ∃ t a, r.o.op = .load t a
 ld : ∀ t a, q.o.op = .load t a → r.ob = none ∧ r.o = q.o ∧ R ν σ q.a (ev r.S a) ∧ R ν σ q.v r.v
def Inv (P : Program) (base : Nat) (ν : Nu) (p : PSt) (σ : St) (Pl : List fV) (Rl : List iU) : Prop := ∀ r ∈ Rl, Stab P base ν σ r ∨ ∃ q ∈ Pl, Trk P base ν p σ q r
theorem Trk.adv_cl {p p' : PSt} {q : fV} {r : iU} (T : Trk P base ν p σ q r) (a : Adv ν γ p σ ν' γ' p' σ') : ∀ id, cid q.o q.a q.v = some id → id ∉ p'.wr → ∃ a, ν' id = some (some a) ∧ Looks base r a ∧ check P base σ' r = true := by
 intro id hid hd;obtain ⟨b, h1, h2, h3⟩ := T.cl id hid fun hh => hd (a.dp.wr id hh)
 obtain ⟨e1, e2⟩ := a.bx id b h1 hd;exact ⟨b, e2, h2, aC3 h2 e1 a.keep.vers h3⟩
mutual
theorem aA4 : ∀ {x y : PV}, vI x y = true → x = y
 | .v a, .v b, h => by rw [jQ a b h]
 | .str a, .str b, h => by simp only [vI, beq_iff_eq] at h; rw [h]
 | .agg xs, .agg ys, h => by rw [vG h]
 | .v _, .str _, h | .v _, .agg _, h | .v _, .tup _, h | .v _, .nil, h | .v _, .emp, h | .v _, .sl _ _, h | .v _, .pin _ _ _, h | .v _, .ptr _ _, h | .v _, .rs _ _ _, h | .v _, .mp _, h | .v _, .fn _ _ _, h | .v _, .und, h => by simp [vI] at h
 | .str _, .v _, h | .str _, .agg _, h | .str _, .tup _, h | .str _, .nil, h | .str _, .emp, h | .str _, .sl _ _, h | .str _, .pin _ _ _, h | .str _, .ptr _ _, h | .str _, .rs _ _ _, h | .str _, .mp _, h | .str _, .fn _ _ _, h | .str _, .und, h => by simp [vI] at h
 | .agg _, .v _, h | .agg _, .str _, h | .agg _, .tup _, h | .agg _, .nil, h | .agg _, .emp, h | .agg _, .sl _ _, h | .agg _, .pin _ _ _, h | .agg _, .ptr _ _, h | .agg _, .rs _ _ _, h | .agg _, .mp _, h | .agg _, .fn _ _ _, h | .agg _, .und, h => by simp [vI] at h
 | .tup _, _, h | .nil, _, h | .emp, _, h | .sl _ _, _, h | .pin _ _ _, _, h | .ptr _ _, _, h | .rs _ _ _, _, h | .mp _, _, h | .fn _ _ _, _, h | .und, _, h => by simp [vI] at h
theorem vG : ∀ {xs ys : List PV}, vH xs ys = true → xs = ys
 | [], [], _ => rfl
 | x :: xs, y :: ys, h => by
  simp only [vH, bjE] at h;rw [aA4 h.1, vG h.2]
 | [], _ :: _, h | _ :: _, [], h => by simp [vH] at h
end
theorem Inv.check {p : PSt} {Pl : List fV} {Rl : List iU} (I : Inv P base ν p σ Pl Rl) (M : Mem ν γ p σ) (h : Pl.all (kE P p) = true) : Rl.all (AI.check P base σ) = true := by
 rw [List.all_eq_true] at h ⊢;intro r hr;rcases I r hr with hs | ⟨q, hq, T⟩
 ·exact hs ν σ (.refl ν g00 σ) (.refl σ ν) fun a cs m h => ⟨cs, m.tip, h⟩
 ·have hc := h q hq;unfold kE at hc;cases hst : q.stale with
  | false => exact T.ok hst
  | true =>
   rw [hst] at hc;simp only [bnT, Bool.false_or, Bool.or_eq_true] at hc;rcases hc with hc | hc
   ·cases hcid : cid q.o q.a q.v with
    | none => rw [hcid] at hc; cases hc
    | some id =>
     rw [hcid] at hc;simp only [clean, Bool.not_eq_true', List.contains_eq_mem, dfN] at hc;obtain ⟨_, _, _, h3⟩ := T.cl id hcid hc;exact h3
   split at hc
   ·rename_i t a ho;simp only [bjE] at hc;obtain ⟨h1, h2, h3, h4⟩ := T.ld t a ho;cases hv : toV q.v with
    | none => rw [hv] at hc; simp at hc
    | some w =>
     split at hc
     ·rename_i v' hl;have := aA4 hc.2;subst this;obtain ⟨u, hu, hr'⟩ := tK M h3 hl;obtain ⟨rfl, _⟩ := aAW hv hr';obtain ⟨e, _⟩ := aAW hv h4;unfold AI.check;rw [h1];simp only [gO, h2, ho, hu];rw [e]; exact fL _
     ·simp at hc
   ·cases hc
theorem aDc {id : Nat} {c : Call} {s x u : Value} (hf : σ.get id = none) (h1 : gJ P σ id c s x = some (u, σ')) : Qt σ σ' := by
 unfold gJ at h1;split at h1
 ·split at h1
  ·rename_i e d _ _;cases hc : fits d x with
   | false => rw [hc, cdf] at h1; cases h1
   | true =>
    rw [hc, cdt] at h1;split at h1
    ·rename_i info _;split at h1
     ·rename_i n xs z _ _;cases hc2 : xs.all one && Nat.ble 1 info.size && Nat.ble 1 info.bytes && Nat.beq z.cells.size info.size && dJ s with
      | false => rw [hc2, cdf] at h1; cases h1
      | true =>
       rw [hc2, cdt] at h1;cases hc3 : Nat.beq n 0 with
       | true => rw [hc3, cdt] at h1; simp only [ojE, pjE] at h1; obtain ⟨_, rfl⟩ := h1; exact .refl σ
       | false =>
        rw [hc3, cdf] at h1;unfold iT at h1;split at h1
        ·cases hc4 : Nat.ble (n * info.bytes) 1073741824 with
         | false => rw [hc4, cdf] at h1; cases h1
         | true => rw [hc4, cdt] at h1; simp only [ojE, pjE] at h1; obtain ⟨_, rfl⟩ := h1; exact .put hf
        ·rename_i id0 off len k;cases hc4 : Nat.ble ((len + n) * info.bytes) 1073741824 with
         | false => rw [hc4, cdf] at h1; cases h1
         | true =>
          rw [hc4, cdt] at h1;split at h1
          ·rename_i cs m hrow;split at h1
           ·rename_i old _;cases hc5 : Nat.beq k len with
            | true => rw [hc5, cdt] at h1; simp only [ojE, pjE] at h1; obtain ⟨_, rfl⟩ := h1; exact .put hf
            | false =>
             rw [hc5, cdf] at h1;cases hc6 : m.tip && m.wr && Nat.beq m.z info.size && Nat.beq (off + len * info.size) cs.length && m.grp.isSome with
             | false => rw [hc6, cdf] at h1; cases h1
             | true =>
              rw [hc6, cdt] at h1; simp only [ojE, pjE] at h1; obtain ⟨_, rfl⟩ := h1;simp only [bjE] at hc6;refine ⟨rfl, fun a ob hg => ?_⟩
              rw [aF, if_neg (fun e => by rw [e, hf] at hg; cases hg), aF]
              by_cases e2 : a = id0
              ·subst e2;rw [(bS hrow).1] at hg;simp only [ojE] at hg; subst hg;rw [if_pos rfl]; exact .inr ⟨cs, m, false, rfl, hc6.1.1.1.1, rfl⟩
              ·rw [if_neg e2]; exact .inl hg
           ·cases h1
          ·cases h1
        ·rename_i b0 o0 s0 l0 k0;cases hc4 : Nat.beq s0 1 && Nat.ble (n * info.bytes) 1073741824 with
         | false => rw [hc4, cdf] at h1; cases h1
         | true => rw [hc4, cdt] at h1; simp only [ojE, pjE] at h1; obtain ⟨_, rfl⟩ := h1; exact .put hf
        ·cases h1
     ·cases h1
    ·cases h1
  ·cases h1
 ·cases h1
theorem Inv.qt {p p' : PSt} {Pl : List fV} {Rl : List iU} (I : Inv P base ν p σ Pl Rl) (a : Adv ν γ p σ ν' γ' p' σ') (q : Qt σ σ') (hx : ∀ q ∈ Pl, fZ q.o = true → q.stale = false → ∀ a ob, σ.get a = some ob → σ'.get a = some ob) : Inv P base ν' p' σ' Pl Rl := by
 intro r hr;rcases I r hr with hs | ⟨k, hk, T⟩
 ·exact .inl (hs.adv a)
 ·refine .inr ⟨k, hk, T.adv_cl a, T.i, fun hst => uI q T.rd (fun ob hob b hb => ?_) (T.ok hst), T.box, T.rd, fun t x ho => ?_⟩
  ·cases hm : fZ k.o with
   | true => exact hx k hk hm hst b ob hb
   | false =>
    obtain ⟨cs, rfl⟩ := T.box hm ob hob;rcases q.get b _ hb with e | ⟨cs', m', b', e1, e2, _⟩
    ·exact e
    ·simp only [AObj.cells.injEq] at e1; obtain ⟨rfl, rfl⟩ := e1; cases e2
  ·obtain ⟨h1, h2, h3, h4⟩ := T.ld t x ho;exact ⟨h1, h2, h3.keep a.keep a.mon, h4.keep a.keep a.mon⟩
theorem Inv.filter {p : PSt} {Pl : List fV} {Rl : List iU} (I : Inv P base ν p σ Pl Rl) (f : Nat → Bool) : Inv P base ν p σ (Pl.filter fun q => f q.i) (Rl.filter fun r => f r.i) := by
 intro r hr;rw [List.mem_filter] at hr;rcases I r hr.1 with hs | ⟨k, hk, T⟩
 ·exact .inl hs
 ·exact .inr ⟨k, List.mem_filter.2 ⟨hk, by rw [T.i]; exact hr.2⟩, T⟩
theorem Inv.stale {p p' : PSt} {Pl : List fV} {Rl : List iU} (I : Inv P base ν p σ Pl Rl) (a : Adv ν γ p σ ν' γ' p' σ') : Inv P base ν' p' σ' (Pl.map fun q => { q with stale := true }) Rl := by
 intro r hr;rcases I r hr with hs | ⟨k, hk, T⟩
 ·exact .inl (hs.adv a)
 ·refine .inr ⟨_, List.mem_map.2 ⟨k, hk, rfl⟩, T.adv_cl a, T.i, fun h => (by cases h), T.box, T.rd, fun t x ho => ?_⟩
  obtain ⟨h1, h2, h3, h4⟩ := T.ld t x ho;exact ⟨h1, h2, h3.keep a.keep a.mon, h4.keep a.keep a.mon⟩
theorem Inv.some {p p' : PSt} {Pl : List fV} {Rl : List iU} (I : Inv P base ν p σ Pl Rl) (a : Adv ν γ p σ ν' γ' p' σ') (q : Qt σ σ') : Inv P base ν' p' σ' (Pl.map fun q => bif !fZ q.o then q else { q with stale := true }) Rl := by
 intro r hr;rcases I r hr with hs | ⟨k, hk, T⟩
 ·exact .inl (hs.adv a)
 ·cases hm : fZ k.o with
  | true =>
   refine .inr ⟨{ k with stale := true }, List.mem_map.2 ⟨k, hk, by simp [hm]⟩, T.adv_cl a, T.i, fun h => (by cases h), T.box, T.rd, fun t x ho => ?_⟩
   obtain ⟨h1, h2, h3, h4⟩ := T.ld t x ho;exact ⟨h1, h2, h3.keep a.keep a.mon, h4.keep a.keep a.mon⟩
  | false =>
   refine .inr ⟨k, List.mem_map.2 ⟨k, hk, by simp [hm]⟩, T.adv_cl a, T.i, fun hst => uI q T.rd (fun ob hob b hb => ?_) (T.ok hst), T.box, T.rd, fun t x ho => ?_⟩
   ·obtain ⟨cs, rfl⟩ := T.box hm ob hob;rcases q.get b _ hb with e | ⟨cs', m', b', e1, e2, _⟩
    ·exact e
    ·simp only [AObj.cells.injEq] at e1; obtain ⟨rfl, rfl⟩ := e1; cases e2
   ·obtain ⟨h1, h2, h3, h4⟩ := T.ld t x ho;exact ⟨h1, h2, h3.keep a.keep a.mon, h4.keep a.keep a.mon⟩
theorem R.vid {p : PSt} (M : Mem ν γ p σ) {v : PV} {u : Value} {id : Nat} (r : R ν σ v u) (hv : PI.vid v = Option.some id) (hg : ∃ o, p.get id = Option.some o ∧ o ≠ .gone) :
    ∃ a, ν id = Option.some (Option.some a) ∧ ((∃ off, u = .pointer (Option.some ⟨a, off, none⟩)) ∨ ∃ off n c, u = .slice (Option.some ⟨a, off, none⟩) n c) := by
 obtain ⟨o, ho, hne⟩ := hg;have hν : ∃ a, ν id = Option.some (Option.some a) := by
  have := M.get id o ho;cases o with
  | box cs => obtain ⟨a, us, h1, _⟩ := this; exact ⟨a, h1⟩
  | row z ag cs => obtain ⟨a, us, h1, _⟩ := this; exact ⟨a, h1⟩
  | map es => exact this.elim
  | gone => exact absurd rfl hne
 obtain ⟨a, ha⟩ := hν;refine ⟨a, ha, ?_⟩;cases v <;> simp only [PI.vid, ojE] at hv <;> try cases hv
 ·cases r with
  | ptr _ off' a' h => rw [ha] at h; simp only [ojE] at h; subst h; exact .inl ⟨_, rfl⟩
  | ptr0 _ off a' h => rw [ha] at h; cases h
 ·cases r with
  | rs _ off' len' c a' h => rw [ha] at h; simp only [ojE] at h; subst h; exact .inr ⟨_, _, _, rfl⟩
  | rs0 _ off len c a' h => rw [ha] at h; cases h
theorem gC {α : Type} {c : Bool} {A : Option α} {x : α} (h : (bif c then A else none) = Option.some x) : A = Option.some x := by cases c with
 | false => cases h
 | true => exact h
theorem bif_or {α : Type} {c : Bool} {A B x : α} (h : (bif c then A else B) = x) : A = x ∨ B = x := by cases c with
 | false => exact .inr h
 | true => exact .inl h
theorem yF {ρ : Operand → Value} {o : Oper} {id a : Nat} {u : Value} {ob : AObj} (h : cS P ρ o id = Option.some (u, ob)) (hu : (∃ off, u = .pointer (Option.some ⟨a, off, none⟩)) ∨ ∃ off n c, u = .slice (Option.some ⟨a, off, none⟩) n c) : id = a := by
 have fin : ∀ {off n k : Nat}, u = .pointer (Option.some ⟨id, off, none⟩) ∨ u = .slice (Option.some ⟨id, off, none⟩) n k ∨ u = .map (Option.some id) → id = a := by
  rintro off n k (rfl | rfl | rfl) <;> rcases hu with ⟨o2, e⟩ | ⟨o2, n2, c2, e⟩ <;> first | (cases e; rfl) | cases e
 obtain ⟨dst, op, ty, pos, af, g⟩ := o;cases op <;> simp only [cS] at h <;> try cases h
 ·split at h <;> try cases h
  have h := gC h;simp only [ojE, pjE] at h; exact fin (n := 0) (k := 0) (.inl h.1.symm)
 ·have h := gC h;simp only [ojE, pjE] at h; exact fin (n := 0) (k := 0) (.inl h.1.symm)
 ·split at h <;> try cases h
  split at h <;> try cases h
  split at h <;> try cases h
  have h := gC h;simp only [mjE, pjE] at h;obtain ⟨cs, _, h2, _⟩ := h;exact fin (.inr (.inl h2.symm))
 ·split at h <;> try cases h
  split at h <;> try cases h
  split at h <;> try cases h
  have h := gC h;rcases bif_or h with h | h
  ·simp only [ojE, pjE] at h; exact fin (.inr (.inl h.1.symm))
  ·simp only [ojE, pjE] at h; exact fin (.inr (.inl h.1.symm))
theorem Inv.cons {p : PSt} {Pl : List fV} {Rl : List iU} (I : Inv P base ν p σ Pl Rl) {r : iU} (h : Stab P base ν σ r) : Inv P base ν p σ Pl (r :: Rl) := by
 intro x hx;rcases List.mem_cons.1 hx with rfl | hx
 ·exact .inl h
 ·exact I x hx
theorem Inv.cons2 {p : PSt} {Pl : List fV} {Rl : List iU} (I : Inv P base ν p σ Pl Rl) {r : iU} {q : fV} (h : Trk P base ν p σ q r) : Inv P base ν p σ (q :: Pl) (r :: Rl) := by
 intro x hx;rcases List.mem_cons.1 hx with rfl | hx
 ·exact .inr ⟨q, mhE .., h⟩
 ·rcases I x hx with h | ⟨k, hk, T⟩
  ·exact .inl h
  ·exact .inr ⟨k, mtE _ hk, T⟩
end
end Go.PI
namespace Go.PI
open Go.AI
section
variable {P : Program} {ν ν' : Nu} {γ γ1 γ' : Ga} {σ σ' : St} {S : PS} {A : Slots} {base : Nat}
theorem zV {o : Oper} (h : aK o = .pure) (S : PS) : fQ o S = false := by
 obtain ⟨dst, op, ty, pos, af, g⟩ := o;cases op <;> first | rfl | (simp [aK] at h)
theorem aDT {p p1 : PSt} {o : Oper} {take own : Bool} {v : PV} {u : Value} {i : Nat} (M : Mem ν γ p σ) (F : FR ν γ σ S A) (ho : o.op.operands.all (aH P) = true) (hp : iZ P p S o take = some (v, own, p1)) (hn : fQ o S = false)
    (hu : gO P σ (ev A) o = some u) : Stab P base ν σ ⟨i, o, A, u, none⟩ := by
 intro ν' σ' k m z;have hsame : gO P σ' (ev A) o = some u → check P base σ' ⟨i, o, A, u, none⟩ = true := by
  intro h; simp only [check, h]; exact fL u
 apply hsame
 replace ho := pM ho
 obtain ⟨dst, op, ty, pos, af, g⟩ := o;cases op with
 | load t a =>
  simp only [Op.operands, alC, List.all_nil, bnA] at ho;have ra := aQ F ho;simp only [gO] at hu ⊢;simp only [iZ] at hp;split at hp
  ·rename_i v' hl;simp only [fQ] at hn;cases hpa : pev S a <;> rw [hpa] at hl hn ra <;> simp only [gG] at hl <;> (try cases hl) <;> (try cases hn)
   generalize ev A a = w at ra hu ⊢;cases ra with
   | pin zz _ _ _ id b rcs mm hs hr hb hh =>
    obtain ⟨bb, hf⟩ := hr.keep k m;simp only [eG, hr.1] at hu;simp only [eG, hf.1];exact hu
  ·cases hp
 | slice t x lo hi mx =>
  simp only [gO] at hu ⊢;simp only [Op.operands, Array.toList_append, List.all_append, bjE] at ho;have rx := aQ F (P := P) (x := x) (by simpa using ho.1.1.1)
  simp only [iZ, mjE, pjE] at hp;obtain ⟨⟨w, own'⟩, hw, _⟩ := hp;refine aC6 (fun id cs mm hr => ?_) (fun id off n c hxx => ?_) hu
  ·obtain ⟨h1, h2⟩ := bS hr;obtain ⟨cs', b, h3⟩ := z id cs mm h1;exact ⟨cs', _, row_of_get h3 (by rw [gN k.vers]; exact h2), rfl⟩
  ·rw [hxx] at rx;generalize pev S x = xv at rx hw;cases rx with
   | emp1 _ _ _ rcs m hr => exact ⟨_, _, hr.1⟩
   | sl _ _ _ _ _ rcs m hz hs hr hm hb hh => exact ⟨_, _, hr.1⟩
   | rs id' _ _ _ a hν =>
    obtain ⟨o', ho'⟩ := M.live _ _ hν;have := M.get _ _ ho';cases o' with
    | box cs => obtain ⟨a', us, h1, h2, _⟩ := this; rw [hν] at h1; simp only [ojE] at h1; subst h1; exact ⟨_, _, row_of_get h2 rfl⟩
    | row z ag cs => obtain ⟨a', us, h1, h2, _⟩ := this; rw [hν] at h1; simp only [ojE] at h1; subst h1; exact ⟨_, _, row_of_get h2 rfl⟩
    | map es => exact this.elim
    | gone => rw [show ν id' = some none from this] at hν; cases hν
   | v _ hp => simp [aC] at hp
   | und _ =>
    unfold fY at hw;split at hw
    ·simp at hw
    ·split at hw <;> simp at hw
    ·cases hw
   | rs0 id' _ _ _ a hν =>
    unfold fY at hw;split at hw
    ·simp at hw
    ·split at hw
     ·split at hw
      ·split at hw
       ·rename_i hg;obtain ⟨a', us, h1, _⟩ := M.get _ _ hg
        simp_all
       ·cases hw
      all_goals simp_all
     ·cases hw
    ·cases hw
 | _ => simp only [iZ] at hp; cases hp
theorem slice_fz {v : PV} {id off n c : Nat} (r : R ν σ v (.slice (some ⟨id, off, none⟩) n c)) (hv : v = .emp ∨ ∃ z es, v = .sl z es) : ∀ k, ν k ≠ some (some id) := by
 rcases hv with rfl | ⟨z, es, rfl⟩
 ·cases r with | emp1 _ _ _ rcs m hr => exact hr.2
 ·cases r with | sl _ _ _ _ _ rcs m hz hs hr hm hb hh => exact hr.2
theorem mkSl_or (z : Nat) (es : List PV) : cU z es = .emp ∨ ∃ z' es', cU z es = .sl z' es' := by
 cases es with
 | nil => exact .inl rfl
 | cons e es => exact .inr ⟨z, _, rfl⟩
theorem runDP_ok {pc : gK} {ac : FuncId → Array Value → St → Option (Value × St)} (hcall : jM pc ac) {ops : Array Oper} {ms : List Nat} (hops : ∀ o ∈ ops.toList, o.op.operands.all (aH P) = true) :
    ∀ (sc : List aCo) (Pl : List fV) (Rl : List iU) (ν : Nu) (γ : Ga) (S : PS) (p : PSt) (A : Slots) (σ : St) (S' : PS) (p' : PSt), (dW sc).Nodup → (∀ j ∈ dW sc, j < ops.size ∧ σ.get (base + j) = none) → base + ops.size ≤ σ.next →
      Inv P base ν p σ Pl Rl → Mem ν γ p σ → FR ν γ σ S A → gL P pc ops ms sc Pl S p = some (S', p') →
      ∃ A' σ' ν' γ', dH P ac ops ms base (dW sc) Rl A σ = some (A', σ') ∧ Mem ν' γ' p' σ' ∧ FR ν' γ' σ' S' A' ∧ Adv ν γ p σ ν' γ' p' σ' ∧ (∀ j, j < base → σ.get j = none → σ'.get j = none) := by
 intro sc;induction sc with
 | nil =>
  intro Pl Rl ν γ S p A σ S' p' _ _ hb I M F h;simp only [gL] at h;cases hc : Pl.all (kE P p) with
  | false => rw [hc, cdf] at h; cases h
  | true =>
   rw [hc, cdt] at h;simp only [ojE, pjE] at h;obtain ⟨rfl, rfl⟩ := h;refine ⟨A, σ, ν, γ, ?_, M, F, .refl ν γ p σ, fun j _ hj => hj⟩
   simp only [dW, dH, I.check M hc, cdt]
 | cons s sc ih =>
  intro Pl Rl ν γ S p A σ S' p' hnd hfree hb I M F h;cases s with
  | freeze t =>
   simp only [gL] at h;split at h
   ·rename_i S1 p1 h1;obtain ⟨ν1, M1, F1, A1⟩ := mV M F h1;obtain ⟨A', σ', ν', γ', k1, k2, k3, k4, k5⟩ := ih Pl Rl ν1 γ S1 p1 A σ S' p' hnd hfree hb (I.qt A1 (.refl σ) fun _ _ _ _ _ _ h => h) M1 F1 h
    exact ⟨A', σ', ν', γ', k1, k2, k3, A1.trans k4, k5⟩
   ·cases h
  | app a i s =>
   simp only [dW] at hnd hfree ⊢;obtain ⟨ha, hfa⟩ := hfree a (by simp)
   obtain ⟨hi, hfi⟩ := hfree i (by simp)
   obtain ⟨hs, hfs⟩ := hfree s (by simp)
   simp only [List.nodup_cons, List.mem_cons, not_or] at hnd;simp only [gL] at h;have hopA : ops[a]? = some ops[a] := Array.getElem?_eq_getElem ha;have hopI : ops[i]? = some ops[i] := Array.getElem?_eq_getElem hi;have hopS : ops[s]? = some ops[s] := Array.getElem?_eq_getElem hs;rw [hopA, hopI, hopS] at h;simp only at h;split at h
   ·rename_i S1 h1;cases hc0 : Pl.all (kE P p) && (Pl.filter fun r => !bit (ms.getD a 0) r.i).all (fun r => !fZ r.o) with
    | false => rw [hc0, cdf] at h; cases h
    | true =>
     rw [hc0, cdt] at h;simp only [bjE] at hc0;obtain ⟨hc, hmk⟩ := hc0;rw [List.all_eq_true] at hmk;obtain ⟨u1, u2, σ1, σ2, γ2, q1, q2, q3, q4, q5, q6, q7, q8, q9, q10, q11, M2, F2, A2, qt1, qt2, q12, q13⟩ := aBq (ac := ac) (base := base) (iA := a) (iI := i) (iS := s) M F hfa (by omega) (hops _ (by simp)) (hops _ (by simp)) (hops _ (by simp)) h1
     have hw : ∀ {o : Oper} {A0 : Slots}, o.guard = none → wanted ops A0 o = true := fun hg => by simp only [wanted, hg]
     have hfree' : ∀ j ∈ dW sc, j < ops.size ∧ σ2.get (base + j) = none := fun j hj => by
      obtain ⟨h2, h3⟩ := hfree j (by simp [hj])
      exact ⟨h2, (q13 _ (fun e => hnd.1.2.2 (by rw [show a = j by omega]; exact hj)) h3).2⟩
     have If := I.filter fun k => !bit (ms.getD a 0) k
     have hck : (Rl.filter fun r => !bit (ms.getD a 0) r.i).all (check P base σ1) = true := by
      rw [List.all_eq_true];intro r hr;have hr0 := List.mem_filter.1 hr;have hall := I.check M hc;rw [List.all_eq_true] at hall;have hcr := hall r hr0.1;rcases If r hr with hst | ⟨q, hq, T⟩
      ·have hk3 : Keep ν g00 σ σ1 := by
        refine ⟨qt1.vers, by rw [q12]; exact nlR _, fun x hx => ?_, fun x hn cs m hg => ?_⟩
        ·cases hxx : σ.get x with
         | none => rfl
         | some ob =>
          rcases qt1.get x ob hxx with e | ⟨_, _, _, _, _, e⟩ <;> rw [hx] at e <;> cases e
        ·rcases qt1.get x _ hg with e | ⟨cs', m', b', e1, e2, e3⟩
         ·exact ⟨m.tip, e, fun h => h, fun _ => rfl⟩
         ·simp only [AObj.cells.injEq] at e1; obtain ⟨rfl, rfl⟩ := e1;exact ⟨b', e3, fun h => (by rw [e2] at h; cases h), fun h => (by cases h)⟩
       exact hst ν σ1 hk3 (.refl σ ν) fun x cs m hx => by
        rcases qt1.get x _ hx with e | ⟨cs', m', b', e1, e2, e3⟩
        ·exact ⟨cs, m.tip, e⟩
        ·simp only [AObj.cells.injEq] at e1; obtain ⟨rfl, rfl⟩ := e1; exact ⟨_, b', e3⟩
      ·refine uI qt1 T.rd (fun ob hob b hb => ?_) hcr
       have hm : fZ q.o = false := by simpa using hmk q hq
       obtain ⟨cs, rfl⟩ := T.box hm ob hob;rcases qt1.get b _ hb with e | ⟨cs', m', b', e1, e2, _⟩
       ·exact e
       ·simp only [AObj.cells.injEq] at e1; obtain ⟨rfl, rfl⟩ := e1; cases e2
     have I2 := (If.some A2 qt2).filter fun k => !bit (ms.getD s 0) k
     obtain ⟨A', σ', ν', γ', j1, j2, j3, j4, j5⟩ := ih _ _ ν γ2 _ p _ σ2 S' p' hnd.2.2.2 hfree' (Nat.le_trans hb A2.keep.next) I2 M2 F2 h
     refine ⟨A', σ', ν', γ', ?_, j2, j3, A2.trans j4, fun j hj hn => j5 j hj (q13 j (by omega) hn).2⟩
     simp only [dH, hopA, hopI, hopS, hw q7, hw q8, hw q9, cdt, q4, q5, q6, I.check M hc, q1, q2, hck, q3];rw [q10];exact j1
   ·cases h
  | op i take =>
   simp only [dW] at hnd hfree ⊢;rw [List.nodup_cons] at hnd;obtain ⟨hi, hfi⟩ := hfree i (mhE ..);simp only [gL] at h;have hop : ops[i]? = some ops[i] := Array.getElem?_eq_getElem hi;rw [hop] at h;simp only at h;simp only [dH, hop];have hoi := hops ops[i] (by simp)
   generalize ops[i] = o at *;split at h
   ·rename_i hw;rw [jT F hw, cdt];split at h
    ·rename_i v own S1 p1 h1;obtain ⟨u, σ1, ν1, γ1, k1, k2, k3, k4, k5, k6⟩ := aDS hcall M F hfi (by omega) hoi h1
     have hfree' : ∀ j ∈ dW sc, j < ops.size ∧ σ1.get (base + j) = none := fun j hj => by
      obtain ⟨h2, h3⟩ := hfree j (mtE _ hj);exact ⟨h2, k6 _ (by omega) (fun e => hnd.1 (by rw [show i = j by omega]; exact hj)) h3⟩
     have hb' := Nat.le_trans hb k5.keep.next
     have fin : ∀ {Pl' Rl'}, Inv P base ν1 p1 σ1 Pl' Rl' → gL P pc ops ms sc Pl' (S1.put o.dst v own) p1 = some (S', p') →
              ∃ A' σ' ν' γ', dH P ac ops ms base (dW sc) Rl' (A.store o.dst u) σ1 = some (A', σ') ∧ Mem ν' γ' p' σ' ∧ FR ν' γ' σ' S' A' ∧ Adv ν γ p σ ν' γ' p' σ' ∧ (∀ j, j < base → σ.get j = none → σ'.get j = none) := by
      intro Pl' Rl' I' h';obtain ⟨A', σ', ν', γ', j1, j2, j3, j4, j5⟩ := ih Pl' Rl' ν1 γ1 _ p1 _ σ1 S' p' hnd.2 hfree' hb' I' k3 k4 h';exact ⟨A', σ', ν', γ', j1, j2, j3, k5.trans j4, fun j hj hn => j5 j hj (k6 j (by omega) (by omega) hn)⟩
     cases hk : aK o with
     | pure =>
      simp only [aop, hk, mjE, pjE] at k1;obtain ⟨u', hu', rfl, rfl⟩ := k1;have hu : dL P (ev A) o = some u' := by
       simp only [pop, hk, mjE, pjE] at h1;obtain ⟨⟨v', own', S''⟩, hp, rfl, rfl, rfl, rfl⟩ := h1;unfold vL at hp;split at hp
       ·rename_i r hpp;obtain ⟨r1, r2, r3⟩ := r;obtain ⟨u2, _, h2, _⟩ := aBj F hoi hpp;unfold gP at hu';rw [h2] at hu' ⊢;exact hu'
       ·cases hp
      simp only [hu];rw [show gM o = false by simp [gM, hk]] at h
      simp only [cdf, zV hk S] at h;exact fin (I.qt k5 (.refl σ) fun _ _ _ _ _ _ h => h) h
     | read =>
      simp only [aop, hk, mjE, pjE] at k1;obtain ⟨u', hu, rfl, rfl⟩ := k1;simp only [hu];rw [show gM o = false by simp [gM, hk]] at h
      simp only [cdf] at h;have I' := I.qt k5 (.refl σ) fun _ _ _ _ _ _ h => h
      have hpr : ∃ own' p'', iZ P p S o take = some (v, own', p'') := by
       simp only [pop, hk, mjE, pjE] at h1;obtain ⟨⟨v', own', p''⟩, hp, rfl, rfl, rfl, rfl⟩ := h1;exact ⟨_, _, hp⟩
      obtain ⟨own', p'', hpr⟩ := hpr;cases hip : fQ o S with
      | false =>
       rw [hip, cdf] at h;exact fin (I'.cons ((aDT M F hoi hpr hip hu).adv k5)) h
      | true =>
       rw [hip, cdt] at h;have hck : check P base σ ⟨i, o, A, u', none⟩ = true := by simp only [check, hu]; exact fL u'
       refine fin (I'.cons2 ⟨fun id hid hd => ?_, rfl, fun _ => hck, fun _ ob hob => (by cases hob), fun _ => ?_, fun t a hoa => ?_⟩) h
       ·simp only [fQ] at hip;split at hip
        ·rename_i t a hoa;simp only [cid, jL, hoa] at hid;have hok : aH P a = true := by
          have := pM hoi;rw [hoa] at this;simpa [Op.operands] using this
         have hpl : ∃ v2, gG P p t (pev S a) = some v2 := by
          simp only [iZ, hoa] at hpr;split at hpr
          ·exact ⟨_, by assumption⟩
          ·cases hpr
         obtain ⟨v2, hpl⟩ := hpl;have hvd : PI.vid (pev S a) = some id := by
          cases hh : pev S a <;> rw [hh] at hid <;> simp only [aid] at hid <;> first | exact hid | cases hid
         obtain ⟨b, hb1, hb2⟩ := R.vid M (aQ F hok) hvd (by
          cases hh : pev S a <;> rw [hh] at hid hpl <;> simp only [aid] at hid <;> try cases hid
          simp only [gG] at hpl;split at hpl
          ·exact ⟨_, by assumption, by simp⟩
          ·exact ⟨_, by assumption, by simp⟩
          ·cases hpl)
         have hb3 := (k5.bx id b hb1 hd).2;refine ⟨b, hb3, .inl ⟨rfl, t, a, ?_⟩, hck⟩;rcases hb2 with ⟨off, e⟩ | ⟨off, n, c, e⟩
         ·exact ⟨off, hoa, e⟩
         ·exfalso;have hr := aQ F hok;rw [e] at hr;cases hh : pev S a <;> rw [hh] at hid hr <;> simp only [aid] at hid <;> try cases hid
          cases hr
        ·rename_i e; simp [aK, e] at hk
        ·rename_i e; simp [aK, e] at hk
        ·rename_i e; simp [aK, e] at hk
        ·cases hip
       ·simp only [fQ] at hip;split at hip
        ·rename_i t a e; exact ⟨t, a, e⟩
        ·rename_i e; simp [aK, e] at hk
        ·rename_i e; simp [aK, e] at hk
        ·rename_i e; simp [aK, e] at hk
        ·cases hip
       refine ⟨rfl, rfl, ?_, k2⟩;simp only at hoa;simp only [jL, hoa];have : aH P a = true := by
        have := pM hoi;rw [hoa] at this;simpa [Op.operands] using this
       exact (aQ F this).keep k5.keep k5.mon
     | alloc =>
      simp only [aop, hk, mjE, pjE] at k1;obtain ⟨⟨u', ob⟩, hu, rfl, rfl⟩ := k1;simp only [hu];rw [show gM o = false by simp [gM, hk]] at h
      simp only [cdf] at h;have I' := I.qt k5 (.put hfi) fun _ _ _ _ a ob h => by rw [aF, if_neg (fun e => by rw [e, hfi] at h; cases h)]; exact h
      have hck : check P base (σ.put (base + i) ob) ⟨i, o, A, u', some ob⟩ = true := by
       simp only [check, aF, if_true]; exact nT ob
      simp only [pop, hk, mjE, pjE] at h1;obtain ⟨⟨v', own', p''⟩, hp, hv', rfl, rfl, rfl⟩ := h1;simp only at hv';subst hv';have hcl : (∃ o2, p''.get p.next = some o2 ∧ o2 ≠ .gone) → ∀ id, PI.vid v' = some id → (PI.vid v' = some id → id = p.next) → ∃ a, ν1 id = some (some a) ∧ Looks base ⟨i, o, A, u', some ob⟩ a ∧ check P base (σ.put (base + i) ob) ⟨i, o, A, u', some ob⟩ = true := by
       intro hg id hid hid2;have := hid2 hid;subst this;obtain ⟨b, hb1, hb2⟩ := R.vid k3 k2 hid hg;exact ⟨b, hb1, .inr ⟨by simp, yF hu hb2⟩, hck⟩
      obtain ⟨dst, op, ty, pos, af, g⟩ := o;cases op with
      | alloc t =>
       have hcl' : ∀ id, PI.vid v' = some id → id ∉ p''.wr → _ := fun id hid _ => hcl (by
        simp only [cK] at hp;split at hp <;> try cases hp
        exact ⟨_, by rw [fS, if_pos rfl], by simp⟩) id hid (fun _ => by
        simp only [cK] at hp;split at hp <;> try cases hp
        simp only [PI.vid, ojE] at hid; exact hid.symm)
       refine fin (I'.cons2 (q := ⟨i, ⟨dst, .alloc t, ty, pos, af, g⟩, jL ⟨dst, .alloc t, ty, pos, af, g⟩ S, v', false⟩) ⟨hcl', rfl, fun _ => hck, fun _ ob' hob => ?_, fun h => (by cases h), fun t a hoa => by cases hoa⟩) h
       simp only [ojE] at hob; subst hob;simp only [cS] at hu;split at hu
       ·rename_i zz _;cases hc : zz.cells.toList.all aC with
        | false => rw [hc, cdf] at hu; cases hu
        | true => rw [hc, cdt] at hu; simp only [ojE, pjE] at hu; exact ⟨_, hu.2.symm⟩
       ·cases hu
      | box t x =>
       have hcl' : ∀ id, PI.vid v' = some id → id ∉ p''.wr → _ := fun id hid _ => hcl (by
        simp only [cK] at hp;have hp := gC hp;simp only [ojE, pjE] at hp;obtain ⟨_, _, rfl⟩ := hp;exact ⟨_, by rw [fS, if_pos rfl], by simp⟩) id hid (fun _ => by
        simp only [cK] at hp;have hp := gC hp;simp only [ojE, pjE] at hp;obtain ⟨rfl, _, _⟩ := hp;simp only [PI.vid, ojE] at hid; exact hid.symm)
       refine fin (I'.cons2 (q := ⟨i, ⟨dst, .box t x, ty, pos, af, g⟩, jL ⟨dst, .box t x, ty, pos, af, g⟩ S, v', false⟩) ⟨hcl', rfl, fun _ => hck, fun _ ob' hob => ?_, fun h => (by cases h), fun t a hoa => by cases hoa⟩) h
       simp only [ojE] at hob; subst hob;simp only [cS] at hu;cases hc : (ev A x).cells.toList.all one with
       | false => rw [hc, cdf] at hu; cases hu
       | true => rw [hc, cdt] at hu; simp only [ojE, pjE] at hu; exact ⟨_, hu.2.symm⟩
      | makeSlice t l c =>
       have hmk : ∀ id, PI.vid v' = some id → id = p.next ∧ ∃ o2, p''.get p.next = some o2 ∧ o2 ≠ .gone := by
        intro id hid;simp only [cK] at hp;split at hp <;> try cases hp
        split at hp <;> try cases hp
        split at hp <;> try cases hp
        have hp := gC hp;rcases bif_or hp with hp | hp
        ·simp only [ojE, pjE] at hp; obtain ⟨rfl, _, _⟩ := hp; simp only [PI.vid] at hid; cases hid
        ·have hp := gC hp;simp only [ojE, pjE] at hp;obtain ⟨rfl, _, rfl⟩ := hp;simp only [PI.vid, ojE] at hid;exact ⟨hid.symm, _, by rw [fS, if_pos rfl], by simp⟩
       exact fin (I'.cons2 (q := ⟨i, ⟨dst, .makeSlice t l c, ty, pos, af, g⟩, jL ⟨dst, .makeSlice t l c, ty, pos, af, g⟩ S, v', false⟩) ⟨fun id hid _ => hcl (hmk id hid).2 id hid (fun _ => (hmk id hid).1), rfl, fun _ => hck, fun hm => (by cases hm), fun h => (by cases h), fun t a hoa => by cases hoa⟩) h
      | buildSlice t len parts =>
       refine fin (I'.cons ?_) h;have hob : ∃ cs s, ob = .cells cs (bG s) ∧ u' = .slice (some ⟨base + i, 0, none⟩) len len := by
        simp only [cS] at hu;split at hu
        ·split at hu
         ·rename_i s _;split at hu
          ·rename_i z _;cases hc : z.cells.toList.all aC && Nat.ble (len * s) 1000000 && Nat.beq z.cells.size s && Nat.ble 1 s with
           | false => rw [hc, cdf] at hu; cases hu
           | true =>
            rw [hc, cdt] at hu;simp only [mjE, pjE] at hu;obtain ⟨cs, _, h2, h3⟩ := hu;exact ⟨_, s, h3.symm, h2.symm⟩
          ·cases hu
         ·cases hu
        ·cases hu
       obtain ⟨cs, s, rfl, rfl⟩ := hob;have hvs : v' = .emp ∨ ∃ z es, v' = .sl z es := by
        simp only [cK] at hp;split at hp
        ·split at hp
         ·rename_i s a z _ _ _;cases hc : Nat.ble (len * s) 1000000 && Nat.beq z.length s && Nat.ble 1 s && (a || Nat.beq s 1) with
          | false => rw [hc, cdf] at hp; cases hp
          | true =>
           rw [hc, cdt] at hp;split at hp
           ·simp only [ojE, pjE] at hp;rw [← hp.1]; exact mkSl_or _ _
           ·cases hp
         ·cases hp
        ·cases hp
       have hno := slice_fz k2 hvs;intro ν'' σ'' kk mm zz;obtain ⟨b, hb1, hb2, _⟩ := kk.row (base + i) hno cs (bG s) (by rw [aF, if_pos rfl])
       have hbf := hb2 rfl;subst hbf;simp only [check, hb1];exact nT _
      | _ => simp only [cK] at hp; cases hp
     | eff =>
      have k1' : yC P ac σ (ev A) o (base + i) = some (u, σ1) := by simpa only [aop, hk] using k1
      rw [show gM o = true by simp [gM, hk]] at h
      simp only [cdt] at h;cases hc : Pl.all (kE P p) with
      | false => rw [hc, cdf] at h; cases h
      | true =>
       rw [hc, cdt] at h;simp only [I.check M hc, cdt, k1'];have If := I.filter fun k => !bit (ms.getD i 0) k
       cases ha : iC o with
       | false =>
        rw [ha] at h;simp only [Bool.false_and, cdf] at h;exact fin (If.stale k5) h
       | true =>
        rw [ha] at h;simp only [Bool.true_and] at h;have hqt : Qt σ σ1 := by
         obtain ⟨dst, op, ty, pos, af, g⟩ := o;cases op <;> simp only [iC] at ha <;> (try cases ha)
         rename_i c;obtain ⟨callee, cargs, ats⟩ := c;cases callee with
         | builtin b =>
          cases b <;> (try cases ha)
          simp only [yC] at k1';split at k1'
          ·exact aDc hfi k1'
          ·cases k1'
         | _ => cases ha
        exact fin (If.some k5 hqt) h
    ·cases h
   ·rename_i hw;rw [jT F hw, cdf];obtain ⟨γ1, M1, F1, A1⟩ := aDU M F o.dst;obtain ⟨A', σ', ν', γ', j1, j2, j3, j4, j5⟩ := ih Pl Rl ν γ1 _ p _ σ S' p' hnd.2 (fun j hj => hfree j (mtE _ hj)) hb I M1 F1 h
    exact ⟨A', σ', ν', γ', j1, j2, j3, A1.trans j4, j5⟩
   ·cases h
end
end Go.PI
namespace Go.PI
open Go.AI
theorem bZ {n : Nat} {xs : List PV} : fT n xs = true ↔ ∀ x ∈ xs, below n x = true := by
 induction xs with
 | nil => simp [fT]
 | cons x xs ih => simp [fT, ih]
theorem vK {n : Nat} {x : PV} (h : x.pur = true) : below n x = true := by cases x <;> first | rfl | simp [PV.pur] at h
theorem aBW {es : List PV} (h : ∀ e ∈ es, e.cells.all PV.pur = true) {i : Nat} {x : PV} (hx : (eE es)[i]? = some x) : x.pur = true := by
 have := dF hx;simp only [eE, List.mem_flatMap] at this;obtain ⟨e, he, hx⟩ := this;exact (List.all_eq_true.1 (h e he)) x hx
section
variable {P : Program} {ν ν' ν'' : Nu} {γ γ1 γ' : Ga} {σ σ' : St} {S : PS} {A : Slots}
theorem mA {α : Type} {us : List α} {xs : List PV} (hl : xs.length = us.length) {x : PV} (hx : x ∈ xs) : ∃ (i : Nat) (u : α), xs[i]? = some x ∧ us[i]? = some u := by
 obtain ⟨i, hi, rfl⟩ := List.mem_iff_getElem.1 hx;exact ⟨i, us[i], geG hi, geG (by omega)⟩
theorem R.restrict {n : Nat} (hν : ∀ k, k < n → ν'' k = ν' k) (hsub : ∀ k a, ν'' k = some (some a) → ν' k = some (some a)) {x : PV} {u : Value} (r : R ν' σ x u) : PI.below n x = true → R ν'' σ x u := by
 have hfz : ∀ {id cs m}, Fz ν' σ id cs m → Fz ν'' σ id cs m := fun h => ⟨h.1, fun k hk => h.2 k (hsub k _ hk)⟩
 induction r with
 | und u => intro _; exact .und u
 | v x h => intro _; exact .v x h
 | str s => intro _; exact .str s
 | agg xs us hl _ ih =>
  intro hb;simp only [PI.below] at hb;rw [bZ] at hb;exact .agg xs us hl fun i x u hx hu => ih i x u hx hu (hb x (dF hx))
 | tup xs us hl _ ih =>
  intro hb;simp only [PI.below] at hb;rw [bZ] at hb;exact .tup xs us hl fun i x u hx hu => ih i x u hx hu (hb x (dF hx))
 | nil => intro _; exact .nil
 | emp0 => intro _; exact .emp0
 | emp1 id off c rcs m hr => intro _; exact .emp1 id off c rcs m (hfz hr)
 | emp2 b o s c => intro _; exact .emp2 b o s c
 | sl z es id off c rcs m hz hs hr hmz hb _ ih =>
  intro _;exact .sl z es id off c rcs m hz hs (hfz hr) hmz hb fun i x u hx hu => ih i x u hx hu (vK (aBW (fun e he => (hs e he).2) hx))
 | pin z es i off id base rcs m hs hr hb _ ih =>
  intro _;exact .pin z es i off id base rcs m hs (hfz hr) hb fun i x u hx hu => ih i x u hx hu (vK (aBW (fun e he => (hs e he).2) hx))
 | ptr id off a h =>
  intro hb;simp only [PI.below, hP, djE] at hb;exact .ptr id off a (by rw [hν id hb]; exact h)
 | ptr0 id off a h =>
  intro hb;simp only [PI.below, hP, djE] at hb;exact .ptr0 id off a (by rw [hν id hb]; exact h)
 | rs id off len c a h =>
  intro hb;simp only [PI.below, hP, djE] at hb;exact .rs id off len c a (by rw [hν id hb]; exact h)
 | rs0 id off len c a h =>
  intro hb;simp only [PI.below, hP, djE] at hb;exact .rs0 id off len c a (by rw [hν id hb]; exact h)
 | fn f xs ys us vs hl _ hl' _ ih ih' =>
  intro hb;simp only [PI.below, bjE] at hb;rw [bZ, bZ] at hb;exact .fn f xs ys us vs hl (fun i x u hx hu => ih i x u hx hu (hb.1 x (dF hx))) hl' fun i x u hx hu => ih' i x u hx hu (hb.2 x (dF hx))
theorem R.low {n : Nat} (hν : ∀ k y, ν k = some y → k < n) {x : PV} {u : Value} (r : R ν σ x u) : PI.below n x = true := by
 induction r with
 | agg xs us hl _ ih =>
  simp only [PI.below]; rw [bZ]; intro x hx;obtain ⟨i, u, h1, h2⟩ := mA hl hx;exact ih i x u h1 h2
 | tup xs us hl _ ih =>
  simp only [PI.below]; rw [bZ]; intro x hx;obtain ⟨i, u, h1, h2⟩ := mA hl hx;exact ih i x u h1 h2
 | ptr id off a h => simp only [PI.below, hP, djE]; exact hν _ _ h
 | ptr0 id off a h => simp only [PI.below, hP, djE]; exact hν _ _ h
 | rs id off len c a h => simp only [PI.below, hP, djE]; exact hν _ _ h
 | rs0 id off len c a h => simp only [PI.below, hP, djE]; exact hν _ _ h
 | fn f xs ys us vs hl _ hl' _ ih ih' =>
  simp only [PI.below, bjE]; rw [bZ, bZ];refine ⟨fun x hx => ?_, fun x hx => ?_⟩
  ·obtain ⟨i, u, h1, h2⟩ := mA hl hx; exact ih i x u h1 h2
  ·obtain ⟨i, u, h1, h2⟩ := mA hl' hx; exact ih' i x u h1 h2
 | _ => rfl
theorem Ow.restrict {k : K} (hsub : ∀ k a, ν'' k = some (some a) → ν' k = some (some a)) {x : PV} {u : Value} (o : Ow ν' γ σ k x u) : Ow ν'' γ σ k x u := by
 have hfz : ∀ {id cs m}, Fz ν' σ id cs m → Fz ν'' σ id cs m := fun h => ⟨h.1, fun k hk => h.2 k (hsub k _ hk)⟩
 cases o with
 | nil => exact .nil x
 | exact _ id off len rcs m hr => exact .exact x id off len rcs m (hfz hr)
 | zer _ b o => exact .zer x b o
 | tip z es id off c rcs m hr ht hw hg hb hk => exact .tip z es id off c rcs m (hfz hr) ht hw hg hb hk
theorem ObjR.restrict {n id : Nat} (hν : ∀ k, k < n → ν'' k = ν' k) (hsub : ∀ k a, ν'' k = some (some a) → ν' k = some (some a)) (hid : id < n) {o : lF} (h : ObjR ν' γ σ id o) (hb : nY n o = true) : ObjR ν'' γ σ id o := by
 cases o with
 | box cs =>
  obtain ⟨a, us, h1, h2, h3, h4⟩ := h;simp only [nY, List.all_eq_true] at hb;refine ⟨a, us, by rw [hν id hid]; exact h1, h2, h3, fun i x b u hx hu => ?_⟩
  obtain ⟨h5, h6, h7⟩ := h4 i x b u hx hu;exact ⟨h5.restrict hν hsub (hb _ (dF hx)), h6, fun hb' => (h7 hb').restrict hsub⟩
 | row z ag cs =>
  obtain ⟨a, us, h1, h2, h3, h5, h4⟩ := h;simp only [nY] at hb;rw [bZ] at hb;exact ⟨a, us, by rw [hν id hid]; exact h1, h2, h3, h5, fun i x u hx hu => (h4 i x u hx hu).restrict hν hsub (hb x (dF hx))⟩
 | map es => exact h
 | gone => show ν'' id = some none; rw [hν id hid]; exact h
theorem ObjR.low {n id : Nat} (hν : ∀ k y, ν k = some y → k < n) {o : lF} (h : ObjR ν γ σ id o) : nY n o = true := by
 cases o with
 | box cs =>
  obtain ⟨a, us, h1, h2, h3, h4⟩ := h;simp only [nY, List.all_eq_true];intro c hc;obtain ⟨i, hi, rfl⟩ := List.mem_iff_getElem.1 hc;have hx : cs[i]? = some (cs[i].1, cs[i].2) := geG hi;have hu : us[i]? = some (us[i]'(by omega)) := geG _
  exact (h4 i _ _ _ hx hu).1.low hν
 | row z ag cs =>
  obtain ⟨a, us, h1, h2, h3, h5, h4⟩ := h;simp only [nY];rw [bZ];intro x hx;obtain ⟨i, u, e1, e2⟩ := mA h3.symm hx;exact (h4 i x u e1 e2).low hν
 | map es => exact h.elim
 | gone => rfl
theorem bW {old d : List Nat} {k : Nat} : k ∈ old.foldr ins d ↔ k ∈ old ∨ k ∈ d := by
 induction old with
 | nil => simp
 | cons x old ih => simp only [List.foldr_cons, gH, ih, List.mem_cons, or_assoc]
theorem pZ {mem q : Tr lF} {old : List Nat} (hf : ∀ id ∈ old, q.get id ≠ none) (k : Nat) : (old.foldr (back q) mem).get k = if k ∈ old then q.get k else mem.get k := by
 induction old with
 | nil => simp
 | cons x old ih =>
  simp only [List.foldr_cons];have ih := ih fun id hid => hf id (mtE _ hid)
  cases hx : q.get x with
  | none => exact absurd hx (hf x (mhE ..))
  | some o =>
   simp only [back, hx, Tr.get_set];by_cases e : k = x
   ·subst e; simp [hx]
   ·rw [if_neg e, ih];by_cases e2 : k ∈ old
    ·rw [if_pos e2, if_pos (mtE _ e2)]
    ·rw [if_neg e2, if_neg (by simp [e, e2])]
theorem aDW {p p' : PSt} (M : Mem ν γ p σ) (M' : Mem ν' γ' p' σ') (adv : Adv ν γ (st0 p) σ ν' γ' p' σ') {v : PV} {u : Value} {own : Bool} (r : R ν' σ' v u) (ho : own = true → Ow ν' γ' σ' .hand v u) :
    ∃ ν'', R ν'' σ' v u ∧ (own = true → Ow ν'' γ' σ' .hand v u) ∧ Mem ν'' γ' (settle p v p') σ' ∧ Adv ν γ p σ ν'' γ' (settle p v p') σ' := by
 have hn : p.next ≤ p'.next := adv.dp.next
 have hmem : ∀ k, k < p.next → k ∉ p'.dirty → p'.mem.get k = p.mem.get k := adv.dp.mem
 unfold settle;cases hc : below p.next v && (p'.dirty.filter fun id => Nat.blt id p.next).all (qH p.next p'.mem) with
 | false =>
  simp only [cdf];refine ⟨ν', r, ho, ⟨M'.le, M'.lt, M'.inj, M'.live, M'.get, M'.free, M'.ver⟩, ⟨adv.keep, adv.mon, adv.out, ⟨hn, fun id hid => bW.2 (.inr hid), fun id hid => bW.2 (.inr hid), fun k hk hd => ?_⟩, adv.rz, fun id a hi hd => adv.bx id a hi fun hh => hd (bW.2 (.inl (List.mem_filter.2 ⟨hh, by rw [hP]; simpa using M.le _ _ hi⟩)))⟩⟩
  refine hmem k hk fun hh => hd (bW.2 (.inl ?_))
  rw [List.mem_filter]; exact ⟨hh, by rw [hP]; simpa using hk⟩
 | true =>
  simp only [cdt];simp only [bjE, List.all_eq_true] at hc;obtain ⟨hv, hold⟩ := hc;have hmo : ∀ {k}, k ∈ (p'.dirty.filter fun id => Nat.blt id p.next) ↔ k ∈ p'.dirty ∧ k < p.next := by
   intro k; rw [List.mem_filter, hP]; simp
  generalize hO : (p'.dirty.filter fun id => Nat.blt id p.next) = old at *
  have hf : ∀ id ∈ old, p'.mem.get id ≠ none := fun id hid h => by
   have := hold id hid; simp only [qH, h] at this; cases this
  have hget : ∀ k, PSt.get ⟨old.foldr (back p'.mem) p.mem, p.next, old.foldr ins p.dirty, (p'.wr.filter fun id => Nat.blt id p.next).foldr ins p.wr⟩ k = if k < p.next then p'.mem.get k else none := by
   intro k;simp only [PSt.get, hP, Bool.cond_decide];by_cases hk : k < p.next
   ·simp only [hk, if_true];rw [pZ hf];by_cases e : k ∈ old
    ·rw [if_pos e]
    ·rw [if_neg e];exact (hmem k hk fun hh => e (hmo.2 ⟨hh, hk⟩)).symm
   ·simp [hk]
  have hp' : ∀ k, k < p.next → p'.get k = p'.mem.get k := by
   intro k hk;simp only [PSt.get, hP, Bool.cond_decide];rw [if_pos (by omega)]
  have hνn : ∀ k, k < p.next → (fun k => if k < p.next then ν' k else none) k = ν' k := fun k hk => by simp [hk]
  have hsub : ∀ k a, (fun k => if k < p.next then ν' k else none) k = some (some a) → ν' k = some (some a) := fun k a h => by
   by_cases hk : k < p.next
   ·simpa [hk] using h
   ·simp [hk] at h
  refine ⟨fun k => if k < p.next then ν' k else none, r.restrict hνn hsub hv, fun h => (ho h).restrict hsub, ⟨fun k x hk => ?_, fun k a hk => M'.lt k a (hsub k a hk), fun i j a hi hj => M'.inj i j a (hsub i a hi) (hsub j a hj), fun k a hk => ?_, fun k o hk => ?_, M'.free, M'.ver⟩,
   ⟨adv.keep, ⟨fun id x hx => ?_, fun id a ha => adv.mon.2 id a (hsub id a ha)⟩, adv.out, ⟨nlR _, fun id hid => bW.2 (.inr hid), fun id hid => bW.2 (.inr hid), fun k hk hd => ?_⟩, adv.rz, fun id a hi hd => by
    have hlt := M.le _ _ hi;obtain ⟨e1, e2⟩ := adv.bx id a hi fun hh => hd (bW.2 (.inl (List.mem_filter.2 ⟨hh, by rw [hP]; simpa using hlt⟩)))
    exact ⟨e1, by show (if id < p.next then ν' id else none) = _; rw [if_pos hlt]; exact e2⟩⟩⟩
  ·by_cases h : k < p.next
   ·exact h
   ·simp [h] at hk
  ·have h1 := hsub k a hk;have hkn : k < p.next := by
    by_cases h : k < p.next
    ·exact h
    ·simp [h] at hk
   obtain ⟨o, ho'⟩ := M'.live k a h1;rw [hp' k hkn] at ho';exact ⟨o, by rw [hget, if_pos hkn]; exact ho'⟩
  ·rw [hget] at hk;by_cases hkn : k < p.next
   ·rw [if_pos hkn] at hk;have hobj := M'.get k o (by rw [hp' k hkn]; exact hk)
    refine hobj.restrict hνn hsub hkn ?_;by_cases e : k ∈ old
    ·have := hold k e;simp only [qH, hk] at this; exact this
    ·have h0 : p.mem.get k = some o := by rw [← hmem k hkn fun hh => e (hmo.2 ⟨hh, hkn⟩)]; exact hk
     have : p.get k = some o := by
      simp only [PSt.get, hP, Bool.cond_decide]; rw [if_pos hkn]; exact h0
     exact (M.get k o this).low M.le
   ·rw [if_neg hkn] at hk; cases hk
  ·have hid := M.le id x hx;rcases adv.mon.1 id x hx with h1 | h1
   ·left; show (if id < p.next then ν' id else none) = some x; rw [if_pos hid]; exact h1
   ·right; show (if id < p.next then ν' id else none) = some none; rw [if_pos hid]; exact h1
  ·rw [pZ hf];rw [if_neg fun e => hd (bW.2 (.inl e))]
end
end Go.PI
