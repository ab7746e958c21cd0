/- Maps at the abstract machine. -/
import Derived.Test.YtlealdhgajomhaaAiU
import Derived.Test.YtlealdhgajomhaaAiV
namespace Go.AI
set_option linter.unusedVariables false
set_option linter.unusedSimpArgs false

/-- a call of a function that is held in a slot -/
def calleeV : Value → Array Value → Option (FuncId × Array Value)
  | .func (.func g) first captured, as => some (g, first ++ as ++ captured)
  | _, _ => none
theorem k_tmp {S : Slots} {t : Tmp} {as : Array Operand} {ts : Array TypeId} : acallee (ev S) ⟨.value (.tmp t), as, ts⟩ = calleeV (S.at t) (as.map (ev S)) := by
  simp only [acallee, ev]
  cases S.at t <;> try rfl
  rename_i f xs ys; cases f <;> rfl
theorem k_val {g : FuncId} {first captured as : Array Value} : calleeV (.func (.func g) first captured) as = some (g, first ++ as ++ captured) := rfl

section
variable {P : Program} {κ : Type} [DecidableEq κ]

/-- the keys of a map: how they lie in memory, and that they are compared as they should -/
structure Keyed (P : Program) (kt : TypeId) {κ : Type} [DecidableEq κ] (enc : κ → Value) : Prop where
  pl : ∀ k, plain1 (enc k) = true
  ck : ∀ b k, still P (Instr.checkKey b 10000 kt (enc k)) = some ()
  eq : (∃ d, P.underlying kt = some d ∧ ∀ a b, Instr.sameNow d (enc a) (enc b) = some (decide (a = b))) ∨
    (∃ d, P.underlying kt = some d ∧ (∀ a b, Instr.sameNow d (enc a) (enc b) = none) ∧ ∀ a b, still P (Op.equal kt (enc a) (enc b)) = some (decide (a = b)))
  sb : ∀ k, Instr.sameBits 10000 (enc k) (enc k) = true

def fndM (k : κ) : List (κ × Value) → Nat → Option (Nat × Value)
  | [], _ => none
  | e :: es, i => if k = e.1 then some (i, e.2) else fndM k es (i + 1)
def mget (k : κ) : List (κ × Value) → Option Value
  | [] => none
  | e :: es => if k = e.1 then some e.2 else mget k es
theorem fndM_get (k : κ) : ∀ (es : List (κ × Value)) (i : Nat), (fndM k es i).map (·.2) = mget k es := by
  intro es
  induction es with
  | nil => intro i; rfl
  | cons e es ih => intro i; simp only [fndM, mget]; split <;> simp [ih]
theorem fndM_at (k : κ) : ∀ (es : List (κ × Value)) (i j : Nat) (v : Value), fndM k es i = some (j, v) → i ≤ j ∧ (∃ u, es[j - i]? = some (k, u)) ∧ (∀ x k', mget k' (es.modify (j - i) fun _ => (k, x)) = if k' = k then some x else mget k' es) := by
  intro es
  induction es with
  | nil => intro i j v h; simp [fndM] at h
  | cons e es ih =>
    intro i j v h
    simp only [fndM] at h
    split at h
    · rename_i he
      cases h
      refine ⟨Nat.le_refl _, ⟨e.2, by simp [he]⟩, fun x k' => ?_⟩
      rw [Nat.sub_self, List.modify_zero_cons]
      simp only [mget]
      by_cases hk : k' = k
      · simp [hk]
      · rw [if_neg hk, if_neg hk, if_neg (by rw [← he]; exact hk)]
    · rename_i he
      obtain ⟨h1, ⟨u, h2⟩, h3⟩ := ih (i + 1) j v h
      obtain ⟨q, hq⟩ : ∃ q, j - i = q + 1 := ⟨j - (i + 1), by omega⟩
      have hq' : j - (i + 1) = q := by omega
      rw [hq'] at h2 h3
      refine ⟨by omega, ⟨u, by rw [hq]; simpa using h2⟩, fun x k' => ?_⟩
      rw [hq, List.modify_succ_cons]
      simp only [mget, h3]
      by_cases hk : k' = k
      · subst hk; rw [if_neg he]; simp
      · simp [hk]
theorem mget_none (k : κ) : ∀ (es : List (κ × Value)) (i : Nat), fndM k es i = none → ∀ x k', mget k' (es ++ [(k, x)]) = if k' = k then some x else mget k' es := by
  intro es
  induction es with
  | nil => intro i _ x k'; simp [mget]
  | cons e es ih =>
    intro i h x k'
    simp only [fndM] at h
    split at h
    · cases h
    · rename_i he
      simp only [List.cons_append, mget, ih _ h]
      by_cases hk : k' = k
      · subst hk; rw [if_neg he]; simp
      · simp [hk]

def encE (enc : κ → Value) (es : List (κ × Value)) : List (Value × Value) := es.map fun e => (enc e.1, e.2)
theorem find_now {kt : TypeId} {enc : κ → Value} {d : TypeDesc} {k : κ} : ∀ (es : List (κ × Value)) (i : Nat), (∀ e ∈ es, Instr.sameNow d (enc k) (enc e.1) = some (decide (k = e.1))) → Instr.findNow d (enc k) (entries (encE enc es)) i = some (fndM k es i) := by
  intro es
  induction es with
  | nil => intro i _; rfl
  | cons e es ih =>
    intro i h
    have h1 := h e (by simp)
    have h2 := ih (i + 1) (fun x hx => h x (by simp [hx]))
    simp only [encE, entries, List.map_cons] at h2 ⊢
    simp only [Instr.findNow, h1, fndM]
    by_cases hk : k = e.1
    · simp [hk]
    · simp only [hk, decide_false, if_false]; exact h2
theorem find_ask {kt : TypeId} {enc : κ → Value} {k : κ} : ∀ (es : List (κ × Value)) (i : Nat), (∀ e ∈ es, still P (Op.equal kt (enc k) (enc e.1)) = some (decide (k = e.1))) → still P (Instr.findAsking kt (enc k) (entries (encE enc es)) i) = some (fndM k es i) := by
  intro es
  induction es with
  | nil => intro i _; rfl
  | cons e es ih =>
    intro i h
    have h1 := h e (by simp)
    have h2 := ih (i + 1) (fun x hx => h x (by simp [hx]))
    simp only [encE, entries, List.map_cons] at h2 ⊢
    simp only [Instr.findAsking, still_bind, h1, Option.bind_some, fndM]
    by_cases hk : k = e.1
    · simp [hk, still_pure]
    · simp only [hk, decide_false, Bool.false_eq_true, if_false]; exact h2
theorem find_key {kt : TypeId} {enc : κ → Value} (K : Keyed P kt enc) (k : κ) (es : List (κ × Value)) : still P (Instr.findKey kt (enc k) (entries (encE enc es))) = some (fndM k es 0) := by
  unfold Instr.findKey
  rcases K.eq with ⟨d, h1, h2⟩ | ⟨d, h1, h2, h3⟩
  · rw [still_bind, still_underlying, h1]
    simp only [Option.bind_some]
    rw [find_now (kt := kt) es 0 (fun x _ => h2 k x.1)]; rfl
  · rw [still_bind, still_underlying, h1]
    simp only [Option.bind_some]
    cases es with
    | nil => rfl
    | cons e es =>
      have : Instr.findNow d (enc k) (entries (encE enc (e :: es))) 0 = none := by
        simp only [encE, entries, List.map_cons, Instr.findNow, h2]
      rw [this]
      exact find_ask (e :: es) 0 (fun x _ => h3 k x.1)
theorem afind_key {kt : TypeId} {enc : κ → Value} (K : Keyed P kt enc) (k : κ) (es : List (κ × Value)) : afind P kt (enc k) (encE enc es) = some (fndM k es 0) := by
  unfold afind
  have hall : (encE enc es).all (fun e => plain1 e.1) = true := by
    simp only [encE, List.all_map, List.all_eq_true]; intro x _; exact K.pl x.1
  rw [K.pl k, hall, K.ck false k, K.ck true k, find_key K]; rfl

theorem mm_none {ρ : Operand → Value} {d : Option Tmp} {t ty : TypeId} {pos : String} {af : Array Edge} {g : Option (Nat × Bool)} {id : Nat} : aalloc P ρ ⟨d, .makeMap t none, ty, pos, af, g⟩ id = some (.map (some id), .map []) := rfl
theorem row_putm {σ : St} {id k : Nat} {es : List (Value × Value)} : (σ.put id (.map es)).row k = if k = id then none else σ.row k := by
  unfold St.row
  rw [St.get_put]
  by_cases h : k = id
  · rw [if_pos h, if_pos h]
  · rw [if_neg h, if_neg h]; rfl
theorem lk_get {σ τ : St} {id : Nat} {t : TypeId} {k : Value} {ok : Bool} (h : σ.get id = τ.get id) : alookup P σ t (.map (some id)) k ok = alookup P τ t (.map (some id)) k ok := by
  simp only [alookup, mapOf, h]
theorem ex1_of {α : Type} {A : Option α} {K : α → Prop} {v : α} (h : A = some v) (k : K v) : ex1 A K := ⟨v, h, k⟩
/-- what is not needed is forgotten -/
theorem gen_go {c : Code} {S : Slots} {σ : St} {Q : Fl → Slots → St → Prop} (J : Slots → St → Prop) (h : J S σ) (k : ∀ S σ, J S σ → wpx P c S σ Q) : wpx P c S σ Q := k S σ h
/-- what a map holds -/
def MP (enc : κ → Value) (σ : St) (id : Nat) (g : κ → Option Value) : Prop := ∃ es, σ.get id = some (.map (encE enc es)) ∧ ∀ k, mget k es = g k
theorem MP.new {enc : κ → Value} {σ : St} {id : Nat} (h : σ.get id = some (.map [])) : MP enc σ id (fun _ => none) := ⟨[], h, fun _ => rfl⟩
theorem MP.of {enc : κ → Value} {σ τ : St} {id : Nat} {g : κ → Option Value} (h : MP enc σ id g) (e : τ.get id = σ.get id) : MP enc τ id g := by
  obtain ⟨es, h1, h2⟩ := h; exact ⟨es, e.trans h1, h2⟩
def mset (g : κ → Option Value) (k : κ) (x : Value) : κ → Option Value := fun k' => if k' = k then some x else g k'
theorem lookup_some {t kt et : TypeId} {enc : κ → Value} (K : Keyed P kt enc) (ht : P.underlying t = some (.map kt et)) {σ : St} {id : Nat} {g : κ → Option Value} (h : MP enc σ id g) {k : κ} {v : Value} (hk : g k = some v) (ok : Bool) :
    alookup P σ t (.map (some id)) (enc k) ok = some (bif ok then .tuple #[v, .bool true] else v) := by
  obtain ⟨es, h1, h2⟩ := h
  have h3 := fndM_get k es 0
  rw [h2 k, hk] at h3
  simp only [alookup, ht, mapOf, h1, afind_key K]
  cases hf : fndM k es 0 with
  | none => rw [hf] at h3; cases h3
  | some x => rw [hf] at h3; simp only [Option.map_some, Option.some.injEq] at h3; simp only [h3]
theorem lookup_none {t kt et : TypeId} {enc : κ → Value} (K : Keyed P kt enc) (ht : P.underlying t = some (.map kt et)) {σ : St} {id : Nat} {g : κ → Option Value} (h : MP enc σ id g) {k : κ} (hk : g k = none) {z : Value} (hz : still P (zeroValue et) = some z) (hp : plain1 z = true) (ok : Bool) :
    alookup P σ t (.map (some id)) (enc k) ok = some (bif ok then .tuple #[z, .bool false] else z) := by
  obtain ⟨es, h1, h2⟩ := h
  have h3 := fndM_get k es 0
  rw [h2 k, hk] at h3
  simp only [alookup, ht, mapOf, h1, afind_key K]
  cases hf : fndM k es 0 with
  | none => simp only [hz, hp, cond_true]
  | some x => rw [hf] at h3; cases h3
theorem update_ok {t kt et : TypeId} {enc : κ → Value} (K : Keyed P kt enc) (ht : P.underlying t = some (.map kt et)) {σ : St} {id : Nat} {g : κ → Option Value} (h : MP enc σ id g) (k : κ) (x : Value) :
    ∃ es', amapUpdate P σ t (.map (some id)) (enc k) x = some (σ.put id (.map es')) ∧ MP enc (σ.put id (.map es')) id (mset g k x) := by
  obtain ⟨es, h1, h2⟩ := h
  simp only [amapUpdate, ht, h1, afind_key K]
  cases hf : fndM k es 0 with
  | none =>
    refine ⟨_, rfl, es ++ [(k, x)], ?_, fun k' => ?_⟩
    · rw [St.get_put, if_pos rfl]; simp [encE]
    · rw [mget_none k es 0 hf x k', mset, h2 k']
  | some y =>
    obtain ⟨j, v⟩ := y
    obtain ⟨_, ⟨u, h4⟩, h5⟩ := fndM_at k es 0 j v hf
    rw [Nat.sub_zero] at h4 h5
    have h6 : (((encE enc es)[j]?.map (·.1)).getD (enc k)) = enc k := by simp [encE, h4]
    simp only [h6, K.sb, cond_true]
    refine ⟨_, rfl, es.modify j (fun _ => (k, x)), ?_, fun k' => ?_⟩
    · rw [St.get_put, if_pos rfl]
      simp only [encE]
      congr 2
      refine List.ext_getElem? fun n => ?_
      simp only [List.getElem?_modify, List.getElem?_map]
      by_cases hj : j = n
      · subst hj; simp [h4]
      · simp [hj]
    · rw [h5 x k', mset, h2 k']
theorem update_ex {t kt et : TypeId} {enc : κ → Value} (K : Keyed P kt enc) (ht : P.underlying t = some (.map kt et)) {σ τ : St} {id : Nat} {g : κ → Option Value} (h : MP enc τ id g) (hg : σ.get id = τ.get id) {k : κ} {x kv : Value} (hk : kv = enc k) {R : St → Prop}
    (hR : ∀ es', MP enc (σ.put id (.map es')) id (mset g k x) → R (σ.put id (.map es'))) : ex1 (amapUpdate P σ t (.map (some id)) kv x) R := by
  subst hk
  obtain ⟨es', h1, h2⟩ := update_ok K ht (h.of hg) k x
  exact ⟨_, h1, hR es' h2⟩
end
end Go.AI
