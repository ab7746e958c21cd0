/- The rules again, in a form in which simp looks no further than the step that it is at. -/
import Derived.Test.YtlealdhgajomhaaAiZ
import Derived.Test.YtlealdhgajomhaaAiV
namespace Go.AI
set_option linter.unusedVariables false
set_option linter.unusedSimpArgs false

def ex1 {α : Type} (r : Option α) (K : α → Prop) : Prop := ∃ v, r = some v ∧ K v
theorem ex1_some {α : Type} {v : α} {K : α → Prop} : ex1 (some v) K ↔ K v := by simp [ex1]
theorem ex1_go {α : Type} {r : Option α} {v : α} {K : α → Prop} (h : r = some v) (k : K v) : ex1 r K := ⟨v, h, k⟩
theorem ex_pair {α β : Type} {r : Option (α × β)} {Z : α → β → Prop} : (∃ v ob, r = some (v, ob) ∧ Z v ob) ↔ ex1 r (fun p => Z p.1 p.2) := by
  constructor
  · rintro ⟨v, ob, h1, h2⟩; exact ⟨(v, ob), h1, h2⟩
  · rintro ⟨⟨v, ob⟩, h1, h2⟩; exact ⟨v, ob, h1, h2⟩
section
variable {P : Program} {ops : Array Oper} {base i : Nat} {l : List Oper} {S : Slots} {σ : St} {Q : Slots → St → Prop} {d : Option Tmp} {ty : TypeId} {pos : String} {af : Array Edge}
def nx (P : Program) (ops : Array Oper) (base : Nat) (l : List Oper) (i : Nat) (S : Slots) (d : Option Tmp) (σ : St) (Q : Slots → St → Prop) : Value → Prop := fun v => wpo P ops base l (i + 1) (S.store d v) σ Q
def nxa (P : Program) (ops : Array Oper) (base : Nat) (l : List Oper) (i : Nat) (S : Slots) (d : Option Tmp) (σ : St) (Q : Slots → St → Prop) : Value × AObj → Prop := fun p => wpo P ops base l (i + 1) (S.store d p.1) (σ.put (base + i) p.2) Q
def nxs (P : Program) (ops : Array Oper) (base : Nat) (l : List Oper) (i : Nat) (S : Slots) (d : Option Tmp) (Q : Slots → St → Prop) : St → Prop := fun σ1 => wpo P ops base l (i + 1) (S.store d undef) σ1 Q
def nxe (P : Program) (ops : Array Oper) (base : Nat) (l : List Oper) (i : Nat) (S : Slots) (d : Option Tmp) (Q : Slots → St → Prop) : Value × St → Prop := fun p => wpo P ops base l (i + 1) (S.store d p.1) p.2 Q
def nxc (P : Program) (σ : St) (K : Value → St → Prop) : FuncId × Array Value → Prop := fun p => wpc P p.1 p.2 σ K
def nxr (R : Value → St → Prop) (σ : St) : List Value → Prop := fun vs => R (answer vs) σ
theorem nx_go {v : Value} : nx P ops base l i S d σ Q v ↔ wpo P ops base l (i + 1) (S.store d v) σ Q := Iff.rfl
theorem nxa_go {v : Value} {ob : AObj} : nxa P ops base l i S d σ Q (v, ob) ↔ wpo P ops base l (i + 1) (S.store d v) (σ.put (base + i) ob) Q := Iff.rfl
theorem nxs_go : nxs P ops base l i S d Q σ ↔ wpo P ops base l (i + 1) (S.store d undef) σ Q := Iff.rfl
theorem nxe_go {v : Value} : nxe P ops base l i S d Q (v, σ) ↔ wpo P ops base l (i + 1) (S.store d v) σ Q := Iff.rfl
theorem nxc_go {g : FuncId} {args : Array Value} {K : Value → St → Prop} : nxc P σ K (g, args) ↔ wpc P g args σ K := Iff.rfl
theorem nxr_go {R : Value → St → Prop} {vs : List Value} : nxr R σ vs ↔ R (answer vs) σ := Iff.rfl
/-- an operation that a guard lets run, or not -/
def gsel (P : Program) (ops : Array Oper) (base : Nat) (o : Oper) (l : List Oper) (i : Nat) (S : Slots) (σ : St) (Q : Slots → St → Prop) : Bool → Prop
  | true => wpo P ops base (o :: l) i S σ Q
  | false => wpo P ops base l (i + 1) (S.store o.dst undef) σ Q
theorem gsel_t {o : Oper} : gsel P ops base o l i S σ Q true ↔ wpo P ops base (o :: l) i S σ Q := Iff.rfl
theorem gsel_f {o : Oper} : gsel P ops base o l i S σ Q false ↔ wpo P ops base l (i + 1) (S.store o.dst undef) σ Q := Iff.rfl
theorem z_guard {op : Op} {j : Nat} {b : Bool} : wpo P ops base (⟨d, op, ty, pos, af, some (j, b)⟩ :: l) i S σ Q ↔ gsel P ops base ⟨d, op, ty, pos, af, none⟩ l i S σ Q (wantG ops S j b) := by
  have hw : wanted ops S ⟨d, op, ty, pos, af, some (j, b)⟩ = wantG ops S j b := rfl
  unfold wpo
  simp only [runOps_cons, hw]
  cases h : wantG ops S j b with
  | true =>
    simp only [if_true, gsel_t, wpo, runOps_cons, wanted_none]
    exact Iff.rfl
  | false => simp only [Bool.false_eq_true, if_false, gsel_f, wpo]

theorem z_pick {x y z : Operand} : wpo P ops base (⟨d, .pick x y z, ty, pos, af, none⟩ :: l) i S σ Q ↔ ex1 (apick (ev S x) (ev S y) (ev S z)) (nx P ops base l i S d σ Q) := x_pick
theorem z_build {t : TypeId} {ps : Array (Nat × Operand)} : wpo P ops base (⟨d, .build t ps, ty, pos, af, none⟩ :: l) i S σ Q ↔ ex1 (abuild P t (ps.map fun (i, x) => (i, ev S x))) (nx P ops base l i S d σ Q) := x_build
theorem z_nilCheck {x : Operand} : wpo P ops base (⟨d, .nilCheck x, ty, pos, af, none⟩ :: l) i S σ Q ↔ ex1 (anilCheck (ev S x)) (nx P ops base l i S d σ Q) := x_nilCheck
theorem z_binOp {op : BinOp} {t t' : TypeId} {x y : Operand} : wpo P ops base (⟨d, .binOp op t x y t', ty, pos, af, none⟩ :: l) i S σ Q ↔ ex1 (abin P op t x y (ev S x) (ev S y)) (nx P ops base l i S d σ Q) := x_binOp
theorem z_unOp {op : UnOp} {t : TypeId} {x : Operand} : wpo P ops base (⟨d, .unOp op t x, ty, pos, af, none⟩ :: l) i S σ Q ↔ ex1 (aun P op (ev S x)) (nx P ops base l i S d σ Q) := x_unOp
theorem z_convert {s t : TypeId} {x : Operand} : wpo P ops base (⟨d, .convert s t x, ty, pos, af, none⟩ :: l) i S σ Q ↔ ex1 (aconv P s t (ev S x)) (nx P ops base l i S d σ Q) := x_convert
theorem z_fieldAddr {t : TypeId} {x : Operand} {f : Nat} : wpo P ops base (⟨d, .fieldAddr t x f, ty, pos, af, none⟩ :: l) i S σ Q ↔ ex1 (afieldAddr P t (ev S x) f) (nx P ops base l i S d σ Q) := x_fieldAddr
theorem z_field {t : TypeId} {x : Operand} {f : Nat} : wpo P ops base (⟨d, .field t x f, ty, pos, af, none⟩ :: l) i S σ Q ↔ ex1 (afield P t (ev S x) f) (nx P ops base l i S d σ Q) := x_field
theorem z_indexAddr {t : TypeId} {x y : Operand} : wpo P ops base (⟨d, .indexAddr t x y, ty, pos, af, none⟩ :: l) i S σ Q ↔ ex1 (aindexAddr P t (ev S x) (ev S y)) (nx P ops base l i S d σ Q) := x_indexAddr
theorem z_index {t : TypeId} {x y : Operand} : wpo P ops base (⟨d, .index t x y, ty, pos, af, none⟩ :: l) i S σ Q ↔ ex1 (aindex P t (ev S x) (ev S y)) (nx P ops base l i S d σ Q) := x_index
theorem z_extract {x : Operand} {k : Nat} : wpo P ops base (⟨d, .extract x k, ty, pos, af, none⟩ :: l) i S σ Q ↔ ex1 (aextract (ev S x) k) (nx P ops base l i S d σ Q) := x_extract
theorem z_len {as : Array Operand} {ts : Array TypeId} : wpo P ops base (⟨d, .call ⟨.builtin .len, as, ts⟩, ty, pos, af, none⟩ :: l) i S σ Q ↔ ex1 (acallPure P (ev S) ⟨d, .call ⟨.builtin .len, as, ts⟩, ty, pos, af, none⟩ ⟨.builtin .len, as, ts⟩) (nx P ops base l i S d σ Q) := x_len
theorem z_min {as : Array Operand} {ts : Array TypeId} : wpo P ops base (⟨d, .call ⟨.builtin .min, as, ts⟩, ty, pos, af, none⟩ :: l) i S σ Q ↔ ex1 (acallPure P (ev S) ⟨d, .call ⟨.builtin .min, as, ts⟩, ty, pos, af, none⟩ ⟨.builtin .min, as, ts⟩) (nx P ops base l i S d σ Q) := x_min
theorem z_max {as : Array Operand} {ts : Array TypeId} : wpo P ops base (⟨d, .call ⟨.builtin .max, as, ts⟩, ty, pos, af, none⟩ :: l) i S σ Q ↔ ex1 (acallPure P (ev S) ⟨d, .call ⟨.builtin .max, as, ts⟩, ty, pos, af, none⟩ ⟨.builtin .max, as, ts⟩) (nx P ops base l i S d σ Q) := x_max
theorem z_load {t : TypeId} {x : Operand} : wpo P ops base (⟨d, .load t x, ty, pos, af, none⟩ :: l) i S σ Q ↔ ex1 (aload P σ t (ev S x)) (nx P ops base l i S d σ Q) := x_load
theorem z_lookup {t : TypeId} {x y : Operand} {ok : Bool} : wpo P ops base (⟨d, .lookup t x y ok, ty, pos, af, none⟩ :: l) i S σ Q ↔ ex1 (alookup P σ t (ev S x) (ev S y) ok) (nx P ops base l i S d σ Q) := x_lookup
theorem z_slice {t : TypeId} {x : Operand} {lo hi mx : Option Operand} : wpo P ops base (⟨d, .slice t x lo hi mx, ty, pos, af, none⟩ :: l) i S σ Q ↔ ex1 (aslice P σ t (ev S x) (lo.map (ev S)) (hi.map (ev S)) (mx.map (ev S))) (nx P ops base l i S d σ Q) := x_slice
theorem z_alloc' {t : TypeId} : wpo P ops base (⟨d, .alloc t, ty, pos, af, none⟩ :: l) i S σ Q ↔ ex1 (vAlloc P t (base + i)) (nxa P ops base l i S d σ Q) := x_alloc'.trans ex_pair
theorem z_box {t : TypeId} {x : Operand} : wpo P ops base (⟨d, .box t x, ty, pos, af, none⟩ :: l) i S σ Q ↔ ex1 (vBox (ev S x) (base + i)) (nxa P ops base l i S d σ Q) := x_box.trans ex_pair
theorem z_buildSlice {t : TypeId} {n : Nat} {ps : Array (Nat × Operand)} : wpo P ops base (⟨d, .buildSlice t n ps, ty, pos, af, none⟩ :: l) i S σ Q ↔ ex1 (vBuildS P t n (ps.map fun (i, x) => (i, ev S x)) (base + i)) (nxa P ops base l i S d σ Q) := x_buildSlice.trans ex_pair
theorem z_makeSlice {t : TypeId} {x y : Operand} : wpo P ops base (⟨d, .makeSlice t x y, ty, pos, af, none⟩ :: l) i S σ Q ↔ ex1 (vMake P t (ev S x) (ev S y) (base + i)) (nxa P ops base l i S d σ Q) := x_makeSlice.trans ex_pair
theorem z_makeMap {t : TypeId} {x : Option Operand} : wpo P ops base (⟨d, .makeMap t x, ty, pos, af, none⟩ :: l) i S σ Q ↔ ex1 (aalloc P (ev S) ⟨d, .makeMap t x, ty, pos, af, none⟩ (base + i)) (nxa P ops base l i S d σ Q) := x_makeMap.trans ex_pair
theorem z_store {t : TypeId} {x y : Operand} : wpo P ops base (⟨d, .store t x y, ty, pos, af, none⟩ :: l) i S σ Q ↔ ex1 (astore P σ t (ev S x) (ev S y)) (nxs P ops base l i S d Q) := x_store
theorem z_mapUpdate {t : TypeId} {x y z : Operand} : wpo P ops base (⟨d, .mapUpdate t x y z, ty, pos, af, none⟩ :: l) i S σ Q ↔ ex1 (amapUpdate P σ t (ev S x) (ev S y) (ev S z)) (nxs P ops base l i S d Q) := x_mapUpdate
theorem z_insert {t : TypeId} {x y z : Operand} : wpo P ops base (⟨d, .insert t x y z, ty, pos, af, none⟩ :: l) i S σ Q ↔ ex1 (amapUpdate P σ t (ev S x) (ev S y) (ev S z)) (nxs P ops base l i S d Q) := x_insert
theorem z_append {x y : Operand} {ts : Array TypeId} : wpo P ops base (⟨d, .call ⟨.builtin .append, #[x, y], ts⟩, ty, pos, af, none⟩ :: l) i S σ Q ↔ ex1 (aappend P σ (base + i) ⟨.builtin .append, #[x, y], ts⟩ (ev S x) (ev S y)) (nxe P ops base l i S d Q) := x_append.trans ex_pair
theorem z_call {f : Operand} {as : Array Operand} {ts : Array TypeId} : wpo P ops base (⟨d, .call ⟨.value f, as, ts⟩, ty, pos, af, none⟩ :: l) i S σ Q ↔ ex1 (acallee (ev S) ⟨.value f, as, ts⟩) (nxc P σ (cont P ops base l (i + 1) S d Q)) := k_call.trans ex_pair
theorem zd_n {rs : List ResultVar} {R : Value → St → Prop} : done P rs R .normal S σ ↔ ex1 (resultsOf P S σ rs) (nxr R σ) := Iff.rfl
theorem zd_r {rs : List ResultVar} {R : Value → St → Prop} : done P rs R .ret S σ ↔ ex1 (resultsOf P S σ rs) (nxr R σ) := Iff.rfl
theorem cnd_t {a b : Code} {K : Fl → Slots → St → Prop} : cnd P (.bool true) a b S σ K ↔ wpx P a S σ K := by simp [cnd]
theorem cnd_f {a b : Code} {K : Fl → Slots → St → Prop} : cnd P (.bool false) a b S σ K ↔ wpx P b S σ K := by simp [cnd]
theorem cnd_go {t : Bool} {a b : Code} {K : Fl → Slots → St → Prop} (h1 : t = true → wpx P a S σ K) (h2 : t = false → wpx P b S σ K) : cnd P (.bool t) a b S σ K := by
  cases t
  · exact cnd_f.2 (h2 rfl)
  · exact cnd_t.2 (h1 rfl)
end
section
variable {P : Program} {ops : Array Oper} {ms : List Nat} {base i : Nat} {l : List (Nat × Oper)} {ps : List (Nat × (St → Prop))} {S : Slots} {σ : St} {Q : Slots → St → Prop} {d : Option Tmp} {ty : TypeId} {pos : String} {af : Array Edge}
def nd (P : Program) (ops : Array Oper) (ms : List Nat) (base : Nat) (l : List (Nat × Oper)) (ps : List (Nat × (St → Prop))) (S : Slots) (d : Option Tmp) (σ : St) (Q : Slots → St → Prop) : Value → Prop := fun v => dgo P ops ms base l ps (S.store d v) σ Q
def rdv (rd : St → Option Value) (v : Value) : St → Prop := fun τ => rd τ = some v
def ndr (P : Program) (ops : Array Oper) (ms : List Nat) (base : Nat) (l : List (Nat × Oper)) (i : Nat) (ps : List (Nat × (St → Prop))) (rd : St → Option Value) (S : Slots) (d : Option Tmp) (σ : St) (Q : Slots → St → Prop) : Value → Prop := fun v => dgo P ops ms base l ((i, rdv rd v) :: ps) (S.store d v) σ Q
def isOb (id : Nat) (ob : AObj) : St → Prop := fun τ => τ.get id = some ob
def nda (P : Program) (ops : Array Oper) (ms : List Nat) (base : Nat) (l : List (Nat × Oper)) (i : Nat) (ps : List (Nat × (St → Prop))) (S : Slots) (d : Option Tmp) (σ : St) (Q : Slots → St → Prop) : Value × AObj → Prop := fun p => dgo P ops ms base l ((i, isOb (base + i) p.2) :: ps) (S.store d p.1) (σ.put (base + i) p.2) Q
def nds (P : Program) (ops : Array Oper) (ms : List Nat) (base : Nat) (l : List (Nat × Oper)) (i : Nat) (ps : List (Nat × (St → Prop))) (S : Slots) (d : Option Tmp) (Q : Slots → St → Prop) : St → Prop := fun σ1 => dgo P ops ms base l (ps.filter fun p => !bit (ms.getD i 0) p.1) (S.store d undef) σ1 Q
def nde (P : Program) (ops : Array Oper) (ms : List Nat) (base : Nat) (l : List (Nat × Oper)) (i : Nat) (ps : List (Nat × (St → Prop))) (S : Slots) (d : Option Tmp) (Q : Slots → St → Prop) : Value × St → Prop := fun p => dgo P ops ms base l (ps.filter fun q => !bit (ms.getD i 0) q.1) (S.store d p.1) p.2 Q
theorem nd_go {v : Value} : nd P ops ms base l ps S d σ Q v ↔ dgo P ops ms base l ps (S.store d v) σ Q := Iff.rfl
theorem ndr_go {rd : St → Option Value} {v : Value} : ndr P ops ms base l i ps rd S d σ Q v ↔ dgo P ops ms base l ((i, rdv rd v) :: ps) (S.store d v) σ Q := Iff.rfl
theorem rdv_go {rd : St → Option Value} {v : Value} : rdv rd v σ ↔ rd σ = some v := Iff.rfl
theorem isOb_go {id : Nat} {ob : AObj} : isOb id ob σ ↔ σ.get id = some ob := Iff.rfl
theorem nda_go {v : Value} {ob : AObj} : nda P ops ms base l i ps S d σ Q (v, ob) ↔ dgo P ops ms base l ((i, isOb (base + i) ob) :: ps) (S.store d v) (σ.put (base + i) ob) Q := Iff.rfl
theorem nds_go : nds P ops ms base l i ps S d Q σ ↔ dgo P ops ms base l (ps.filter fun p => !bit (ms.getD i 0) p.1) (S.store d undef) σ Q := Iff.rfl
theorem nde_go {v : Value} : nde P ops ms base l i ps S d Q (v, σ) ↔ dgo P ops ms base l (ps.filter fun q => !bit (ms.getD i 0) q.1) (S.store d v) σ Q := Iff.rfl
def dsel (P : Program) (ops : Array Oper) (ms : List Nat) (base : Nat) (o : Oper) (l : List (Nat × Oper)) (i : Nat) (ps : List (Nat × (St → Prop))) (S : Slots) (σ : St) (Q : Slots → St → Prop) : Bool → Prop
  | true => dgo P ops ms base ((i, o) :: l) ps S σ Q
  | false => dgo P ops ms base l ps (S.store o.dst undef) σ Q
theorem dsel_t {o : Oper} : dsel P ops ms base o l i ps S σ Q true ↔ dgo P ops ms base ((i, o) :: l) ps S σ Q := Iff.rfl
theorem dsel_f {o : Oper} : dsel P ops ms base o l i ps S σ Q false ↔ dgo P ops ms base l ps (S.store o.dst undef) σ Q := Iff.rfl
theorem w_guard {op : Op} {j : Nat} {b : Bool} : dgo P ops ms base ((i, ⟨d, op, ty, pos, af, some (j, b)⟩) :: l) ps S σ Q ↔ dsel P ops ms base ⟨d, op, ty, pos, af, none⟩ l i ps S σ Q (wantG ops S j b) := by
  have hw : wanted ops S ⟨d, op, ty, pos, af, some (j, b)⟩ = wantG ops S j b := rfl
  rw [dgo_cons, hw]
  cases h : wantG ops S j b with
  | true => rw [if_pos rfl, dsel_t, dgo_cons, wanted_none, if_pos rfl]; exact Iff.rfl
  | false => rw [if_neg (by simp)]; exact Iff.rfl
theorem ex_pair2 {A : Prop} {α β : Type} {r : Option (α × β)} {Z : α → β → Prop} : (A ∧ ∃ v ob, r = some (v, ob) ∧ Z v ob) ↔ A ∧ ex1 r (fun p => Z p.1 p.2) := by rw [ex_pair]
theorem w_pick {x y z : Operand} : dgo P ops ms base ((i, ⟨d, .pick x y z, ty, pos, af, none⟩) :: l) ps S σ Q ↔ ex1 (apick (ev S x) (ev S y) (ev S z)) (nd P ops ms base l ps S d σ Q) := y_pick
theorem w_build {t : TypeId} {qs : Array (Nat × Operand)} : dgo P ops ms base ((i, ⟨d, .build t qs, ty, pos, af, none⟩) :: l) ps S σ Q ↔ ex1 (abuild P t (qs.map fun (i, x) => (i, ev S x))) (nd P ops ms base l ps S d σ Q) := y_build
theorem w_nilCheck {x : Operand} : dgo P ops ms base ((i, ⟨d, .nilCheck x, ty, pos, af, none⟩) :: l) ps S σ Q ↔ ex1 (anilCheck (ev S x)) (nd P ops ms base l ps S d σ Q) := y_nilCheck
theorem w_binOp {op : BinOp} {t t' : TypeId} {x y : Operand} : dgo P ops ms base ((i, ⟨d, .binOp op t x y t', ty, pos, af, none⟩) :: l) ps S σ Q ↔ ex1 (abin P op t x y (ev S x) (ev S y)) (nd P ops ms base l ps S d σ Q) := y_binOp
theorem w_unOp {op : UnOp} {t : TypeId} {x : Operand} : dgo P ops ms base ((i, ⟨d, .unOp op t x, ty, pos, af, none⟩) :: l) ps S σ Q ↔ ex1 (aun P op (ev S x)) (nd P ops ms base l ps S d σ Q) := y_unOp
theorem w_convert {s t : TypeId} {x : Operand} : dgo P ops ms base ((i, ⟨d, .convert s t x, ty, pos, af, none⟩) :: l) ps S σ Q ↔ ex1 (aconv P s t (ev S x)) (nd P ops ms base l ps S d σ Q) := y_convert
theorem w_fieldAddr {t : TypeId} {x : Operand} {f : Nat} : dgo P ops ms base ((i, ⟨d, .fieldAddr t x f, ty, pos, af, none⟩) :: l) ps S σ Q ↔ ex1 (afieldAddr P t (ev S x) f) (nd P ops ms base l ps S d σ Q) := y_fieldAddr
theorem w_field {t : TypeId} {x : Operand} {f : Nat} : dgo P ops ms base ((i, ⟨d, .field t x f, ty, pos, af, none⟩) :: l) ps S σ Q ↔ ex1 (afield P t (ev S x) f) (nd P ops ms base l ps S d σ Q) := y_field
theorem w_indexAddr {t : TypeId} {x y : Operand} : dgo P ops ms base ((i, ⟨d, .indexAddr t x y, ty, pos, af, none⟩) :: l) ps S σ Q ↔ ex1 (aindexAddr P t (ev S x) (ev S y)) (nd P ops ms base l ps S d σ Q) := y_indexAddr
theorem w_index {t : TypeId} {x y : Operand} : dgo P ops ms base ((i, ⟨d, .index t x y, ty, pos, af, none⟩) :: l) ps S σ Q ↔ ex1 (aindex P t (ev S x) (ev S y)) (nd P ops ms base l ps S d σ Q) := y_index
theorem w_extract {x : Operand} {k : Nat} : dgo P ops ms base ((i, ⟨d, .extract x k, ty, pos, af, none⟩) :: l) ps S σ Q ↔ ex1 (aextract (ev S x) k) (nd P ops ms base l ps S d σ Q) := y_extract
theorem w_len {as : Array Operand} {ts : Array TypeId} : dgo P ops ms base ((i, ⟨d, .call ⟨.builtin .len, as, ts⟩, ty, pos, af, none⟩) :: l) ps S σ Q ↔ ex1 (acallPure P (ev S) ⟨d, .call ⟨.builtin .len, as, ts⟩, ty, pos, af, none⟩ ⟨.builtin .len, as, ts⟩) (nd P ops ms base l ps S d σ Q) := y_len
theorem w_min {as : Array Operand} {ts : Array TypeId} : dgo P ops ms base ((i, ⟨d, .call ⟨.builtin .min, as, ts⟩, ty, pos, af, none⟩) :: l) ps S σ Q ↔ ex1 (acallPure P (ev S) ⟨d, .call ⟨.builtin .min, as, ts⟩, ty, pos, af, none⟩ ⟨.builtin .min, as, ts⟩) (nd P ops ms base l ps S d σ Q) := y_min
theorem w_max {as : Array Operand} {ts : Array TypeId} : dgo P ops ms base ((i, ⟨d, .call ⟨.builtin .max, as, ts⟩, ty, pos, af, none⟩) :: l) ps S σ Q ↔ ex1 (acallPure P (ev S) ⟨d, .call ⟨.builtin .max, as, ts⟩, ty, pos, af, none⟩ ⟨.builtin .max, as, ts⟩) (nd P ops ms base l ps S d σ Q) := y_max
theorem w_load {t : TypeId} {x : Operand} : dgo P ops ms base ((i, ⟨d, .load t x, ty, pos, af, none⟩) :: l) ps S σ Q ↔ ex1 (aload P σ t (ev S x)) (ndr P ops ms base l i ps (fun τ => aload P τ t (ev S x)) S d σ Q) := y_load
theorem w_lookup {t : TypeId} {x y : Operand} {ok : Bool} : dgo P ops ms base ((i, ⟨d, .lookup t x y ok, ty, pos, af, none⟩) :: l) ps S σ Q ↔ ex1 (alookup P σ t (ev S x) (ev S y) ok) (ndr P ops ms base l i ps (fun τ => alookup P τ t (ev S x) (ev S y) ok) S d σ Q) := y_lookup
theorem w_slice {t : TypeId} {x : Operand} {lo hi mx : Option Operand} : dgo P ops ms base ((i, ⟨d, .slice t x lo hi mx, ty, pos, af, none⟩) :: l) ps S σ Q ↔ ex1 (aslice P σ t (ev S x) (lo.map (ev S)) (hi.map (ev S)) (mx.map (ev S))) (ndr P ops ms base l i ps (fun τ => aslice P τ t (ev S x) (lo.map (ev S)) (hi.map (ev S)) (mx.map (ev S))) S d σ Q) := y_slice
theorem w_alloc' {t : TypeId} : dgo P ops ms base ((i, ⟨d, .alloc t, ty, pos, af, none⟩) :: l) ps S σ Q ↔ ex1 (vAlloc P t (base + i)) (nda P ops ms base l i ps S d σ Q) := y_alloc'.trans ex_pair
theorem w_box {t : TypeId} {x : Operand} : dgo P ops ms base ((i, ⟨d, .box t x, ty, pos, af, none⟩) :: l) ps S σ Q ↔ ex1 (vBox (ev S x) (base + i)) (nda P ops ms base l i ps S d σ Q) := y_box.trans ex_pair
theorem w_buildSlice {t : TypeId} {n : Nat} {qs : Array (Nat × Operand)} : dgo P ops ms base ((i, ⟨d, .buildSlice t n qs, ty, pos, af, none⟩) :: l) ps S σ Q ↔ ex1 (vBuildS P t n (qs.map fun (i, x) => (i, ev S x)) (base + i)) (nda P ops ms base l i ps S d σ Q) := y_buildSlice.trans ex_pair
theorem w_makeSlice {t : TypeId} {x y : Operand} : dgo P ops ms base ((i, ⟨d, .makeSlice t x y, ty, pos, af, none⟩) :: l) ps S σ Q ↔ ex1 (vMake P t (ev S x) (ev S y) (base + i)) (nda P ops ms base l i ps S d σ Q) := y_makeSlice.trans ex_pair
theorem w_makeMap {t : TypeId} {x : Option Operand} : dgo P ops ms base ((i, ⟨d, .makeMap t x, ty, pos, af, none⟩) :: l) ps S σ Q ↔ ex1 (aalloc P (ev S) ⟨d, .makeMap t x, ty, pos, af, none⟩ (base + i)) (nda P ops ms base l i ps S d σ Q) := y_makeMap.trans ex_pair
theorem w_store {t : TypeId} {x y : Operand} : dgo P ops ms base ((i, ⟨d, .store t x y, ty, pos, af, none⟩) :: l) ps S σ Q ↔ (∀ p ∈ ps, p.2 σ) ∧ ex1 (astore P σ t (ev S x) (ev S y)) (nds P ops ms base l i ps S d Q) := y_store
theorem w_mapUpdate {t : TypeId} {x y z : Operand} : dgo P ops ms base ((i, ⟨d, .mapUpdate t x y z, ty, pos, af, none⟩) :: l) ps S σ Q ↔ (∀ p ∈ ps, p.2 σ) ∧ ex1 (amapUpdate P σ t (ev S x) (ev S y) (ev S z)) (nds P ops ms base l i ps S d Q) := y_mapUpdate
theorem w_insert {t : TypeId} {x y z : Operand} : dgo P ops ms base ((i, ⟨d, .insert t x y z, ty, pos, af, none⟩) :: l) ps S σ Q ↔ (∀ p ∈ ps, p.2 σ) ∧ ex1 (amapUpdate P σ t (ev S x) (ev S y) (ev S z)) (nds P ops ms base l i ps S d Q) := y_insert
theorem w_append {x y : Operand} {ts : Array TypeId} : dgo P ops ms base ((i, ⟨d, .call ⟨.builtin .append, #[x, y], ts⟩, ty, pos, af, none⟩) :: l) ps S σ Q ↔ (∀ p ∈ ps, p.2 σ) ∧ ex1 (aappend P σ (base + i) ⟨.builtin .append, #[x, y], ts⟩ (ev S x) (ev S y)) (nde P ops ms base l i ps S d Q) := y_append.trans ex_pair2
theorem w_call {f : Operand} {as : Array Operand} {ts : Array TypeId} : dgo P ops ms base ((i, ⟨d, .call ⟨.value f, as, ts⟩, ty, pos, af, none⟩) :: l) ps S σ Q ↔ (∀ p ∈ ps, p.2 σ) ∧ ex1 (acallee (ev S) ⟨.value f, as, ts⟩) (nxc P σ (dcont P ops ms base l (ps.filter fun p => !bit (ms.getD i 0) p.1) S d Q)) := y_call.trans ex_pair2
/-- what a loop's body must come to -/
def lpq (I : Nat → Slots → St → Prop) (m : Nat) (Q : Fl → Slots → St → Prop) : Fl → Slots → St → Prop
  | .normal, S, σ => ∃ m', m' < m ∧ I m' S σ
  | fl, S, σ => Q fl S σ
theorem lp_n {I : Nat → Slots → St → Prop} {m : Nat} {K : Fl → Slots → St → Prop} : lpq I m K .normal S σ ↔ ∃ m', m' < m ∧ I m' S σ := Iff.rfl
theorem lp_e {I : Nat → Slots → St → Prop} {m k : Nat} {K : Fl → Slots → St → Prop} : lpq I m K (.exit k) S σ ↔ K (.exit k) S σ := Iff.rfl
theorem lp_r {I : Nat → Slots → St → Prop} {m : Nat} {K : Fl → Slots → St → Prop} : lpq I m K .ret S σ ↔ K .ret S σ := Iff.rfl
theorem loop_go {c : Code} {K : Fl → Slots → St → Prop} (I : Nat → Slots → St → Prop) (m : Nat) (hI : I m S σ) (h : ∀ m S σ, I m S σ → wpx P c S σ (lpq I m K)) : wpx P (.loop c) S σ K := by
  refine wpx_loop I (fun m S σ hI => wpx_mono (h m S σ hI) ?_) m S σ hI
  intro fl S' σ' hq
  cases fl <;> exact hq
/-- a cut between two pieces of code -/
def cutq (I : Slots → St → Prop) (Q : Fl → Slots → St → Prop) : Fl → Slots → St → Prop
  | .normal, S, σ => I S σ
  | fl, S, σ => Q fl S σ
theorem ct_n {I : Slots → St → Prop} {K : Fl → Slots → St → Prop} : cutq I K .normal S σ ↔ I S σ := Iff.rfl
theorem ct_e {I : Slots → St → Prop} {k : Nat} {K : Fl → Slots → St → Prop} : cutq I K (.exit k) S σ ↔ K (.exit k) S σ := Iff.rfl
theorem ct_r {I : Slots → St → Prop} {K : Fl → Slots → St → Prop} : cutq I K .ret S σ ↔ K .ret S σ := Iff.rfl
theorem seq_cut {a b : Code} {K : Fl → Slots → St → Prop} (I : Slots → St → Prop) (h1 : wpx P a S σ (cutq I K)) (h2 : ∀ S τ, I S τ → wpx P b S τ K) : wpx P (.seq a b) S σ K := by
  refine wpx_seq (wpx_mono h1 ?_)
  intro fl S' σ' h
  cases fl with
  | normal => exact h2 S' σ' h
  | exit k => exact h
  | ret => exact h
theorem cut_0 {cs : List Value} : cut cs 0 0 = some [] := by simp [cut]
theorem cut_s {a : Value} {cs : List Value} {off n : Nat} : cut (a :: cs) (off + 1) n = cut cs off n := by simp [cut]
theorem cut_c {a : Value} {cs : List Value} {n : Nat} : cut (a :: cs) 0 (n + 1) = (cut cs 0 n).map (a :: ·) := by
  simp only [cut, List.drop_zero, List.take_succ_cons, List.length_cons, nbeq]
  by_cases h : (List.take n cs).length = n
  · simp only [h, decide_true, cond_true, Option.map_some]
  · have : ¬ (List.take n cs).length + 1 = n + 1 := by omega
    simp only [h, this, decide_false, cond_false, Option.map_none]
/-- a slice that is not empty -/
theorem slice_in {t e : TypeId} {z id off len c : Nat} {cs : List Value} {m : Mta} {lo hi : Option Value} {l h : Option Int} (ht : P.underlying t = some (.slice e)) (hz : szOf P e = some z) (hr : σ.row id = some (cs, m)) (hm : m.z = z)
    (hl : intOpt lo = some l) (hh : intOpt hi = some h) (h0 : 0 ≤ l.getD 0) (h1 : l.getD 0 < h.getD (len : Int)) (h2 : h.getD (len : Int) ≤ (len : Int)) :
    ∃ c', aslice P σ t (.slice (some ⟨id, off, none⟩) len c) lo hi none = some (.slice (some ⟨id, off + (l.getD 0).toNat * z, none⟩) ((h.getD (len : Int)).toNat - (l.getD 0).toNat) c') := by
  have hz' : rowZ σ id z = true := by simp [rowZ, hr, hm, nbeq]
  have hc : (decide (0 ≤ l.getD 0) && decide (l.getD 0 ≤ h.getD (len : Int)) && decide (h.getD (len : Int) ≤ (len : Int))) = true := by
    simp only [Bool.and_eq_true, decide_eq_true_eq]; exact ⟨⟨h0, by omega⟩, h2⟩
  have hm0 : intOpt (none : Option Value) = some none := rfl
  simp only [aslice, ht, hz, hl, hh, hm0, hc, cond_true, hz', nbeq]
  generalize l.getD 0 = a at *
  generalize h.getD (len : Int) = b at *
  by_cases g1 : c = len ∧ b.toNat = len
  · have g2 : ¬ a.toNat = len := by omega
    refine ⟨len - a.toNat, ?_⟩
    simp [g1, g2]
  · have g1' : (decide (c = len) && decide (b.toNat = len)) = false := by
      simp only [Bool.and_eq_false_iff, decide_eq_false_iff_not]
      by_cases g : c = len
      · exact Or.inr (fun h => g1 ⟨g, h⟩)
      · exact Or.inl g
    simp only [g1', cond_false]
    by_cases g3 : b.toNat = len ∧ a.toNat = 0
    · refine ⟨c, ?_⟩
      simp [g3]
    · have g3' : (decide (b.toNat = len) && decide (a.toNat = 0)) = false := by
        simp only [Bool.and_eq_false_iff, decide_eq_false_iff_not]
        by_cases g : b.toNat = len
        · exact Or.inr (fun h => g3 ⟨g, h⟩)
        · exact Or.inl g
      have g4 : decide (a < (len : Int)) = true := by simp; omega
      refine ⟨b.toNat - a.toNat + 1, ?_⟩
      simp only [g3', cond_false, g4, cond_true]
theorem slice_ex {A : Option Value} {f : Nat → Value} {K : Value → Prop} (h : ∃ c, A = some (f c)) (k : ∀ c, K (f c)) : ex1 A K := by
  obtain ⟨c, h⟩ := h
  exact ⟨f c, h, k c⟩
theorem len_eq {ρ : Operand → Value} {o : Oper} {x : Operand} {t : TypeId} : acallPure P ρ o ⟨.builtin .len, #[x], #[t]⟩ = alen P t (ρ x) := rfl
theorem app_ex {A : Option (Value × St)} {R : Value → St → Prop} {K : Value × St → Prop} (h : ∃ v σ', A = some (v, σ') ∧ R v σ') (k : ∀ v σ', R v σ' → K (v, σ')) : ex1 A K := by
  obtain ⟨v, σ', h1, h2⟩ := h
  exact ⟨(v, σ'), h1, k v σ' h2⟩
end
/-! ### all rules in one -/
theorem RUNA : type_of% (
  And.intro (And.intro (And.intro (And.intro (And.intro (And.intro (And.intro (@c_skip) (@c_label)) (And.intro (@c_exit) (@c_ret))) (And.intro (And.intro (@c_scope) (@c_block)) (And.intro (@c_cond)
  (And.intro (@cnd_t) (@cnd_f))))) (And.intro (And.intro (And.intro (@c_text) (@t_n)) (And.intro (@t_e) (@t_r))) (And.intro (And.intro (@b_n) (@b_r)) (And.intro (@b_e) (And.intro (@zd_n) (@zd_r))))))
  (And.intro (And.intro (And.intro (And.intro (@res_nil) (@res_tmp)) (And.intro (@res_cell) (@ans0))) (And.intro (And.intro (@ans1) (@ans2)) (And.intro (@x_nil) (And.intro (@x_move) (@x_assign)))))
  (And.intro (And.intro (And.intro (@z_pick) (@z_build)) (And.intro (@z_nilCheck) (And.intro (@z_binOp) (@z_unOp)))) (And.intro (And.intro (@z_convert) (@x_makeFunc)) (And.intro (@z_fieldAddr)
  (And.intro (@z_field) (@z_indexAddr))))))) (And.intro (And.intro (And.intro (And.intro (And.intro (@z_index) (@z_extract)) (And.intro (@z_len) (@z_min))) (And.intro (And.intro (@z_max) (@z_load))
  (And.intro (@z_lookup) (And.intro (@z_slice) (@z_alloc'))))) (And.intro (And.intro (And.intro (@z_box) (@z_buildSlice)) (And.intro (@z_makeSlice) (And.intro (@z_makeMap) (@z_store)))) (And.intro
  (And.intro (@z_mapUpdate) (@z_insert)) (And.intro (@z_append) (And.intro (@z_call) (@callee_fn)))))) (And.intro (And.intro (And.intro (And.intro (@ev_tmp) (@ev_const)) (And.intro (@ev_func)
  (@at_node0))) (And.intro (And.intro (@at_node1) (@at_node2)) (And.intro (@at_nil) (And.intro (@store_some) (@store_none))))) (And.intro (And.intro (And.intro (@set_node0) (@set_node1)) (And.intro
  (@set_node2) (And.intro (@set_nil0) (@set_nil1)))) (And.intro (And.intro (@set_nil2) (@n_lss)) (And.intro (@n_leq) (And.intro (@n_gtr) (@n_geq)))))))) (And.intro (And.intro (And.intro (And.intro
  (And.intro (And.intro (@n_eql) (@n_neq)) (And.intro (@n_add) (@n_sub))) (And.intro (And.intro (@n_mul) (@n_and)) (And.intro (@n_or) (And.intro (@n_xor) (@n_not))))) (And.intro (And.intro (And.intro
  (@p_t) (@p_f)) (And.intro (@p_bb) (@nc_some))) (And.intro (And.intro (@ex_tup) (@not_false_eq_true)) (And.intro (@and_assoc) (And.intro (@true_and) (@and_true)))))) (And.intro (And.intro (And.intro
  (And.intro (@Nat.add_zero) (@Nat.zero_add)) (And.intro (@decide_eq_true_eq) (@Bool.false_eq_true))) (And.intro (And.intro (@Bool.not_true) (@Bool.not_false)) (And.intro (@row_put) (And.intro
  (@St.get_put) (@row_more))))) (And.intro (And.intro (And.intro (@get_more) (@next_more)) (And.intro (@good_more) (And.intro (@next_put) (@good_box)))) (And.intro (And.intro (@Go.AI.good_row)
  (@St.good_put)) (And.intro (@decide_eq_false_iff_not) (And.intro (@beq_true) (@beq_false))))))) (And.intro (And.intro (And.intro (And.intro (And.intro (@Bool.not_eq_true') (@Bool.and_true)) (And.intro
  (@k_cont) (@stw_box))) (And.intro (And.intro (@stw_row) (@decide_true)) (And.intro (@Nat.add_assoc) (And.intro (@Nat.add_left_cancel_iff) (@Nat.add_eq_left))))) (And.intro (And.intro (And.intro
  (@Nat.left_eq_add) (@Nat.le_refl)) (And.intro (@and_self) (And.intro (@z_guard) (@gsel_t)))) (And.intro (And.intro (@gsel_f) (@ex1_some)) (And.intro (@nx_go) (And.intro (@nxa_go) (@nxs_go))))))
  (And.intro (And.intro (And.intro (And.intro (@nxe_go) (@nxc_go)) (And.intro (@nxr_go) (@at_set))) (And.intro (And.intro (@len_eq) (@lp_n)) (And.intro (@lp_e) (And.intro (@lp_r) (@cut_0))))) (And.intro
  (And.intro (And.intro (@cut_s) (@cut_c)) (And.intro (@Nat.mul_one) (And.intro (@Nat.zero_mul) (@Nat.sub_zero)))) (And.intro (And.intro (@Int.toNat_natCast) (@Int.toNat_zero)) (And.intro (@ct_n)
  (And.intro (@ct_e) (@ct_r))))))))) :=
  And.intro (And.intro (And.intro (And.intro (And.intro (And.intro (And.intro (@c_skip) (@c_label)) (And.intro (@c_exit) (@c_ret))) (And.intro (And.intro (@c_scope) (@c_block)) (And.intro (@c_cond)
  (And.intro (@cnd_t) (@cnd_f))))) (And.intro (And.intro (And.intro (@c_text) (@t_n)) (And.intro (@t_e) (@t_r))) (And.intro (And.intro (@b_n) (@b_r)) (And.intro (@b_e) (And.intro (@zd_n) (@zd_r))))))
  (And.intro (And.intro (And.intro (And.intro (@res_nil) (@res_tmp)) (And.intro (@res_cell) (@ans0))) (And.intro (And.intro (@ans1) (@ans2)) (And.intro (@x_nil) (And.intro (@x_move) (@x_assign)))))
  (And.intro (And.intro (And.intro (@z_pick) (@z_build)) (And.intro (@z_nilCheck) (And.intro (@z_binOp) (@z_unOp)))) (And.intro (And.intro (@z_convert) (@x_makeFunc)) (And.intro (@z_fieldAddr)
  (And.intro (@z_field) (@z_indexAddr))))))) (And.intro (And.intro (And.intro (And.intro (And.intro (@z_index) (@z_extract)) (And.intro (@z_len) (@z_min))) (And.intro (And.intro (@z_max) (@z_load))
  (And.intro (@z_lookup) (And.intro (@z_slice) (@z_alloc'))))) (And.intro (And.intro (And.intro (@z_box) (@z_buildSlice)) (And.intro (@z_makeSlice) (And.intro (@z_makeMap) (@z_store)))) (And.intro
  (And.intro (@z_mapUpdate) (@z_insert)) (And.intro (@z_append) (And.intro (@z_call) (@callee_fn)))))) (And.intro (And.intro (And.intro (And.intro (@ev_tmp) (@ev_const)) (And.intro (@ev_func)
  (@at_node0))) (And.intro (And.intro (@at_node1) (@at_node2)) (And.intro (@at_nil) (And.intro (@store_some) (@store_none))))) (And.intro (And.intro (And.intro (@set_node0) (@set_node1)) (And.intro
  (@set_node2) (And.intro (@set_nil0) (@set_nil1)))) (And.intro (And.intro (@set_nil2) (@n_lss)) (And.intro (@n_leq) (And.intro (@n_gtr) (@n_geq)))))))) (And.intro (And.intro (And.intro (And.intro
  (And.intro (And.intro (@n_eql) (@n_neq)) (And.intro (@n_add) (@n_sub))) (And.intro (And.intro (@n_mul) (@n_and)) (And.intro (@n_or) (And.intro (@n_xor) (@n_not))))) (And.intro (And.intro (And.intro
  (@p_t) (@p_f)) (And.intro (@p_bb) (@nc_some))) (And.intro (And.intro (@ex_tup) (@not_false_eq_true)) (And.intro (@and_assoc) (And.intro (@true_and) (@and_true)))))) (And.intro (And.intro (And.intro
  (And.intro (@Nat.add_zero) (@Nat.zero_add)) (And.intro (@decide_eq_true_eq) (@Bool.false_eq_true))) (And.intro (And.intro (@Bool.not_true) (@Bool.not_false)) (And.intro (@row_put) (And.intro
  (@St.get_put) (@row_more))))) (And.intro (And.intro (And.intro (@get_more) (@next_more)) (And.intro (@good_more) (And.intro (@next_put) (@good_box)))) (And.intro (And.intro (@Go.AI.good_row)
  (@St.good_put)) (And.intro (@decide_eq_false_iff_not) (And.intro (@beq_true) (@beq_false))))))) (And.intro (And.intro (And.intro (And.intro (And.intro (@Bool.not_eq_true') (@Bool.and_true)) (And.intro
  (@k_cont) (@stw_box))) (And.intro (And.intro (@stw_row) (@decide_true)) (And.intro (@Nat.add_assoc) (And.intro (@Nat.add_left_cancel_iff) (@Nat.add_eq_left))))) (And.intro (And.intro (And.intro
  (@Nat.left_eq_add) (@Nat.le_refl)) (And.intro (@and_self) (And.intro (@z_guard) (@gsel_t)))) (And.intro (And.intro (@gsel_f) (@ex1_some)) (And.intro (@nx_go) (And.intro (@nxa_go) (@nxs_go))))))
  (And.intro (And.intro (And.intro (And.intro (@nxe_go) (@nxc_go)) (And.intro (@nxr_go) (@at_set))) (And.intro (And.intro (@len_eq) (@lp_n)) (And.intro (@lp_e) (And.intro (@lp_r) (@cut_0))))) (And.intro
  (And.intro (And.intro (@cut_s) (@cut_c)) (And.intro (@Nat.mul_one) (And.intro (@Nat.zero_mul) (@Nat.sub_zero)))) (And.intro (And.intro (@Int.toNat_natCast) (@Int.toNat_zero)) (And.intro (@ct_n)
  (And.intro (@ct_e) (@ct_r))))))))
theorem YRUNA : type_of% (
  And.intro (And.intro (And.intro (And.intro (And.intro (@dgo_nil) (And.intro (@dk_cont) (@y_move))) (And.intro (@y_assign) (And.intro (@w_pick) (@w_build)))) (And.intro (And.intro (@w_nilCheck)
  (And.intro (@w_binOp) (@w_unOp))) (And.intro (@w_convert) (And.intro (@y_makeFunc) (@w_fieldAddr))))) (And.intro (And.intro (And.intro (@w_field) (And.intro (@w_indexAddr) (@w_index))) (And.intro
  (@w_extract) (And.intro (@w_len) (@w_min)))) (And.intro (And.intro (@w_max) (And.intro (@w_load) (@w_lookup))) (And.intro (@w_slice) (And.intro (@w_alloc') (@w_box)))))) (And.intro (And.intro
  (And.intro (And.intro (@w_buildSlice) (And.intro (@w_makeSlice) (@w_makeMap))) (And.intro (@w_store) (And.intro (@w_mapUpdate) (@w_insert)))) (And.intro (And.intro (@w_append) (And.intro (@w_call)
  (@false_imp_iff))) (And.intro (@Bool.not_eq_true) (And.intro (@Bool.not_eq_eq_eq_not) (@w_guard))))) (And.intro (And.intro (And.intro (@dsel_t) (And.intro (@dsel_f) (@nd_go))) (And.intro (@ndr_go)
  (And.intro (@rdv_go) (@isOb_go)))) (And.intro (And.intro (@nda_go) (And.intro (@nds_go) (@nde_go))) (And.intro (And.intro (@nbeq) (@decide_false)) (And.intro (@Nat.zero_ne_one) (@Nat.one_ne_zero))))))) :=
  And.intro (And.intro (And.intro (And.intro (And.intro (@dgo_nil) (And.intro (@dk_cont) (@y_move))) (And.intro (@y_assign) (And.intro (@w_pick) (@w_build)))) (And.intro (And.intro (@w_nilCheck)
  (And.intro (@w_binOp) (@w_unOp))) (And.intro (@w_convert) (And.intro (@y_makeFunc) (@w_fieldAddr))))) (And.intro (And.intro (And.intro (@w_field) (And.intro (@w_indexAddr) (@w_index))) (And.intro
  (@w_extract) (And.intro (@w_len) (@w_min)))) (And.intro (And.intro (@w_max) (And.intro (@w_load) (@w_lookup))) (And.intro (@w_slice) (And.intro (@w_alloc') (@w_box)))))) (And.intro (And.intro
  (And.intro (And.intro (@w_buildSlice) (And.intro (@w_makeSlice) (@w_makeMap))) (And.intro (@w_store) (And.intro (@w_mapUpdate) (@w_insert)))) (And.intro (And.intro (@w_append) (And.intro (@w_call)
  (@false_imp_iff))) (And.intro (@Bool.not_eq_true) (And.intro (@Bool.not_eq_eq_eq_not) (@w_guard))))) (And.intro (And.intro (And.intro (@dsel_t) (And.intro (@dsel_f) (@nd_go))) (And.intro (@ndr_go)
  (And.intro (@rdv_go) (@isOb_go)))) (And.intro (And.intro (@nda_go) (And.intro (@nds_go) (@nde_go))) (And.intro (And.intro (@nbeq) (@decide_false)) (And.intro (@Nat.zero_ne_one) (@Nat.one_ne_zero))))))
end Go.AI
