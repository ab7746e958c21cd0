/- Rules by which simp runs the abstract machine: one for each operation. -/
import Derived.Test.YtlealdhgajomhaaAiSim
namespace Go.AI
set_option linter.unusedVariables false
set_option linter.unusedSimpArgs false

def wantG (ops : Array Oper) (S : Slots) (j : Nat) (want : Bool) : Bool :=
  match (ops[j]?.bind (·.dst)).map S.at with
  | some (.bool b) => b == want
  | _ => false

def apick (c a b : Value) : Option Value :=
  match c with
  | .bool true => some a
  | .bool false => some b
  | _ => none
def anilCheck : Value → Option Value
  | .pointer (some a) => some (.pointer (some a))
  | _ => none
def aextract (t : Value) (i : Nat) : Option Value :=
  match t with
  | .tuple vs => vs[i]?
  | _ => none

def vAlloc (P : Program) (t : TypeId) (id : Nat) : Option (Value × AObj) :=
  match still P (zeroValue t) with
    | some z => bif z.cells.toList.all plain0 then some (.pointer (some ⟨id, 0, none⟩), .cells z.cells.toList boxMeta) else none
    | none => none
def vBox (v : Value) (id : Nat) : Option (Value × AObj) := bif v.cells.toList.all one then some (.pointer (some ⟨id, 0, none⟩), .cells v.cells.toList boxMeta) else none
def vBuildS (P : Program) (t : TypeId) (len : Nat) (qs : Array (Nat × Value)) (id : Nat) : Option (Value × AObj) :=
    match P.underlying t with
    | some (.slice e) => match szOf P e with
      | some s => match still P (zeroValue e) with
        | some z =>
          bif z.cells.toList.all plain0 && Nat.ble (len * s) 1000000 && Nat.beq z.cells.size s && Nat.ble 1 s then
            (Instr.fill (fun i => some (i * s, s)) (zerosOf z.cells.toList len).toArray qs.toList).map
              fun cs => (.slice (some ⟨id, 0, none⟩) len len, .cells cs.toList (rowMeta s))
          else none
        | none => none
      | none => none
    | _ => none
def vMake (P : Program) (t : TypeId) (l c : Value) (id : Nat) : Option (Value × AObj) :=
    match P.underlying t, l, c with
    | some (.slice e), .int .i64 n, .int .i64 k => match P.info? e with
      | some info => match info.zero with
        | some z =>
          bif decide (0 ≤ n) && decide (n ≤ k) && decide (k * (info.bytes : Int) ≤ 1073741824) && decide (k ≤ 1073741824) && z.cells.toList.all plain0 && Nat.beq z.cells.size info.size && Nat.ble 1 info.size then
            bif decide (n = k) then some (.slice (some ⟨id, 0, none⟩) n.toNat n.toNat, .cells (zerosOf z.cells.toList n.toNat) (rowMeta info.size))
            else some (.slice (some ⟨id, 0, none⟩) n.toNat (n.toNat + 1), .cells (zerosOf z.cells.toList n.toNat) { wr := true, tip := true, z := info.size, grp := some (id, 0) })
          else none
        | none => none
      | none => none
    | _, _, _ => none

section
variable {P : Program} {ops : Array Oper} {base i : Nat} {l : List Oper} {S : Slots} {σ : St} {Q : Slots → St → Prop} {d : Option Tmp} {ty : TypeId} {pos : String} {af : Array Edge}

def abin (P : Program) (op : BinOp) (t : TypeId) (x y : Operand) (a b : Value) : Option Value :=
  bif plain1 a && plain1 b then stillP P (do eqGuard op t x y a b; binOp op t a b)
  else match P.underlying t with
    | some (.slice _) => anil op a b
    | _ => none
def aun (P : Program) (op : UnOp) (a : Value) : Option Value := bif plain0 a then stillP P (Op.unary op a) else none
def aconv (P : Program) (s t : TypeId) (a : Value) : Option Value := bif plain0 a then stillP P (convert s t a) else none

theorem x_pureS {op : Op} {g : Option (Nat × Bool)} {v : Value} (hk : kindOf ⟨d, op, ty, pos, af, g⟩ = .pure) (hv : apure P (ev S) ⟨d, op, ty, pos, af, g⟩ = some v) : wpo P ops base (⟨d, op, ty, pos, af, g⟩ :: l) i S σ Q ↔
    if wanted ops S ⟨d, op, ty, pos, af, g⟩ = true then wpo P ops base l (i + 1) (S.store d v) σ Q else wpo P ops base l (i + 1) (S.store d undef) σ Q := by
  rw [x_pure hk, hv]
  simp only [Option.some.injEq, exists_eq_left']

theorem x_move {x : Operand} : wpo P ops base (⟨d, .move x, ty, pos, af, none⟩ :: l) i S σ Q ↔ wpo P ops base l (i + 1) (S.store d (ev S x)) σ Q := by
  rw [x_pureS rfl rfl, wanted_none, if_pos rfl]
theorem g_move {x : Operand} {j : Nat} {b : Bool} : wpo P ops base (⟨d, .move x, ty, pos, af, some (j, b)⟩ :: l) i S σ Q ↔ if wantG ops S j b = true then wpo P ops base l (i + 1) (S.store d (ev S x)) σ Q else wpo P ops base l (i + 1) (S.store d undef) σ Q := by
  rw [x_pureS rfl rfl]; rfl
theorem x_assign {x : Operand} : wpo P ops base (⟨d, .assign x, ty, pos, af, none⟩ :: l) i S σ Q ↔ wpo P ops base l (i + 1) (S.store d (ev S x)) σ Q := by
  rw [x_pureS rfl rfl, wanted_none, if_pos rfl]
theorem g_assign {x : Operand} {j : Nat} {b : Bool} : wpo P ops base (⟨d, .assign x, ty, pos, af, some (j, b)⟩ :: l) i S σ Q ↔ if wantG ops S j b = true then wpo P ops base l (i + 1) (S.store d (ev S x)) σ Q else wpo P ops base l (i + 1) (S.store d undef) σ Q := by
  rw [x_pureS rfl rfl]; rfl
theorem x_pick {x y z : Operand} : wpo P ops base (⟨d, .pick x y z, ty, pos, af, none⟩ :: l) i S σ Q ↔ ∃ v, apick (ev S x) (ev S y) (ev S z) = some v ∧ wpo P ops base l (i + 1) (S.store d v) σ Q := by
  rw [x_pure rfl, wanted_none, if_pos rfl]; rfl
theorem g_pick {x y z : Operand} {j : Nat} {b : Bool} : wpo P ops base (⟨d, .pick x y z, ty, pos, af, some (j, b)⟩ :: l) i S σ Q ↔ if wantG ops S j b = true then ∃ v, apick (ev S x) (ev S y) (ev S z) = some v ∧ wpo P ops base l (i + 1) (S.store d v) σ Q else wpo P ops base l (i + 1) (S.store d undef) σ Q := by
  rw [x_pure rfl]; rfl
theorem x_build {t : TypeId} {ps : Array (Nat × Operand)} : wpo P ops base (⟨d, .build t ps, ty, pos, af, none⟩ :: l) i S σ Q ↔ ∃ v, abuild P t (ps.map fun (i, x) => (i, ev S x)) = some v ∧ wpo P ops base l (i + 1) (S.store d v) σ Q := by
  rw [x_pure rfl, wanted_none, if_pos rfl]; rfl
theorem g_build {t : TypeId} {ps : Array (Nat × Operand)} {j : Nat} {b : Bool} : wpo P ops base (⟨d, .build t ps, ty, pos, af, some (j, b)⟩ :: l) i S σ Q ↔ if wantG ops S j b = true then ∃ v, abuild P t (ps.map fun (i, x) => (i, ev S x)) = some v ∧ wpo P ops base l (i + 1) (S.store d v) σ Q else wpo P ops base l (i + 1) (S.store d undef) σ Q := by
  rw [x_pure rfl]; rfl
theorem x_nilCheck {x : Operand} : wpo P ops base (⟨d, .nilCheck x, ty, pos, af, none⟩ :: l) i S σ Q ↔ ∃ v, anilCheck (ev S x) = some v ∧ wpo P ops base l (i + 1) (S.store d v) σ Q := by
  rw [x_pure rfl, wanted_none, if_pos rfl]; rfl
theorem g_nilCheck {x : Operand} {j : Nat} {b : Bool} : wpo P ops base (⟨d, .nilCheck x, ty, pos, af, some (j, b)⟩ :: l) i S σ Q ↔ if wantG ops S j b = true then ∃ v, anilCheck (ev S x) = some v ∧ wpo P ops base l (i + 1) (S.store d v) σ Q else wpo P ops base l (i + 1) (S.store d undef) σ Q := by
  rw [x_pure rfl]; rfl
theorem x_binOp {op : BinOp} {t t' : TypeId} {x y : Operand} : wpo P ops base (⟨d, .binOp op t x y t', ty, pos, af, none⟩ :: l) i S σ Q ↔ ∃ v, abin P op t x y (ev S x) (ev S y) = some v ∧ wpo P ops base l (i + 1) (S.store d v) σ Q := by
  rw [x_pure rfl, wanted_none, if_pos rfl]; rfl
theorem g_binOp {op : BinOp} {t t' : TypeId} {x y : Operand} {j : Nat} {b : Bool} : wpo P ops base (⟨d, .binOp op t x y t', ty, pos, af, some (j, b)⟩ :: l) i S σ Q ↔ if wantG ops S j b = true then ∃ v, abin P op t x y (ev S x) (ev S y) = some v ∧ wpo P ops base l (i + 1) (S.store d v) σ Q else wpo P ops base l (i + 1) (S.store d undef) σ Q := by
  rw [x_pure rfl]; rfl
theorem x_unOp {op : UnOp} {t : TypeId} {x : Operand} : wpo P ops base (⟨d, .unOp op t x, ty, pos, af, none⟩ :: l) i S σ Q ↔ ∃ v, aun P op (ev S x) = some v ∧ wpo P ops base l (i + 1) (S.store d v) σ Q := by
  rw [x_pure rfl, wanted_none, if_pos rfl]; rfl
theorem g_unOp {op : UnOp} {t : TypeId} {x : Operand} {j : Nat} {b : Bool} : wpo P ops base (⟨d, .unOp op t x, ty, pos, af, some (j, b)⟩ :: l) i S σ Q ↔ if wantG ops S j b = true then ∃ v, aun P op (ev S x) = some v ∧ wpo P ops base l (i + 1) (S.store d v) σ Q else wpo P ops base l (i + 1) (S.store d undef) σ Q := by
  rw [x_pure rfl]; rfl
theorem x_convert {s t : TypeId} {x : Operand} : wpo P ops base (⟨d, .convert s t x, ty, pos, af, none⟩ :: l) i S σ Q ↔ ∃ v, aconv P s t (ev S x) = some v ∧ wpo P ops base l (i + 1) (S.store d v) σ Q := by
  rw [x_pure rfl, wanted_none, if_pos rfl]; rfl
theorem g_convert {s t : TypeId} {x : Operand} {j : Nat} {b : Bool} : wpo P ops base (⟨d, .convert s t x, ty, pos, af, some (j, b)⟩ :: l) i S σ Q ↔ if wantG ops S j b = true then ∃ v, aconv P s t (ev S x) = some v ∧ wpo P ops base l (i + 1) (S.store d v) σ Q else wpo P ops base l (i + 1) (S.store d undef) σ Q := by
  rw [x_pure rfl]; rfl
theorem x_makeFunc {fn : Fn} {fs cs : Array Operand} : wpo P ops base (⟨d, .makeFunc fn fs cs, ty, pos, af, none⟩ :: l) i S σ Q ↔ wpo P ops base l (i + 1) (S.store d (.func fn (fs.map (ev S)) (cs.map (ev S)))) σ Q := by
  rw [x_pureS rfl rfl, wanted_none, if_pos rfl]
theorem g_makeFunc {fn : Fn} {fs cs : Array Operand} {j : Nat} {b : Bool} : wpo P ops base (⟨d, .makeFunc fn fs cs, ty, pos, af, some (j, b)⟩ :: l) i S σ Q ↔ if wantG ops S j b = true then wpo P ops base l (i + 1) (S.store d (.func fn (fs.map (ev S)) (cs.map (ev S)))) σ Q else wpo P ops base l (i + 1) (S.store d undef) σ Q := by
  rw [x_pureS rfl rfl]; rfl
theorem x_fieldAddr {t : TypeId} {x : Operand} {f : Nat} : wpo P ops base (⟨d, .fieldAddr t x f, ty, pos, af, none⟩ :: l) i S σ Q ↔ ∃ v, afieldAddr P t (ev S x) f = some v ∧ wpo P ops base l (i + 1) (S.store d v) σ Q := by
  rw [x_pure rfl, wanted_none, if_pos rfl]; rfl
theorem g_fieldAddr {t : TypeId} {x : Operand} {f : Nat} {j : Nat} {b : Bool} : wpo P ops base (⟨d, .fieldAddr t x f, ty, pos, af, some (j, b)⟩ :: l) i S σ Q ↔ if wantG ops S j b = true then ∃ v, afieldAddr P t (ev S x) f = some v ∧ wpo P ops base l (i + 1) (S.store d v) σ Q else wpo P ops base l (i + 1) (S.store d undef) σ Q := by
  rw [x_pure rfl]; rfl
theorem x_field {t : TypeId} {x : Operand} {f : Nat} : wpo P ops base (⟨d, .field t x f, ty, pos, af, none⟩ :: l) i S σ Q ↔ ∃ v, afield P t (ev S x) f = some v ∧ wpo P ops base l (i + 1) (S.store d v) σ Q := by
  rw [x_pure rfl, wanted_none, if_pos rfl]; rfl
theorem g_field {t : TypeId} {x : Operand} {f : Nat} {j : Nat} {b : Bool} : wpo P ops base (⟨d, .field t x f, ty, pos, af, some (j, b)⟩ :: l) i S σ Q ↔ if wantG ops S j b = true then ∃ v, afield P t (ev S x) f = some v ∧ wpo P ops base l (i + 1) (S.store d v) σ Q else wpo P ops base l (i + 1) (S.store d undef) σ Q := by
  rw [x_pure rfl]; rfl
theorem x_indexAddr {t : TypeId} {x y : Operand} : wpo P ops base (⟨d, .indexAddr t x y, ty, pos, af, none⟩ :: l) i S σ Q ↔ ∃ v, aindexAddr P t (ev S x) (ev S y) = some v ∧ wpo P ops base l (i + 1) (S.store d v) σ Q := by
  rw [x_pure rfl, wanted_none, if_pos rfl]; rfl
theorem g_indexAddr {t : TypeId} {x y : Operand} {j : Nat} {b : Bool} : wpo P ops base (⟨d, .indexAddr t x y, ty, pos, af, some (j, b)⟩ :: l) i S σ Q ↔ if wantG ops S j b = true then ∃ v, aindexAddr P t (ev S x) (ev S y) = some v ∧ wpo P ops base l (i + 1) (S.store d v) σ Q else wpo P ops base l (i + 1) (S.store d undef) σ Q := by
  rw [x_pure rfl]; rfl
theorem x_index {t : TypeId} {x y : Operand} : wpo P ops base (⟨d, .index t x y, ty, pos, af, none⟩ :: l) i S σ Q ↔ ∃ v, aindex P t (ev S x) (ev S y) = some v ∧ wpo P ops base l (i + 1) (S.store d v) σ Q := by
  rw [x_pure rfl, wanted_none, if_pos rfl]; rfl
theorem g_index {t : TypeId} {x y : Operand} {j : Nat} {b : Bool} : wpo P ops base (⟨d, .index t x y, ty, pos, af, some (j, b)⟩ :: l) i S σ Q ↔ if wantG ops S j b = true then ∃ v, aindex P t (ev S x) (ev S y) = some v ∧ wpo P ops base l (i + 1) (S.store d v) σ Q else wpo P ops base l (i + 1) (S.store d undef) σ Q := by
  rw [x_pure rfl]; rfl
theorem x_extract {x : Operand} {k : Nat} : wpo P ops base (⟨d, .extract x k, ty, pos, af, none⟩ :: l) i S σ Q ↔ ∃ v, aextract (ev S x) k = some v ∧ wpo P ops base l (i + 1) (S.store d v) σ Q := by
  rw [x_pure rfl, wanted_none, if_pos rfl]; rfl
theorem g_extract {x : Operand} {k : Nat} {j : Nat} {b : Bool} : wpo P ops base (⟨d, .extract x k, ty, pos, af, some (j, b)⟩ :: l) i S σ Q ↔ if wantG ops S j b = true then ∃ v, aextract (ev S x) k = some v ∧ wpo P ops base l (i + 1) (S.store d v) σ Q else wpo P ops base l (i + 1) (S.store d undef) σ Q := by
  rw [x_pure rfl]; rfl
theorem x_len {as : Array Operand} {ts : Array TypeId} : wpo P ops base (⟨d, .call ⟨.builtin .len, as, ts⟩, ty, pos, af, none⟩ :: l) i S σ Q ↔ ∃ v, acallPure P (ev S) ⟨d, .call ⟨.builtin .len, as, ts⟩, ty, pos, af, none⟩ ⟨.builtin .len, as, ts⟩ = some v ∧ wpo P ops base l (i + 1) (S.store d v) σ Q := by
  rw [x_pure rfl, wanted_none, if_pos rfl]; rfl
theorem g_len {as : Array Operand} {ts : Array TypeId} {j : Nat} {b : Bool} : wpo P ops base (⟨d, .call ⟨.builtin .len, as, ts⟩, ty, pos, af, some (j, b)⟩ :: l) i S σ Q ↔ if wantG ops S j b = true then ∃ v, acallPure P (ev S) ⟨d, .call ⟨.builtin .len, as, ts⟩, ty, pos, af, none⟩ ⟨.builtin .len, as, ts⟩ = some v ∧ wpo P ops base l (i + 1) (S.store d v) σ Q else wpo P ops base l (i + 1) (S.store d undef) σ Q := by
  rw [x_pure rfl]; rfl
theorem x_min {as : Array Operand} {ts : Array TypeId} : wpo P ops base (⟨d, .call ⟨.builtin .min, as, ts⟩, ty, pos, af, none⟩ :: l) i S σ Q ↔ ∃ v, acallPure P (ev S) ⟨d, .call ⟨.builtin .min, as, ts⟩, ty, pos, af, none⟩ ⟨.builtin .min, as, ts⟩ = some v ∧ wpo P ops base l (i + 1) (S.store d v) σ Q := by
  rw [x_pure rfl, wanted_none, if_pos rfl]; rfl
theorem g_min {as : Array Operand} {ts : Array TypeId} {j : Nat} {b : Bool} : wpo P ops base (⟨d, .call ⟨.builtin .min, as, ts⟩, ty, pos, af, some (j, b)⟩ :: l) i S σ Q ↔ if wantG ops S j b = true then ∃ v, acallPure P (ev S) ⟨d, .call ⟨.builtin .min, as, ts⟩, ty, pos, af, none⟩ ⟨.builtin .min, as, ts⟩ = some v ∧ wpo P ops base l (i + 1) (S.store d v) σ Q else wpo P ops base l (i + 1) (S.store d undef) σ Q := by
  rw [x_pure rfl]; rfl
theorem x_max {as : Array Operand} {ts : Array TypeId} : wpo P ops base (⟨d, .call ⟨.builtin .max, as, ts⟩, ty, pos, af, none⟩ :: l) i S σ Q ↔ ∃ v, acallPure P (ev S) ⟨d, .call ⟨.builtin .max, as, ts⟩, ty, pos, af, none⟩ ⟨.builtin .max, as, ts⟩ = some v ∧ wpo P ops base l (i + 1) (S.store d v) σ Q := by
  rw [x_pure rfl, wanted_none, if_pos rfl]; rfl
theorem g_max {as : Array Operand} {ts : Array TypeId} {j : Nat} {b : Bool} : wpo P ops base (⟨d, .call ⟨.builtin .max, as, ts⟩, ty, pos, af, some (j, b)⟩ :: l) i S σ Q ↔ if wantG ops S j b = true then ∃ v, acallPure P (ev S) ⟨d, .call ⟨.builtin .max, as, ts⟩, ty, pos, af, none⟩ ⟨.builtin .max, as, ts⟩ = some v ∧ wpo P ops base l (i + 1) (S.store d v) σ Q else wpo P ops base l (i + 1) (S.store d undef) σ Q := by
  rw [x_pure rfl]; rfl
theorem x_load {t : TypeId} {x : Operand} : wpo P ops base (⟨d, .load t x, ty, pos, af, none⟩ :: l) i S σ Q ↔ ∃ v, aload P σ t (ev S x) = some v ∧ wpo P ops base l (i + 1) (S.store d v) σ Q := by
  rw [x_read rfl, wanted_none, if_pos rfl]; rfl
theorem g_load {t : TypeId} {x : Operand} {j : Nat} {b : Bool} : wpo P ops base (⟨d, .load t x, ty, pos, af, some (j, b)⟩ :: l) i S σ Q ↔ if wantG ops S j b = true then ∃ v, aload P σ t (ev S x) = some v ∧ wpo P ops base l (i + 1) (S.store d v) σ Q else wpo P ops base l (i + 1) (S.store d undef) σ Q := by
  rw [x_read rfl]; rfl
theorem x_lookup {t : TypeId} {x y : Operand} {ok : Bool} : wpo P ops base (⟨d, .lookup t x y ok, ty, pos, af, none⟩ :: l) i S σ Q ↔ ∃ v, alookup P σ t (ev S x) (ev S y) ok = some v ∧ wpo P ops base l (i + 1) (S.store d v) σ Q := by
  rw [x_read rfl, wanted_none, if_pos rfl]; rfl
theorem g_lookup {t : TypeId} {x y : Operand} {ok : Bool} {j : Nat} {b : Bool} : wpo P ops base (⟨d, .lookup t x y ok, ty, pos, af, some (j, b)⟩ :: l) i S σ Q ↔ if wantG ops S j b = true then ∃ v, alookup P σ t (ev S x) (ev S y) ok = some v ∧ wpo P ops base l (i + 1) (S.store d v) σ Q else wpo P ops base l (i + 1) (S.store d undef) σ Q := by
  rw [x_read rfl]; rfl
theorem x_slice {t : TypeId} {x : Operand} {lo hi mx : Option Operand} : wpo P ops base (⟨d, .slice t x lo hi mx, ty, pos, af, none⟩ :: l) i S σ Q ↔ ∃ v, aslice P σ t (ev S x) (lo.map (ev S)) (hi.map (ev S)) (mx.map (ev S)) = some v ∧ wpo P ops base l (i + 1) (S.store d v) σ Q := by
  rw [x_read rfl, wanted_none, if_pos rfl]; rfl
theorem g_slice {t : TypeId} {x : Operand} {lo hi mx : Option Operand} {j : Nat} {b : Bool} : wpo P ops base (⟨d, .slice t x lo hi mx, ty, pos, af, some (j, b)⟩ :: l) i S σ Q ↔ if wantG ops S j b = true then ∃ v, aslice P σ t (ev S x) (lo.map (ev S)) (hi.map (ev S)) (mx.map (ev S)) = some v ∧ wpo P ops base l (i + 1) (S.store d v) σ Q else wpo P ops base l (i + 1) (S.store d undef) σ Q := by
  rw [x_read rfl]; rfl
theorem x_alloc' {t : TypeId} : wpo P ops base (⟨d, .alloc t, ty, pos, af, none⟩ :: l) i S σ Q ↔ ∃ v ob, vAlloc P t (base + i) = some (v, ob) ∧ wpo P ops base l (i + 1) (S.store d v) (σ.put (base + i) ob) Q := by
  rw [x_alloc rfl, wanted_none, if_pos rfl]; rfl
theorem g_alloc' {t : TypeId} {j : Nat} {b : Bool} : wpo P ops base (⟨d, .alloc t, ty, pos, af, some (j, b)⟩ :: l) i S σ Q ↔ if wantG ops S j b = true then ∃ v ob, vAlloc P t (base + i) = some (v, ob) ∧ wpo P ops base l (i + 1) (S.store d v) (σ.put (base + i) ob) Q else wpo P ops base l (i + 1) (S.store d undef) σ Q := by
  rw [x_alloc rfl]; rfl
theorem x_box {t : TypeId} {x : Operand} : wpo P ops base (⟨d, .box t x, ty, pos, af, none⟩ :: l) i S σ Q ↔ ∃ v ob, vBox (ev S x) (base + i) = some (v, ob) ∧ wpo P ops base l (i + 1) (S.store d v) (σ.put (base + i) ob) Q := by
  rw [x_alloc rfl, wanted_none, if_pos rfl]; rfl
theorem g_box {t : TypeId} {x : Operand} {j : Nat} {b : Bool} : wpo P ops base (⟨d, .box t x, ty, pos, af, some (j, b)⟩ :: l) i S σ Q ↔ if wantG ops S j b = true then ∃ v ob, vBox (ev S x) (base + i) = some (v, ob) ∧ wpo P ops base l (i + 1) (S.store d v) (σ.put (base + i) ob) Q else wpo P ops base l (i + 1) (S.store d undef) σ Q := by
  rw [x_alloc rfl]; rfl
theorem x_buildSlice {t : TypeId} {n : Nat} {ps : Array (Nat × Operand)} : wpo P ops base (⟨d, .buildSlice t n ps, ty, pos, af, none⟩ :: l) i S σ Q ↔ ∃ v ob, vBuildS P t n (ps.map fun (i, x) => (i, ev S x)) (base + i) = some (v, ob) ∧ wpo P ops base l (i + 1) (S.store d v) (σ.put (base + i) ob) Q := by
  rw [x_alloc rfl, wanted_none, if_pos rfl]; rfl
theorem g_buildSlice {t : TypeId} {n : Nat} {ps : Array (Nat × Operand)} {j : Nat} {b : Bool} : wpo P ops base (⟨d, .buildSlice t n ps, ty, pos, af, some (j, b)⟩ :: l) i S σ Q ↔ if wantG ops S j b = true then ∃ v ob, vBuildS P t n (ps.map fun (i, x) => (i, ev S x)) (base + i) = some (v, ob) ∧ wpo P ops base l (i + 1) (S.store d v) (σ.put (base + i) ob) Q else wpo P ops base l (i + 1) (S.store d undef) σ Q := by
  rw [x_alloc rfl]; rfl
theorem x_makeSlice {t : TypeId} {x y : Operand} : wpo P ops base (⟨d, .makeSlice t x y, ty, pos, af, none⟩ :: l) i S σ Q ↔ ∃ v ob, vMake P t (ev S x) (ev S y) (base + i) = some (v, ob) ∧ wpo P ops base l (i + 1) (S.store d v) (σ.put (base + i) ob) Q := by
  rw [x_alloc rfl, wanted_none, if_pos rfl]; rfl
theorem g_makeSlice {t : TypeId} {x y : Operand} {j : Nat} {b : Bool} : wpo P ops base (⟨d, .makeSlice t x y, ty, pos, af, some (j, b)⟩ :: l) i S σ Q ↔ if wantG ops S j b = true then ∃ v ob, vMake P t (ev S x) (ev S y) (base + i) = some (v, ob) ∧ wpo P ops base l (i + 1) (S.store d v) (σ.put (base + i) ob) Q else wpo P ops base l (i + 1) (S.store d undef) σ Q := by
  rw [x_alloc rfl]; rfl
theorem x_makeMap {t : TypeId} {x : Option Operand} : wpo P ops base (⟨d, .makeMap t x, ty, pos, af, none⟩ :: l) i S σ Q ↔ ∃ v ob, aalloc P (ev S) ⟨d, .makeMap t x, ty, pos, af, none⟩ (base + i) = some (v, ob) ∧ wpo P ops base l (i + 1) (S.store d v) (σ.put (base + i) ob) Q := by
  rw [x_alloc rfl, wanted_none, if_pos rfl]
theorem g_makeMap {t : TypeId} {x : Option Operand} {j : Nat} {b : Bool} : wpo P ops base (⟨d, .makeMap t x, ty, pos, af, some (j, b)⟩ :: l) i S σ Q ↔ if wantG ops S j b = true then ∃ v ob, aalloc P (ev S) ⟨d, .makeMap t x, ty, pos, af, none⟩ (base + i) = some (v, ob) ∧ wpo P ops base l (i + 1) (S.store d v) (σ.put (base + i) ob) Q else wpo P ops base l (i + 1) (S.store d undef) σ Q := by
  rw [x_alloc rfl]; rfl

theorem x_eff {op : Op} {g : Option (Nat × Bool)} {r : Option (Value × St)} (hk : kindOf ⟨d, op, ty, pos, af, g⟩ = .eff) (hv : ∀ c, aeff P c σ (ev S) ⟨d, op, ty, pos, af, g⟩ (base + i) = r) : wpo P ops base (⟨d, op, ty, pos, af, g⟩ :: l) i S σ Q ↔
    if wanted ops S ⟨d, op, ty, pos, af, g⟩ = true then ∃ v σ1, r = some (v, σ1) ∧ wpo P ops base l (i + 1) (S.store d v) σ1 Q else wpo P ops base l (i + 1) (S.store d undef) σ Q := by
  constructor
  · rintro ⟨n, S', σ', h1, h2⟩
    rw [runOps_cons] at h1
    split
    · rename_i hw
      rw [if_pos hw] at h1
      simp only [aop, hk, hv] at h1
      cases hr : r with
      | none => simp [hr] at h1
      | some v => obtain ⟨v, σ1⟩ := v; simp only [hr, Option.bind_some] at h1; exact ⟨v, σ1, rfl, n, S', σ', h1, h2⟩
    · rename_i hw
      rw [if_neg hw] at h1
      exact ⟨n, S', σ', h1, h2⟩
  · intro h
    split at h
    · rename_i hw; obtain ⟨v, σ1, h1, h2⟩ := h; exact wpo_eff hw hk (fun c => (hv c).trans h1) h2
    · rename_i hw; exact wpo_skip (by simpa using hw) h

theorem x_callG {op : Op} {g : Option (Nat × Bool)} {c : Call} (hop : op = .call c) (hk : kindOf ⟨d, op, ty, pos, af, g⟩ = .eff) (hb : ∀ b, c.callee ≠ .builtin b) : wpo P ops base (⟨d, op, ty, pos, af, g⟩ :: l) i S σ Q ↔
    if wanted ops S ⟨d, op, ty, pos, af, g⟩ = true then ∃ f args, acallee (ev S) c = some (f, args) ∧ wpc P f args σ fun v σ1 => wpo P ops base l (i + 1) (S.store d v) σ1 Q else wpo P ops base l (i + 1) (S.store d undef) σ Q := by
  have hv : ∀ k : CallT, aeff P k σ (ev S) ⟨d, op, ty, pos, af, g⟩ (base + i) = match acallee (ev S) c with | some (f, args) => k f args σ | none => none := by
    intro k
    subst hop
    unfold aeff
    simp only
    cases hc : c.callee with
    | builtin b => exact absurd hc (hb b)
    | value f => rfl
    | invoke f m => rfl
  constructor
  · rintro ⟨n, S', σ', h1, h2⟩
    rw [runOps_cons] at h1
    split
    · rename_i hw
      rw [if_pos hw] at h1
      simp only [aop, hk, hv] at h1
      cases hr : acallee (ev S) c with
      | none => simp [hr] at h1
      | some v =>
        obtain ⟨f, args⟩ := v
        simp only [hr] at h1
        cases hx : callF P n n f args σ with
        | none => simp [hx] at h1
        | some x => obtain ⟨r, σ1⟩ := x; simp only [hx, Option.bind_some] at h1; exact ⟨f, args, rfl, n, r, σ1, hx, n, S', σ', h1, h2⟩
    · rename_i hw
      rw [if_neg hw] at h1
      exact ⟨n, S', σ', h1, h2⟩
  · intro h
    split at h
    · rename_i hw; obtain ⟨f, args, h1, h2⟩ := h; exact wpo_call hw hk (fun k => by rw [hv, h1]) h2
    · rename_i hw; exact wpo_skip (by simpa using hw) h

theorem map_undef {r : Option St} {Z : Value → St → Prop} : (∃ v σ1, r.map (fun σ' => (undef, σ')) = some (v, σ1) ∧ Z v σ1) ↔ ∃ σ1, r = some σ1 ∧ Z undef σ1 := by
  cases r with
  | none => simp
  | some s => simp only [Option.map_some, Option.some.injEq, Prod.mk.injEq]; exact ⟨fun ⟨v, σ1, ⟨h1, h2⟩, h⟩ => ⟨σ1, h2, by rw [h1]; exact h⟩, fun ⟨σ1, h1, h⟩ => ⟨_, σ1, ⟨rfl, h1⟩, h⟩⟩
theorem x_store {t : TypeId} {x y : Operand} : wpo P ops base (⟨d, .store t x y, ty, pos, af, none⟩ :: l) i S σ Q ↔ ∃ σ1, astore P σ t (ev S x) (ev S y) = some σ1 ∧ wpo P ops base l (i + 1) (S.store d undef) σ1 Q := by
  rw [x_eff (r := (astore P σ t (ev S x) (ev S y)).map fun σ' => (undef, σ')) rfl (fun _ => rfl), wanted_none, if_pos rfl, map_undef]
theorem g_store {t : TypeId} {x y : Operand} {j : Nat} {b : Bool} : wpo P ops base (⟨d, .store t x y, ty, pos, af, some (j, b)⟩ :: l) i S σ Q ↔ if wantG ops S j b = true then ∃ σ1, astore P σ t (ev S x) (ev S y) = some σ1 ∧ wpo P ops base l (i + 1) (S.store d undef) σ1 Q else wpo P ops base l (i + 1) (S.store d undef) σ Q := by
  rw [x_eff (r := (astore P σ t (ev S x) (ev S y)).map fun σ' => (undef, σ')) rfl (fun _ => rfl), map_undef]; rfl
theorem x_mapUpdate {t : TypeId} {x y z : Operand} : wpo P ops base (⟨d, .mapUpdate t x y z, ty, pos, af, none⟩ :: l) i S σ Q ↔ ∃ σ1, amapUpdate P σ t (ev S x) (ev S y) (ev S z) = some σ1 ∧ wpo P ops base l (i + 1) (S.store d undef) σ1 Q := by
  rw [x_eff (r := (amapUpdate P σ t (ev S x) (ev S y) (ev S z)).map fun σ' => (undef, σ')) rfl (fun _ => rfl), wanted_none, if_pos rfl, map_undef]
theorem g_mapUpdate {t : TypeId} {x y z : Operand} {j : Nat} {b : Bool} : wpo P ops base (⟨d, .mapUpdate t x y z, ty, pos, af, some (j, b)⟩ :: l) i S σ Q ↔ if wantG ops S j b = true then ∃ σ1, amapUpdate P σ t (ev S x) (ev S y) (ev S z) = some σ1 ∧ wpo P ops base l (i + 1) (S.store d undef) σ1 Q else wpo P ops base l (i + 1) (S.store d undef) σ Q := by
  rw [x_eff (r := (amapUpdate P σ t (ev S x) (ev S y) (ev S z)).map fun σ' => (undef, σ')) rfl (fun _ => rfl), map_undef]; rfl
theorem x_insert {t : TypeId} {x y z : Operand} : wpo P ops base (⟨d, .insert t x y z, ty, pos, af, none⟩ :: l) i S σ Q ↔ ∃ σ1, amapUpdate P σ t (ev S x) (ev S y) (ev S z) = some σ1 ∧ wpo P ops base l (i + 1) (S.store d undef) σ1 Q := by
  rw [x_eff (r := (amapUpdate P σ t (ev S x) (ev S y) (ev S z)).map fun σ' => (undef, σ')) rfl (fun _ => rfl), wanted_none, if_pos rfl, map_undef]
theorem g_insert {t : TypeId} {x y z : Operand} {j : Nat} {b : Bool} : wpo P ops base (⟨d, .insert t x y z, ty, pos, af, some (j, b)⟩ :: l) i S σ Q ↔ if wantG ops S j b = true then ∃ σ1, amapUpdate P σ t (ev S x) (ev S y) (ev S z) = some σ1 ∧ wpo P ops base l (i + 1) (S.store d undef) σ1 Q else wpo P ops base l (i + 1) (S.store d undef) σ Q := by
  rw [x_eff (r := (amapUpdate P σ t (ev S x) (ev S y) (ev S z)).map fun σ' => (undef, σ')) rfl (fun _ => rfl), map_undef]; rfl
theorem x_append {x y : Operand} {ts : Array TypeId} : wpo P ops base (⟨d, .call ⟨.builtin .append, #[x, y], ts⟩, ty, pos, af, none⟩ :: l) i S σ Q ↔ ∃ v σ1, aappend P σ (base + i) ⟨.builtin .append, #[x, y], ts⟩ (ev S x) (ev S y) = some (v, σ1) ∧ wpo P ops base l (i + 1) (S.store d v) σ1 Q := by
  rw [x_eff (r := aappend P σ (base + i) ⟨.builtin .append, #[x, y], ts⟩ (ev S x) (ev S y)) rfl (fun _ => rfl), wanted_none, if_pos rfl]
theorem g_append {x y : Operand} {ts : Array TypeId} {j : Nat} {b : Bool} : wpo P ops base (⟨d, .call ⟨.builtin .append, #[x, y], ts⟩, ty, pos, af, some (j, b)⟩ :: l) i S σ Q ↔ if wantG ops S j b = true then ∃ v σ1, aappend P σ (base + i) ⟨.builtin .append, #[x, y], ts⟩ (ev S x) (ev S y) = some (v, σ1) ∧ wpo P ops base l (i + 1) (S.store d v) σ1 Q else wpo P ops base l (i + 1) (S.store d undef) σ Q := by
  rw [x_eff (r := aappend P σ (base + i) ⟨.builtin .append, #[x, y], ts⟩ (ev S x) (ev S y)) rfl (fun _ => rfl)]; rfl
theorem x_call {f : Operand} {as : Array Operand} {ts : Array TypeId} : wpo P ops base (⟨d, .call ⟨.value f, as, ts⟩, ty, pos, af, none⟩ :: l) i S σ Q ↔ ∃ g args, acallee (ev S) ⟨.value f, as, ts⟩ = some (g, args) ∧ wpc P g args σ fun v σ1 => wpo P ops base l (i + 1) (S.store d v) σ1 Q := by
  rw [x_callG rfl rfl (fun b h => by cases h), wanted_none, if_pos rfl]
theorem g_call {f : Operand} {as : Array Operand} {ts : Array TypeId} {j : Nat} {b : Bool} : wpo P ops base (⟨d, .call ⟨.value f, as, ts⟩, ty, pos, af, some (j, b)⟩ :: l) i S σ Q ↔ if wantG ops S j b = true then ∃ g args, acallee (ev S) ⟨.value f, as, ts⟩ = some (g, args) ∧ wpc P g args σ fun v σ1 => wpo P ops base l (i + 1) (S.store d v) σ1 Q else wpo P ops base l (i + 1) (S.store d undef) σ Q := by
  rw [x_callG rfl rfl (fun b h => by cases h)]; rfl

theorem row_put (σ : St) (id k : Nat) (cs : List Value) (m : Mta) : (σ.put id (.cells cs m)).row k = if k = id then (if σ.good m = true then some (cs, m) else none) else σ.row k := by
  unfold St.row
  rw [St.get_put]
  by_cases e : k = id
  · simp only [if_pos e, St.good_put]; cases σ.good m <;> rfl
  · simp only [if_neg e]; rfl
theorem row_next (σ : St) (n k : Nat) : ({ σ with next := n } : St).row k = σ.row k := rfl
theorem next_put (σ : St) (id : Nat) (o : AObj) : (σ.put id o).next = σ.next := rfl
theorem good_box (σ : St) : σ.good boxMeta = true := rfl
theorem good_row (σ : St) (z : Nat) : σ.good (rowMeta z) = true := rfl
theorem next_lit (mem : Tr AObj) (vers : Tr Nat) (n : Nat) : (St.mk mem vers n).next = n := rfl

theorem load_one {σ : St} {t : TypeId} {id off : Nat} {cs : List Value} {m : Mta} {v : Value} (ht : aggOf P t = some false) (hr : σ.row id = some (cs, m)) (hc : cs[off]? = some v) : aload P σ t (.pointer (some ⟨id, off, none⟩)) = some v := by
  simp only [aload, hr, ht, hc]
theorem load_agg {σ : St} {t : TypeId} {id off n : Nat} {cs l : List Value} {m : Mta} (ht : aggOf P t = some true) (hs : szOf P t = some n) (hr : σ.row id = some (cs, m)) (hc : cut cs off n = some l) : aload P σ t (.pointer (some ⟨id, off, none⟩)) = some (.agg l.toArray) := by
  simp only [aload, hr, ht, hs, hc, Option.map_some]
end
end Go.AI
