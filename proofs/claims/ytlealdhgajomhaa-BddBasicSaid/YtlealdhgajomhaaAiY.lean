/- Rules by which simp runs the abstract machine: control, numbers, memory. -/
import Derived.Test.YtlealdhgajomhaaAiX
import Derived.IntWalk
namespace Go.AI
set_option linter.unusedVariables false
set_option linter.unusedSimpArgs false

section
variable {P : Program} {S : Slots} {σ : St} {Q : Fl → Slots → St → Prop}

/-! ### control -/
/-- so many ids are spoken for -/
def St.more (σ : St) (n : Nat) : St := { σ with next := σ.next + n }
theorem row_more {n k : Nat} : (σ.more n).row k = σ.row k := rfl
theorem get_more {n k : Nat} : (σ.more n).get k = σ.get k := rfl
theorem next_more {n : Nat} : (σ.more n).next = σ.next + n := rfl
theorem good_more {n : Nat} {m : Mta} : (σ.more n).good m = σ.good m := rfl
theorem ver_more {n g : Nat} : (σ.more n).ver g = σ.ver g := rfl
def done (P : Program) (rs : List ResultVar) (Q : Value → St → Prop) : Fl → Slots → St → Prop
  | .exit _, _, _ => False
  | _, S, σ => ∃ vs, resultsOf P S σ rs = some vs ∧ Q (answer vs) σ

theorem body_go {f : FuncId} {fn : Func} {c : Code} {args : Array Value} {Q : Value → St → Prop} (hf : P.funcs[f]? = some fn) (hb : fn.body = some c)
    (h : wpx P c (fillS args.toList 0 .nil) σ (done P fn.results.toList Q)) : wpc P f args σ Q := by
  refine wpc_body hf hb (wpx_mono h fun fl S' σ' hd => ?_)
  cases fl with
  | exit k => exact hd.elim
  | normal => exact ⟨trivial, hd⟩
  | ret => exact ⟨trivial, hd⟩

theorem c_seq {a b : Code} : wpx P (.seq a b) S σ Q ↔ wpx P a S σ (thenx P b Q) := by
  refine ⟨fun h => ?_, wpx_seq⟩
  obtain ⟨n, fl, S', σ', h1, h2⟩ := h
  simp only [exec] at h1
  cases ha : exec P (callF P n n) n a S σ with
  | none => simp [ha] at h1
  | some x =>
    obtain ⟨f1, S1, σ1⟩ := x
    simp only [ha] at h1
    cases f1 with
    | normal => exact ⟨n, .normal, S1, σ1, ha, n, fl, S', σ', h1, h2⟩
    | exit k => cases h1; exact ⟨n, _, _, _, ha, h2⟩
    | ret => cases h1; exact ⟨n, _, _, _, ha, h2⟩
theorem c_skip : wpx P .skip S σ Q ↔ Q .normal S σ := ⟨fun ⟨_, _, _, _, h1, h2⟩ => by cases h1; exact h2, wpx_skip⟩
theorem c_label {l : Nat} : wpx P (.label l) S σ Q ↔ Q .normal S σ := ⟨fun ⟨_, _, _, _, h1, h2⟩ => by cases h1; exact h2, wpx_label⟩
theorem c_exit {k : Nat} : wpx P (.exit k) S σ Q ↔ Q (.exit k) S σ := ⟨fun ⟨_, _, _, _, h1, h2⟩ => by cases h1; exact h2, wpx_exit⟩
theorem c_ret : wpx P .ret S σ Q ↔ Q .ret S σ := ⟨fun ⟨_, _, _, _, h1, h2⟩ => by cases h1; exact h2, wpx_ret⟩
theorem c_scope {c : Code} : wpx P (.scope c) S σ Q ↔ wpx P c S σ Q := Iff.rfl
theorem c_block {id : Nat} {c : Code} : wpx P (.block id c) S σ Q ↔ wpx P c S σ (inBlockx id Q) := by
  refine ⟨fun h => ?_, wpx_block⟩
  obtain ⟨n, fl, S', σ', h1, h2⟩ := h
  simp only [exec] at h1
  cases ha : exec P (callF P n n) n c S σ with
  | none => simp [ha] at h1
  | some x =>
    obtain ⟨f1, S1, σ1⟩ := x
    simp only [ha] at h1
    cases f1 with
    | normal => cases h1; exact ⟨n, _, _, _, ha, h2⟩
    | ret => cases h1; exact ⟨n, _, _, _, ha, h2⟩
    | exit k =>
      refine ⟨n, _, _, _, ha, ?_⟩
      simp only [nbeq, Bool.cond_decide] at h1
      simp only [inBlockx]
      split at h1 <;> cases h1
      · rename_i e; rw [if_pos e]; exact h2
      · rename_i e; rw [if_neg e]; exact h2
/-- the branch that a bool takes -/
def cnd (P : Program) (v : Value) (a b : Code) (S : Slots) (σ : St) (Q : Fl → Slots → St → Prop) : Prop :=
  match v with
  | .bool t => if t = true then wpx P a S σ Q else wpx P b S σ Q
  | _ => False
theorem c_cond {x : Operand} {a b : Code} : wpx P (.cond x a b) S σ Q ↔ cnd P (ev S x) a b S σ Q := by
  constructor
  · rintro ⟨n, fl, S', σ', h1, h2⟩
    simp only [exec] at h1
    unfold cnd
    split at h1
    · rename_i e; rw [e]; simp only [if_true]; exact ⟨n, fl, S', σ', h1, h2⟩
    · rename_i e; rw [e]; exact ⟨n, fl, S', σ', h1, h2⟩
    · cases h1
  · intro h
    unfold cnd at h
    split at h
    · rename_i t e
      split at h
      · rename_i ht; subst ht; exact wpx_cond_t e h
      · rename_i ht; exact wpx_cond_f (by rw [e]; simpa using ht) h
    · exact h.elim
theorem cnd_bool {t : Bool} {a b : Code} : cnd P (.bool t) a b S σ Q ↔ if t = true then wpx P a S σ Q else wpx P b S σ Q := Iff.rfl
theorem c_text {id : Nat} {ops : Array Oper} : wpx P (.region id ops false) S σ Q ↔ wpo P ops σ.next ops.toList 0 S (σ.more ops.size) (Q .normal) := by
  constructor
  · rintro ⟨n, fl, S', σ', h1, h2⟩
    simp only [exec, Option.map_eq_some_iff] at h1
    obtain ⟨⟨S1, σ1⟩, h1, e⟩ := h1
    cases e
    exact ⟨n, S1, σ1, h1, h2⟩
  · exact fun h => wpx_region (wpr_text h)
theorem t_n {c : Code} : thenx P c Q .normal S σ ↔ wpx P c S σ Q := Iff.rfl
theorem t_e {c : Code} {k : Nat} : thenx P c Q (.exit k) S σ ↔ Q (.exit k) S σ := Iff.rfl
theorem t_r {c : Code} : thenx P c Q .ret S σ ↔ Q .ret S σ := Iff.rfl
theorem b_n {id : Nat} : inBlockx id Q .normal S σ ↔ Q .normal S σ := Iff.rfl
theorem b_r {id : Nat} : inBlockx id Q .ret S σ ↔ Q .ret S σ := Iff.rfl
theorem b_e {id k : Nat} : inBlockx id Q (.exit k) S σ ↔ if k = id then Q .normal S σ else Q (.exit k) S σ := Iff.rfl
theorem d_n {rs : List ResultVar} {R : Value → St → Prop} : done P rs R .normal S σ ↔ ∃ vs, resultsOf P S σ rs = some vs ∧ R (answer vs) σ := Iff.rfl
theorem d_r {rs : List ResultVar} {R : Value → St → Prop} : done P rs R .ret S σ ↔ ∃ vs, resultsOf P S σ rs = some vs ∧ R (answer vs) σ := Iff.rfl
theorem res_nil : resultsOf P S σ [] = some [] := rfl
theorem res_tmp {t : Tmp} {rs : List ResultVar} : resultsOf P S σ (.tmp t :: rs) = (resultsOf P S σ rs).map (S.at t :: ·) := by
  simp only [resultsOf, result]; cases resultsOf P S σ rs <;> rfl
theorem res_cell {a : Tmp} {t : TypeId} {rs : List ResultVar} : resultsOf P S σ (.cell a t :: rs) = (aload P σ t (S.at a)).bind fun v => (resultsOf P S σ rs).map (v :: ·) := by
  simp only [resultsOf, result]; cases aload P σ t (S.at a) <;> cases resultsOf P S σ rs <;> rfl
theorem ans1 {v : Value} : answer [v] = v := rfl
theorem ans2 {v u : Value} : answer [v, u] = .tuple #[v, u] := rfl
theorem ans0 : answer [] = .tuple #[] := rfl

/-- what stands behind a call -/
def cont (P : Program) (ops : Array Oper) (base : Nat) (l : List Oper) (i : Nat) (S : Slots) (d : Option Tmp) (Q : Slots → St → Prop) : Value → St → Prop := fun v σ1 => wpo P ops base l i (S.store d v) σ1 Q

section
variable {ops : Array Oper} {base i : Nat} {l : List Oper} {K : Slots → St → Prop} {d : Option Tmp} {ty : TypeId} {pos : String} {af : Array Edge}
theorem k_call {f : Operand} {as : Array Operand} {ts : Array TypeId} : wpo P ops base (⟨d, .call ⟨.value f, as, ts⟩, ty, pos, af, none⟩ :: l) i S σ K ↔ ∃ g args, acallee (ev S) ⟨.value f, as, ts⟩ = some (g, args) ∧ wpc P g args σ (cont P ops base l (i + 1) S d K) := x_call
theorem k_cont {v : Value} {σ1 : St} : cont P ops base l i S d K v σ1 ↔ wpo P ops base l i (S.store d v) σ1 K := Iff.rfl
theorem callee_fn {S : Slots} {g : FuncId} {as : Array Operand} {ts : Array TypeId} : acallee (ev S) ⟨.value (.func g), as, ts⟩ = some (g, as.map (ev S)) := by
  simp [acallee, ev]
theorem callee_tmp {S : Slots} {t : Tmp} {as : Array Operand} {ts : Array TypeId} {g : FuncId} {first captured : Array Value} (h : S.at t = .func (.func g) first captured) :
    acallee (ev S) ⟨.value (.tmp t), as, ts⟩ = some (g, first ++ as.map (ev S) ++ captured) := by
  simp [acallee, ev, h]
theorem goG {j : Nat} {b : Bool} {dj : Tmp} {t : Bool} (h1 : ops[j]?.bind (·.dst) = some dj) (h2 : S.at dj = .bool t) : wantG ops S j b = (t == b) := by
  simp [wantG, h1, h2]
end

/-! ### numbers -/
section
variable {t : TypeId} {x y : Operand} {k : IntKind} {a b : Int}
theorem n_lss : abin P .lss t x y (.int k a) (.int k b) = some (.bool (decide (a < b))) := by cases k <;> rfl
theorem n_leq : abin P .leq t x y (.int k a) (.int k b) = some (.bool (decide (a ≤ b))) := by cases k <;> rfl
theorem n_gtr : abin P .gtr t x y (.int k a) (.int k b) = some (.bool (decide (b < a))) := by cases k <;> rfl
theorem n_geq : abin P .geq t x y (.int k a) (.int k b) = some (.bool (decide (b ≤ a))) := by cases k <;> rfl
theorem n_eql : abin P .eql t x y (.int k a) (.int k b) = some (.bool (a == b)) := by cases k <;> rfl
theorem n_neq : abin P .neq t x y (.int k a) (.int k b) = some (.bool (a != b)) := by cases k <;> rfl
theorem n_add : abin P .add t x y (.int k a) (.int k b) = some (.int k (k.wrap (a + b))) := by cases k <;> rfl
theorem n_sub : abin P .sub t x y (.int k a) (.int k b) = some (.int k (k.wrap (a - b))) := by cases k <;> rfl
theorem n_mul : abin P .mul t x y (.int k a) (.int k b) = some (.int k (k.wrap (a * b))) := by cases k <;> rfl
theorem n_quo (h : b ≠ 0) : abin P .quo t x y (.int k a) (.int k b) = some (.int k (k.wrap (a.tdiv b))) := by
  cases k <;> simp [abin, plain1, plain0, stillP, still_bind, eqGuard, binOp, Op.intDiv, h, still_pure]
theorem n_rem (h : b ≠ 0) : abin P .rem t x y (.int k a) (.int k b) = some (.int k (a.tmod b)) := by
  cases k <;> simp [abin, plain1, plain0, stillP, still_bind, eqGuard, binOp, Op.intDiv, h, still_pure]
theorem n_shl {k' : IntKind} (h : 0 ≤ b) : abin P .shl t x y (.int k a) (.int k' b) = some (.int k (k.wrap (a * 2 ^ (min b.toNat k.bits)))) := by
  have : ¬ b < 0 := by omega
  cases k <;> simp [abin, plain1, plain0, stillP, still_bind, eqGuard, binOp, Op.shift, this, still_pure]
theorem n_shr {k' : IntKind} (h : 0 ≤ b) : abin P .shr t x y (.int k a) (.int k' b) = some (.int k (a.fdiv (2 ^ (min b.toNat k.bits)))) := by
  have : ¬ b < 0 := by omega
  cases k <;> simp [abin, plain1, plain0, stillP, still_bind, eqGuard, binOp, Op.shift, this, still_pure]
theorem n_and : abin P .and t x y (.int k a) (.int k b) = some (.int k (k.wrap ((BitVec.ofInt k.bits a &&& BitVec.ofInt k.bits b).toNat : Int))) := by cases k <;> rfl
theorem n_or : abin P .or t x y (.int k a) (.int k b) = some (.int k (k.wrap ((BitVec.ofInt k.bits a ||| BitVec.ofInt k.bits b).toNat : Int))) := by cases k <;> rfl
theorem n_xor : abin P .xor t x y (.int k a) (.int k b) = some (.int k (k.wrap ((BitVec.ofInt k.bits a ^^^ BitVec.ofInt k.bits b).toNat : Int))) := by cases k <;> rfl
theorem n_andNot : abin P .andNot t x y (.int k a) (.int k b) = some (.int k (k.wrap ((BitVec.ofInt k.bits a &&& ~~~ BitVec.ofInt k.bits b).toNat : Int))) := by cases k <;> rfl
theorem n_not {c : Bool} : aun P .not (.bool c) = some (.bool (!c)) := rfl
theorem p_t {u v : Value} : apick (.bool true) u v = some u := rfl
theorem p_f {u v : Value} : apick (.bool false) u v = some v := rfl
theorem p_b {c : Bool} {u v : Value} : apick (.bool c) u v = some (if c = true then u else v) := by cases c <;> rfl
theorem p_bb {c u v : Bool} : apick (.bool c) (.bool u) (.bool v) = some (.bool (if c = true then u else v)) := by cases c <;> rfl
theorem eq_bool {c e : Bool} (ht : P.underlying t = some .bool) : still P (Op.equal t (.bool c) (.bool e)) = some (c == e) := by
  unfold Op.equal
  rw [show Op.maxDepth = Nat.succ 9999 from rfl, Op.equalIn.eq_2, still_bind, still_underlying, ht]; rfl
theorem n_eqb {c e : Bool} (ht : P.underlying t = some .bool) : abin P .eql t x y (.bool c) (.bool e) = some (.bool (c == e)) := by
  simp only [abin, plain1, plain0, Bool.and_self, cond_true, stillP, still_bind, eqGuard, Bool.not_true, Bool.false_eq_true, if_false, still_pure, Option.bind_some, binOp, eq_bool ht]
theorem n_neb {c e : Bool} (ht : P.underlying t = some .bool) : abin P .neq t x y (.bool c) (.bool e) = some (.bool (!(c == e))) := by
  simp only [abin, plain1, plain0, Bool.and_self, cond_true, stillP, still_bind, eqGuard, Bool.not_true, Bool.false_eq_true, if_false, still_pure, Option.bind_some, binOp, eq_bool ht]
theorem n_conv {s : TypeId} {d : TypeDesc} {k' : IntKind} (hs : P.underlying s = some d) (ht : P.underlying t = some (.int k')) : aconv P s t (.int k a) = some (.int k' (k'.wrap a)) := by
  unfold aconv
  simp only [plain0, cond_true, stillP, convert, still_bind, still_underlying, hs, ht, Option.bind_some, Conv.intToInt, still_pure, plain1]
theorem nc_some {a0 : Addr} : anilCheck (.pointer (some a0)) = some (.pointer (some a0)) := rfl
theorem ex_tup {vs : Array Value} {i : Nat} : aextract (.tuple vs) i = vs[i]? := rfl
theorem l_slice {e : TypeId} {o : Oper} {xo : Operand} {a0 : Option Addr} {n c : Nat} (ht : P.underlying t = some (.slice e)) (hx : ev S xo = .slice a0 n c) : acallPure P (ev S) o ⟨.builtin .len, #[xo], #[t]⟩ = some (.int .i64 n) := by
  simp [acallPure, alen, ht, hx, goInt]
end

/-! ### memory -/
theorem fa {s : TypeId} {fs : Array Field} {f : Nat} {fd : Field} {n id off : Nat} (hs : P.underlying s = some (.struct fs)) (hf : fs[f]? = some fd) (hn : szOf P fd.type = some n) (h0 : n ≠ 0) :
    afieldAddr P s (.pointer (some ⟨id, off, none⟩)) f = some (.pointer (some ⟨id, off + fd.offset, none⟩)) := by
  simp [afieldAddr, hs, hf, hn, nbeq, h0]
theorem ia {t e : TypeId} {z id off len c : Nat} {k : IntKind} {n : Int} (ht : P.underlying t = some (.slice e)) (hz : szOf P e = some z) (h0 : 0 ≤ n) (h1 : n < (len : Int)) :
    aindexAddr P t (.slice (some ⟨id, off, none⟩) len c) (.int k n) = some (.pointer (some ⟨id, off + n.toNat * z, none⟩)) := by
  simp [aindexAddr, ht, hz, inRange, h0, h1]

/-- a store into a row -/
def stw (σ : St) (id off n : Nat) (x : Value) (cs : List Value) (m : Mta) : Option St :=
  bif m.wr && Nat.beq x.cells.size n && Nat.ble (off + n) cs.length && x.cells.toList.all one then
    match m.grp with
    | none => some (σ.put id (.cells (putAt cs off x.cells.toList) m))
    | some (g, v) => some ((σ.put id (.cells (putAt cs off x.cells.toList) { m with grp := some (g, v + 1) })).bump g (v + 1))
  else none
theorem st_eq {t : TypeId} {n id off : Nat} {x : Value} (ht : szOf P t = some n) : astore P σ t (.pointer (some ⟨id, off, none⟩)) x = (σ.row id).bind fun r => stw σ id off n x r.1 r.2 := by
  simp only [astore, ht]; cases σ.row id <;> rfl
theorem stw_go {id off n : Nat} {x : Value} {cs : List Value} {m : Mta} (hw : m.wr = true) (hg : m.grp = none) : stw σ id off n x cs m = if x.cells.size = n ∧ off + n ≤ cs.length ∧ x.cells.toList.all one = true then some (σ.put id (.cells (putAt cs off x.cells.toList) m)) else none := by
  unfold stw
  rw [hw, hg, nbeq, nble, Bool.true_and]
  by_cases h1 : x.cells.size = n
  · by_cases h2 : off + n ≤ cs.length
    · cases h3 : x.cells.toList.all one with
      | true => rw [if_pos ⟨h1, h2, rfl⟩]; simp [h1, h2]
      | false => rw [if_neg (fun h => by cases h.2.2)]; simp
    · rw [if_neg (fun h => h2 h.2.1)]; simp [h2]
  · rw [if_neg (fun h => h1 h.1)]; simp [h1]
theorem stw_box {id off n : Nat} {x : Value} {cs : List Value} : stw σ id off n x cs boxMeta = if x.cells.size = n ∧ off + n ≤ cs.length ∧ x.cells.toList.all one = true then some (σ.put id (.cells (putAt cs off x.cells.toList) boxMeta)) else none := stw_go rfl rfl
theorem stw_row {id off n z : Nat} {x : Value} {cs : List Value} : stw σ id off n x cs (rowMeta z) = if x.cells.size = n ∧ off + n ≤ cs.length ∧ x.cells.toList.all one = true then some (σ.put id (.cells (putAt cs off x.cells.toList) (rowMeta z))) else none := stw_go rfl rfl

/-- what an element type is -/
def infoOf (P : Program) (e : TypeId) : Option (Nat × Nat × Value) := (P.info? e).bind fun i => i.zero.map fun v => (i.size, i.bytes, v)
theorem infoOf_some {e : TypeId} {z b : Nat} {v : Value} (h : infoOf P e = some (z, b, v)) : ∃ i, P.info? e = some i ∧ i.size = z ∧ i.bytes = b ∧ i.zero = some v := by
  unfold infoOf at h
  rw [Option.bind_eq_some_iff] at h
  obtain ⟨i, h1, h2⟩ := h
  rw [Option.map_eq_some_iff] at h2
  obtain ⟨u, h3, h4⟩ := h2
  cases h4
  exact ⟨i, h1, rfl, rfl, h3⟩

theorem app_eq {t e : TypeId} {z b : Nat} {zv : Value} {u : TypeDesc} {t1 : TypeId} {id' : Nat} {as : Array Operand} {s x : Value} {n : Nat} {xs : List Value} (ht : P.underlying t = some (.slice e)) (hu : P.underlying t1 = some u) (hi : infoOf P e = some (z, b, zv))
    (hf : fits u x = true) (hs : aSource σ z x = some (n, xs)) (h1 : xs.all one = true) (hz : 1 ≤ z) (hb : 1 ≤ b) (hzv : zv.cells.size = z) (hsl : isSlice s = true) (hn : n ≠ 0) :
    aappend P σ id' ⟨.builtin .append, as, #[t, t1]⟩ s x = agrow σ id' z b n xs s := by
  obtain ⟨i, e1, e2, e3, e4⟩ := infoOf_some hi
  subst e2; subst e3
  simp [aappend, ht, hu, hf, e1, hs, e4, h1, nble, hz, hb, nbeq, hzv, hsl, hn]

theorem mk_eq {t e : TypeId} {z b id : Nat} {zv : Value} {n : Nat} (ht : P.underlying t = some (.slice e)) (hi : infoOf P e = some (z, b, zv))
    (hb : n * b ≤ 1073741824) (hn : n ≤ 1073741824) (hp : zv.cells.toList.all plain0 = true) (hzv : zv.cells.size = z) (hz : 1 ≤ z) :
    vMake P t (.int .i64 n) (.int .i64 n) id = some (.slice (some ⟨id, 0, none⟩) n n, .cells (zerosOf zv.cells.toList n) (rowMeta z)) := by
  obtain ⟨i, e1, e2, e3, e4⟩ := infoOf_some hi
  subst e2; subst e3
  have h' : ((n * i.bytes : Nat) : Int) ≤ ((1073741824 : Nat) : Int) := Int.ofNat_le.2 hb
  rw [Int.natCast_mul] at h'
  simp only [vMake, ht, e1, e4]
  have hc : (decide (0 ≤ (n : Int)) && decide ((n : Int) ≤ (n : Int)) && decide ((n : Int) * (i.bytes : Int) ≤ 1073741824) && decide ((n : Int) ≤ 1073741824) && zv.cells.toList.all plain0 && Nat.beq zv.cells.size i.size && Nat.ble 1 i.size) = true := by
    simp only [Bool.and_eq_true, decide_eq_true_eq, nble, nbeq]
    exact ⟨⟨⟨⟨⟨⟨by omega, Int.le_refl _⟩, h'⟩, by omega⟩, hp⟩, hzv⟩, hz⟩
  rw [hc]
  simp

theorem cut_go {cs : List Value} {off n : Nat} (h : off + n ≤ cs.length) : cut cs off n = some ((cs.drop off).take n) := by
  unfold cut
  have : ((cs.drop off).take n).length = n := by simp; omega
  simp [this, nbeq]

/-! ### what is kept -/
/-- no group is named by an id that is not there yet -/
def Fr (σ : St) : Prop := ∀ g, σ.next ≤ g → σ.ver g = 0
/-- what was there ahead of 'n' is there still -/
structure EXn (n : Nat) (σ σ' : St) : Prop where
  next : σ.next ≤ σ'.next
  get : ∀ id, id < n → σ'.get id = σ.get id
  row : ∀ id, id < n → σ'.row id = σ.row id
  fr : Fr σ → Fr σ'
  ver : ∀ g, g < n → σ'.ver g = σ.ver g
theorem EXn.refl (n : Nat) (σ : St) : EXn n σ σ := ⟨Nat.le_refl _, fun _ _ => rfl, fun _ _ => rfl, id, fun _ _ => rfl⟩
theorem EXn.trans {n : Nat} {a b c : St} (h : EXn n a b) (k : EXn n b c) : EXn n a c := ⟨Nat.le_trans h.next k.next, fun id hi => (k.get id hi).trans (h.get id hi), fun id hi => (k.row id hi).trans (h.row id hi), fun hf => k.fr (h.fr hf), fun g hg => (k.ver g hg).trans (h.ver g hg)⟩
theorem EXn.weak {n m : Nat} {a b : St} (h : EXn n a b) (hm : m ≤ n) : EXn m a b := ⟨h.next, fun id hi => h.get id (by omega), fun id hi => h.row id (by omega), h.fr, fun g hg => h.ver g (by omega)⟩
theorem EXn.more {n : Nat} {a σ : St} (h : EXn n a σ) (k : Nat) : EXn n a (σ.more k) := ⟨by have := h.next; rw [next_more]; omega, h.get, h.row, fun hf g hg => by rw [ver_more]; exact h.fr hf g (by rw [next_more] at hg; omega), h.ver⟩
/-- something new, or something of one's own -/
theorem EXn.put {n : Nat} {a σ : St} (h : EXn n a σ) {id : Nat} (hid : n ≤ id) (ob : AObj) : EXn n a (σ.put id ob) := by
  refine ⟨h.next, fun k hk => ?_, fun k hk => ?_, h.fr, h.ver⟩
  · rw [St.get_put, if_neg (by omega)]; exact h.get k hk
  · have e : (σ.put id ob).row k = σ.row k := by
      unfold St.row
      rw [St.get_put, if_neg (by omega)]; rfl
    rw [e]; exact h.row k hk
/-- what was there is there still -/
abbrev EX (σ σ' : St) : Prop := EXn σ.next σ σ'
theorem EX.refl (σ : St) : EX σ σ := EXn.refl _ σ
theorem EX.trans {a b c : St} (h : EX a b) (k : EX b c) : EX a c := EXn.trans h (k.weak h.next)
theorem EXn.thn {n : Nat} {a b c : St} (h : EXn n a b) (hn : n ≤ a.next) (k : EX b c) : EXn n a c := h.trans (k.weak (by have := h.next; omega))
end
end Go.AI
