import Derived.Test.YtbggbjpobkkbaaaGreatDoorProg
import Derived.Test.YtbggbjpobkkbaaaGreatDoorKh
set_option linter.unusedVariables false
set_option linter.unusedSimpArgs false
set_option linter.constructorNameAsVariable false
namespace Go.Rf
open Go.AI Go.Proofs
def mkO (d : Option Nat) (op : Op) (t : TypeId) : Oper := { dst := d, op := op, type := t, pos := "", after := #[], guard := none }
def opsA : Array Oper := #[mkO (some 70) (.load 38 (.tmp 3)) 38, mkO (some 71) (.move (.tmp 0)) 30,
 mkO (some 72) (.call { callee := .builtin .len, args := #[.tmp 71], argTypes := #[30] }) 3, mkO (some 73) (.move (.const (.int .i64 0))) 3]
def opsB : Array Oper := #[mkO (some 74) (.binOp .lss 3 (.tmp 73) (.tmp 72) 3) 4]
def opsC : Array Oper := #[mkO (some 75) (.indexAddr 30 (.tmp 71) (.tmp 73)) 0, mkO (some 76) (.load 38 (.tmp 75)) 38,
 mkO (some 85) (.alloc 38) 0, mkO none (.store 38 (.tmp 85) (.tmp 76)) 0]
def opsD : Array Oper := #[mkO (some 77) (.call { callee := .value (.func 128), args := #[.tmp 76, .tmp 70], argTypes := #[38, 38] }) 170,
 mkO (some 78) (.extract (.tmp 77) 0) 79, mkO (some 79) (.extract (.tmp 77) 1) 38, mkO (some 80) (.extract (.tmp 77) 2) 4,
 mkO (some 86) (.alloc 38) 0, mkO none (.store 38 (.tmp 86) (.tmp 79)) 0]
def opsE : Array Oper := #[mkO (some 81) (.call { callee := .value (.func 39), args := #[.tmp 76], argTypes := #[38] }) 38,
 mkO (some 87) (.build 137 #[(0, .tmp 78), (1, .tmp 79), (2, .tmp 81)]) 137,
 mkO (some 90) (.alloc 137) 0, mkO none (.store 137 (.tmp 90) (.tmp 87)) 0,
 mkO (some 82) (.load 79 (.tmp 5)) 79, mkO (some 91) (.fieldAddr 137 (.tmp 90) 0) 0, mkO (some 92) (.load 79 (.tmp 91)) 79,
 mkO (some 83) (.binOp .and 79 (.tmp 82) (.tmp 92) 79) 79, mkO none (.store 79 (.tmp 5) (.tmp 83)) 0]
def opsF : Array Oper := #[mkO (some 84) (.binOp .add 3 (.tmp 73) (.const (.int .i64 1)) 3) 3, mkO (some 73) (.move (.tmp 84)) 3]
def cdL : Code := .seq (.region 51 opsB false) (.seq (.cond (.tmp 74) .skip (.exit 5)) (.seq (.region 52 opsC false) (.seq (.region 53 opsD false)
 (.seq (.cond (.tmp 80) (.region 54 opsE false) .skip) (.region 55 opsF false)))))
def cdA : Code := .seq (.region 50 opsA false) (.block 5 (.loop cdL))
def opsZ : Array Oper := #[mkO (some 67) (.load 79 (.tmp 5)) 79, mkO (some 4) (.move (.tmp 67)) 79]
def cdZ : Code := .seq (.region 56 opsZ false) .ret
def swapC : Code → Code
 | .seq a (.seq b (.seq c _)) => .seq a (.seq b (.seq c (.seq cdA cdZ)))
 | c => c
noncomputable def tyB : Code := Tryz.f43.body.getD .skip
noncomputable def tyF : Func := { Tryz.f43 with body := some (swapC tyB), ntmps := 93 }
noncomputable def cdP : Program := { Tryz.prog with funcs := ⟨Tryz.prog.funcs.toList.set 43 tyF⟩ }
section
variable {call : FuncId → Array Value → St → Option (Value × St)}
theorem aO {P : Program} {ops : Array Oper} {base i : Nat} {o : Oper} {rest : List Oper} {S : Slots} {σ : St} {r : Slots × St} (hg : o.guard = none) (h : fE P call ops base (o :: rest) i S σ = some r) :
    ∃ v σ1, aop P call base i o S σ = some (v, σ1) ∧ fE P call ops base rest (i + 1) (S.store o.dst v) σ1 = some r := by
 unfold fE wanted at h
 rw [hg, cdt] at h
 split at h
 ·rename_i v σ1 e; exact ⟨v, σ1, e, h⟩
 ·cases h
theorem kJ (S : Slots) (k j : Nat) (v : Value) : Slots.at (Tr.set S k v) j = if j = k then v else S.at j := by
 unfold Slots.at; rw [Tr.get_set]; split <;> rfl
theorem at_store (S : Slots) (k j : Nat) (v : Value) : Slots.at (S.store (some k) v) j = if j = k then v else S.at j := kJ S k j v
theorem cH (S : Slots) (v : Value) : S.store none v = S := rfl
theorem bT {P : Program} {id : Nat} {ops : Array Oper} {L : Nat} {S S' : Slots} {σ σ' : St} {fl : Fl} (h : cS P call L (.region id ops false) S σ = some (fl, S', σ')) :
    fl = .normal ∧ fE P call ops σ.next ops.toList 0 S { σ with next := σ.next + ops.size } = some (S', σ') := by
 simp only [cS, mjE] at h
 obtain ⟨⟨a, b⟩, h, e⟩ := h
 cases e
 exact ⟨rfl, h⟩
theorem eO {P : Program} {ops : Array Oper} {base i : Nat} {S S' : Slots} {σ σ' : St} (h : fE P call ops base [] i S σ = some (S', σ')) : S' = S ∧ σ' = σ := by
 simp only [fE, ojE, pjE] at h; exact ⟨h.1.symm, h.2.symm⟩
theorem eM {P : Program} {a b : Code} {L : Nat} {S S' : Slots} {σ σ' : St} {fl : Fl} (h : cS P call L (.seq a b) S σ = some (fl, S', σ')) :
    (∃ S1 σ1, cS P call L a S σ = some (.normal, S1, σ1) ∧ cS P call L b S1 σ1 = some (fl, S', σ')) ∨ (fl ≠ .normal ∧ cS P call L a S σ = some (fl, S', σ')) := by
 simp only [cS] at h
 cases hx : cS P call L a S σ with
 | none => rw [hx] at h; cases h
 | some r =>
  obtain ⟨f1, S1, σ1⟩ := r
  rw [hx] at h
  cases f1 with
  | normal => exact .inl ⟨S1, σ1, rfl, h⟩
  | exit n => cases h; exact .inr ⟨(fun e => by cases e), rfl⟩
  | ret => cases h; exact .inr ⟨(fun e => by cases e), rfl⟩
def up (σ : St) (n : Nat) : St := { σ with next := σ.next + n }
variable {P : Program} {S : Slots} {σ σ1 : St} {b i : Nat} {v : Value} {d : Option Nat} {ty : TypeId}
theorem mF {t : TypeId} {a : Operand} (h : aop P call b i (mkO d (.load t a) ty) S σ = some (v, σ1)) : eB P σ t (ev S a) = some v ∧ σ1 = σ := by
 simp only [aop, mkO, aL, gP, mjE, pjE] at h
 obtain ⟨x, h1, rfl, rfl⟩ := h; exact ⟨h1, rfl⟩
theorem oW {x : Operand} (h : aop P call b i (mkO d (.move x) ty) S σ = some (v, σ1)) : v = ev S x ∧ σ1 = σ := by
 simp only [aop, mkO, aL, gQ, dK, mjE, pjE, ojE] at h
 obtain ⟨x, h1, rfl, rfl⟩ := h; exact ⟨h1.symm, rfl⟩
theorem aAu {x : Operand} {k : Nat} (h : aop P call b i (mkO d (.extract x k) ty) S σ = some (v, σ1)) : (∃ vs : Array Value, ev S x = .tuple vs ∧ vs[k]? = some v) ∧ σ1 = σ := by
 simp only [aop, mkO, aL, gQ, dK, mjE, pjE] at h
 obtain ⟨y, h1, rfl, rfl⟩ := h
 split at h1
 ·rename_i v' e
  cases h1
  split at e
  ·rename_i vs e2; exact ⟨⟨vs, e2, e⟩, rfl⟩
  ·cases e
 ·cases h1
theorem aop_len {t : TypeId} {x : Operand} (h : aop P call b i (mkO d (.call { callee := .builtin .len, args := #[x], argTypes := #[t] }) ty) S σ = some (v, σ1)) : alen P t (ev S x) = some v ∧ σ1 = σ := by
 simp only [aop, mkO, aL, gQ, dK, gT, mjE, pjE] at h
 obtain ⟨y, h1, rfl, rfl⟩ := h
 split at h1
 ·rename_i v' e
  cases h1
  exact ⟨e, rfl⟩
 ·cases h1
theorem aop_idx {t : TypeId} {x y : Operand} (h : aop P call b i (mkO d (.indexAddr t x y) ty) S σ = some (v, σ1)) : dT P t (ev S x) (ev S y) = some v ∧ σ1 = σ := by
 simp only [aop, mkO, aL, gQ, dK, mjE, pjE] at h
 obtain ⟨y, h1, rfl, rfl⟩ := h
 split at h1
 ·rename_i v' e
  cases h1
  exact ⟨e, rfl⟩
 ·cases h1
theorem aAv {op : BinOp} {t t2 : TypeId} {x y : Operand} (h : aop P call b i (mkO d (.binOp op t x y t2) ty) S σ = some (v, σ1)) : dK P (ev S) (mkO d (.binOp op t x y t2) ty) = some v ∧ σ1 = σ := by
 simp only [aop, mkO, aL, gQ, mjE, pjE] at h
 obtain ⟨y, h1, rfl, rfl⟩ := h
 split at h1
 ·rename_i v' e
  cases h1
  exact ⟨e, rfl⟩
 ·cases h1
theorem mE {t : TypeId} {x y : Operand} (h : aop P call b i (mkO d (.store t x y) ty) S σ = some (v, σ1)) : eE P σ t (ev S x) (ev S y) = some σ1 ∧ v = undef := by
 simp only [aop, mkO, aL, xP, mjE, pjE] at h
 obtain ⟨y, h1, rfl, rfl⟩ := h
 exact ⟨h1, rfl⟩
theorem aB9 {g : FuncId} {args : Array Operand} {ts : Array TypeId} (h : aop P call b i (mkO d (.call { callee := .value (.func g), args := args, argTypes := ts }) ty) S σ = some (v, σ1)) : call g (args.map (ev S)) σ = some (v, σ1) := by
 simp only [aop, mkO, aL, xP, qH, ev] at h
 simpa using h
theorem xM {t : TypeId} (h : aop P call b i (mkO d (.alloc t) ty) S σ = some (v, σ1)) : ∃ z, v = .pointer (some ⟨b + i, 0, none⟩) ∧ σ1 = σ.put (b + i) (.cells z boxMeta) := by
 simp only [aop, mkO, aL, cR, mjE, Prod.exists] at h
 obtain ⟨a, ob, h1, h2⟩ := h
 cases h2
 split at h1
 ·simp only [cond_eq_ite] at h1
  split at h1
  ·cases h1; exact ⟨_, rfl, rfl⟩
  ·cases h1
 ·cases h1
theorem xH {t : TypeId} {k n : Nat} {z : List Value} {x : Value} {σ σ1 : St} (hz : iM P t = some n) (h : eE P (σ.put k (.cells z boxMeta)) t (.pointer (some ⟨k, 0, none⟩)) x = some σ1) :
    x.cells.size = n ∧ x.cells.toList.all one = true ∧ ∃ z', σ1 = (σ.put k (.cells z boxMeta)).put k (.cells z' boxMeta) := by
 have e : (σ.put k (.cells z boxMeta)).row k = some (z, boxMeta) := by
  unfold St.row; rw [St.get_put, if_pos rfl]; rfl
 unfold eE at h
 simp only [e, hz] at h
 simp only [cond_eq_ite] at h
 split at h
 ·rename_i hc
  simp only [bjE, cN, djE] at hc
  exact ⟨hc.1.1.2, hc.2, _, (Option.some.inj h).symm⟩
 ·cases h
theorem aDY {w0 : W0} {μ : Mp} {w : World} {k : Nat} {z z' : List Value} (S : Sim w0 P μ σ w) (h : μ k = none) : Sim w0 P μ ((σ.put k (.cells z boxMeta)).put k (.cells z' boxMeta)) w :=
 (S.put_new h (fun cs m g v e e2 => by cases e; cases e2)).put_new h (fun cs m g v e e2 => by cases e; cases e2)
set_option maxRecDepth 20000
theorem opsA_inv {L : Nat} {S S' : Slots} {σ σ' : St} {fl : Fl} (h : cS Tryz.prog call L (.region 50 opsA false) S σ = some (fl, S', σ')) :
    fl = .normal ∧ σ' = up σ 4 ∧ ∃ u a n c, eB Tryz.prog σ' 38 (S.at 3) = some u ∧ S.at 0 = .slice a n c ∧ S'.at 70 = u ∧ S'.at 71 = .slice a n c ∧ S'.at 72 = .int .i64 n ∧ S'.at 73 = .int .i64 0 ∧ S'.at 5 = S.at 5 := by
 obtain ⟨rfl, g⟩ := bT h; clear h
 obtain ⟨v1, σ1, h1, g⟩ := aO rfl g
 obtain ⟨v2, σ2, h2, g⟩ := aO rfl g
 obtain ⟨v3, σ3, h3, g⟩ := aO rfl g
 obtain ⟨v4, σ4, h4, g⟩ := aO rfl g
 obtain ⟨rfl, rfl⟩ := eO g
 clear g
 obtain ⟨k1, rfl⟩ := mF h1
 obtain ⟨rfl, rfl⟩ := oW h2
 obtain ⟨k3, rfl⟩ := aop_len h3
 obtain ⟨rfl, rfl⟩ := oW h4
 clear h1 h2 h3 h4
 simp only [mkO, ev, at_store, Nat.reduceEqDiff, if_false, if_true] at k1 k3
 have e0 : ∃ a n c, S.at 0 = .slice a n c ∧ v3 = goInt n := by
  unfold alen at k3
  rw [Tryz.underlying30] at k3
  simp only at k3
  split at k3
  ·rename_i a n c e; cases k3; exact ⟨a, n, c, e, rfl⟩
  ·cases k3
 obtain ⟨a, n, c, e0, rfl⟩ := e0
 refine ⟨rfl, rfl, v1, a, n, c, k1, e0, ?_⟩
 simp only [mkO, ev, at_store, Nat.reduceEqDiff, if_false, if_true, e0]
 exact ⟨trivial, trivial, rfl, trivial, trivial⟩
theorem lss_inv {x y v : Value} {n m : Int} {ρ : Operand → Value} {a b : Operand} {d : Option Nat} {t2 ty : TypeId} (ha : ρ a = .int .i64 n) (hb : ρ b = .int .i64 m) (h : dK Tryz.prog ρ (mkO d (.binOp .lss 3 a b t2) ty) = some v) : v = .bool (decide (n < m)) := by
 simp only [dK, mkO, ha, hb] at h
 have e : some (Value.bool (decide (n < m))) = some v := h
 exact (Option.some.inj e).symm
theorem add_inv {v : Value} {n : Int} {ρ : Operand → Value} {a : Operand} {d : Option Nat} {t2 ty : TypeId} (ha : ρ a = .int .i64 n) (h : dK Tryz.prog ρ (mkO d (.binOp .add 3 a (.const (.int .i64 1)) t2) ty) = some v) (hc : ρ (.const (.int .i64 1)) = .int .i64 1) : v = .int .i64 (IntKind.i64.wrap (n + 1)) := by
 simp only [dK, mkO, ha, hc] at h
 have e : some (Value.int .i64 (IntKind.i64.wrap (n + 1))) = some v := h
 exact (Option.some.inj e).symm
theorem opsB_inv {L : Nat} {S S' : Slots} {σ σ' : St} {fl : Fl} {n i : Int} (h73 : S.at 73 = .int .i64 i) (h72 : S.at 72 = .int .i64 n) (h : cS Tryz.prog call L (.region 51 opsB false) S σ = some (fl, S', σ')) :
    fl = .normal ∧ σ' = up σ 1 ∧ S'.at 74 = .bool (decide (i < n)) ∧ ∀ k, k ≠ 74 → S'.at k = S.at k := by
 obtain ⟨rfl, g⟩ := bT h; clear h
 obtain ⟨v1, σ1, h1, g⟩ := aO rfl g
 obtain ⟨rfl, rfl⟩ := eO g
 clear g
 obtain ⟨k1, rfl⟩ := aAv h1
 refine ⟨rfl, rfl, ?_, fun k hk => ?_⟩
 ·rw [lss_inv (x := v1) (y := v1) (n := i) (m := n) h73 h72 k1]
  simp only [mkO, at_store, if_true]
 ·simp only [mkO, at_store]; rw [if_neg hk]
theorem opsF_inv {L : Nat} {S S' : Slots} {σ σ' : St} {fl : Fl} {i : Int} (h73 : S.at 73 = .int .i64 i) (h : cS Tryz.prog call L (.region 55 opsF false) S σ = some (fl, S', σ')) :
    fl = .normal ∧ σ' = up σ 2 ∧ S'.at 73 = .int .i64 (IntKind.i64.wrap (i + 1)) ∧ ∀ k, k ≠ 84 → k ≠ 73 → S'.at k = S.at k := by
 obtain ⟨rfl, g⟩ := bT h; clear h
 obtain ⟨v1, σ1, h1, g⟩ := aO rfl g
 obtain ⟨v2, σ2, h2, g⟩ := aO rfl g
 obtain ⟨rfl, rfl⟩ := eO g
 clear g
 obtain ⟨k1, rfl⟩ := aAv h1
 obtain ⟨rfl, rfl⟩ := oW h2
 have e := add_inv (n := i) h73 k1 rfl
 refine ⟨rfl, rfl, ?_, fun k hk hk2 => ?_⟩
 ·simp only [mkO, at_store, ev, if_true]; exact e
 ·simp only [mkO, at_store, ev]; rw [if_neg hk2, if_neg hk]
theorem aBz {σ : St} {p v : Value} (h : eB Tryz.prog σ 38 p = some v) : ∃ l : List Value, v = .agg l.toArray ∧ l.length = 11 := by
 unfold eB at h
 split at h
 ·rename_i id off
  have e1 : iK Tryz.prog 38 = some true := by kernel_rfl
  have e2 : iM Tryz.prog 38 = some 11 := by kernel_rfl
  rw [e1, e2] at h
  split at h
  ·rename_i cs m e
   simp only [mjE] at h
   obtain ⟨l, hl, rfl⟩ := h
   refine ⟨l, rfl, ?_⟩
   unfold cut at hl
   simp only [cond_eq_ite] at hl
   split at hl
   ·rename_i hh; cases hl; exact nqE hh
   ·cases hl
  ·cases h
 ·cases h
theorem opsC_inv {L : Nat} {S S' : Slots} {σ σ' : St} {fl : Fl} {i : Int} {a : Option Addr} {n c : Nat} (h71 : S.at 71 = .slice a n c) (h73 : S.at 73 = .int .i64 i) (h : cS Tryz.prog call L (.region 52 opsC false) S σ = some (fl, S', σ')) :
    fl = .normal ∧ 0 ≤ i ∧ i < n ∧ ∃ (id off : Nat) (l z z' : List Value), a = some ⟨id, off, none⟩ ∧ eB Tryz.prog (up σ 4) 38 (.pointer (some ⟨id, off + i.toNat * 11, none⟩)) = some (.agg l.toArray) ∧ l.length = 11 ∧ l.all one = true ∧
      S'.at 76 = .agg l.toArray ∧ (∀ k, k < 75 → S'.at k = S.at k) ∧ σ' = ((up σ 4).put (σ.next + 2) (.cells z boxMeta)).put (σ.next + 2) (.cells z' boxMeta) := by
 obtain ⟨rfl, g⟩ := bT h; clear h
 obtain ⟨v1, σ1, h1, g⟩ := aO rfl g
 obtain ⟨v2, σ2, h2, g⟩ := aO rfl g
 obtain ⟨v3, σ3, h3, g⟩ := aO rfl g
 obtain ⟨v4, σ4, h4, g⟩ := aO rfl g
 obtain ⟨rfl, rfl⟩ := eO g
 clear g
 obtain ⟨k1, rfl⟩ := aop_idx h1
 obtain ⟨k2, rfl⟩ := mF h2
 obtain ⟨z, rfl, rfl⟩ := xM h3
 obtain ⟨k4, rfl⟩ := mE h4
 clear h1 h2 h3 h4
 simp only [mkO, ev, at_store, cH, Nat.reduceEqDiff, if_false, if_true, Nat.zero_add, Nat.reduceAdd] at k1 k2 k4
 rw [h71, h73] at k1
 have e1 : 0 ≤ i ∧ i < n ∧ ∃ id off, a = some ⟨id, off, none⟩ ∧ v1 = .pointer (some ⟨id, off + i.toNat * 11, none⟩) := by
  unfold dT at k1
  rw [Tryz.underlying30] at k1
  have e2 : iM Tryz.prog 38 = some 11 := by kernel_rfl
  simp only [e2] at k1
  split at k1
  ·rename_i id off len c' e
   cases e
   simp only [cond_eq_ite] at k1
   split at k1
   ·rename_i hr
    cases k1
    simp only [bH, bjE, djE] at hr
    exact ⟨hr.1, hr.2, id, off, rfl, rfl⟩
   ·cases k1
  ·cases k1
 obtain ⟨b1, b2, id, off, rfl, rfl⟩ := e1
 obtain ⟨l, rfl, hl⟩ := aBz k2
 obtain ⟨s1, s2, z', s3⟩ := xH (n := 11) (by kernel_rfl) k4
 refine ⟨rfl, b1, b2, id, off, l, z, z', rfl, k2, hl, by simpa [Value.cells] using s2, ?_, fun k hk => ?_, s3⟩
 ·simp only [mkO, at_store, cH, Nat.reduceEqDiff, if_false, if_true]
 ·simp only [mkO, at_store, cH]; rw [if_neg (by omega), if_neg (by omega), if_neg (by omega)]
theorem opsD_inv {L : Nat} {S S' : Slots} {σ σ' : St} {fl : Fl} (h : cS Tryz.prog call L (.region 53 opsD false) S σ = some (fl, S', σ')) :
    fl = .normal ∧ ∃ (vs : Array Value) (σ2 : St) (s l bb : Value) (z z' : List Value), call 128 #[S.at 76, S.at 70] (up σ 6) = some (.tuple vs, σ2) ∧ vs[0]? = some s ∧ vs[1]? = some l ∧ vs[2]? = some bb ∧ l.cells.size = 11 ∧ l.cells.toList.all one = true ∧
      S'.at 78 = s ∧ S'.at 79 = l ∧ S'.at 80 = bb ∧ (∀ k, k < 77 → S'.at k = S.at k) ∧ σ' = (σ2.put (σ.next + 4) (.cells z boxMeta)).put (σ.next + 4) (.cells z' boxMeta) := by
 obtain ⟨rfl, g⟩ := bT h; clear h
 obtain ⟨v1, σ1, h1, g⟩ := aO rfl g
 obtain ⟨v2, σ2, h2, g⟩ := aO rfl g
 obtain ⟨v3, σ3, h3, g⟩ := aO rfl g
 obtain ⟨v4, σ4, h4, g⟩ := aO rfl g
 obtain ⟨v5, σ5, h5, g⟩ := aO rfl g
 obtain ⟨v6, σ6, h6, g⟩ := aO rfl g
 obtain ⟨rfl, rfl⟩ := eO g
 clear g
 have k1 := aB9 h1
 obtain ⟨⟨vs, k2, k2'⟩, rfl⟩ := aAu h2
 obtain ⟨⟨vs3, k3, k3'⟩, rfl⟩ := aAu h3
 obtain ⟨⟨vs4, k4, k4'⟩, rfl⟩ := aAu h4
 obtain ⟨z, rfl, rfl⟩ := xM h5
 obtain ⟨k6, rfl⟩ := mE h6
 clear h1 h2 h3 h4 h5 h6
 simp only [mkO, ev, at_store, cH, Nat.reduceEqDiff, if_false, if_true, Nat.zero_add, Nat.reduceAdd] at k2 k3 k4 k6
 subst k2
 cases k3; cases k4
 obtain ⟨s1, s2, z', s3⟩ := xH (n := 11) (by kernel_rfl) k6
 refine ⟨rfl, vs, _, v2, v3, v4, z, z', (by simp only [List.map_toArray, mpC, List.map_nil, ev] at k1; exact k1), k2', k3', k4', s1, s2, ?_, ?_, ?_, fun k hk => ?_, s3⟩
 ·simp only [mkO, at_store, cH, Nat.reduceEqDiff, if_false, if_true]
 ·simp only [mkO, at_store, cH, Nat.reduceEqDiff, if_false, if_true]
 ·simp only [mkO, at_store, cH, Nat.reduceEqDiff, if_false, if_true]
 ·simp only [mkO, at_store, cH]; rw [if_neg (by omega), if_neg (by omega), if_neg (by omega), if_neg (by omega), if_neg (by omega)]
noncomputable def andV (x y : Value) : Option Value := dK Tryz.prog (fun o => match o with | .tmp 0 => x | _ => y) (mkO none (.binOp .and 79 (.tmp 0) (.tmp 1) 79) 79)
theorem aC6 {t : TypeId} (h : aop P call b i (mkO d (.alloc t) ty) S σ = some (v, σ1)) : ∃ z, v = .pointer (some ⟨b + i, 0, none⟩) ∧ σ1 = σ.put (b + i) (.cells z boxMeta) ∧ ∀ (ρ : Operand → Value) (o : Oper), o.op = .alloc t → cR P ρ o (b + i) = some (v, .cells z boxMeta) := by
 simp only [aop, mkO, aL, cR, mjE, Prod.exists] at h
 obtain ⟨a, ob, h1, h2⟩ := h
 cases h2
 split at h1
 ·rename_i zv hz
  simp only [cond_eq_ite] at h1
  split at h1
  ·rename_i hh
   cases h1
   refine ⟨_, rfl, rfl, fun ρ o ho => ?_⟩
   unfold cR
   rw [ho]
   simp only [hz, cond_eq_ite]
   rw [if_pos hh]
  ·cases h1
 ·cases h1
theorem aFU {t : TypeId} {ps : Array (Nat × Operand)} (h : aop P call b i (mkO d (.build t ps) ty) S σ = some (v, σ1)) : qI P t (ps.map fun (i, x) => (i, ev S x)) = some v ∧ σ1 = σ := by
 simp only [aop, mkO, aL, gQ, dK, mjE, pjE] at h
 obtain ⟨y, h1, rfl, rfl⟩ := h
 split at h1
 ·rename_i v' e
  cases h1
  exact ⟨e, rfl⟩
 ·cases h1
theorem aop_fa {t : TypeId} {x : Operand} {f : Nat} (h : aop P call b i (mkO d (.fieldAddr t x f) ty) S σ = some (v, σ1)) : cK P t (ev S x) f = some v ∧ σ1 = σ := by
 simp only [aop, mkO, aL, gQ, dK, mjE, pjE] at h
 obtain ⟨y, h1, rfl, rfl⟩ := h
 split at h1
 ·rename_i v' e
  cases h1
  exact ⟨e, rfl⟩
 ·cases h1
structure RdE (b : Nat) (σ2 σ' : St) (s l g vo : Value) (fv : Value) (z : List Value) (σ4 : St) (x s2 y : Value) : Prop where
 bld : qI Tryz.prog 137 #[(0, s), (1, l), (2, g)] = some fv
 al : ∀ (ρ : Operand → Value) (o : Oper), o.op = .alloc 137 → cR Tryz.prog ρ o b = some (.pointer (some ⟨b, 0, none⟩), .cells z boxMeta)
 st : eE Tryz.prog (σ2.put b (.cells z boxMeta)) 137 (.pointer (some ⟨b, 0, none⟩)) fv = some σ4
 ld : eB Tryz.prog σ4 79 vo = some x
 ls : eB Tryz.prog σ4 79 (.pointer (some ⟨b, 0, none⟩)) = some s2
 an : andV x s2 = some y
 so : eE Tryz.prog σ4 79 vo y = some σ'
theorem fa0 {b : Nat} {v : Value} (h : cK Tryz.prog 137 (.pointer (some ⟨b, 0, none⟩)) 0 = some v) : v = .pointer (some ⟨b, 0, none⟩) := by
 have e : cK Tryz.prog 137 (.pointer (some ⟨b, 0, none⟩)) 0 = some (.pointer (some ⟨b, 0, none⟩)) := by
  unfold cK
  rw [Tryz.underlying137]
  have e2 : iM Tryz.prog 79 = some 1 := by kernel_rfl
  simp [e2]
  rfl
 rw [e] at h; exact (Option.some.inj h).symm
theorem opsE_inv {L : Nat} {S S' : Slots} {σ σ' : St} {fl : Fl} (h : cS Tryz.prog call L (.region 54 opsE false) S σ = some (fl, S', σ')) :
    fl = .normal ∧ ∃ (g : Value) (σ2 : St) (fv : Value) (z : List Value) (σ4 : St) (x s2 y : Value), call 39 #[S.at 76] (up σ 9) = some (g, σ2) ∧
      RdE (σ.next + 2) σ2 σ' (S.at 78) (S.at 79) g (S.at 5) fv z σ4 x s2 y ∧ (∀ k, k < 81 → S'.at k = S.at k) := by
 obtain ⟨rfl, g⟩ := bT h; clear h
 obtain ⟨v1, σ1, h1, g⟩ := aO rfl g
 obtain ⟨v2, σ2, h2, g⟩ := aO rfl g
 obtain ⟨v3, σ3, h3, g⟩ := aO rfl g
 obtain ⟨v4, σ4, h4, g⟩ := aO rfl g
 obtain ⟨v5, σ5, h5, g⟩ := aO rfl g
 obtain ⟨v6, σ6, h6, g⟩ := aO rfl g
 obtain ⟨v7, σ7, h7, g⟩ := aO rfl g
 obtain ⟨v8, σ8, h8, g⟩ := aO rfl g
 obtain ⟨v9, σ9, h9, g⟩ := aO rfl g
 obtain ⟨rfl, rfl⟩ := eO g
 clear g
 have k1 := aB9 h1
 obtain ⟨k2, rfl⟩ := aFU h2
 obtain ⟨z, rfl, rfl, k3⟩ := aC6 h3
 obtain ⟨k4, rfl⟩ := mE h4
 obtain ⟨k5, rfl⟩ := mF h5
 obtain ⟨k6, rfl⟩ := aop_fa h6
 obtain ⟨k7, rfl⟩ := mF h7
 obtain ⟨k8, rfl⟩ := aAv h8
 obtain ⟨k9, rfl⟩ := mE h9
 clear h1 h2 h3 h4 h5 h6 h7 h8 h9
 simp only [mkO, ev, at_store, cH, Nat.reduceEqDiff, if_false, if_true, Nat.zero_add, Nat.reduceAdd, List.map_toArray, mpC, List.map_nil] at k2 k3 k4 k5 k6 k7 k9
 have e6 := fa0 k6
 subst e6
 refine ⟨rfl, v1, _, v2, z, _, v5, v7, v8, (by simp only [List.map_toArray, mpC, List.map_nil, ev] at k1; exact k1), ⟨k2, k3, k4, k5, k7, ?_, k9⟩, fun k hk => ?_⟩
 ·simp only [dK, mkO, ev, at_store, cH, Nat.reduceEqDiff, if_false, if_true] at k8
  exact k8
 ·simp only [mkO, at_store, cH]; rw [if_neg (by omega), if_neg (by omega), if_neg (by omega), if_neg (by omega), if_neg (by omega), if_neg (by omega), if_neg (by omega)]
theorem cdZ_inv {L : Nat} {S S' : Slots} {σ σ' : St} {fl : Fl} (h : cS Tryz.prog call L cdZ S σ = some (fl, S', σ')) : fl = .ret ∧ σ' = up σ 2 ∧ ∃ x, eB Tryz.prog σ' 79 (S.at 5) = some x ∧ S'.at 4 = x := by
 unfold cdZ at h
 rcases eM h with ⟨S1, σ1, e1, e2⟩ | ⟨hne, e1⟩
 rotate_left
 ·exact absurd (bT e1).1 hne
 simp only [cS, ojE, pjE] at e2
 obtain ⟨rfl, rfl, rfl⟩ := e2
 obtain ⟨-, g⟩ := bT e1
 obtain ⟨v1, σ2, h1, g⟩ := aO rfl g
 obtain ⟨v2, σ3, h2, g⟩ := aO rfl g
 obtain ⟨rfl, rfl⟩ := eO g
 obtain ⟨k1, rfl⟩ := mF h1
 obtain ⟨rfl, rfl⟩ := oW h2
 refine ⟨rfl, rfl, v1, k1, ?_⟩
 simp only [mkO, ev, at_store, if_true]
end
end Go.Rf
