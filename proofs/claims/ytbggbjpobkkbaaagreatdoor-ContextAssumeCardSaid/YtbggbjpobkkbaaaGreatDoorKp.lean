import Derived.Test.YtbggbjpobkkbaaaGreatDoorProg
import Derived.Test.YtbggbjpobkkbaaaGreatDoorKh
import Derived.RangeFuncOwn
import Derived.RangeFuncCalls
import Derived.RangeFuncLeaves
import Derived.RangeFuncBox
import Derived.Shelf.Abstract
import Derived.WalkKit
import Derived.TacticsIn
import Derived.RegionIn
import Derived.LoopNIn
import Derived.Shelf.RegionOpen
import Derived.KernelRfl
set_option linter.unusedVariables false
set_option linter.unusedSimpArgs false
set_option linter.constructorNameAsVariable false
namespace Go.Rf
open Go.AI Go.Proofs
def mkO (d : Option Nat) (op : Op) (t : TypeId) : Oper := { dst := d, op := op, type := t, pos := "", after := #[], guard := none }
def opsA : Array Oper := #[mkO (some 70) (.load 38 (.tmp 3)) 38, mkO (some 71) (.move (.tmp 0)) 30,
 mkO (some 72) (.call { callee := .builtin .len, args := #[.tmp 71], argTypes := #[30] }) 3, mkO (some 73) (.move (.const (.int .i64 0))) 3]
def opsB : Array Oper := #[mkO (some 74) (.binOp .lss 3 (.tmp 73) (.tmp 72) 3) 4]
def opsC : Array Oper := #[mkO (some 75) (.indexAddr 30 (.tmp 71) (.tmp 73)) 0, mkO (some 76) (.load 38 (.tmp 75)) 38,
 mkO (some 85) (.alloc 38) 0, mkO none (.store 38 (.tmp 85) (.tmp 76)) 0]
def opsD : Array Oper := #[mkO (some 77) (.call { callee := .value (.func 128), args := #[.tmp 76, .tmp 70], argTypes := #[38, 38] }) 170,
 mkO (some 78) (.extract (.tmp 77) 0) 79, mkO (some 79) (.extract (.tmp 77) 1) 38, mkO (some 80) (.extract (.tmp 77) 2) 4,
 mkO (some 86) (.alloc 38) 0, mkO none (.store 38 (.tmp 86) (.tmp 79)) 0]
def opsE : Array Oper := #[mkO (some 81) (.call { callee := .value (.func 39), args := #[.tmp 76], argTypes := #[38] }) 38,
 mkO (some 87) (.build 137 #[(0, .tmp 78), (1, .tmp 79), (2, .tmp 81)]) 137,
 mkO (some 90) (.alloc 137) 0, mkO none (.store 137 (.tmp 90) (.tmp 87)) 0,
 mkO (some 82) (.load 79 (.tmp 5)) 79, mkO (some 91) (.fieldAddr 137 (.tmp 90) 0) 0, mkO (some 92) (.load 79 (.tmp 91)) 79,
 mkO (some 83) (.binOp .and 79 (.tmp 82) (.tmp 92) 79) 79, mkO none (.store 79 (.tmp 5) (.tmp 83)) 0]
def opsF : Array Oper := #[mkO (some 84) (.binOp .add 3 (.tmp 73) (.const (.int .i64 1)) 3) 3, mkO (some 73) (.move (.tmp 84)) 3]
def cdL : Code := .seq (.region 51 opsB false) (.seq (.cond (.tmp 74) .skip (.exit 5)) (.seq (.region 52 opsC false) (.seq (.region 53 opsD false)
 (.seq (.cond (.tmp 80) (.region 54 opsE false) .skip) (.region 55 opsF false)))))
def cdA : Code := .seq (.region 50 opsA false) (.block 5 (.loop cdL))
def opsZ : Array Oper := #[mkO (some 67) (.load 79 (.tmp 5)) 79, mkO (some 4) (.move (.tmp 67)) 79]
def cdZ : Code := .seq (.region 56 opsZ false) .ret
def swapC : Code → Code
 | .seq a (.seq b (.seq c _)) => .seq a (.seq b (.seq c (.seq cdA cdZ)))
 | c => c
noncomputable def tyB : Code := Tryz.f43.body.getD .skip
noncomputable def tyF : Func := { Tryz.f43 with body := some (swapC tyB), ntmps := 93 }
section
variable {call : FuncId → Array Value → St → Option (Value × St)}
theorem aN {P : Program} {ops : Array Oper} {base i : Nat} {o : Oper} {rest : List Oper} {S : Slots} {σ : St} {r : Slots × St} (hg : o.guard = none) (h : cY P call ops base (o :: rest) i S σ = some r) :
    ∃ v σ1, aop P call base i o S σ = some (v, σ1) ∧ cY P call ops base rest (i + 1) (S.store o.dst v) σ1 = some r := by
 unfold cY wanted at h;rw [hg, cdt] at h;split at h
 ·rename_i v σ1 e; exact ⟨v, σ1, e, h⟩
 ·cases h
theorem kI (S : Slots) (k j : Nat) (v : Value) : Slots.at (Tr.set S k v) j = if j = k then v else S.at j := by
 unfold Slots.at; rw [Tr.get_set]; split <;> rfl
theorem at_store (S : Slots) (k j : Nat) (v : Value) : Slots.at (S.store (some k) v) j = if j = k then v else S.at j := kI S k j v
theorem cI (S : Slots) (v : Value) : S.store none v = S := rfl
theorem bR {P : Program} {id : Nat} {ops : Array Oper} {L : Nat} {S S' : Slots} {σ σ' : St} {fl : Fl} (h : aX P call L (.region id ops false) S σ = some (fl, S', σ')) :
    fl = .normal ∧ cY P call ops σ.next ops.toList 0 S { σ with next := σ.next + ops.size } = some (S', σ') := by
 simp only [aX, mjE] at h;obtain ⟨⟨a, b⟩, h, e⟩ := h;cases e;exact ⟨rfl, h⟩
theorem eP {P : Program} {ops : Array Oper} {base i : Nat} {S S' : Slots} {σ σ' : St} (h : cY P call ops base [] i S σ = some (S', σ')) : S' = S ∧ σ' = σ := by
 simp only [cY, ojE, pjE] at h; exact ⟨h.1.symm, h.2.symm⟩
theorem eN {P : Program} {a b : Code} {L : Nat} {S S' : Slots} {σ σ' : St} {fl : Fl} (h : aX P call L (.seq a b) S σ = some (fl, S', σ')) :
    (∃ S1 σ1, aX P call L a S σ = some (.normal, S1, σ1) ∧ aX P call L b S1 σ1 = some (fl, S', σ')) ∨ (fl ≠ .normal ∧ aX P call L a S σ = some (fl, S', σ')) := by
 simp only [aX] at h;cases hx : aX P call L a S σ with
 | none => rw [hx] at h; cases h
 | some r =>
  obtain ⟨f1, S1, σ1⟩ := r;rw [hx] at h;cases f1 with
  | normal => exact .inl ⟨S1, σ1, rfl, h⟩
  | exit n => cases h; exact .inr ⟨(fun e => by cases e), rfl⟩
  | ret => cases h; exact .inr ⟨(fun e => by cases e), rfl⟩
def up (σ : St) (n : Nat) : St := { σ with next := σ.next + n }
variable {P : Program} {S : Slots} {σ σ1 : St} {b i : Nat} {v : Value} {d : Option Nat} {ty : TypeId}
theorem mG {t : TypeId} {a : Operand} (h : aop P call b i (mkO d (.load t a) ty) S σ = some (v, σ1)) : eG P σ t (ev S a) = some v ∧ σ1 = σ := by
 simp only [aop, mkO, aK, gO, mjE, pjE] at h;obtain ⟨x, h1, rfl, rfl⟩ := h; exact ⟨h1, rfl⟩
theorem pF {x : Operand} (h : aop P call b i (mkO d (.move x) ty) S σ = some (v, σ1)) : v = ev S x ∧ σ1 = σ := by
 simp only [aop, mkO, aK, gP, dL, mjE, pjE, ojE] at h;obtain ⟨x, h1, rfl, rfl⟩ := h; exact ⟨h1.symm, rfl⟩
theorem aAC {x : Operand} {k : Nat} (h : aop P call b i (mkO d (.extract x k) ty) S σ = some (v, σ1)) : (∃ vs : Array Value, ev S x = .tuple vs ∧ vs[k]? = some v) ∧ σ1 = σ := by
 simp only [aop, mkO, aK, gP, dL, mjE, pjE] at h;obtain ⟨y, h1, rfl, rfl⟩ := h;split at h1
 ·rename_i v' e;cases h1;split at e
  ·rename_i vs e2; exact ⟨⟨vs, e2, e⟩, rfl⟩
  ·cases e
 ·cases h1
theorem aop_len {t : TypeId} {x : Operand} (h : aop P call b i (mkO d (.call { callee := .builtin .len, args := #[x], argTypes := #[t] }) ty) S σ = some (v, σ1)) : alen P t (ev S x) = some v ∧ σ1 = σ := by
 simp only [aop, mkO, aK, gP, dL, gQ, mjE, pjE] at h;obtain ⟨y, h1, rfl, rfl⟩ := h;split at h1
 ·rename_i v' e;cases h1;exact ⟨e, rfl⟩
 ·cases h1
theorem aop_idx {t : TypeId} {x y : Operand} (h : aop P call b i (mkO d (.indexAddr t x y) ty) S σ = some (v, σ1)) : dU P t (ev S x) (ev S y) = some v ∧ σ1 = σ := by
 simp only [aop, mkO, aK, gP, dL, mjE, pjE] at h;obtain ⟨y, h1, rfl, rfl⟩ := h;split at h1
 ·rename_i v' e;cases h1;exact ⟨e, rfl⟩
 ·cases h1
theorem aAD {op : BinOp} {t t2 : TypeId} {x y : Operand} (h : aop P call b i (mkO d (.binOp op t x y t2) ty) S σ = some (v, σ1)) : dL P (ev S) (mkO d (.binOp op t x y t2) ty) = some v ∧ σ1 = σ := by
 simp only [aop, mkO, aK, gP, mjE, pjE] at h;obtain ⟨y, h1, rfl, rfl⟩ := h;split at h1
 ·rename_i v' e;cases h1;exact ⟨e, rfl⟩
 ·cases h1
theorem mF {t : TypeId} {x y : Operand} (h : aop P call b i (mkO d (.store t x y) ty) S σ = some (v, σ1)) : eK P σ t (ev S x) (ev S y) = some σ1 ∧ v = undef := by
 simp only [aop, mkO, aK, yC, mjE, pjE] at h;obtain ⟨y, h1, rfl, rfl⟩ := h;exact ⟨h1, rfl⟩
theorem aCd {g : FuncId} {args : Array Operand} {ts : Array TypeId} (h : aop P call b i (mkO d (.call { callee := .value (.func g), args := args, argTypes := ts }) ty) S σ = some (v, σ1)) : call g (args.map (ev S)) σ = some (v, σ1) := by
 simp only [aop, mkO, aK, yC, qM, ev] at h;simpa using h
theorem xY {t : TypeId} (h : aop P call b i (mkO d (.alloc t) ty) S σ = some (v, σ1)) : ∃ z, v = .pointer (some ⟨b + i, 0, none⟩) ∧ σ1 = σ.put (b + i) (.cells z boxMeta) := by
 simp only [aop, mkO, aK, cS, mjE, Prod.exists] at h;obtain ⟨a, ob, h1, h2⟩ := h;cases h2;split at h1
 ·simp only [cond_eq_ite] at h1;split at h1
  ·cases h1; exact ⟨_, rfl, rfl⟩
  ·cases h1
 ·cases h1
theorem xU {t : TypeId} {k n : Nat} {z : List Value} {x : Value} {σ σ1 : St} (hz : iJ P t = some n) (h : eK P (σ.put k (.cells z boxMeta)) t (.pointer (some ⟨k, 0, none⟩)) x = some σ1) :
    x.cells.size = n ∧ x.cells.toList.all one = true ∧ ∃ z', σ1 = (σ.put k (.cells z boxMeta)).put k (.cells z' boxMeta) := by
 have e : (σ.put k (.cells z boxMeta)).row k = some (z, boxMeta) := by
  unfold St.row; rw [St.get_put, if_pos rfl]; rfl
 unfold eK at h;simp only [e, hz] at h;simp only [cond_eq_ite] at h;split at h
 ·rename_i hc;simp only [bjE, cN, djE] at hc;exact ⟨hc.1.1.2, hc.2, _, (Option.some.inj h).symm⟩
 ·cases h
theorem aDV {w0 : W0} {μ : Mp} {w : World} {k : Nat} {z z' : List Value} (S : Sim w0 P μ σ w) (h : μ k = none) : Sim w0 P μ ((σ.put k (.cells z boxMeta)).put k (.cells z' boxMeta)) w :=
 (S.put_new h (fun cs m g v e e2 => by cases e; cases e2)).put_new h (fun cs m g v e e2 => by cases e; cases e2)
set_option maxRecDepth 20000
theorem opsA_inv {L : Nat} {S S' : Slots} {σ σ' : St} {fl : Fl} (h : aX Tryz.prog call L (.region 50 opsA false) S σ = some (fl, S', σ')) :
    fl = .normal ∧ σ' = up σ 4 ∧ ∃ u a n c, eG Tryz.prog σ' 38 (S.at 3) = some u ∧ S.at 0 = .slice a n c ∧ S'.at 70 = u ∧ S'.at 71 = .slice a n c ∧ S'.at 72 = .int .i64 n ∧ S'.at 73 = .int .i64 0 ∧ S'.at 5 = S.at 5 := by
 obtain ⟨rfl, g⟩ := bR h; clear h;obtain ⟨v1, σ1, h1, g⟩ := aN rfl g;obtain ⟨v2, σ2, h2, g⟩ := aN rfl g;obtain ⟨v3, σ3, h3, g⟩ := aN rfl g;obtain ⟨v4, σ4, h4, g⟩ := aN rfl g;obtain ⟨rfl, rfl⟩ := eP g;clear g;obtain ⟨k1, rfl⟩ := mG h1;obtain ⟨rfl, rfl⟩ := pF h2;obtain ⟨k3, rfl⟩ := aop_len h3;obtain ⟨rfl, rfl⟩ := pF h4;clear h1 h2 h3 h4;simp only [mkO, ev, at_store, Nat.reduceEqDiff, if_false, if_true] at k1 k3;have e0 : ∃ a n c, S.at 0 = .slice a n c ∧ v3 = goInt n := by
  unfold alen at k3;rw [Tryz.underlying30] at k3;simp only at k3;split at k3
  ·rename_i a n c e; cases k3; exact ⟨a, n, c, e, rfl⟩
  ·cases k3
 obtain ⟨a, n, c, e0, rfl⟩ := e0;refine ⟨rfl, rfl, v1, a, n, c, k1, e0, ?_⟩;simp only [mkO, ev, at_store, Nat.reduceEqDiff, if_false, if_true, e0];exact ⟨trivial, trivial, rfl, trivial, trivial⟩
theorem lss_inv {x y v : Value} {n m : Int} {ρ : Operand → Value} {a b : Operand} {d : Option Nat} {t2 ty : TypeId} (ha : ρ a = .int .i64 n) (hb : ρ b = .int .i64 m) (h : dL Tryz.prog ρ (mkO d (.binOp .lss 3 a b t2) ty) = some v) : v = .bool (decide (n < m)) := by
 simp only [dL, mkO, ha, hb] at h;have e : some (Value.bool (decide (n < m))) = some v := h;exact (Option.some.inj e).symm
theorem add_inv {v : Value} {n : Int} {ρ : Operand → Value} {a : Operand} {d : Option Nat} {t2 ty : TypeId} (ha : ρ a = .int .i64 n) (h : dL Tryz.prog ρ (mkO d (.binOp .add 3 a (.const (.int .i64 1)) t2) ty) = some v) (hc : ρ (.const (.int .i64 1)) = .int .i64 1) : v = .int .i64 (IntKind.i64.wrap (n + 1)) := by
 simp only [dL, mkO, ha, hc] at h;have e : some (Value.int .i64 (IntKind.i64.wrap (n + 1))) = some v := h;exact (Option.some.inj e).symm
theorem opsB_inv {L : Nat} {S S' : Slots} {σ σ' : St} {fl : Fl} {n i : Int} (h73 : S.at 73 = .int .i64 i) (h72 : S.at 72 = .int .i64 n) (h : aX Tryz.prog call L (.region 51 opsB false) S σ = some (fl, S', σ')) :
    fl = .normal ∧ σ' = up σ 1 ∧ S'.at 74 = .bool (decide (i < n)) ∧ ∀ k, k ≠ 74 → S'.at k = S.at k := by
 obtain ⟨rfl, g⟩ := bR h; clear h;obtain ⟨v1, σ1, h1, g⟩ := aN rfl g;obtain ⟨rfl, rfl⟩ := eP g;clear g;obtain ⟨k1, rfl⟩ := aAD h1;refine ⟨rfl, rfl, ?_, fun k hk => ?_⟩
 ·rw [lss_inv (x := v1) (y := v1) (n := i) (m := n) h73 h72 k1];simp only [mkO, at_store, if_true]
 ·simp only [mkO, at_store]; rw [if_neg hk]
theorem opsF_inv {L : Nat} {S S' : Slots} {σ σ' : St} {fl : Fl} {i : Int} (h73 : S.at 73 = .int .i64 i) (h : aX Tryz.prog call L (.region 55 opsF false) S σ = some (fl, S', σ')) :
    fl = .normal ∧ σ' = up σ 2 ∧ S'.at 73 = .int .i64 (IntKind.i64.wrap (i + 1)) ∧ ∀ k, k ≠ 84 → k ≠ 73 → S'.at k = S.at k := by
 obtain ⟨rfl, g⟩ := bR h; clear h;obtain ⟨v1, σ1, h1, g⟩ := aN rfl g;obtain ⟨v2, σ2, h2, g⟩ := aN rfl g;obtain ⟨rfl, rfl⟩ := eP g;clear g;obtain ⟨k1, rfl⟩ := aAD h1;obtain ⟨rfl, rfl⟩ := pF h2;have e := add_inv (n := i) h73 k1 rfl;refine ⟨rfl, rfl, ?_, fun k hk hk2 => ?_⟩
 ·simp only [mkO, at_store, ev, if_true]; exact e
 ·simp only [mkO, at_store, ev]; rw [if_neg hk2, if_neg hk]
theorem aBD {σ : St} {p v : Value} (h : eG Tryz.prog σ 38 p = some v) : ∃ l : List Value, v = .agg l.toArray ∧ l.length = 11 := by
 unfold eG at h;split at h
 ·rename_i id off;have e1 : iG Tryz.prog 38 = some true := by kernel_rfl
  have e2 : iJ Tryz.prog 38 = some 11 := by kernel_rfl
  rw [e1, e2] at h;split at h
  ·rename_i cs m e;simp only [mjE] at h;obtain ⟨l, hl, rfl⟩ := h;refine ⟨l, rfl, ?_⟩;unfold cut at hl;simp only [cond_eq_ite] at hl;split at hl
   ·rename_i hh; cases hl; exact nqE hh
   ·cases hl
  ·cases h
 ·cases h
theorem opsC_inv {L : Nat} {S S' : Slots} {σ σ' : St} {fl : Fl} {i : Int} {a : Option Addr} {n c : Nat} (h71 : S.at 71 = .slice a n c) (h73 : S.at 73 = .int .i64 i) (h : aX Tryz.prog call L (.region 52 opsC false) S σ = some (fl, S', σ')) :
    fl = .normal ∧ 0 ≤ i ∧ i < n ∧ ∃ (id off : Nat) (l z z' : List Value), a = some ⟨id, off, none⟩ ∧ eG Tryz.prog (up σ 4) 38 (.pointer (some ⟨id, off + i.toNat * 11, none⟩)) = some (.agg l.toArray) ∧ l.length = 11 ∧ l.all one = true ∧
      S'.at 76 = .agg l.toArray ∧ (∀ k, k < 75 → S'.at k = S.at k) ∧ σ' = ((up σ 4).put (σ.next + 2) (.cells z boxMeta)).put (σ.next + 2) (.cells z' boxMeta) := by
 obtain ⟨rfl, g⟩ := bR h; clear h;obtain ⟨v1, σ1, h1, g⟩ := aN rfl g;obtain ⟨v2, σ2, h2, g⟩ := aN rfl g;obtain ⟨v3, σ3, h3, g⟩ := aN rfl g;obtain ⟨v4, σ4, h4, g⟩ := aN rfl g;obtain ⟨rfl, rfl⟩ := eP g;clear g;obtain ⟨k1, rfl⟩ := aop_idx h1;obtain ⟨k2, rfl⟩ := mG h2;obtain ⟨z, rfl, rfl⟩ := xY h3;obtain ⟨k4, rfl⟩ := mF h4;clear h1 h2 h3 h4;simp only [mkO, ev, at_store, cI, Nat.reduceEqDiff, if_false, if_true, Nat.zero_add, Nat.reduceAdd] at k1 k2 k4;rw [h71, h73] at k1;have e1 : 0 ≤ i ∧ i < n ∧ ∃ id off, a = some ⟨id, off, none⟩ ∧ v1 = .pointer (some ⟨id, off + i.toNat * 11, none⟩) := by
  unfold dU at k1;rw [Tryz.underlying30] at k1;have e2 : iJ Tryz.prog 38 = some 11 := by kernel_rfl
  simp only [e2] at k1;split at k1
  ·rename_i id off len c' e;cases e;simp only [cond_eq_ite] at k1;split at k1
   ·rename_i hr;cases k1;simp only [bH, bjE, djE] at hr;exact ⟨hr.1, hr.2, id, off, rfl, rfl⟩
   ·cases k1
  ·cases k1
 obtain ⟨b1, b2, id, off, rfl, rfl⟩ := e1;obtain ⟨l, rfl, hl⟩ := aBD k2;obtain ⟨s1, s2, z', s3⟩ := xU (n := 11) (by kernel_rfl) k4
 refine ⟨rfl, b1, b2, id, off, l, z, z', rfl, k2, hl, by simpa [Value.cells] using s2, ?_, fun k hk => ?_, s3⟩
 ·simp only [mkO, at_store, cI, Nat.reduceEqDiff, if_false, if_true]
 ·simp only [mkO, at_store, cI]; rw [if_neg (by omega), if_neg (by omega), if_neg (by omega)]
theorem opsD_inv {L : Nat} {S S' : Slots} {σ σ' : St} {fl : Fl} (h : aX Tryz.prog call L (.region 53 opsD false) S σ = some (fl, S', σ')) :
    fl = .normal ∧ ∃ (vs : Array Value) (σ2 : St) (s l bb : Value) (z z' : List Value), call 128 #[S.at 76, S.at 70] (up σ 6) = some (.tuple vs, σ2) ∧ vs[0]? = some s ∧ vs[1]? = some l ∧ vs[2]? = some bb ∧ l.cells.size = 11 ∧ l.cells.toList.all one = true ∧
      S'.at 78 = s ∧ S'.at 79 = l ∧ S'.at 80 = bb ∧ (∀ k, k < 77 → S'.at k = S.at k) ∧ σ' = (σ2.put (σ.next + 4) (.cells z boxMeta)).put (σ.next + 4) (.cells z' boxMeta) := by
 obtain ⟨rfl, g⟩ := bR h; clear h;obtain ⟨v1, σ1, h1, g⟩ := aN rfl g;obtain ⟨v2, σ2, h2, g⟩ := aN rfl g;obtain ⟨v3, σ3, h3, g⟩ := aN rfl g;obtain ⟨v4, σ4, h4, g⟩ := aN rfl g;obtain ⟨v5, σ5, h5, g⟩ := aN rfl g;obtain ⟨v6, σ6, h6, g⟩ := aN rfl g;obtain ⟨rfl, rfl⟩ := eP g;clear g;have k1 := aCd h1;obtain ⟨⟨vs, k2, k2'⟩, rfl⟩ := aAC h2;obtain ⟨⟨vs3, k3, k3'⟩, rfl⟩ := aAC h3;obtain ⟨⟨vs4, k4, k4'⟩, rfl⟩ := aAC h4;obtain ⟨z, rfl, rfl⟩ := xY h5;obtain ⟨k6, rfl⟩ := mF h6;clear h1 h2 h3 h4 h5 h6;simp only [mkO, ev, at_store, cI, Nat.reduceEqDiff, if_false, if_true, Nat.zero_add, Nat.reduceAdd] at k2 k3 k4 k6;subst k2;cases k3; cases k4;obtain ⟨s1, s2, z', s3⟩ := xU (n := 11) (by kernel_rfl) k6
 refine ⟨rfl, vs, _, v2, v3, v4, z, z', (by simp only [List.map_toArray, mpC, List.map_nil, ev] at k1; exact k1), k2', k3', k4', s1, s2, ?_, ?_, ?_, fun k hk => ?_, s3⟩
 ·simp only [mkO, at_store, cI, Nat.reduceEqDiff, if_false, if_true]
 ·simp only [mkO, at_store, cI, Nat.reduceEqDiff, if_false, if_true]
 ·simp only [mkO, at_store, cI, Nat.reduceEqDiff, if_false, if_true]
 ·simp only [mkO, at_store, cI]; rw [if_neg (by omega), if_neg (by omega), if_neg (by omega), if_neg (by omega), if_neg (by omega)]
noncomputable def andV (x y : Value) : Option Value := dL Tryz.prog (fun o => match o with | .tmp 0 => x | _ => y) (mkO none (.binOp .and 79 (.tmp 0) (.tmp 1) 79) 79)
theorem aC8 {t : TypeId} (h : aop P call b i (mkO d (.alloc t) ty) S σ = some (v, σ1)) : ∃ z, v = .pointer (some ⟨b + i, 0, none⟩) ∧ σ1 = σ.put (b + i) (.cells z boxMeta) ∧ ∀ (ρ : Operand → Value) (o : Oper), o.op = .alloc t → cS P ρ o (b + i) = some (v, .cells z boxMeta) := by
 simp only [aop, mkO, aK, cS, mjE, Prod.exists] at h;obtain ⟨a, ob, h1, h2⟩ := h;cases h2;split at h1
 ·rename_i zv hz;simp only [cond_eq_ite] at h1;split at h1
  ·rename_i hh;cases h1;refine ⟨_, rfl, rfl, fun ρ o ho => ?_⟩
   unfold cS;rw [ho];simp only [hz, cond_eq_ite];rw [if_pos hh]
  ·cases h1
 ·cases h1
theorem aF4 {t : TypeId} {ps : Array (Nat × Operand)} (h : aop P call b i (mkO d (.build t ps) ty) S σ = some (v, σ1)) : qN P t (ps.map fun (i, x) => (i, ev S x)) = some v ∧ σ1 = σ := by
 simp only [aop, mkO, aK, gP, dL, mjE, pjE] at h;obtain ⟨y, h1, rfl, rfl⟩ := h;split at h1
 ·rename_i v' e;cases h1;exact ⟨e, rfl⟩
 ·cases h1
theorem aop_fa {t : TypeId} {x : Operand} {f : Nat} (h : aop P call b i (mkO d (.fieldAddr t x f) ty) S σ = some (v, σ1)) : cL P t (ev S x) f = some v ∧ σ1 = σ := by
 simp only [aop, mkO, aK, gP, dL, mjE, pjE] at h;obtain ⟨y, h1, rfl, rfl⟩ := h;split at h1
 ·rename_i v' e;cases h1;exact ⟨e, rfl⟩
 ·cases h1
structure RdE (b : Nat) (σ2 σ' : St) (s l g vo : Value) (fv : Value) (z : List Value) (σ4 : St) (x s2 y : Value) : Prop where
 bld : qN Tryz.prog 137 #[(0, s), (1, l), (2, g)] = some fv
 al : ∀ (ρ : Operand → Value) (o : Oper), o.op = .alloc 137 → cS Tryz.prog ρ o b = some (.pointer (some ⟨b, 0, none⟩), .cells z boxMeta)
 st : eK Tryz.prog (σ2.put b (.cells z boxMeta)) 137 (.pointer (some ⟨b, 0, none⟩)) fv = some σ4
 ld : eG Tryz.prog σ4 79 vo = some x
 ls : eG Tryz.prog σ4 79 (.pointer (some ⟨b, 0, none⟩)) = some s2
 an : andV x s2 = some y
 so : eK Tryz.prog σ4 79 vo y = some σ'
theorem fa0 {b : Nat} {v : Value} (h : cL Tryz.prog 137 (.pointer (some ⟨b, 0, none⟩)) 0 = some v) : v = .pointer (some ⟨b, 0, none⟩) := by
 have e : cL Tryz.prog 137 (.pointer (some ⟨b, 0, none⟩)) 0 = some (.pointer (some ⟨b, 0, none⟩)) := by
  unfold cL;rw [Tryz.underlying137];have e2 : iJ Tryz.prog 79 = some 1 := by kernel_rfl
  simp [e2];rfl
 rw [e] at h; exact (Option.some.inj h).symm
theorem opsE_inv {L : Nat} {S S' : Slots} {σ σ' : St} {fl : Fl} (h : aX Tryz.prog call L (.region 54 opsE false) S σ = some (fl, S', σ')) :
    fl = .normal ∧ ∃ (g : Value) (σ2 : St) (fv : Value) (z : List Value) (σ4 : St) (x s2 y : Value), call 39 #[S.at 76] (up σ 9) = some (g, σ2) ∧
      RdE (σ.next + 2) σ2 σ' (S.at 78) (S.at 79) g (S.at 5) fv z σ4 x s2 y ∧ (∀ k, k < 81 → S'.at k = S.at k) := by
 obtain ⟨rfl, g⟩ := bR h; clear h;obtain ⟨v1, σ1, h1, g⟩ := aN rfl g;obtain ⟨v2, σ2, h2, g⟩ := aN rfl g;obtain ⟨v3, σ3, h3, g⟩ := aN rfl g;obtain ⟨v4, σ4, h4, g⟩ := aN rfl g;obtain ⟨v5, σ5, h5, g⟩ := aN rfl g;obtain ⟨v6, σ6, h6, g⟩ := aN rfl g;obtain ⟨v7, σ7, h7, g⟩ := aN rfl g;obtain ⟨v8, σ8, h8, g⟩ := aN rfl g;obtain ⟨v9, σ9, h9, g⟩ := aN rfl g;obtain ⟨rfl, rfl⟩ := eP g;clear g;have k1 := aCd h1;obtain ⟨k2, rfl⟩ := aF4 h2;obtain ⟨z, rfl, rfl, k3⟩ := aC8 h3;obtain ⟨k4, rfl⟩ := mF h4;obtain ⟨k5, rfl⟩ := mG h5;obtain ⟨k6, rfl⟩ := aop_fa h6;obtain ⟨k7, rfl⟩ := mG h7;obtain ⟨k8, rfl⟩ := aAD h8;obtain ⟨k9, rfl⟩ := mF h9;clear h1 h2 h3 h4 h5 h6 h7 h8 h9;simp only [mkO, ev, at_store, cI, Nat.reduceEqDiff, if_false, if_true, Nat.zero_add, Nat.reduceAdd, List.map_toArray, mpC, List.map_nil] at k2 k3 k4 k5 k6 k7 k9;have e6 := fa0 k6;subst e6;refine ⟨rfl, v1, _, v2, z, _, v5, v7, v8, (by simp only [List.map_toArray, mpC, List.map_nil, ev] at k1; exact k1), ⟨k2, k3, k4, k5, k7, ?_, k9⟩, fun k hk => ?_⟩
 ·simp only [dL, mkO, ev, at_store, cI, Nat.reduceEqDiff, if_false, if_true] at k8;exact k8
 ·simp only [mkO, at_store, cI]; rw [if_neg (by omega), if_neg (by omega), if_neg (by omega), if_neg (by omega), if_neg (by omega), if_neg (by omega), if_neg (by omega)]
theorem cdZ_inv {L : Nat} {S S' : Slots} {σ σ' : St} {fl : Fl} (h : aX Tryz.prog call L cdZ S σ = some (fl, S', σ')) : fl = .ret ∧ σ' = up σ 2 ∧ ∃ x, eG Tryz.prog σ' 79 (S.at 5) = some x ∧ S'.at 4 = x := by
 unfold cdZ at h;rcases eN h with ⟨S1, σ1, e1, e2⟩ | ⟨hne, e1⟩
 rotate_left
 ·exact absurd (bR e1).1 hne
 simp only [aX, ojE, pjE] at e2;obtain ⟨rfl, rfl, rfl⟩ := e2;obtain ⟨-, g⟩ := bR e1;obtain ⟨v1, σ2, h1, g⟩ := aN rfl g;obtain ⟨v2, σ3, h2, g⟩ := aN rfl g;obtain ⟨rfl, rfl⟩ := eP g;obtain ⟨k1, rfl⟩ := mG h1;obtain ⟨rfl, rfl⟩ := pF h2;refine ⟨rfl, rfl, v1, k1, ?_⟩;simp only [mkO, ev, at_store, if_true]
end
end Go.Rf
namespace Go.Rf
open Go.AI Go.Proofs
section
variable {w0 : W0} {P : Program} {μ : Mp} {σ : St} {w : World}
def wO (w0 : W0) (O : Nat → Option Obj) : W0 := { w0 with O := O }
theorem vE (S : Sim w0 P μ σ w) {O : Nat → Option Obj} (h : ∀ k o, O k = some o → w.heap[k]? = some o ∧ ∀ id p, μ id = some p → p.b ≠ k) : Sim (wO w0 O) P μ σ w :=
 ⟨⟨S.kept.toKept, h, S.kept.bnd⟩, S.dom, S.glob, fun id p cs m h1 h2 h3 => by
  obtain ⟨a, b, c, d⟩ := S.row id p cs m h1 h2 h3; exact ⟨a, b, c, d⟩, fun id p es h1 h2 => by
  obtain ⟨a, b⟩ := S.map id p es h1 h2; exact ⟨a, b⟩, S.off, S.tip, S.maps, S.vers, S.lim⟩
def lD (O : Nat → Option Obj) (k : Nat) (o : Obj) : Nat → Option Obj := fun j => if j = k then some o else O j
theorem gW {O : Nat → Option Obj} (S : Sim (wO w0 O) P μ σ w) {k : Nat} {o : Obj} (h : w.heap[k]? = some o) (hk : ∀ id p, μ id = some p → p.b ≠ k) : Sim (wO w0 (lD O k o)) P μ σ w := by
 have := vE (w0 := wO w0 O) S (O := lD O k o) (fun j o' hj => by
  unfold lD at hj;split at hj
  ·rename_i e; subst e; cases hj; exact ⟨h, hk⟩
  ·exact S.kept.oth j o' hj)
 exact this
theorem lM {O O' : Nat → Option Obj} (S : Sim (wO w0 O) P μ σ w) (h : ∀ k o, O' k = some o → O k = some o) : Sim (wO w0 O') P μ σ w :=
 vE (w0 := wO w0 O) S (fun k o hk => S.kept.oth k o (h k o hk))
theorem jP (S : Sim w0 P μ σ w) {o : Obj} (ho : ∀ C t fr, o = .cells C t fr → fr = (0, 0)) : Sim w0 P μ σ (w.alloc o) := by
 have hp : ∀ k, k < w.heap.size → (w.alloc o).heap[k]? = w.heap[k]? := fun k hk => lQ hk
 have hs := S.kept.size;refine ⟨⟨⟨S.kept.os, S.kept.output, ?_, fun k hk => (hp k (by omega)).trans (S.kept.old k hk), fun k C t fr hk h => ?_⟩, fun k o' hk => ?_, fun id p h => ?_⟩, S.dom, S.glob, fun id p cs m h1 h2 h3 => ?_, fun id p es h1 h2 => ?_, S.off, S.tip, S.maps, S.vers, S.lim⟩
 ·show _ ≤ (w.heap.push o).size; rw [Array.size_push]; omega
 ·change (w.heap.push o)[k]? = _ at h;rw [Array.getElem?_push] at h;split at h
  ·cases h; exact ho C t fr rfl
  ·exact S.kept.new k C t fr hk h
 ·have h1 := S.kept.oth k o' hk;exact ⟨(hp k (Array.getElem?_eq_some_iff.1 h1.1).1).trans h1.1, h1.2⟩
 ·have := S.kept.bnd id p h;show _ < (w.heap.push o).size; rw [Array.size_push]; omega
 ·obtain ⟨⟨C, t, fr, r1, r2, r3⟩, r4, r5, r6⟩ := S.row id p cs m h1 h2 h3;exact ⟨⟨C, t, fr, (hp p.b (S.kept.bnd id p h1)).trans r1, r2, r3⟩, r4, r5, r6⟩
 ·obtain ⟨⟨ES, c, r1, r2⟩, r3⟩ := S.map id p es h1 h2;exact ⟨⟨ES, c, (hp p.b (S.kept.bnd id p h1)).trans r1, r2⟩, r3⟩
theorem aCB {O : Nat → Option Obj} (S : Sim (wO w0 O) P μ σ w) {k : Nat} {o : Obj} (hk : w0.heap.size ≤ k) (hO : ∀ o', O k = some o' → o' = o) (hlt : k < w.heap.size) (hμ : ∀ id p, μ id = some p → p.b ≠ k) (ho : ∀ C t fr, o = .cells C t fr → fr = (0, 0)) :
    Sim (wO w0 O) P μ σ (w.putObj k o) := by
 have hp : ∀ j, j ≠ k → (w.putObj k o).heap[j]? = w.heap[j]? := fun j hj => World.putObj_heap_other hj
 have hsz : (w.putObj k o).heap.size = w.heap.size := World.putObj_size;have hs := S.kept.size;refine ⟨⟨⟨S.kept.os, S.kept.output, by rw [hsz]; exact hs, fun j hj => (hp j (by have : j < w0.heap.size := hj; omega)).trans (S.kept.old j hj), fun j C t fr hj h => ?_⟩, fun j o' hj => ?_, fun id p h => by rw [hsz]; exact S.kept.bnd id p h⟩, S.dom, S.glob, fun id p cs m h1 h2 h3 => ?_, fun id p es h1 h2 => ?_, S.off, S.tip, S.maps, S.vers, S.lim⟩
 ·by_cases e : j = k
  ·subst e;rw [World.putObj_heap_same hlt] at h; cases h; exact ho C t fr rfl
  ·rw [hp j e] at h; exact S.kept.new j C t fr hj h
 ·by_cases e : j = k
  ·subst e;have := hO o' hj; subst this;exact ⟨World.putObj_heap_same hlt, hμ⟩
  ·have h1 := S.kept.oth j o' hj;exact ⟨(hp j e).trans h1.1, h1.2⟩
 ·obtain ⟨⟨C, t, fr, r1, r2, r3⟩, r4, r5, r6⟩ := S.row id p cs m h1 h2 h3;exact ⟨⟨C, t, fr, (hp p.b (hμ id p h1)).trans r1, r2, r3⟩, r4, r5, r6⟩
 ·obtain ⟨⟨ES, c, r1, r2⟩, r3⟩ := S.map id p es h1 h2;exact ⟨⟨ES, c, (hp p.b (hμ id p h1)).trans r1, r2⟩, r3⟩
theorem aA0 (S : Sim w0 P μ σ w) : Sim w0 P μ σ w.drew := S.drawn _
theorem jW (S : Sim w0 P μ σ w) : ∀ id p, μ id = some p → p.b ≠ w.heap.size := fun id p h e => by
 have := S.kept.bnd id p h; omega
end
theorem aBE {l : List Value} (h : l.length = 11) : ∃ x0 x1 x2 x3 x4 x5 x6 x7 x8 x9 x10, l = [x0, x1, x2, x3, x4, x5, x6, x7, x8, x9, x10] := by
 match l, h with
 | [x0, x1, x2, x3, x4, x5, x6, x7, x8, x9, x10], _ => exact ⟨x0, x1, x2, x3, x4, x5, x6, x7, x8, x9, x10, rfl⟩
theorem agg11 {v : Value} (h : v.cells.size = 11) : ∃ l : List Value, v = .agg l.toArray ∧ l.length = 11 := by
 cases v with
 | agg cs => exact ⟨cs.toList, rfl, by simpa [Value.cells] using h⟩
 | _ => simp [Value.cells] at h
theorem vr_agg {μ : Mp} {l : List Value} {v' : Value} (r : VR μ (.agg l.toArray) v') : ∃ l' : List Value, v' = .agg l'.toArray ∧ VRL μ l l' := by
 obtain ⟨us, rfl, h⟩ := r.agg_inv;exact ⟨us.toList, rfl, by simpa using h⟩
theorem one_cell {v : Value} (h : one v = true) : v.oneCell' = true := by cases v <;> first | rfl | cases h
theorem aS {v : Value} (h : one v = true) (P : Program) : ∀ (a : Addr) (m : Mode) (w : World), (store a v m).run P w = stored P w a v m := fun a m w => run_store P w a v m (one_cell h)
theorem aP {w : World} {b i : Nat} {C : Array Value} {t : TypeId} {fr : Nat × Nat} {v : Value} (h : w.heap[b]? = some (.cells C t fr)) (hv : C[i]? = some v) : w.cell? ⟨b, i, none⟩ = some v := by
 unfold World.cell?; rw [h]; simpa using hv
end Go.Rf
namespace Go.Rf
open Go.AI Go.Proofs Go.RowKit
noncomputable def parts : Code × Code := match Tryz.f43.body with
 | some (.seq _ (.seq _ (.seq _ (.seq (.seq _ (.block _ (.rangeFunc _ _ a b))) _)))) => (a, b)
 | _ => (.skip, .skip)
noncomputable def yX (fn : FuncId) (ts : Array Value) (D : Nat) (st : LoopState) (pe : Option Code) : Loop := { state := st, pending := pe, fn := fn, tmps := ts, params := #[62], assign := parts.1, body := parts.2, defers := D }
theorem aAY {F : Fence} {n : Nat} {P : Program} {ops : Array Oper} {Q : Exit → Act → World → Prop} {rest : List Oper} {o : Oper} {a : Act} {w w' : World} {v : Value} {l : Nat} (hF : F.round = some l) (hw : ∀ f, F.fn f) (hd : ∀ c, o.op ≠ .defer c) (hg : o.guard = none)
    (h : (execOp a.eval o).run P w = .ok (.value v) w') (k : wpListIn F n P ops Q rest (a.put o.dst v) w') : wpListIn F n P ops Q (o :: rest) a w := by
 refine wpListIn_plain hg fun K hK => ?_
 unfold Oper.wpIn;rw [hF, Oper.semAt_some l _ _ hd];refine ⟨fun f _ => hw f, ?_⟩
 rw [h, Oper.uponIn_value];exact hK _ _ k
theorem st_skip {F : Fence} {n : Nat} {P : Program} {ops : Array Oper} {Q : Exit → Act → World → Prop} {rest : List Oper} {o : Oper} {a : Act} {w w' : World} {l : Nat} (hF : F.round = some l) (hw : ∀ f, F.fn f) (hd : ∀ c, o.op ≠ .defer c) (hg : o.guard = none)
    (h : (execOp a.eval o).run P w = .ok .skip w') (k : wpListIn F n P ops Q rest (a.put o.dst undef) w') : wpListIn F n P ops Q (o :: rest) a w := by
 refine wpListIn_plain hg fun K hK => ?_
 unfold Oper.wpIn;rw [hF, Oper.semAt_some l _ _ hd];refine ⟨fun f _ => hw f, ?_⟩
 rw [h, Oper.uponIn_skip];exact hK _ _ k
theorem zip1 {p : Tmp} {v : Value} {ts : Array Value} : (#[p].zip #[v]).foldl (fun tmps (t, a) => tmps.setIfInBounds t a) ts = ts.setIfInBounds p v := by simp [Array.zip]
def fr (ts : Array Value) : Act := { tmps := ts, defers := [] }
theorem eI (ts : Array Value) (i : Nat) (v : Value) : (fr ts).put (some i) v = fr (ts.setIfInBounds i v) := rfl
theorem fr_none (ts : Array Value) (v : Value) : (fr ts).put none v = fr ts := rfl
theorem cO (ts : Array Value) (j : Nat) : (fr ts).eval (.tmp j) = ts.getD j undef := rfl
theorem aI {ts : Array Value} {i j : Nat} {v : Value} (hi : i < ts.size) : (ts.setIfInBounds i v).getD j undef = if i = j then v else ts.getD j undef := by
 simp only [Array.getD_eq_getD_getElem?, Array.getElem?_setIfInBounds];by_cases e : i = j
 ·subst e; simp [hi]
 ·simp [e]
theorem ex_store {ρ : Operand → Value} {o : Oper} {t : TypeId} {a x : Operand} {W W' : World} {P : Program} (ho : o.op = .store t a x) (h : (Instr.storeAt t (ρ a) (ρ x)).run P W = .ok () W') : (execOp ρ o).run P W = .ok .skip W' := by
 unfold execOp; rw [ho]; simp [h]
theorem iF {ρ : Operand → Value} {o : Oper} {t : TypeId} {a : Operand} {W : World} {v : Value} {P : Program} (ho : o.op = .load t a) (h : (Instr.loadAt t (ρ a)).run P W = .ok v W) : (execOp ρ o).run P W = .ok (.value v) W := by
 unfold execOp; rw [ho]; simp [h]
theorem rec_eq (fn : FuncId) (ts : Array Value) (D : Nat) : ({ yX fn ts D .ready none with state := .busy } : Loop) = yX fn ts D .busy none := rfl
theorem rec_eq2 (fn : FuncId) (ts : Array Value) (D : Nat) : ({ yX fn ts D .busy none with state := if (none : Option Code).isNone then .ready else .done, pending := none } : Loop) = yX fn ts D .ready none := rfl
section
variable {F : Fence} {n : Nat} {P : Program} {ops : Array Oper} {Q : Exit → Act → World → Prop} {rest : List Oper} {o : Oper} {a : Act} {W : World} {l : Nat} {w1 : W0} {μ : Mp} {σ σ' : St} {t : TypeId}
theorem s_alloc (hF : F.round = some l) (hw : ∀ f, F.fn f) (ho : o.op = .alloc t) (hg : o.guard = none) {b : Nat} {z : List Value} (hal : ∀ (ρ : Operand → Value) (o : Oper), o.op = .alloc t → cS P ρ o b = some (.pointer (some ⟨b, 0, none⟩), .cells z boxMeta))
    (S : Sim w1 P μ σ W) (hb : μ b = none) (hbn : b < σ.next)
    (k : ∀ μ1 v' W1, Sim w1 P μ1 (σ.put b (.cells z boxMeta)) W1 → VR μ1 (.pointer (some ⟨b, 0, none⟩)) v' → (∀ k p, μ k = some p → μ1 k = some p) → (∀ k, k ≠ b → μ1 k = μ k) → wpListIn F n P ops Q rest (a.put o.dst v') W1) : wpListIn F n P ops Q (o :: rest) a W := by
 obtain ⟨v', Ob, p, h1, hbk, h0, hN, hv⟩ := yE (μ := μ) (P := P) (ρ := fun _ => undef) (ρ' := a.eval) (o := o) W (fun x hx => by simp [ho, Op.operands] at hx) (hal _ _ ho)
 refine aAY hF hw (fun c e => by rw [ho] at e; cases e) hg h1 ?_
 exact k _ _ _ ((S.put_new hb (fun cs m g v e e2 => by cases e; cases e2)).alloc hb hbn (by rw [St.get_put, if_pos rfl]) hN hbk h0) (hv _ (fX _ _ _)) (gV p hb) (fun k hk => fN hk)
theorem aD3 (hF : F.round = some l) (hw : ∀ f, F.fn f) {p x : Operand} {vp vx : Value} (ho : o.op = .store t p x) (hg : o.guard = none) (S : Sim w1 P μ σ W) (r1 : VR μ vp (a.eval p)) (r2 : VR μ vx (a.eval x)) (h : eK P σ t vp vx = some σ')
    (k : ∀ W1, Sim w1 P μ σ' W1 → σ'.next = σ.next → wpListIn F n P ops Q rest (a.put o.dst undef) W1) : wpListIn F n P ops Q (o :: rest) a W := by
 obtain ⟨w', h1, h2, h3⟩ := xV S r1 r2 h;exact st_skip hF hw (fun c e => by rw [ho] at e; cases e) hg (ex_store ho h1) (k w' h2 h3)
theorem s_load (hF : F.round = some l) (hw : ∀ f, F.fn f) {p : Operand} {vp v : Value} (ho : o.op = .load t p) (hg : o.guard = none) (S : Sim w1 P μ σ W) (r1 : VR μ vp (a.eval p)) (h : eG P σ t vp = some v)
    (k : ∀ v', VR μ v v' → wpListIn F n P ops Q rest (a.put o.dst v') W) : wpListIn F n P ops Q (o :: rest) a W := by
 obtain ⟨v', h1, h2⟩ := mH S r1 h;exact aAY hF hw (fun c e => by rw [ho] at e; cases e) hg (iF ho h1) (k v' h2)
theorem s_fa (hF : F.round = some l) (hw : ∀ f, F.fn f) {x : Operand} {f : Nat} {vx v : Value} (ho : o.op = .fieldAddr t x f) (hg : o.guard = none) (r1 : VR μ vx (a.eval x)) (h : cL P t vx f = some v)
    (k : ∀ v', VR μ v v' → wpListIn F n P ops Q rest (a.put o.dst v') W) : wpListIn F n P ops Q (o :: rest) a W := by
 obtain ⟨v', h1, h2⟩ := oZ (μ := μ) (P := P) (ρ := fun _ => vx) (ρ' := a.eval) (o := o) (v := v) (fun y hy => by
  rw [ho] at hy;have : y = x := by simpa [Op.operands] using hy
  subst this; exact r1) (by unfold dL; rw [ho]; exact h)
 exact aAY hF hw (fun c e => by rw [ho] at e; cases e) hg (cJ h1 W) (k v' h2)
set_option maxRecDepth 20000 in
theorem s_and (hF : F.round = some l) (hw : ∀ f, F.fn f) {x y : Operand} {vx vy v : Value} (hxy : x ≠ y) (ho : o.op = .binOp .and 79 x y 79) (hg : o.guard = none) (r1 : VR μ vx (a.eval x)) (r2 : VR μ vy (a.eval y)) (h : andV vx vy = some v)
    (k : ∀ v', VR μ v v' → wpListIn F n Tryz.prog ops Q rest (a.put o.dst v') W) : wpListIn F n Tryz.prog ops Q (o :: rest) a W := by
 have hd := (inferInstance : DecidableEq Nat);obtain ⟨ρ, q1, q2⟩ : ∃ ρ : Operand → Value, ρ x = vx ∧ ρ y = vy := by
  classical exact ⟨fun z => if z = x then vx else vy, if_pos rfl, if_neg (Ne.symm hxy)⟩
 obtain ⟨v', h1, h2⟩ := oZ (μ := μ) (P := Tryz.prog) (ρ := ρ) (ρ' := a.eval) (o := o) (v := v) (fun z hz => by
  rw [ho] at hz;have : z = x ∨ z = y := by simpa [Op.operands] using hz
  rcases this with rfl | rfl
  ·rw [q1]; exact r1
  ·rw [q2]; exact r2) (by
  unfold dL; rw [ho]; simp only [q1, q2]; unfold andV dL at h; exact h)
 exact aAY hF hw (fun c e => by rw [ho] at e; cases e) hg (cJ h1 W) (k v' h2)
end
def aFZ (O : Nat → Option Obj) (k : Nat) : Nat → Option Obj := fun j => if j = k then none else O j
theorem butO_le {O : Nat → Option Obj} {k : Nat} : ∀ j o, aFZ O k j = some o → O j = some o := fun j o h => by
 unfold aFZ at h; split at h
 ·cases h
 ·exact h
theorem oN {w0 : W0} {P : Program} {O : Nat → Option Obj} {μ : Mp} {σ : St} {w : World} {k : Nat} {o o' : Obj} (S : Sim (wO w0 O) P μ σ w) (hk : O k = some o) (hk0 : w0.heap.size ≤ k) (ho : ∀ C t fr, o' = .cells C t fr → fr = (0, 0)) : Sim (wO w0 (lD (aFZ O k) k o')) P μ σ (w.putObj k o') := by
 have h1 := S.kept.oth k o hk;have hlt := (Array.getElem?_eq_some_iff.1 h1.1).1;have S1 := lM (O' := aFZ O k) S butO_le;have S2 := aCB S1 hk0 (fun o' h => by unfold aFZ at h; rw [if_pos rfl] at h; cases h) hlt h1.2 ho
 exact gW S2 (World.putObj_heap_same hlt) h1.2
theorem nN (O : Nat → Option Obj) (k : Nat) (o : Obj) : lD O k o k = some o := by unfold lD; rw [if_pos rfl]
theorem aGa {O : Nat → Option Obj} {k : Nat} {o o' : Obj} (hk : O k = some o) : lD (aFZ (lD (aFZ O k) k o') k) k o = O := by
 funext j;unfold lD aFZ;by_cases e : j = k
 ·subst e; simp [hk]
 ·simp [e]
set_option maxHeartbeats 1000000 in
set_option maxRecDepth 20000 in
theorem round_ok {n : Nat} {fn : FuncId} {w0 : W0} {O : Nat → Option Obj} {μ : Mp} {σ2 σ' σ4 : St} {W : World} {L D b : Nat} {ts : Array Value} {vo x y s s2 l g fv fv' : Value} {z : List Value} (S : Sim (wO w0 O) Tryz.prog μ σ2 W) (hb : μ b = none) (hbn : b < σ2.next) (hts : 68 ≤ ts.size)
    (hL : O L = some (.loop (yX fn ts D .ready none))) (hL0 : w0.heap.size ≤ L) (hvo : VR μ vo (ts.getD 5 undef)) (E : RdE b σ2 σ' s l g vo fv z σ4 x s2 y) (hfv : VR μ fv fv') :
    RoundIn Fence.wide n Tryz.prog L fn ((#[62].zip #[fv']).foldl (fun tmps (t, a) => tmps.setIfInBounds t a) ts) parts.1 parts.2 W fun e W' => e = .returned (.bool true) ∧ ∃ μ', Sim (wO w0 O) Tryz.prog μ' σ' W' ∧ (∀ k p, μ k = some p → μ' k = some p) ∧ (∀ k, k ≠ b → μ' k = μ k) ∧ σ'.next = σ2.next := by
 rw [zip1];refine roundIn_of_wpIn trivial ?_;show Code.wpIn (Fence.wide.inRound L) n Tryz.prog parts.1 _ (fr (ts.setIfInBounds 62 fv')) W
 conv => arg 4; unfold parts; dsimp only [Tryz.f43]
 refine wpIn_region_lit ?_;refine s_alloc rfl (fun _ => trivial) rfl rfl E.al S hb hbn ?_
 intro μ1 v1 W1 S1 r1 e1 e2;simp only [eI];refine aD3 rfl (fun _ => trivial) (vp := .pointer (some ⟨b, 0, none⟩)) (vx := fv) rfl rfl S1 ?_ ?_ E.st ?_
 ·rw [cO, aI (by simp; omega), if_pos rfl]; exact r1
 ·rw [cO, aI (by simp; omega), if_neg (by omega), aI (by omega), if_pos rfl]; exact hfv.mono' e1
 intro W2 S2 n2;simp only [fr_none];refine wpListIn_nil ?_;have hl := (S2.kept.oth L _ hL).1;refine ⟨_, run_beginRound hl rfl, ?_⟩;rw [rec_eq];have S3 := oN S2 hL hL0 (o' := .loop (yX fn ts D .busy none)) (fun C t fr h => by cases h)
 generalize hW3 : W2.putObj L (.loop (yX fn ts D .busy none)) = W3 at S3;have hv5 : ∀ (ts' : Array Value), ts'.getD 5 undef = ts.getD 5 undef → VR μ1 vo (ts'.getD 5 undef) := fun ts' h => by rw [h]; exact hvo.mono' e1
 conv => arg 4; unfold parts; dsimp only [Tryz.f43]
 refine wpIn_block ?_;refine wpIn_region_lit ?_;refine s_load rfl (fun _ => trivial) (vp := vo) rfl rfl S3 ?_ E.ld ?_
 ·rw [cO]; refine hv5 _ ?_;rw [aI (by simp; omega), if_neg (by omega), aI (by omega), if_neg (by omega)]
 intro x' rx;simp only [eI];refine s_fa (μ := μ1) rfl (fun _ => trivial) (vx := .pointer (some ⟨b, 0, none⟩)) (v := .pointer (some ⟨b, 0, none⟩)) rfl rfl ?_ ?_ ?_
 ·rw [cO, aI (by simp; omega), if_neg (by omega), aI (by simp; omega), if_pos rfl]; exact r1
 ·unfold cL;rw [Tryz.underlying137];have e2 : iJ Tryz.prog 79 = some 1 := by kernel_rfl
  simp [e2];rfl
 intro p' rp;simp only [eI];refine s_load rfl (fun _ => trivial) (vp := .pointer (some ⟨b, 0, none⟩)) rfl rfl S3 ?_ E.ls ?_
 ·rw [cO, aI (by simp; omega), if_pos rfl]; exact rp
 intro s2' rs2;simp only [eI];refine s_and (μ := μ1) rfl (fun _ => trivial) (vx := x) (vy := s2) (v := y) (fun h => by cases h) rfl rfl ?_ ?_ E.an ?_
 ·rw [cO, aI (by simp; omega), if_neg (by omega), aI (by simp; omega), if_neg (by omega), aI (by simp; omega), if_pos rfl]; exact rx
 ·rw [cO, aI (by simp; omega), if_pos rfl]; exact rs2
 intro y' ry;simp only [eI];refine aD3 rfl (fun _ => trivial) (vp := vo) (vx := y) rfl rfl S3 ?_ ?_ E.so ?_
 ·rw [cO]; refine hv5 _ ?_;rw [aI (by simp; omega), if_neg (by omega), aI (by simp; omega), if_neg (by omega), aI (by simp; omega), if_neg (by omega), aI (by simp; omega), if_neg (by omega), aI (by simp; omega), if_neg (by omega), aI (by omega), if_neg (by omega)]
 ·rw [cO, aI (by simp; omega), if_pos rfl]; exact ry
 intro W4 S4 n4;refine wpListIn_nil ?_;simp only [Exit.inBlock, roundPost];have hl4 := (S4.kept.oth L _ (nN _ _ _)).1;refine ⟨_, _, run_endRound none hl4, rfl, μ1, ?_, e1, e2, by rw [n4, n2]; rfl⟩
 rw [rec_eq2];have S5 := oN S4 (nN _ _ _) hL0 (o' := .loop (yX fn ts D .ready none)) (fun C t fr h => by cases h)
 rw [aGa hL] at S5;exact S5
end Go.Rf
namespace Go.Rf
open Go.AI Go.Proofs Go.RowKit Go.Shelf
def zO (K : Act → World → Prop) : Exit → Act → World → Prop
 | .normal => K
 | _ => fun _ _ => False
noncomputable def r4C : Code := match Tryz.f127.body with | some (.seq _ (.block _ (.loop (.seq _ (.seq _ (.seq (.block _ (.seq _ (.seq _ (.seq c _)))) _)))))) => c | _ => .skip
noncomputable def r4O : Array Oper := match r4C with | .region _ ops _ => ops | _ => #[]
theorem jO {ts : Array Value} {o : Oper} {b : Bool} (hg : o.guard = some (1, true)) (h : ts[23]? = some (.bool b)) : Region.wanted o (yielded r4O ts) = b := by
 have e : r4O[1]?.bind (·.dst) = some 23 := by kernel_rfl
 unfold Region.wanted;rw [hg];simp only [yielded, e, obS, h];cases b <;> rfl
theorem wanted_n {ts : Array Value} {o : Oper} (hg : o.guard = none) : Region.wanted o (yielded r4O ts) = true := by
 unfold Region.wanted; rw [hg]
theorem aDY {ts : Array Value} {i : Nat} {v : Value} (h : i < ts.size) : (ts.setIfInBounds i v)[i]? = some v := by simp [h]
theorem aDX {ts : Array Value} {i j : Nat} {v : Value} (h : i ≠ j) : (ts.setIfInBounds i v)[j]? = ts[j]? := by simp [Array.getElem?_setIfInBounds, h]
section
variable {Q : Exit → Act → World → Prop} {fuel : Nat} {listed : Array Bool} {ts : Array Value} {W : World} {i d : Nat} {o : Oper} {x : Operand} {n : Nat}
theorem rR (hi : r4O[i]? = some o) (hs : Region.noSelect r4O = true) (hf : Region.free .any r4O listed i = true) (hr : (Region.ready .any r4O listed).contains i = true) (hQ : ∀ c a w, Q (.panic c) a w ↔ False)
    (ho : o.dst = some d) (hg : o.guard = some (1, true)) (h23 : ts[23]? = some (.bool false)) (ha : ∀ w, o.about Tryz.prog w (fr ts).eval = none)
    (k : wpAnyIn Fence.wide n Tryz.prog .any r4O Q fuel (listed.setIfInBounds i true) (fr (ts.setIfInBounds d undef)) W) : wpAnyIn Fence.wide n Tryz.prog .any r4O Q (fuel + 1) listed (fr ts) W := by
 refine wpAnyIn_take (i := i) (v := undef) rfl hi hs hf hr (fun c a w h => ((hQ c _ w).1 h).elim) ⟨Or.inr ⟨jO hg h23, rfl⟩, ha⟩ ?_
 rw [ho, eI]; exact k
theorem aEb (hi : r4O[i]? = some o) (hr : Region.ready .any r4O listed = [i]) (ho : o.dst = some d) (hg : o.guard = some (1, true)) (h23 : ts[23]? = some (.bool false))
    (k : wpAnyIn Fence.wide n Tryz.prog .any r4O Q fuel (listed.setIfInBounds i true) (fr (ts.setIfInBounds d undef)) W) : wpAnyIn Fence.wide n Tryz.prog .any r4O Q (fuel + 1) listed (fr ts) W := by
 refine wpAnyIn_ready hr (by simp) (AllReadyIn.cons hi (fun K' hK' => ?_) AllReadyIn.nil)
 rw [if_neg (by rw [show Region.wanted o (yielded r4O (fr ts).tmps) = false from jO hg h23]; decide)]
 refine ⟨fun _ _ => trivial, hK' _ _ ?_⟩
 rw [ho, eI]; exact k
theorem qX {v : Value} (hi : r4O[i]? = some o) (hs : Region.noSelect r4O = true) (hf : Region.free .any r4O listed i = true) (hr : (Region.ready .any r4O listed).contains i = true) (hQ : ∀ c a w, Q (.panic c) a w ↔ False)
    (ho : o.dst = some d) (hg : o.guard = none ∨ (o.guard = some (1, true) ∧ ts[23]? = some (.bool true))) (ha : ∀ w, o.about Tryz.prog w (fr ts).eval = none) (hv : ∀ w, (execOp (fr ts).eval o).run Tryz.prog w = .ok (.value v) w)
    (k : wpAnyIn Fence.wide n Tryz.prog .any r4O Q fuel (listed.setIfInBounds i true) (fr (ts.setIfInBounds d v)) W) : wpAnyIn Fence.wide n Tryz.prog .any r4O Q (fuel + 1) listed (fr ts) W := by
 refine wpAnyIn_take (i := i) (v := v) rfl hi hs hf hr (fun c a w h => ((hQ c _ w).1 h).elim) ⟨Or.inl ⟨?_, hv⟩, ha⟩ ?_
 ·rcases hg with hg | ⟨hg, h⟩
  ·exact wanted_n hg
  ·exact jO hg h
 ·rw [ho, eI]; exact k
end
theorem lV {ρ : Operand → Value} {o : Oper} {x : Operand} (ho : o.op = .move x) (w : World) : (execOp ρ o).run Tryz.prog w = .ok (.value (ρ x)) w := by
 unfold execOp; rw [ho]; rfl
theorem aBl {ρ : Operand → Value} {o : Oper} {x y z : Operand} {b : Bool} (ho : o.op = .pick x y z) (hx : ρ x = .bool b) (w : World) : (execOp ρ o).run Tryz.prog w = .ok (.value (if b then ρ y else ρ z)) w := by
 unfold execOp; rw [ho]; simp only [hx]; cases b <;> rfl
theorem at23 {ts : Array Value} {b : Bool} (h : ts[23]? = some (.bool b)) {d : Nat} {v : Value} (hd : d ≠ 23) : (ts.setIfInBounds d v)[23]? = some (.bool b) := by rw [aDX hd]; exact h
set_option maxRecDepth 100000 in
theorem r4_false {K : Act → World → Prop} {ts : Array Value} {W : World} (hsz : ts.size = 34) (h8 : ts.getD 8 undef = .bool false)
    (h : ∀ ts' : Array Value, ts'.size = 34 → (∀ j, j < 22 → ts'.getD j undef = ts.getD j undef) → ts'.getD 32 undef = .bool false → K (fr ts') W.drew) : r4C.wpIn Fence.wide 2 Tryz.prog (zO K) (fr ts) W := by
 have e : r4C = .region 4 r4O true := by kernel_rfl
 rw [e];refine wpIn_region_any (by kernel_rfl) ?_
 change wpAnyIn _ _ _ _ _ _ _ _ _ W.drew;have hQ : ∀ c a w, zO K (.panic c) a w ↔ False := fun _ _ _ => Iff.rfl
 have hsel : Region.noSelect r4O = true := by kernel_rfl
 have hn : r4O.size = 11 := by kernel_rfl
 rw [hn];refine qX (i := 0) rfl hsel (by kernel_rfl) (by kernel_rfl) hQ rfl (.inl rfl) (fun _ => rfl) (lV rfl) ?_
 refine qX (i := 1) rfl hsel (by kernel_rfl) (by kernel_rfl) hQ rfl (.inl rfl) (fun _ => rfl) (lV rfl) ?_
 have e22 : (fr (ts.setIfInBounds 22 ((fr ts).eval (.tmp 8)))).eval (.tmp 22) = .bool false := by rw [cO, aI (by omega), if_pos rfl, cO]; exact h8
 rw [e22];generalize hg : (ts.setIfInBounds 22 ((fr ts).eval (.tmp 8))).setIfInBounds 23 (.bool false) = t1;have sz1 : t1.size = 34 := by rw [← hg]; simp [hsz]
 have h23 : t1[23]? = some (.bool false) := by rw [← hg]; exact aDY (by simp [hsz])
 have lo1 : ∀ j, j < 22 → t1.getD j undef = ts.getD j undef := fun j hj => by rw [← hg, aI (by simp [hsz]), if_neg (by omega), aI (by omega), if_neg (by omega)]
 clear hg e22;have g2 : t1[23]? = some (.bool false) := h23;refine rR (i := 2) rfl hsel (by kernel_rfl) (by kernel_rfl) hQ rfl rfl g2 (fun _ => rfl) ?_
 generalize hx3 : t1.setIfInBounds 24 undef = x3;have g3 : x3[23]? = some (.bool false) := by rw [← hx3]; exact at23 g2 (by omega)
 refine rR (i := 3) rfl hsel (by kernel_rfl) (by kernel_rfl) hQ rfl rfl g3 (fun _ => rfl) ?_
 generalize hx4 : x3.setIfInBounds 25 undef = x4;have g4 : x4[23]? = some (.bool false) := by rw [← hx4]; exact at23 g3 (by omega)
 refine rR (i := 4) rfl hsel (by kernel_rfl) (by kernel_rfl) hQ rfl rfl g4 (fun _ => rfl) ?_
 generalize hx5 : x4.setIfInBounds 26 undef = x5;have g5 : x5[23]? = some (.bool false) := by rw [← hx5]; exact at23 g4 (by omega)
 refine rR (i := 5) rfl hsel (by kernel_rfl) (by kernel_rfl) hQ rfl rfl g5 (fun _ => rfl) ?_
 generalize hx6 : x5.setIfInBounds 27 undef = x6;have g6 : x6[23]? = some (.bool false) := by rw [← hx6]; exact at23 g5 (by omega)
 refine aEb (i := 6) rfl (by kernel_rfl) rfl rfl g6 ?_
 generalize hx7 : x6.setIfInBounds 28 undef = x7;have g7 : x7[23]? = some (.bool false) := by rw [← hx7]; exact at23 g6 (by omega)
 refine rR (i := 7) rfl hsel (by kernel_rfl) (by kernel_rfl) hQ rfl rfl g7 (fun _ => rfl) ?_
 generalize hx8 : x7.setIfInBounds 29 undef = x8;have g8 : x8[23]? = some (.bool false) := by rw [← hx8]; exact at23 g7 (by omega)
 refine aEb (i := 8) rfl (by kernel_rfl) rfl rfl g8 ?_
 generalize hx9 : x8.setIfInBounds 30 undef = x9;have g9 : x9[23]? = some (.bool false) := by rw [← hx9]; exact at23 g8 (by omega)
 refine rR (i := 9) rfl hsel (by kernel_rfl) (by kernel_rfl) hQ rfl rfl g9 (fun _ => rfl) ?_
 generalize hx10 : x9.setIfInBounds 31 undef = x10;have g10 : x10[23]? = some (.bool false) := by rw [← hx10]; exact at23 g9 (by omega)
 have szx : x10.size = 34 := by
  rw [← hx10, ← hx9, ← hx8, ← hx7, ← hx6, ← hx5, ← hx4, ← hx3]; simp [sz1]
 have e10 : (fr x10).eval (.tmp 23) = .bool false := by rw [cO, Array.getD_eq_getD_getElem?, g10]; rfl
 refine qX (i := 10) rfl hsel (by kernel_rfl) (by kernel_rfl) hQ rfl (.inl rfl) (fun _ => rfl) (aBl rfl e10) ?_
 refine wpAnyIn_done (by kernel_rfl) ?_ _
 refine h _ (by simp [szx]) (fun j hj => ?_) ?_
 ·rw [aI (by omega), if_neg (by omega), ← lo1 j hj, ← hx10, ← hx9, ← hx8, ← hx7, ← hx6, ← hx5, ← hx4, ← hx3]
  rw [aI (by simp [sz1]), if_neg (by omega), aI (by simp [sz1]), if_neg (by omega), aI (by simp [sz1]), if_neg (by omega), aI (by simp [sz1]), if_neg (by omega), aI (by simp [sz1]), if_neg (by omega), aI (by simp [sz1]), if_neg (by omega), aI (by simp [sz1]), if_neg (by omega), aI (by simp [sz1]), if_neg (by omega)]
 ·rw [aI (by omega), if_pos rfl]; rfl
set_option maxRecDepth 100000 in
theorem aEQ {b : Nat} {W : World} {x0 x1 x2 x3 x4 x5 x6 x7 x8 x9 x10 : Value} {frz : Nat × Nat} (h : W.heap[b]? = some (.cells #[x0, x1, x2, x3, x4, x5, x6, x7, x8, x9, x10] 38 frz)) : (Instr.loadAt 38 (.pointer (some ⟨b, 0, none⟩))).run Tryz.prog W = .ok (.agg #[x0, x1, x2, x3, x4, x5, x6, x7, x8, x9, x10]) W := by
 have c0 : W.cell? ⟨b, 0, none⟩ = some x0 := aP h rfl;have c1 : W.cell? ⟨b, 1, none⟩ = some x1 := aP h rfl;have c2 : W.cell? ⟨b, 2, none⟩ = some x2 := aP h rfl;have c3 : W.cell? ⟨b, 3, none⟩ = some x3 := aP h rfl;have c4 : W.cell? ⟨b, 4, none⟩ = some x4 := aP h rfl;have c5 : W.cell? ⟨b, 5, none⟩ = some x5 := aP h rfl;have c6 : W.cell? ⟨b, 6, none⟩ = some x6 := aP h rfl;have c7 : W.cell? ⟨b, 7, none⟩ = some x7 := aP h rfl;have c8 : W.cell? ⟨b, 8, none⟩ = some x8 := aP h rfl;have c9 : W.cell? ⟨b, 9, none⟩ = some x9 := aP h rfl;have c10 : W.cell? ⟨b, 10, none⟩ = some x10 := aP h rfl;clear h
 go_simp
section
variable {Q : Exit → Act → World → Prop} {K' : Act → World → Prop} {ts : Array Value} {W W' : World} {i d : Nat} {o : Oper} {x : Operand} {n : Nat}
theorem aEI {v : Value} (ho : o.dst = some d) (hg : o.guard = some (1, true)) (h23 : ts[23]? = some (.bool true)) (hv : (execOp (fr ts).eval o).run Tryz.prog W = .ok (.value v) W') (k : K' (fr (ts.setIfInBounds d v)) W') :
    if Region.wanted o (yielded r4O (fr ts).tmps) = true then Oper.wpIn Fence.wide n Tryz.prog o (fr ts) W K' Q else (∀ f, o.about Tryz.prog W (fr ts).eval = some f → Fence.wide.fn f) ∧ K' ((fr ts).put o.dst undef) W := by
 rw [if_pos (show Region.wanted o (yielded r4O (fr ts).tmps) = true from jO hg h23)]
 unfold Oper.wpIn;rw [Fence.wide_round, Oper.semAt_none];refine ⟨fun _ _ => trivial, ?_⟩
 rw [hv, Oper.uponIn_value, ho, eI];exact k
theorem zQ {f : FuncId} {args : Array Value} (ho : o.dst = some d) (hg : o.guard = some (1, true)) (h23 : ts[23]? = some (.bool true)) (hv : (execOp (fr ts).eval o).run Tryz.prog W = .ok (.enter f args) W')
    (k : CallsIn Fence.wide (n - 1) Tryz.prog f args W' fun e w => ∃ v, e = .returned v ∧ K' (fr (ts.setIfInBounds d v)) w) :
    if Region.wanted o (yielded r4O (fr ts).tmps) = true then Oper.wpIn Fence.wide n Tryz.prog o (fr ts) W K' Q else (∀ f, o.about Tryz.prog W (fr ts).eval = some f → Fence.wide.fn f) ∧ K' ((fr ts).put o.dst undef) W := by
 rw [if_pos (show Region.wanted o (yielded r4O (fr ts).tmps) = true from jO hg h23)]
 unfold Oper.wpIn;rw [Fence.wide_round, Oper.semAt_none];refine ⟨fun _ _ => trivial, ?_⟩
 rw [hv, Oper.uponIn_enter];refine ⟨(fun h => (by cases h)), k.mono ?_⟩
 rintro e w ⟨v, rfl, hk⟩;show K' ((fr ts).put o.dst v) w;rw [ho, eI]; exact hk
theorem o_round {l : Nat} {f : FuncId} {tmps : Array Value} {asg bdy : Code} (ho : o.dst = some d) (hg : o.guard = some (1, true)) (h23 : ts[23]? = some (.bool true)) (hv : (execOp (fr ts).eval o).run Tryz.prog W = .ok (.round l f tmps asg bdy) W')
    (k : RoundIn Fence.wide (n - 1) Tryz.prog l f tmps asg bdy W' fun e w => ∃ v, e = .returned v ∧ K' (fr (ts.setIfInBounds d v)) w) :
    if Region.wanted o (yielded r4O (fr ts).tmps) = true then Oper.wpIn Fence.wide n Tryz.prog o (fr ts) W K' Q else (∀ f, o.about Tryz.prog W (fr ts).eval = some f → Fence.wide.fn f) ∧ K' ((fr ts).put o.dst undef) W := by
 rw [if_pos (show Region.wanted o (yielded r4O (fr ts).tmps) = true from jO hg h23)]
 unfold Oper.wpIn;rw [Fence.wide_round, Oper.semAt_none];refine ⟨fun _ _ => trivial, ?_⟩
 rw [hv, Oper.uponIn_round];refine ⟨(fun h => (by cases h)), k.mono ?_⟩
 rintro e w ⟨v, rfl, hk⟩;show K' ((fr ts).put o.dst v) w;rw [ho, eI]; exact hk
end
theorem oY {ρ : Operand → Value} {o : Oper} {c : Call} {f : FuncId} {W : World} (ho : o.op = .call c) (hc : c.callee = .value (.func f)) (hρ : ρ (.func f) = .func (.func f) #[] #[]) (hf : ∃ fn code, Tryz.prog.funcs[f]? = some fn ∧ fn.body = some code ∧ (fn.name == "runtime.NumGoroutine") = false) :
    (execOp ρ o).run Tryz.prog W = .ok (.enter f (c.args.map ρ)) W := by
 obtain ⟨fn, code, h1, h2, h3⟩ := hf;unfold execOp; rw [ho];simp only [resolve, hc, hρ, Deferred.ofValue, Sem.run_bind, Sem.run_pure, Result.andThen_ok, invoke, callFunc, run_program, h1, h2, h3, Option.isNone_some, Bool.false_eq_true, if_false];simp
theorem aDB {ρ : Operand → Value} {o : Oper} {c : Call} {L : Nat} {x : Operand} {W : World} {r : Result Next} (ho : o.op = .call c) (hc : c.callee = .value x) (hρ : ρ x = .func (.yield L) #[] #[]) (hy : (Instr.yield L (c.args.map ρ)).run Tryz.prog W = r) :
    (execOp ρ o).run Tryz.prog W = r := by
 unfold execOp; rw [ho];simp only [resolve, hc, hρ, Deferred.ofValue, Sem.run_bind, Sem.run_pure, Result.andThen_ok, invoke];simpa using hy
theorem not_run {ρ : Operand → Value} {o : Oper} {t : TypeId} {x : Operand} {b : Bool} (ho : o.op = .unOp .not t x) (hx : ρ x = .bool b) (w : World) : (execOp ρ o).run Tryz.prog w = .ok (.value (.bool (!b))) w := by
 unfold execOp; rw [ho]; simp only [hx]; rfl
theorem aF0 {ρ ρ' : Operand → Value} {o o' : Oper} {v : Value} {t : TypeId} {x y z : Operand} (ho : o.op = .build t #[(0, x), (1, y), (2, z)]) (ho' : o'.op = .build t #[(0, x), (1, y), (2, z)]) (hx : ρ x = ρ' x) (hy : ρ y = ρ' y) (hz : ρ z = ρ' z) (h : ∀ w, (execOp ρ' o').run Tryz.prog w = .ok (.value v) w) (w : World) : (execOp ρ o).run Tryz.prog w = .ok (.value v) w := by
 have h := h w;unfold execOp at h ⊢; rw [ho'] at h; rw [ho];simp only [List.map_toArray, mpC, List.map_nil] at h ⊢;rw [hx, hy, hz]; exact h
structure R4 (t0 t1 : Array Value) (k : Nat) : Prop where
 sz : t1.size = 34
 lo : ∀ j, j < 22 → t1.getD j undef = t0.getD j undef
 g : t1[23]? = some (.bool true)
theorem R4.set {t0 t1 : Array Value} {k d : Nat} {v : Value} (h : R4 t0 t1 k) (hd : 23 < d) : R4 t0 (t1.setIfInBounds d v) k :=
 ⟨by simp [h.sz], fun j hj => by
  rw [Array.getD_eq_getD_getElem?, aDX (by omega), ← Array.getD_eq_getD_getElem?]; exact h.lo j hj, at23 h.g (by omega)⟩
theorem aG {ts : Array Value} {i j : Nat} {v : Value} (h : i ≠ j) : (ts.setIfInBounds i v).getD j undef = ts.getD j undef := by
 rw [Array.getD_eq_getD_getElem?, aDX h, ← Array.getD_eq_getD_getElem?]
theorem bK {ts : Array Value} {i : Nat} {v : Value} (h : i < ts.size) : (ts.setIfInBounds i v).getD i undef = v := by
 rw [Array.getD_eq_getD_getElem?, aDY h]; rfl
abbrev isBuild (o : Oper) : Prop := o.op = .build 137 #[(0, .tmp 25), (1, .tmp 26), (2, .tmp 28)]
def Built (s y g fv : Value) : Prop := ∀ (ρ : Operand → Value) (o : Oper), isBuild o → ρ (.tmp 25) = s → ρ (.tmp 26) = y → ρ (.tmp 28) = g → ∀ w, (execOp ρ o).run Tryz.prog w = .ok (.value fv) w
def aGd (L : Nat) (fv : Value) (R : World → Prop) (w : World) : Prop := ∃ f tmps asg bdy, (Instr.yield L #[fv]).run Tryz.prog w = .ok (.round L f tmps asg bdy) w ∧ RoundIn Fence.wide 1 Tryz.prog L f tmps asg bdy w fun e w' => e = .returned (.bool true) ∧ R w'
set_option maxRecDepth 100000 in
theorem zI {K : Act → World → Prop} {t0 t : Array Value} {w : World} {L : Nat} {s y g fv : Value} {R : World → Prop} (H : R4 t0 t 0) (h24 : t.getD 24 undef = .func (.yield L) #[] #[]) (h25 : t.getD 25 undef = s) (h26 : t.getD 26 undef = y) (h28 : t.getD 28 undef = g)
    (hB : Built s y g fv) (hY : aGd L fv R w) (h : ∀ (ts' : Array Value) w'', ts'.size = 34 → (∀ j, j < 22 → ts'.getD j undef = t0.getD j undef) → ts'.getD 32 undef = .bool false → R w'' → K (fr ts') w'') :
    wpAnyIn Fence.wide 2 Tryz.prog .any r4O (zO K) 4 #[true, true, true, true, true, true, true, false, false, false, false] (fr t) w := by
 have hQ : ∀ c a w, zO K (.panic c) a w ↔ False := fun _ _ _ => Iff.rfl
 have hsel : Region.noSelect r4O = true := by kernel_rfl
 refine qX (i := 7) (v := fv) rfl hsel (by kernel_rfl) (by kernel_rfl) hQ rfl (.inr ⟨rfl, H.g⟩) (fun _ => rfl) (hB _ _ rfl h25 h26 h28) ?_
 have H7 := H.set (d := 29) (v := fv) (by omega)
 obtain ⟨f, tmps, asg, bdy, y1, y2⟩ := hY;refine wpAnyIn_ready (rs := [8]) (by kernel_rfl) (by simp) (AllReadyIn.cons rfl (fun K1 hK1 => ?_) AllReadyIn.nil)
 refine o_round (d := 30) rfl rfl H7.g (aDB (x := .tmp 24) (L := L) rfl rfl ?_ ?_) (y2.mono ?_)
 ·rw [cO, aG (by omega)]; exact h24
 ·simp only [List.map_toArray, mpC, List.map_nil];rw [cO, bK (by rw [H.sz]; omega)]; exact y1
 rintro e w2 ⟨rfl, hR⟩;refine ⟨_, rfl, hK1 _ _ ?_⟩;have H8 := H7.set (d := 30) (v := .bool true) (by omega)
 refine qX (i := 9) (v := .bool false) rfl hsel (by kernel_rfl) (by kernel_rfl) hQ rfl (.inr ⟨rfl, H8.g⟩) (fun _ => rfl) (not_run (b := true) rfl ?_) ?_
 ·rw [cO, bK (by rw [H7.sz]; omega)]
 have H9 := H8.set (d := 31) (v := .bool false) (by omega)
 have e23 : ((t.setIfInBounds 29 fv).setIfInBounds 30 (.bool true)).setIfInBounds 31 (.bool false) = ((t.setIfInBounds 29 fv).setIfInBounds 30 (.bool true)).setIfInBounds 31 (.bool false) := rfl;refine qX (i := 10) rfl hsel (by kernel_rfl) (by kernel_rfl) hQ rfl (.inl rfl) (fun _ => rfl) (aBl (b := true) rfl (by rw [cO, Array.getD_eq_getD_getElem?, H9.g]; rfl)) ?_
 refine wpAnyIn_done (by kernel_rfl) ?_ _
 have H10 := fun v => H9.set (d := 32) (v := v) (by omega)
 refine h _ _ (H10 _).sz (H10 _).lo ?_ hR;rw [bK (by rw [H9.sz]; omega)]
 show (fr _).eval (.tmp 31) = _;rw [cO, bK (by rw [H8.sz]; omega)]
set_option maxRecDepth 100000 in
theorem r4_true {K : Act → World → Prop} {ts : Array Value} {W : World} {L bX bY : Nat} {X Y s : Value} {R : World → Prop} (hsz : ts.size = 34) (h0 : ts.getD 0 undef = .func (.yield L) #[] #[]) (h5 : ts.getD 5 undef = .pointer (some ⟨bX, 0, none⟩)) (h6 : ts.getD 6 undef = s)
    (h7 : ts.getD 7 undef = .pointer (some ⟨bY, 0, none⟩)) (h8 : ts.getD 8 undef = .bool true)
    (hX : (Instr.loadAt 38 (.pointer (some ⟨bX, 0, none⟩))).run Tryz.prog W.drew = .ok X W.drew) (hY : (Instr.loadAt 38 (.pointer (some ⟨bY, 0, none⟩))).run Tryz.prog W.drew = .ok Y W.drew)
    (hN : CallsIn Fence.wide 1 Tryz.prog 39 #[X] W.drew fun e w' => ∃ g fv, e = .returned g ∧ (Instr.loadAt 38 (.pointer (some ⟨bY, 0, none⟩))).run Tryz.prog w' = .ok Y w' ∧ Built s Y g fv ∧ aGd L fv R w')
    (h : ∀ (ts' : Array Value) w'', ts'.size = 34 → (∀ j, j < 22 → ts'.getD j undef = ts.getD j undef) → ts'.getD 32 undef = .bool false → R w'' → K (fr ts') w'') : r4C.wpIn Fence.wide 2 Tryz.prog (zO K) (fr ts) W := by
 have e : r4C = .region 4 r4O true := by kernel_rfl
 rw [e];refine wpIn_region_any (by kernel_rfl) ?_
 change wpAnyIn _ _ _ _ _ _ _ _ _ W.drew;have hQ : ∀ c a w, zO K (.panic c) a w ↔ False := fun _ _ _ => Iff.rfl
 have hsel : Region.noSelect r4O = true := by kernel_rfl
 have hn : r4O.size = 11 := by kernel_rfl
 have hf : ∃ fn code, Tryz.prog.funcs[39]? = some fn ∧ fn.body = some code ∧ (fn.name == "runtime.NumGoroutine") = false := ⟨_, _, Tryz.func39, rfl, by kernel_rfl⟩
 rw [hn];generalize W.drew = V at *;refine qX (i := 0) rfl hsel (by kernel_rfl) (by kernel_rfl) hQ rfl (.inl rfl) (fun _ => rfl) (lV rfl) ?_
 refine qX (i := 1) rfl hsel (by kernel_rfl) (by kernel_rfl) hQ rfl (.inl rfl) (fun _ => rfl) (lV rfl) ?_
 have e22 : (fr (ts.setIfInBounds 22 ((fr ts).eval (.tmp 8)))).eval (.tmp 22) = .bool true := by rw [cO, aI (by omega), if_pos rfl, cO]; exact h8
 rw [e22];generalize hg : (ts.setIfInBounds 22 ((fr ts).eval (.tmp 8))).setIfInBounds 23 (.bool true) = t1;have H1 : R4 ts t1 0 := ⟨by rw [← hg]; simp [hsz], fun j hj => by rw [← hg, aG (by omega), aG (by omega)], by rw [← hg]; exact aDY (by simp [hsz])⟩
 clear hg e22;refine qX (i := 2) rfl hsel (by kernel_rfl) (by kernel_rfl) hQ rfl (.inr ⟨rfl, H1.g⟩) (fun _ => rfl) (lV rfl) ?_
 have q2 : (fr t1).eval (.tmp 0) = .func (.yield L) #[] #[] := by rw [cO, H1.lo 0 (by omega)]; exact h0
 rw [q2];have H2 := H1.set (d := 24) (v := .func (.yield L) #[] #[]) (by omega)
 refine qX (i := 3) rfl hsel (by kernel_rfl) (by kernel_rfl) hQ rfl (.inr ⟨rfl, H2.g⟩) (fun _ => rfl) (lV rfl) ?_
 have q3 : (fr (t1.setIfInBounds 24 (.func (.yield L) #[] #[]))).eval (.tmp 6) = s := by rw [cO, H2.lo 6 (by omega)]; exact h6
 rw [q3];generalize hg : (t1.setIfInBounds 24 (.func (.yield L) #[] #[])).setIfInBounds 25 s = t2;have H3 : R4 ts t2 0 := by rw [← hg]; exact H2.set (by omega)
 have p24 : t2.getD 24 undef = .func (.yield L) #[] #[] := by rw [← hg, aG (by omega), bK (by rw [H1.sz]; omega)]
 have p25 : t2.getD 25 undef = s := by rw [← hg, bK (by rw [H2.sz]; omega)]
 clear hg q2 q3 H2 H1;have a5 : (fr t2).eval (.tmp 5) = .pointer (some ⟨bX, 0, none⟩) := by rw [cO, H3.lo 5 (by omega)]; exact h5
 have a7 : (fr t2).eval (.tmp 7) = .pointer (some ⟨bY, 0, none⟩) := by rw [cO, H3.lo 7 (by omega)]; exact h7
 have l27 : ∀ v, (fr (t2.setIfInBounds 27 v)).eval (.tmp 7) = .pointer (some ⟨bY, 0, none⟩) := fun v => by rw [cO, aG (by omega)]; exact a7
 have l26 : ∀ v, (fr (t2.setIfInBounds 26 v)).eval (.tmp 5) = .pointer (some ⟨bX, 0, none⟩) := fun v => by rw [cO, aG (by omega)]; exact a5
 have n26 := fun v => H3.set (d := 26) (v := v) (by omega)
 have n27 := fun v => H3.set (d := 27) (v := v) (by omega)
 refine wpAnyIn_ready (rs := [4, 5]) (by kernel_rfl) (by simp) (AllReadyIn.cons rfl (fun K1 hK1 => ?_) (AllReadyIn.cons rfl (fun K1 hK1 => ?_) AllReadyIn.nil))
 ·refine aEI (d := 26) rfl rfl H3.g (iF rfl (by rw [a7]; exact hY)) (hK1 _ _ ?_)
  refine wpAnyIn_ready (rs := [5]) (by kernel_rfl) (by simp) (AllReadyIn.cons rfl (fun K1 hK1 => ?_) AllReadyIn.nil)
  refine aEI (d := 27) rfl rfl (n26 _).g (iF rfl (by rw [l26]; exact hX)) (hK1 _ _ ?_)
  have H5 := (n26 Y).set (d := 27) (v := X) (by omega)
  refine wpAnyIn_ready (rs := [6]) (by kernel_rfl) (by simp) (AllReadyIn.cons rfl (fun K1 hK1 => ?_) AllReadyIn.nil)
  refine zQ (d := 28) rfl rfl H5.g (oY rfl rfl rfl hf) ?_;simp only [List.map_toArray, mpC, List.map_nil];rw [cO, bK (by rw [(n26 Y).sz]; omega)]
  refine hN.mono ?_;rintro e w' ⟨g, fv, rfl, -, hB, hY2⟩;refine ⟨_, rfl, hK1 _ _ ?_⟩;have H6 := H5.set (d := 28) (v := g) (by omega)
  have e9 := zI H6 (by rw [aG (by omega), aG (by omega), aG (by omega)]; exact p24) (by rw [aG (by omega), aG (by omega), aG (by omega)]; exact p25)
   (by rw [aG (by omega), aG (by omega), bK (by rw [H3.sz]; omega)]) (by rw [bK (by rw [H5.sz]; omega)]) hB hY2 h
  exact e9
 ·refine aEI (d := 27) rfl rfl H3.g (iF rfl (by rw [a5]; exact hX)) (hK1 _ _ ?_)
  refine wpAnyIn_ready (rs := [4, 6]) (by kernel_rfl) (by simp) (AllReadyIn.cons rfl (fun K1 hK1 => ?_) (AllReadyIn.cons rfl (fun K1 hK1 => ?_) AllReadyIn.nil))
  ·refine aEI (d := 26) rfl rfl (n27 _).g (iF rfl (by rw [l27]; exact hY)) (hK1 _ _ ?_)
   have H5 := (n27 X).set (d := 26) (v := Y) (by omega)
   refine wpAnyIn_ready (rs := [6]) (by kernel_rfl) (by simp) (AllReadyIn.cons rfl (fun K1 hK1 => ?_) AllReadyIn.nil)
   refine zQ (d := 28) rfl rfl H5.g (oY rfl rfl rfl hf) ?_;simp only [List.map_toArray, mpC, List.map_nil];rw [cO, aG (by omega), bK (by rw [H3.sz]; omega)]
   refine hN.mono ?_;rintro e w' ⟨g, fv, rfl, -, hB, hY2⟩;refine ⟨_, rfl, hK1 _ _ ?_⟩;have H6 := H5.set (d := 28) (v := g) (by omega)
   have e9 := zI H6 (by rw [aG (by omega), aG (by omega), aG (by omega)]; exact p24) (by rw [aG (by omega), aG (by omega), aG (by omega)]; exact p25)
    (by rw [aG (by omega), bK (by rw [(n27 X).sz]; omega)]) (by rw [bK (by rw [H5.sz]; omega)]) hB hY2 h
   exact e9
  ·refine zQ (d := 28) rfl rfl (n27 _).g (oY rfl rfl rfl hf) ?_;simp only [List.map_toArray, mpC, List.map_nil];rw [cO, bK (by rw [H3.sz]; omega)]
   refine hN.mono ?_;rintro e w' ⟨g, fv, rfl, hY3, hB, hY2⟩;refine ⟨_, rfl, hK1 _ _ ?_⟩;have H5 := (n27 X).set (d := 28) (v := g) (by omega)
   refine wpAnyIn_ready (rs := [4]) (by kernel_rfl) (by simp) (AllReadyIn.cons rfl (fun K1 hK1 => ?_) AllReadyIn.nil)
   refine aEI (d := 26) rfl rfl H5.g (iF rfl (by rw [cO, aG (by omega), ← cO, l27]; exact hY3)) (hK1 _ _ ?_)
   have H6 := H5.set (d := 26) (v := Y) (by omega)
   have e9 := zI H6 (by rw [aG (by omega), aG (by omega), aG (by omega)]; exact p24) (by rw [aG (by omega), aG (by omega), aG (by omega)]; exact p25)
    (by rw [bK (by rw [H5.sz]; omega)]) (by rw [aG (by omega), bK (by rw [(n27 X).sz]; omega)]) hB hY2 h
   exact e9
end Go.Rf
