/- Source.Next: the walk; frames but for one box. -/
import Derived.Test.YtlealdhgajomhaaBddM
namespace Go.Proofs.Ytlealdhgajomhaa
set_option linter.unusedVariables false
open Go.AI
set_option linter.unusedSimpArgs false

/-- what was there is there still, but for one box -/
structure EXb (b : Nat) (σ σ' : St) : Prop where
  next : σ.next ≤ σ'.next
  get : ∀ id, id < σ.next → id ≠ b → σ'.get id = σ.get id
  row : ∀ id, id < σ.next → id ≠ b → σ'.row id = σ.row id
  fr : Fr σ → Fr σ'
  ver : ∀ g, g < σ.next → σ'.ver g = σ.ver g
theorem EXb.refl (b : Nat) (σ : St) : EXb b σ σ := ⟨Nat.le_refl _, fun _ _ _ => rfl, fun _ _ _ => rfl, id, fun _ _ => rfl⟩
theorem EXb.of {b : Nat} {σ σ' : St} (h : EX σ σ') : EXb b σ σ' := ⟨h.next, fun id hi _ => h.get id hi, fun id hi _ => h.row id hi, h.fr, h.ver⟩
theorem EXb.trans {b : Nat} {σ τ υ : St} (h : EXb b σ τ) (k : EXb b τ υ) : EXb b σ υ :=
  ⟨Nat.le_trans h.next k.next, fun id hi hb => (k.get id (by have := h.next; omega) hb).trans (h.get id hi hb), fun id hi hb => (k.row id (by have := h.next; omega) hb).trans (h.row id hi hb), fun f => k.fr (h.fr f), fun g hg => (k.ver g (by have := h.next; omega)).trans (h.ver g hg)⟩
theorem EXb.thn {b : Nat} {σ τ υ : St} (h : EXb b σ τ) (k : EX τ υ) : EXb b σ υ := h.trans (.of k)
theorem EXb.more {b : Nat} {σ τ : St} (h : EXb b σ τ) (k : Nat) : EXb b σ (τ.more k) := h.trans (.of ((EX.refl τ).more k))
theorem EXb.put {b : Nat} {σ τ : St} (h : EXb b σ τ) {k : Nat} (hk : σ.next ≤ k ∨ k = b) (ob : AObj) : EXb b σ (τ.put k ob) := by
  refine ⟨h.next, fun id hi hb => ?_, fun id hi hb => ?_, fun f => (h.fr f), h.ver⟩
  · rw [St.get_put, if_neg (by omega)]; exact h.get id hi hb
  · rw [row_put_ne (by omega)]; exact h.row id hi hb
theorem UN.exb {b lo hi : Nat} {σ τ τ' : St} (e : EXb b τ τ') (h : UN lo hi σ τ) (hh : hi ≤ τ.next) (hb : b < lo ∨ hi ≤ b) : UN lo hi σ τ' := ⟨fun id h1 h2 => (e.row id (by omega) (by omega)).trans (h.row id h1 h2)⟩

def u8s (cs : List Nat) : List Value := cs.map fun (k : Nat) => .int .u8 (k : Int)
def Src (b : Nat) (σ : St) (cs : List Nat) : Prop := ∃ (o : Option Addr) (c p : Nat), σ.row b = some ([.slice o cs.length c, .int .i64 p], boxMeta) ∧ b < σ.next ∧ p ≤ cs.length ∧
  (0 < cs.length → ∃ id off row m, o = some ⟨id, off, none⟩ ∧ id < b ∧ σ.row id = some (row, m) ∧ (row.drop off).take cs.length = u8s cs)
theorem Src.mono {b : Nat} {σ τ : St} {cs : List Nat} (h : Src b σ cs) (e : EX σ τ) : Src b τ cs := by
  obtain ⟨o, c, p, h1, h2, h3, h4⟩ := h
  refine ⟨o, c, p, (e.row b h2).trans h1, by have := e.next; omega, h3, fun h0 => ?_⟩
  obtain ⟨id, off, row, m, g1, g2, g3, g4⟩ := h4 h0
  exact ⟨id, off, row, m, g1, g2, (e.row id (by omega)).trans g3, g4⟩
theorem u8_at {row : List Value} {off : Nat} {cs : List Nat} (h : (row.drop off).take cs.length = u8s cs) {i : Nat} (hi : i < cs.length) : row[off + i]? = some (.int .u8 ((cs.getD i 0 : Nat) : Int)) := by
  have h1 : ((row.drop off).take cs.length)[i]? = some (.int .u8 ((cs.getD i 0 : Nat) : Int)) := by
    rw [h]; simp [u8s, hi]
  rw [List.getElem?_take, if_pos hi, List.getElem?_drop] at h1
  exact h1

theorem Next_spec {b : Nat} {σ : St} {cs : List Nat} {n : Nat} (h : Src b σ cs) (hc : ∀ k ∈ cs, k < 256) (hl : cs.length ≤ 1000) (hn : 1 ≤ n) (hn2 : n ≤ 1000) :
    wpc Try.prog 28 #[.pointer (some ⟨b, 0, none⟩), .int .i64 n] σ fun r σ' => (∃ k : Nat, r = .int .i64 k ∧ k < n) ∧ Src b σ' cs ∧ EXb b σ σ' := by
  obtain ⟨o, c, p, h1, h2, h3, h4⟩ := h
  refine body_go Try.func28 rfl ?_
  have hr := Try.results28
  simp only [c_seq, RUNA, Nat.reduceAdd, Nat.reduceMod, Nat.reduceDiv, Nat.reduceSub, Nat.reduceMul, Nat.reduceEqDiff, Nat.reduceBEq, Nat.reduceLeDiff, Int.reduceToNat, fillS, wantG, vBox, Value.cells, one, putAt, Option.getD_some, Option.map_some, Option.bind_some, ne_eq, Option.some.injEq, Prod.mk.injEq, exists_and_left, exists_eq_left', exists_eq_left, List.size_toArray, List.length_cons, List.length_nil, if_true, if_false, exists_eq', exists_const, List.getElem?_cons_zero, List.getElem?_cons_succ, List.map_toArray, List.map_cons, List.map_nil, beq_iff_eq, List.all_cons, List.all_nil, cond_true, List.set_cons_zero, List.set_cons_succ, List.drop_zero, List.drop_succ_cons, List.take_succ_cons, List.take_zero, List.getElem?_toArray, Option.map_none, Option.getD_none, TYA, hr]
  refine d_go (ms := [0, 1, 3, 7, 0, 16, 48, 112, 240, 511, 1023, 2047, 4095, 8191]) (order := [0, 1, 2, 3, 4, 5, 6, 7, 8, 9, 10, 11, 12, 13]) (by kernel_rfl) (by kernel_rfl) (by kernel_rfl) ?_
  by_cases hp : p < cs.length
  · have hd : decide (((cs.length : Nat) : Int) ≤ (p : Int)) = false := by simp; omega
    have hd2 : decide ((n : Int) < 1) = false := by simp; omega
    have hw : IntKind.i64.wrap ((p : Int) + 1) = ((p + 1 : Nat) : Int) := by rw [wrap64 (by omega) (by omega)]; rfl
    have hw2 : IntKind.i64.wrap (((p + 1 : Nat) : Int) - 1) = (p : Int) := by rw [wrap64 (by omega) (by omega)]; omega
    obtain ⟨id, off, row, m, rfl, g2, g3, g4⟩ := h4 (by omega)
    have q : ¬ id = b := by omega
    have z2 : (0 : Int) ≤ (p : Int) := by omega
    have z3 : (p : Int) < (cs.length : Int) := by omega
    have hv := u8_at g4 hp
    have hk : cs.getD p 0 < 256 := by
      rw [List.getD_eq_getElem?_getD, List.getElem?_eq_getElem hp, Option.getD_some]; exact hc _ (List.getElem_mem hp)
    have hcv : aconv Try.prog 5 3 (.int .u8 ((cs.getD p 0 : Nat) : Int)) = some (.int .i64 ((cs.getD p 0 : Nat) : Int)) := by
      rw [n_conv Try.underlying5 Try.underlying3, wrap64 (by omega) (by omega)]
    have hn0 : (n : Int) ≠ 0 := by omega
    simp only [YRUNA, Nat.reduceShiftRight, bit, List.filterMap_cons, List.filterMap_nil, List.filter_cons, List.filter_nil, List.forall_mem_cons, List.not_mem_nil, implies_true, List.getD_cons_zero, List.getD_cons_succ, eq_self, c_seq, RUNA, Nat.reduceAdd, Nat.reduceMod, Nat.reduceDiv, Nat.reduceSub, Nat.reduceMul, Nat.reduceEqDiff, Nat.reduceBEq, Nat.reduceLeDiff, Int.reduceToNat, fillS, wantG, vBox, Value.cells, one, putAt, Option.getD_some, Option.map_some, Option.bind_some, ne_eq, Option.some.injEq, Prod.mk.injEq, exists_and_left, exists_eq_left', exists_eq_left, List.size_toArray, List.length_cons, List.length_nil, if_true, if_false, exists_eq', exists_const, List.getElem?_cons_zero, List.getElem?_cons_succ, List.map_toArray, List.map_cons, List.map_nil, beq_iff_eq, List.all_cons, List.all_nil, cond_true, List.set_cons_zero, List.set_cons_succ, List.drop_zero, List.drop_succ_cons, List.take_succ_cons, List.take_zero, List.getElem?_toArray, Option.map_none, Option.getD_none, TYA, h1, hd, hd2, hw]
    refine d_go (ms := [0, 1, 3, 7, 0, 16, 48, 112, 240, 511, 1023, 2047, 0, 8191, 16383]) (order := [0, 1, 2, 3, 4, 5, 6, 7, 8, 9, 10, 11, 12, 13, 14]) (by kernel_rfl) (by kernel_rfl) (by kernel_rfl) ?_
    simp only [YRUNA, Nat.reduceShiftRight, bit, List.filterMap_cons, List.filterMap_nil, List.filter_cons, List.filter_nil, List.forall_mem_cons, List.not_mem_nil, implies_true, List.getD_cons_zero, List.getD_cons_succ, eq_self, c_seq, RUNA, Nat.reduceAdd, Nat.reduceMod, Nat.reduceDiv, Nat.reduceSub, Nat.reduceMul, Nat.reduceEqDiff, Nat.reduceBEq, Nat.reduceLeDiff, Int.reduceToNat, fillS, wantG, vBox, Value.cells, one, putAt, Option.getD_some, Option.map_some, Option.bind_some, ne_eq, Option.some.injEq, Prod.mk.injEq, exists_and_left, exists_eq_left', exists_eq_left, List.size_toArray, List.length_cons, List.length_nil, if_true, if_false, exists_eq', exists_const, List.getElem?_cons_zero, List.getElem?_cons_succ, List.map_toArray, List.map_cons, List.map_nil, beq_iff_eq, List.all_cons, List.all_nil, cond_true, List.set_cons_zero, List.set_cons_succ, List.drop_zero, List.drop_succ_cons, List.take_succ_cons, List.take_zero, List.getElem?_toArray, Option.map_none, Option.getD_none, TYA, h1, hw2, ia32 z2 z3, g3, q, hv, hcv, n_rem hn0, hr]
    refine ⟨⟨cs.getD p 0 % n, ?_, Nat.mod_lt _ (by omega)⟩, ⟨_, c, p + 1, ?_, ?_, by omega, fun _ => ⟨id, off, row, m, rfl, g2, ?_, g4⟩⟩, ?_⟩
    · rw [Int.natCast_emod]; rfl
    · simp only [c_seq, RUNA, Nat.reduceAdd, Nat.reduceMod, Nat.reduceDiv, Nat.reduceSub, Nat.reduceMul, Nat.reduceEqDiff, Nat.reduceBEq, Nat.reduceLeDiff, Int.reduceToNat, fillS, wantG, vBox, Value.cells, one, putAt, Option.getD_some, Option.map_some, Option.bind_some, ne_eq, Option.some.injEq, Prod.mk.injEq, exists_and_left, exists_eq_left', exists_eq_left, List.size_toArray, List.length_cons, List.length_nil, if_true, if_false, exists_eq', exists_const, List.getElem?_cons_zero, List.getElem?_cons_succ, List.map_toArray, List.map_cons, List.map_nil, beq_iff_eq, List.all_cons, List.all_nil, cond_true, List.set_cons_zero, List.set_cons_succ, List.drop_zero, List.drop_succ_cons, List.take_succ_cons, List.take_zero, List.getElem?_toArray, Option.map_none, Option.getD_none]
    · first | omega | (simp only [next_more, next_put] at *; omega)
    · simp only [c_seq, RUNA, Nat.reduceAdd, Nat.reduceMod, Nat.reduceDiv, Nat.reduceSub, Nat.reduceMul, Nat.reduceEqDiff, Nat.reduceBEq, Nat.reduceLeDiff, Int.reduceToNat, fillS, wantG, vBox, Value.cells, one, putAt, Option.getD_some, Option.map_some, Option.bind_some, ne_eq, Option.some.injEq, Prod.mk.injEq, exists_and_left, exists_eq_left', exists_eq_left, List.size_toArray, List.length_cons, List.length_nil, if_true, if_false, exists_eq', exists_const, List.getElem?_cons_zero, List.getElem?_cons_succ, List.map_toArray, List.map_cons, List.map_nil, beq_iff_eq, List.all_cons, List.all_nil, cond_true, List.set_cons_zero, List.set_cons_succ, List.drop_zero, List.drop_succ_cons, List.take_succ_cons, List.take_zero, List.getElem?_toArray, Option.map_none, Option.getD_none, q, g3]
    · repeat first | exact EXb.refl _ _ | refine EXb.more ?_ _ | refine EXb.put ?_ (by omega) _
  · have hd : decide (((cs.length : Nat) : Int) ≤ (p : Int)) = true := by simp; omega
    simp only [YRUNA, Nat.reduceShiftRight, bit, List.filterMap_cons, List.filterMap_nil, List.filter_cons, List.filter_nil, List.forall_mem_cons, List.not_mem_nil, implies_true, List.getD_cons_zero, List.getD_cons_succ, eq_self, c_seq, RUNA, Nat.reduceAdd, Nat.reduceMod, Nat.reduceDiv, Nat.reduceSub, Nat.reduceMul, Nat.reduceEqDiff, Nat.reduceBEq, Nat.reduceLeDiff, Int.reduceToNat, fillS, wantG, vBox, Value.cells, one, putAt, Option.getD_some, Option.map_some, Option.bind_some, ne_eq, Option.some.injEq, Prod.mk.injEq, exists_and_left, exists_eq_left', exists_eq_left, List.size_toArray, List.length_cons, List.length_nil, if_true, if_false, exists_eq', exists_const, List.getElem?_cons_zero, List.getElem?_cons_succ, List.map_toArray, List.map_cons, List.map_nil, beq_iff_eq, List.all_cons, List.all_nil, cond_true, List.set_cons_zero, List.set_cons_succ, List.drop_zero, List.drop_succ_cons, List.take_succ_cons, List.take_zero, List.getElem?_toArray, Option.map_none, Option.getD_none, TYA, h1, hd, hr]
    refine ⟨⟨0, rfl, by omega⟩, Src.mono ⟨o, c, p, h1, h2, h3, h4⟩ ?_, EXb.of ?_⟩
    · repeat first | assumption | exact EXn.refl _ _ | refine EXn.more ?_ _ | refine EXn.put ?_ (by omega) _ | refine EX.trans ?_ (by assumption)
    · repeat first | assumption | exact EXn.refl _ _ | refine EXn.more ?_ _ | refine EXn.put ?_ (by omega) _ | refine EX.trans ?_ (by assumption)
end Go.Proofs.Ytlealdhgajomhaa
