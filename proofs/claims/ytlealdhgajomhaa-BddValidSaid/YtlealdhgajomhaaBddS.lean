/- The reference's Valid: the walk. -/
import Derived.Test.YtlealdhgajomhaaBddR
namespace Go.Proofs.Ytlealdhgajomhaa
set_option linter.unusedVariables false
open Go.AI
set_option linter.unusedSimpArgs false

set_option maxHeartbeats 4000000 in
theorem refValid_spec {σ : St} {a : Value} {d : List Vtx × Int} (ha : DV σ a d) (hl : d.1.length < 1000000) (hF : Fr σ) : wpc Try.prog 16 #[a] σ fun r σ' => (∃ b, r = .bool b ∧ (b = true ↔ ValidD d)) ∧ EX σ σ' := by
  obtain ⟨oa, ca, rfl, hA⟩ := ha.open
  obtain ⟨l, root⟩ := d
  simp only at hA hl ⊢
  refine body_go Try.func16 rfl ?_
  have hr := Try.results16
  have no : ∀ {p : Prop}, ¬ p → ((false : Bool) = true ↔ p) := fun h => ⟨(fun e => by cases e), fun e => (h e).elim⟩
  by_cases h2 : l.length < 2
  · have hd : decide ((l.length : Int) < 2) = true := by simp; omega
    simp only [c_seq, RUNA, Nat.reduceAdd, Nat.reduceMod, Nat.reduceDiv, Nat.reduceSub, Nat.reduceMul, Nat.reduceEqDiff, Nat.reduceBEq, Nat.reduceLeDiff, Int.reduceToNat, fillS, wantG, vBox, Value.cells, one, putAt, Option.getD_some, Option.map_some, Option.bind_some, ne_eq, Option.some.injEq, Prod.mk.injEq, exists_and_left, exists_eq_left', exists_eq_left, List.size_toArray, List.length_cons, List.length_nil, if_true, if_false, exists_eq', exists_const, List.getElem?_cons_zero, List.getElem?_cons_succ, List.map_toArray, List.map_cons, List.map_nil, beq_iff_eq, List.all_cons, List.all_nil, cond_true, List.set_cons_zero, List.set_cons_succ, List.drop_zero, List.drop_succ_cons, List.take_succ_cons, List.take_zero, List.getElem?_toArray, Option.map_none, Option.getD_none, TYA, hr, hd]
    refine ⟨⟨false, rfl, no fun h => by have := h.1.len; simp only at this; omega⟩, ?_⟩
    repeat first | assumption | exact EXn.refl _ _ | refine EXn.more ?_ _ | refine EXn.put ?_ (by omega) _ | refine EX.trans ?_ (by assumption)
  have hd0 : decide ((l.length : Int) < 2) = false := by simp; omega
  obtain ⟨aid, aoff, arow, am, rfl, a1, a2, a3⟩ := hA (by omega)
  have cut0 := row_cut a3 (i := 0) (by omega)
  have cut1 := row_cut a3 (i := 1) (by omega)
  simp only [Nat.zero_mul, Nat.add_zero, Nat.one_mul] at cut0 cut1
  have z0 : (0 : Int) ≤ 0 := by omega
  have z1 : (0 : Int) < (l.length : Int) := by omega
  have z2 : (0 : Int) ≤ 1 := by omega
  have z3 : (1 : Int) < (l.length : Int) := by omega
  have na : ¬ aid = σ.next := by omega
  by_cases h0 : ¬ vx l 0 = (-1, 0, 0)
  · have v0 : veq (vx l 0).1 (vx l 0).2.1 (vx l 0).2.2 (-1) 0 0 = false := veq_f h0
    simp only [c_seq, RUNA, Nat.reduceAdd, Nat.reduceMod, Nat.reduceDiv, Nat.reduceSub, Nat.reduceMul, Nat.reduceEqDiff, Nat.reduceBEq, Nat.reduceLeDiff, Int.reduceToNat, fillS, wantG, vBox, Value.cells, one, putAt, Option.getD_some, Option.map_some, Option.bind_some, ne_eq, Option.some.injEq, Prod.mk.injEq, exists_and_left, exists_eq_left', exists_eq_left, List.size_toArray, List.length_cons, List.length_nil, if_true, if_false, exists_eq', exists_const, List.getElem?_cons_zero, List.getElem?_cons_succ, List.map_toArray, List.map_cons, List.map_nil, beq_iff_eq, List.all_cons, List.all_nil, cond_true, List.set_cons_zero, List.set_cons_succ, List.drop_zero, List.drop_succ_cons, List.take_succ_cons, List.take_zero, List.getElem?_toArray, Option.map_none, Option.getD_none, TYA, hr, hd0, ia23 z0 z1, bd40, bd40_1, neq40, a2, na, cut0, v0]
    refine ⟨⟨false, rfl, no fun h => h0 h.2.1⟩, ?_⟩
    repeat first | assumption | exact EXn.refl _ _ | refine EXn.more ?_ _ | refine EXn.put ?_ (by omega) _ | refine EX.trans ?_ (by assumption)
  rw [Classical.not_not] at h0
  have v0 : veq (vx l 0).1 (vx l 0).2.1 (vx l 0).2.2 (-1) 0 0 = true := veq_t h0
  by_cases h1 : ¬ vx l 1 = (-1, 1, 1)
  · have v1 : veq (vx l 1).1 (vx l 1).2.1 (vx l 1).2.2 (-1) 1 1 = false := veq_f h1
    simp only [c_seq, RUNA, Nat.reduceAdd, Nat.reduceMod, Nat.reduceDiv, Nat.reduceSub, Nat.reduceMul, Nat.reduceEqDiff, Nat.reduceBEq, Nat.reduceLeDiff, Int.reduceToNat, fillS, wantG, vBox, Value.cells, one, putAt, Option.getD_some, Option.map_some, Option.bind_some, ne_eq, Option.some.injEq, Prod.mk.injEq, exists_and_left, exists_eq_left', exists_eq_left, List.size_toArray, List.length_cons, List.length_nil, if_true, if_false, exists_eq', exists_const, List.getElem?_cons_zero, List.getElem?_cons_succ, List.map_toArray, List.map_cons, List.map_nil, beq_iff_eq, List.all_cons, List.all_nil, cond_true, List.set_cons_zero, List.set_cons_succ, List.drop_zero, List.drop_succ_cons, List.take_succ_cons, List.take_zero, List.getElem?_toArray, Option.map_none, Option.getD_none, TYA, hr, hd0, ia23 z0 z1, ia23 z2 z3, bd40, bd40_1, neq40, a2, na, cut0, cut1, v0, v1]
    refine ⟨⟨false, rfl, no fun h => h1 h.2.2.1⟩, ?_⟩
    repeat first | assumption | exact EXn.refl _ _ | refine EXn.more ?_ _ | refine EXn.put ?_ (by omega) _ | refine EX.trans ?_ (by assumption)
  rw [Classical.not_not] at h1
  have v1 : veq (vx l 1).1 (vx l 1).2.1 (vx l 1).2.2 (-1) 1 1 = true := veq_t h1
  simp only [c_seq, RUNA, Nat.reduceAdd, Nat.reduceMod, Nat.reduceDiv, Nat.reduceSub, Nat.reduceMul, Nat.reduceEqDiff, Nat.reduceBEq, Nat.reduceLeDiff, Int.reduceToNat, fillS, wantG, vBox, Value.cells, one, putAt, Option.getD_some, Option.map_some, Option.bind_some, ne_eq, Option.some.injEq, Prod.mk.injEq, exists_and_left, exists_eq_left', exists_eq_left, List.size_toArray, List.length_cons, List.length_nil, if_true, if_false, exists_eq', exists_const, List.getElem?_cons_zero, List.getElem?_cons_succ, List.map_toArray, List.map_cons, List.map_nil, beq_iff_eq, List.all_cons, List.all_nil, cond_true, List.set_cons_zero, List.set_cons_succ, List.drop_zero, List.drop_succ_cons, List.take_succ_cons, List.take_zero, List.getElem?_toArray, Option.map_none, Option.getD_none, TYA, hr, hd0, ia23 z0 z1, ia23 z2 z3, bd40, bd40_1, neq40, a2, na, cut0, cut1, v0, v1]
  refine loop_go (fun m S τ => S.at 1 = .pointer (some ⟨σ.next, 0, none⟩) ∧ EX σ τ ∧ σ.next < τ.next ∧
    τ.row σ.next = some ([.slice (some ⟨aid, aoff, none⟩) l.length ca, .int .i64 root], boxMeta) ∧
    ∃ k : Nat, S.at 3 = .int .i64 k ∧ 2 ≤ k ∧ k ≤ l.length ∧ m = l.length - k ∧ Gk l k) (l.length - 2) ?_ ?_
  · simp only [c_seq, RUNA, Nat.reduceAdd, Nat.reduceMod, Nat.reduceDiv, Nat.reduceSub, Nat.reduceMul, Nat.reduceEqDiff, Nat.reduceBEq, Nat.reduceLeDiff, Int.reduceToNat, fillS, wantG, vBox, Value.cells, one, putAt, Option.getD_some, Option.map_some, Option.bind_some, ne_eq, Option.some.injEq, Prod.mk.injEq, exists_and_left, exists_eq_left', exists_eq_left, List.size_toArray, List.length_cons, List.length_nil, if_true, if_false, exists_eq', exists_const, List.getElem?_cons_zero, List.getElem?_cons_succ, List.map_toArray, List.map_cons, List.map_nil, beq_iff_eq, List.all_cons, List.all_nil, cond_true, List.set_cons_zero, List.set_cons_succ, List.drop_zero, List.drop_succ_cons, List.take_succ_cons, List.take_zero, List.getElem?_toArray, Option.map_none, Option.getD_none, k_tmp, k_val, List.append_toArray, List.nil_append, List.cons_append, mm_none, row_putm, na]
    refine ⟨?_, by omega, 2, rfl, by omega, by omega, rfl, Gk.two l⟩
    repeat first | assumption | exact EXn.refl _ _ | refine EXn.more ?_ _ | refine EXn.put ?_ (by omega) _ | refine EX.trans ?_ (by assumption)
  rintro _ S τ ⟨s1, hE, hx, r0, k, s3, k2, kl, rfl, hG⟩
  have hn := hE.next
  have ra := (hE.row aid a1).trans a2
  by_cases hlt : k < l.length
  · have hd : decide ((k : Int) < (l.length : Int)) = true := by simp; omega
    have y0 : (0 : Int) ≤ (k : Int) := by omega
    have y1 : (k : Int) < (l.length : Int) := by omega
    have ck := row_cut a3 hlt
    have bad : ¬ (Ck1 l k ∧ Ck2 l k) → ∀ τ', EX σ τ' → (∃ b, (Value.bool false) = .bool b ∧ (b = true ↔ ValidD (l, root))) ∧ EX σ τ' := by
      intro h τ' e
      refine ⟨⟨false, rfl, no fun hv => h ?_⟩, e⟩
      have := (hv.1.gk).mono (m := k + 1) (by simp only; omega)
      exact ⟨this.ck1 k2, this.ck2 k2⟩
    have e5 : ¬ σ.next = τ.next + 10 := by omega
    have e6 : ¬ aid = τ.next + 10 := by omega
    have e5' : ¬ τ.next + 10 = σ.next := by omega
    have e6' : ¬ τ.next + 10 = aid := by omega
    by_cases q1 : (vx l k).1 < 0
    · have c1 : decide ((vx l k).1 < 0) = true := decide_eq_true q1
      simp only [c_seq, RUNA, Nat.reduceAdd, Nat.reduceMod, Nat.reduceDiv, Nat.reduceSub, Nat.reduceMul, Nat.reduceEqDiff, Nat.reduceBEq, Nat.reduceLeDiff, Int.reduceToNat, fillS, wantG, vBox, Value.cells, one, putAt, Option.getD_some, Option.map_some, Option.bind_some, ne_eq, Option.some.injEq, Prod.mk.injEq, exists_and_left, exists_eq_left', exists_eq_left, List.size_toArray, List.length_cons, List.length_nil, if_true, if_false, exists_eq', exists_const, List.getElem?_cons_zero, List.getElem?_cons_succ, List.map_toArray, List.map_cons, List.map_nil, beq_iff_eq, List.all_cons, List.all_nil, cond_true, List.set_cons_zero, List.set_cons_succ, List.drop_zero, List.drop_succ_cons, List.take_succ_cons, List.take_zero, List.getElem?_toArray, Option.map_none, Option.getD_none, TYA, k_tmp, k_val, List.append_toArray, List.nil_append, List.cons_append, mm_none, row_putm, s1, s3, hd, ia23 y0 y1, ra, ck, r0, hr, e5, e6, e5', e6', c1]
      refine bad (fun h => by have := h.1.1; omega) _ ?_
      repeat first | assumption | exact EXn.refl _ _ | refine EXn.more ?_ _ | refine EXn.put ?_ (by omega) _ | refine EX.trans ?_ (by assumption)
    have c1 : decide ((vx l k).1 < 0) = false := decide_eq_false q1
    by_cases q2 : 10 ≤ (vx l k).1
    · have c2 : decide (10 ≤ (vx l k).1) = true := decide_eq_true q2
      simp only [c_seq, RUNA, Nat.reduceAdd, Nat.reduceMod, Nat.reduceDiv, Nat.reduceSub, Nat.reduceMul, Nat.reduceEqDiff, Nat.reduceBEq, Nat.reduceLeDiff, Int.reduceToNat, fillS, wantG, vBox, Value.cells, one, putAt, Option.getD_some, Option.map_some, Option.bind_some, ne_eq, Option.some.injEq, Prod.mk.injEq, exists_and_left, exists_eq_left', exists_eq_left, List.size_toArray, List.length_cons, List.length_nil, if_true, if_false, exists_eq', exists_const, List.getElem?_cons_zero, List.getElem?_cons_succ, List.map_toArray, List.map_cons, List.map_nil, beq_iff_eq, List.all_cons, List.all_nil, cond_true, List.set_cons_zero, List.set_cons_succ, List.drop_zero, List.drop_succ_cons, List.take_succ_cons, List.take_zero, List.getElem?_toArray, Option.map_none, Option.getD_none, TYA, k_tmp, k_val, List.append_toArray, List.nil_append, List.cons_append, mm_none, row_putm, s1, s3, hd, ia23 y0 y1, ra, ck, r0, hr, e5, e6, e5', e6', c1, c2]
      refine bad (fun h => by have := h.1.2.1; omega) _ ?_
      repeat first | assumption | exact EXn.refl _ _ | refine EXn.more ?_ _ | refine EXn.put ?_ (by omega) _ | refine EX.trans ?_ (by assumption)
    have c2 : decide (10 ≤ (vx l k).1) = false := decide_eq_false q2
    by_cases q3 : (vx l k).2.1 = (vx l k).2.2
    · have c3 : ((vx l k).2.1 == (vx l k).2.2) = true := by simp [q3]
      simp only [c_seq, RUNA, Nat.reduceAdd, Nat.reduceMod, Nat.reduceDiv, Nat.reduceSub, Nat.reduceMul, Nat.reduceEqDiff, Nat.reduceBEq, Nat.reduceLeDiff, Int.reduceToNat, fillS, wantG, vBox, Value.cells, one, putAt, Option.getD_some, Option.map_some, Option.bind_some, ne_eq, Option.some.injEq, Prod.mk.injEq, exists_and_left, exists_eq_left', exists_eq_left, List.size_toArray, List.length_cons, List.length_nil, if_true, if_false, exists_eq', exists_const, List.getElem?_cons_zero, List.getElem?_cons_succ, List.map_toArray, List.map_cons, List.map_nil, beq_iff_eq, List.all_cons, List.all_nil, cond_true, List.set_cons_zero, List.set_cons_succ, List.drop_zero, List.drop_succ_cons, List.take_succ_cons, List.take_zero, List.getElem?_toArray, Option.map_none, Option.getD_none, TYA, k_tmp, k_val, List.append_toArray, List.nil_append, List.cons_append, mm_none, row_putm, s1, s3, hd, ia23 y0 y1, ra, ck, r0, hr, e5, e6, e5', e6', c1, c2, c3]
      refine bad (fun h => h.1.2.2.2.2.2.2.1 q3) _ ?_
      repeat first | assumption | exact EXn.refl _ _ | refine EXn.more ?_ _ | refine EXn.put ?_ (by omega) _ | refine EX.trans ?_ (by assumption)
    have c3 : ((vx l k).2.1 == (vx l k).2.2) = false := by simp [q3]
    by_cases q4 : (vx l k).2.1 < 0
    · have c4 : decide ((vx l k).2.1 < 0) = true := decide_eq_true q4
      simp only [c_seq, RUNA, Nat.reduceAdd, Nat.reduceMod, Nat.reduceDiv, Nat.reduceSub, Nat.reduceMul, Nat.reduceEqDiff, Nat.reduceBEq, Nat.reduceLeDiff, Int.reduceToNat, fillS, wantG, vBox, Value.cells, one, putAt, Option.getD_some, Option.map_some, Option.bind_some, ne_eq, Option.some.injEq, Prod.mk.injEq, exists_and_left, exists_eq_left', exists_eq_left, List.size_toArray, List.length_cons, List.length_nil, if_true, if_false, exists_eq', exists_const, List.getElem?_cons_zero, List.getElem?_cons_succ, List.map_toArray, List.map_cons, List.map_nil, beq_iff_eq, List.all_cons, List.all_nil, cond_true, List.set_cons_zero, List.set_cons_succ, List.drop_zero, List.drop_succ_cons, List.take_succ_cons, List.take_zero, List.getElem?_toArray, Option.map_none, Option.getD_none, TYA, k_tmp, k_val, List.append_toArray, List.nil_append, List.cons_append, mm_none, row_putm, s1, s3, hd, ia23 y0 y1, ra, ck, r0, hr, e5, e6, e5', e6', c1, c2, c3, c4]
      refine bad (fun h => by have := h.1.2.2.1; omega) _ ?_
      repeat first | assumption | exact EXn.refl _ _ | refine EXn.more ?_ _ | refine EXn.put ?_ (by omega) _ | refine EX.trans ?_ (by assumption)
    have c4 : decide ((vx l k).2.1 < 0) = false := decide_eq_false q4
    by_cases q5 : (vx l k).2.2 < 0
    · have c5 : decide ((vx l k).2.2 < 0) = true := decide_eq_true q5
      simp only [c_seq, RUNA, Nat.reduceAdd, Nat.reduceMod, Nat.reduceDiv, Nat.reduceSub, Nat.reduceMul, Nat.reduceEqDiff, Nat.reduceBEq, Nat.reduceLeDiff, Int.reduceToNat, fillS, wantG, vBox, Value.cells, one, putAt, Option.getD_some, Option.map_some, Option.bind_some, ne_eq, Option.some.injEq, Prod.mk.injEq, exists_and_left, exists_eq_left', exists_eq_left, List.size_toArray, List.length_cons, List.length_nil, if_true, if_false, exists_eq', exists_const, List.getElem?_cons_zero, List.getElem?_cons_succ, List.map_toArray, List.map_cons, List.map_nil, beq_iff_eq, List.all_cons, List.all_nil, cond_true, List.set_cons_zero, List.set_cons_succ, List.drop_zero, List.drop_succ_cons, List.take_succ_cons, List.take_zero, List.getElem?_toArray, Option.map_none, Option.getD_none, TYA, k_tmp, k_val, List.append_toArray, List.nil_append, List.cons_append, mm_none, row_putm, s1, s3, hd, ia23 y0 y1, ra, ck, r0, hr, e5, e6, e5', e6', c1, c2, c3, c4, c5]
      refine bad (fun h => by have := h.1.2.2.2.1; omega) _ ?_
      repeat first | assumption | exact EXn.refl _ _ | refine EXn.more ?_ _ | refine EXn.put ?_ (by omega) _ | refine EX.trans ?_ (by assumption)
    have c5 : decide ((vx l k).2.2 < 0) = false := decide_eq_false q5
    by_cases q6 : (k : Int) ≤ (vx l k).2.1
    · have c6 : decide ((k : Int) ≤ (vx l k).2.1) = true := decide_eq_true q6
      simp only [c_seq, RUNA, Nat.reduceAdd, Nat.reduceMod, Nat.reduceDiv, Nat.reduceSub, Nat.reduceMul, Nat.reduceEqDiff, Nat.reduceBEq, Nat.reduceLeDiff, Int.reduceToNat, fillS, wantG, vBox, Value.cells, one, putAt, Option.getD_some, Option.map_some, Option.bind_some, ne_eq, Option.some.injEq, Prod.mk.injEq, exists_and_left, exists_eq_left', exists_eq_left, List.size_toArray, List.length_cons, List.length_nil, if_true, if_false, exists_eq', exists_const, List.getElem?_cons_zero, List.getElem?_cons_succ, List.map_toArray, List.map_cons, List.map_nil, beq_iff_eq, List.all_cons, List.all_nil, cond_true, List.set_cons_zero, List.set_cons_succ, List.drop_zero, List.drop_succ_cons, List.take_succ_cons, List.take_zero, List.getElem?_toArray, Option.map_none, Option.getD_none, TYA, k_tmp, k_val, List.append_toArray, List.nil_append, List.cons_append, mm_none, row_putm, s1, s3, hd, ia23 y0 y1, ra, ck, r0, hr, e5, e6, e5', e6', c1, c2, c3, c4, c5, c6]
      refine bad (fun h => by have := h.1.2.2.2.2.1; omega) _ ?_
      repeat first | assumption | exact EXn.refl _ _ | refine EXn.more ?_ _ | refine EXn.put ?_ (by omega) _ | refine EX.trans ?_ (by assumption)
    have c6 : decide ((k : Int) ≤ (vx l k).2.1) = false := decide_eq_false q6
    by_cases q7 : (k : Int) ≤ (vx l k).2.2
    · have c7 : decide ((k : Int) ≤ (vx l k).2.2) = true := decide_eq_true q7
      simp only [c_seq, RUNA, Nat.reduceAdd, Nat.reduceMod, Nat.reduceDiv, Nat.reduceSub, Nat.reduceMul, Nat.reduceEqDiff, Nat.reduceBEq, Nat.reduceLeDiff, Int.reduceToNat, fillS, wantG, vBox, Value.cells, one, putAt, Option.getD_some, Option.map_some, Option.bind_some, ne_eq, Option.some.injEq, Prod.mk.injEq, exists_and_left, exists_eq_left', exists_eq_left, List.size_toArray, List.length_cons, List.length_nil, if_true, if_false, exists_eq', exists_const, List.getElem?_cons_zero, List.getElem?_cons_succ, List.map_toArray, List.map_cons, List.map_nil, beq_iff_eq, List.all_cons, List.all_nil, cond_true, List.set_cons_zero, List.set_cons_succ, List.drop_zero, List.drop_succ_cons, List.take_succ_cons, List.take_zero, List.getElem?_toArray, Option.map_none, Option.getD_none, TYA, k_tmp, k_val, List.append_toArray, List.nil_append, List.cons_append, mm_none, row_putm, s1, s3, hd, ia23 y0 y1, ra, ck, r0, hr, e5, e6, e5', e6', c1, c2, c3, c4, c5, c6, c7]
      refine bad (fun h => by have := h.1.2.2.2.2.2.1; omega) _ ?_
      repeat first | assumption | exact EXn.refl _ _ | refine EXn.more ?_ _ | refine EXn.put ?_ (by omega) _ | refine EX.trans ?_ (by assumption)
    have c7 : decide ((k : Int) ≤ (vx l k).2.2) = false := decide_eq_false q7
    simp only [c_seq, RUNA, Nat.reduceAdd, Nat.reduceMod, Nat.reduceDiv, Nat.reduceSub, Nat.reduceMul, Nat.reduceEqDiff, Nat.reduceBEq, Nat.reduceLeDiff, Int.reduceToNat, fillS, wantG, vBox, Value.cells, one, putAt, Option.getD_some, Option.map_some, Option.bind_some, ne_eq, Option.some.injEq, Prod.mk.injEq, exists_and_left, exists_eq_left', exists_eq_left, List.size_toArray, List.length_cons, List.length_nil, if_true, if_false, exists_eq', exists_const, List.getElem?_cons_zero, List.getElem?_cons_succ, List.map_toArray, List.map_cons, List.map_nil, beq_iff_eq, List.all_cons, List.all_nil, cond_true, List.set_cons_zero, List.set_cons_succ, List.drop_zero, List.drop_succ_cons, List.take_succ_cons, List.take_zero, List.getElem?_toArray, Option.map_none, Option.getD_none, TYA, k_tmp, k_val, List.append_toArray, List.nil_append, List.cons_append, mm_none, row_putm, s1, s3, hd, ia23 y0 y1, ra, ck, r0, hr, e5, e6, e5', e6']
    simp only [RUNA, Nat.reduceAdd, Nat.reduceMod, Nat.reduceDiv, Nat.reduceSub, Nat.reduceMul, Nat.reduceEqDiff, Nat.reduceBEq, Nat.reduceLeDiff, Int.reduceToNat, fillS, wantG, vBox, Value.cells, one, putAt, Option.getD_some, Option.map_some, Option.bind_some, ne_eq, Option.some.injEq, Prod.mk.injEq, exists_and_left, exists_eq_left', exists_eq_left, List.size_toArray, List.length_cons, List.length_nil, if_true, if_false, exists_eq', exists_const, List.getElem?_cons_zero, List.getElem?_cons_succ, List.map_toArray, List.map_cons, List.map_nil, beq_iff_eq, List.all_cons, List.all_nil, cond_true, List.set_cons_zero, List.set_cons_succ, List.drop_zero, List.drop_succ_cons, List.take_succ_cons, List.take_zero, List.getElem?_toArray, Option.map_none, Option.getD_none, TYA, k_tmp, k_val, List.append_toArray, List.nil_append, List.cons_append, mm_none, row_putm, s1, s3, hd, ia23 y0 y1, ra, ck, r0, hr, e5, e6, e5', e6', c1, c2, c3, c4, c5, c6, c7]
    refine gen_go (fun S' τ' => S'.at 1 = .pointer (some ⟨σ.next, 0, none⟩) ∧ S'.at 3 = .int .i64 k ∧ S'.at 4 = .pointer (some ⟨τ.next + 10, 0, none⟩) ∧ EX σ τ' ∧ τ.next + 10 < τ'.next ∧
      τ'.row σ.next = some ([.slice (some ⟨aid, aoff, none⟩) l.length ca, .int .i64 root], boxMeta) ∧ τ'.row (τ.next + 10) = some ([.int .i64 (vx l k).1, .int .i64 (vx l k).2.1, .int .i64 (vx l k).2.2], boxMeta)) ?_ ?_
    · simp only [c_seq, RUNA, Nat.reduceAdd, Nat.reduceMod, Nat.reduceDiv, Nat.reduceSub, Nat.reduceMul, Nat.reduceEqDiff, Nat.reduceBEq, Nat.reduceLeDiff, Int.reduceToNat, fillS, wantG, vBox, Value.cells, one, putAt, Option.getD_some, Option.map_some, Option.bind_some, ne_eq, Option.some.injEq, Prod.mk.injEq, exists_and_left, exists_eq_left', exists_eq_left, List.size_toArray, List.length_cons, List.length_nil, if_true, if_false, exists_eq', exists_const, List.getElem?_cons_zero, List.getElem?_cons_succ, List.map_toArray, List.map_cons, List.map_nil, beq_iff_eq, List.all_cons, List.all_nil, cond_true, List.set_cons_zero, List.set_cons_succ, List.drop_zero, List.drop_succ_cons, List.take_succ_cons, List.take_zero, List.getElem?_toArray, Option.map_none, Option.getD_none, s1, s3, e5, r0]
      refine ⟨?_, by omega⟩
      repeat first | assumption | exact EXn.refl _ _ | refine EXn.more ?_ _ | refine EXn.put ?_ (by omega) _ | refine EX.trans ?_ (by assumption)
    clear s1 s3
    rintro S τ' ⟨s1, s3, s4, hE', hnx, r0', rx⟩
    refine seq_cut (fun S' τ' => S'.at 1 = .pointer (some ⟨σ.next, 0, none⟩) ∧ S'.at 3 = .int .i64 k ∧ S'.at 4 = .pointer (some ⟨τ.next + 10, 0, none⟩) ∧ EX σ τ' ∧ τ.next + 10 < τ'.next ∧
      τ'.row σ.next = some ([.slice (some ⟨aid, aoff, none⟩) l.length ca, .int .i64 root], boxMeta) ∧ τ'.row (τ.next + 10) = some ([.int .i64 (vx l k).1, .int .i64 (vx l k).2.1, .int .i64 (vx l k).2.2], boxMeta) ∧ Ck2 l k) ?_ ?_
    · have ra' := (hE'.row aid a1).trans a2
      have lo0 : 0 ≤ (vx l k).2.1 := by omega
      have lo1 : (vx l k).2.1 < (l.length : Int) := by omega
      have hi0 : 0 ≤ (vx l k).2.2 := by omega
      have hi1 : (vx l k).2.2 < (l.length : Int) := by omega
      have fl := flat_at0 a3 (k := (vx l k).2.1.toNat) (by omega)
      have fh := flat_at0 a3 (k := (vx l k).2.2.toNat) (by omega)
      refine wpx_seq ?_
      refine d_go (ms := [0, 1, 3, 7, 15, 31, 15, 79, 255, 511, 1023, 15, 2063, 8191, 16383, 32767, 65535, 131071, 262143, 524287, 1048575, 2097151, 1048575, 5242879, 16777215, 33554431, 67108863, 1048575, 135266303, 536870911, 1073741823, 2147483647]) (order := [0, 1, 2, 3, 4, 5, 6, 7, 8, 9, 10, 11, 12, 13, 14, 15, 16, 17, 18, 19, 20, 21, 22, 23, 24, 25, 26, 27, 28, 29, 30, 31]) (by kernel_rfl) (by kernel_rfl) (by kernel_rfl) ?_
      by_cases hl1 : 1 < (vx l k).2.1
      · have dl1 : decide (1 < (vx l k).2.1) = true := decide_eq_true hl1
        by_cases hl2 : (vx l (vx l k).2.1.toNat).1 ≤ (vx l k).1
        · have dl2 : decide ((vx l (vx l k).2.1.toNat).1 ≤ (vx l k).1) = true := decide_eq_true hl2
          simp only [YRUNA, Nat.reduceShiftRight, bit, List.filterMap_cons, List.filterMap_nil, List.filter_cons, List.filter_nil, List.forall_mem_cons, List.not_mem_nil, implies_true, List.getD_cons_zero, List.getD_cons_succ, eq_self, c_seq, RUNA, Nat.reduceAdd, Nat.reduceMod, Nat.reduceDiv, Nat.reduceSub, Nat.reduceMul, Nat.reduceEqDiff, Nat.reduceBEq, Nat.reduceLeDiff, Int.reduceToNat, fillS, wantG, vBox, Value.cells, one, putAt, Option.getD_some, Option.map_some, Option.bind_some, ne_eq, Option.some.injEq, Prod.mk.injEq, exists_and_left, exists_eq_left', exists_eq_left, List.size_toArray, List.length_cons, List.length_nil, if_true, if_false, exists_eq', exists_const, List.getElem?_cons_zero, List.getElem?_cons_succ, List.map_toArray, List.map_cons, List.map_nil, beq_iff_eq, List.all_cons, List.all_nil, cond_true, List.set_cons_zero, List.set_cons_succ, List.drop_zero, List.drop_succ_cons, List.take_succ_cons, List.take_zero, List.getElem?_toArray, Option.map_none, Option.getD_none, TYA, k_tmp, k_val, List.append_toArray, List.nil_append, List.cons_append, mm_none, row_putm, undef, s1, s3, s4, r0', rx, ra', hr, ia23 lo0 lo1, ia23 hi0 hi1, fl, fh, dl1, dl2]
          refine bad (fun h => by have := h.2.1 hl1; omega) _ ?_
          repeat first | assumption | exact EXn.refl _ _ | refine EXn.more ?_ _ | refine EXn.put ?_ (by omega) _ | refine EX.trans ?_ (by assumption)
        · have dl2 : decide ((vx l (vx l k).2.1.toNat).1 ≤ (vx l k).1) = false := decide_eq_false hl2
          by_cases hh1 : 1 < (vx l k).2.2
          · have dh1 : decide (1 < (vx l k).2.2) = true := decide_eq_true hh1
            by_cases hh2 : (vx l (vx l k).2.2.toNat).1 ≤ (vx l k).1
            · have dh2 : decide ((vx l (vx l k).2.2.toNat).1 ≤ (vx l k).1) = true := decide_eq_true hh2
              simp only [YRUNA, Nat.reduceShiftRight, bit, List.filterMap_cons, List.filterMap_nil, List.filter_cons, List.filter_nil, List.forall_mem_cons, List.not_mem_nil, implies_true, List.getD_cons_zero, List.getD_cons_succ, eq_self, c_seq, RUNA, Nat.reduceAdd, Nat.reduceMod, Nat.reduceDiv, Nat.reduceSub, Nat.reduceMul, Nat.reduceEqDiff, Nat.reduceBEq, Nat.reduceLeDiff, Int.reduceToNat, fillS, wantG, vBox, Value.cells, one, putAt, Option.getD_some, Option.map_some, Option.bind_some, ne_eq, Option.some.injEq, Prod.mk.injEq, exists_and_left, exists_eq_left', exists_eq_left, List.size_toArray, List.length_cons, List.length_nil, if_true, if_false, exists_eq', exists_const, List.getElem?_cons_zero, List.getElem?_cons_succ, List.map_toArray, List.map_cons, List.map_nil, beq_iff_eq, List.all_cons, List.all_nil, cond_true, List.set_cons_zero, List.set_cons_succ, List.drop_zero, List.drop_succ_cons, List.take_succ_cons, List.take_zero, List.getElem?_toArray, Option.map_none, Option.getD_none, TYA, k_tmp, k_val, List.append_toArray, List.nil_append, List.cons_append, mm_none, row_putm, undef, s1, s3, s4, r0', rx, ra', hr, ia23 lo0 lo1, ia23 hi0 hi1, fl, fh, dl1, dl2, dh1, dh2]
              refine bad (fun h => by have := h.2.2 hh1; omega) _ ?_
              repeat first | assumption | exact EXn.refl _ _ | refine EXn.more ?_ _ | refine EXn.put ?_ (by omega) _ | refine EX.trans ?_ (by assumption)
            · have dh2 : decide ((vx l (vx l k).2.2.toNat).1 ≤ (vx l k).1) = false := decide_eq_false hh2
              have hC2 : Ck2 l k := ⟨fun _ => by omega, fun _ => by omega⟩
              simp only [YRUNA, Nat.reduceShiftRight, bit, List.filterMap_cons, List.filterMap_nil, List.filter_cons, List.filter_nil, List.forall_mem_cons, List.not_mem_nil, implies_true, List.getD_cons_zero, List.getD_cons_succ, eq_self, c_seq, RUNA, Nat.reduceAdd, Nat.reduceMod, Nat.reduceDiv, Nat.reduceSub, Nat.reduceMul, Nat.reduceEqDiff, Nat.reduceBEq, Nat.reduceLeDiff, Int.reduceToNat, fillS, wantG, vBox, Value.cells, one, putAt, Option.getD_some, Option.map_some, Option.bind_some, ne_eq, Option.some.injEq, Prod.mk.injEq, exists_and_left, exists_eq_left', exists_eq_left, List.size_toArray, List.length_cons, List.length_nil, if_true, if_false, exists_eq', exists_const, List.getElem?_cons_zero, List.getElem?_cons_succ, List.map_toArray, List.map_cons, List.map_nil, beq_iff_eq, List.all_cons, List.all_nil, cond_true, List.set_cons_zero, List.set_cons_succ, List.drop_zero, List.drop_succ_cons, List.take_succ_cons, List.take_zero, List.getElem?_toArray, Option.map_none, Option.getD_none, TYA, k_tmp, k_val, List.append_toArray, List.nil_append, List.cons_append, mm_none, row_putm, undef, s1, s3, s4, r0', rx, ra', hr, ia23 lo0 lo1, ia23 hi0 hi1, fl, fh, dl1, dl2, dh1, dh2]
              refine ⟨?_, by omega, hC2⟩
              repeat first | assumption | exact EXn.refl _ _ | refine EXn.more ?_ _ | refine EXn.put ?_ (by omega) _ | refine EX.trans ?_ (by assumption)
          · have dh1 : decide (1 < (vx l k).2.2) = false := decide_eq_false hh1
            have hC2 : Ck2 l k := ⟨fun _ => by omega, fun h => (hh1 h).elim⟩
            simp only [YRUNA, Nat.reduceShiftRight, bit, List.filterMap_cons, List.filterMap_nil, List.filter_cons, List.filter_nil, List.forall_mem_cons, List.not_mem_nil, implies_true, List.getD_cons_zero, List.getD_cons_succ, eq_self, c_seq, RUNA, Nat.reduceAdd, Nat.reduceMod, Nat.reduceDiv, Nat.reduceSub, Nat.reduceMul, Nat.reduceEqDiff, Nat.reduceBEq, Nat.reduceLeDiff, Int.reduceToNat, fillS, wantG, vBox, Value.cells, one, putAt, Option.getD_some, Option.map_some, Option.bind_some, ne_eq, Option.some.injEq, Prod.mk.injEq, exists_and_left, exists_eq_left', exists_eq_left, List.size_toArray, List.length_cons, List.length_nil, if_true, if_false, exists_eq', exists_const, List.getElem?_cons_zero, List.getElem?_cons_succ, List.map_toArray, List.map_cons, List.map_nil, beq_iff_eq, List.all_cons, List.all_nil, cond_true, List.set_cons_zero, List.set_cons_succ, List.drop_zero, List.drop_succ_cons, List.take_succ_cons, List.take_zero, List.getElem?_toArray, Option.map_none, Option.getD_none, TYA, k_tmp, k_val, List.append_toArray, List.nil_append, List.cons_append, mm_none, row_putm, undef, s1, s3, s4, r0', rx, ra', hr, ia23 lo0 lo1, ia23 hi0 hi1, fl, fh, dl1, dl2, dh1]
            refine ⟨?_, by omega, hC2⟩
            repeat first | assumption | exact EXn.refl _ _ | refine EXn.more ?_ _ | refine EXn.put ?_ (by omega) _ | refine EX.trans ?_ (by assumption)
      · have dl1 : decide (1 < (vx l k).2.1) = false := decide_eq_false hl1
        by_cases hh1 : 1 < (vx l k).2.2
        · have dh1 : decide (1 < (vx l k).2.2) = true := decide_eq_true hh1
          by_cases hh2 : (vx l (vx l k).2.2.toNat).1 ≤ (vx l k).1
          · have dh2 : decide ((vx l (vx l k).2.2.toNat).1 ≤ (vx l k).1) = true := decide_eq_true hh2
            simp only [YRUNA, Nat.reduceShiftRight, bit, List.filterMap_cons, List.filterMap_nil, List.filter_cons, List.filter_nil, List.forall_mem_cons, List.not_mem_nil, implies_true, List.getD_cons_zero, List.getD_cons_succ, eq_self, c_seq, RUNA, Nat.reduceAdd, Nat.reduceMod, Nat.reduceDiv, Nat.reduceSub, Nat.reduceMul, Nat.reduceEqDiff, Nat.reduceBEq, Nat.reduceLeDiff, Int.reduceToNat, fillS, wantG, vBox, Value.cells, one, putAt, Option.getD_some, Option.map_some, Option.bind_some, ne_eq, Option.some.injEq, Prod.mk.injEq, exists_and_left, exists_eq_left', exists_eq_left, List.size_toArray, List.length_cons, List.length_nil, if_true, if_false, exists_eq', exists_const, List.getElem?_cons_zero, List.getElem?_cons_succ, List.map_toArray, List.map_cons, List.map_nil, beq_iff_eq, List.all_cons, List.all_nil, cond_true, List.set_cons_zero, List.set_cons_succ, List.drop_zero, List.drop_succ_cons, List.take_succ_cons, List.take_zero, List.getElem?_toArray, Option.map_none, Option.getD_none, TYA, k_tmp, k_val, List.append_toArray, List.nil_append, List.cons_append, mm_none, row_putm, undef, s1, s3, s4, r0', rx, ra', hr, ia23 lo0 lo1, ia23 hi0 hi1, fl, fh, dl1, dh1, dh2]
            refine bad (fun h => by have := h.2.2 hh1; omega) _ ?_
            repeat first | assumption | exact EXn.refl _ _ | refine EXn.more ?_ _ | refine EXn.put ?_ (by omega) _ | refine EX.trans ?_ (by assumption)
          · have dh2 : decide ((vx l (vx l k).2.2.toNat).1 ≤ (vx l k).1) = false := decide_eq_false hh2
            have hC2 : Ck2 l k := ⟨fun h => (hl1 h).elim, fun _ => by omega⟩
            simp only [YRUNA, Nat.reduceShiftRight, bit, List.filterMap_cons, List.filterMap_nil, List.filter_cons, List.filter_nil, List.forall_mem_cons, List.not_mem_nil, implies_true, List.getD_cons_zero, List.getD_cons_succ, eq_self, c_seq, RUNA, Nat.reduceAdd, Nat.reduceMod, Nat.reduceDiv, Nat.reduceSub, Nat.reduceMul, Nat.reduceEqDiff, Nat.reduceBEq, Nat.reduceLeDiff, Int.reduceToNat, fillS, wantG, vBox, Value.cells, one, putAt, Option.getD_some, Option.map_some, Option.bind_some, ne_eq, Option.some.injEq, Prod.mk.injEq, exists_and_left, exists_eq_left', exists_eq_left, List.size_toArray, List.length_cons, List.length_nil, if_true, if_false, exists_eq', exists_const, List.getElem?_cons_zero, List.getElem?_cons_succ, List.map_toArray, List.map_cons, List.map_nil, beq_iff_eq, List.all_cons, List.all_nil, cond_true, List.set_cons_zero, List.set_cons_succ, List.drop_zero, List.drop_succ_cons, List.take_succ_cons, List.take_zero, List.getElem?_toArray, Option.map_none, Option.getD_none, TYA, k_tmp, k_val, List.append_toArray, List.nil_append, List.cons_append, mm_none, row_putm, undef, s1, s3, s4, r0', rx, ra', hr, ia23 lo0 lo1, ia23 hi0 hi1, fl, fh, dl1, dh1, dh2]
            refine ⟨?_, by omega, hC2⟩
            repeat first | assumption | exact EXn.refl _ _ | refine EXn.more ?_ _ | refine EXn.put ?_ (by omega) _ | refine EX.trans ?_ (by assumption)
        · have dh1 : decide (1 < (vx l k).2.2) = false := decide_eq_false hh1
          have hC2 : Ck2 l k := ⟨fun h => (hl1 h).elim, fun h => (hh1 h).elim⟩
          simp only [YRUNA, Nat.reduceShiftRight, bit, List.filterMap_cons, List.filterMap_nil, List.filter_cons, List.filter_nil, List.forall_mem_cons, List.not_mem_nil, implies_true, List.getD_cons_zero, List.getD_cons_succ, eq_self, c_seq, RUNA, Nat.reduceAdd, Nat.reduceMod, Nat.reduceDiv, Nat.reduceSub, Nat.reduceMul, Nat.reduceEqDiff, Nat.reduceBEq, Nat.reduceLeDiff, Int.reduceToNat, fillS, wantG, vBox, Value.cells, one, putAt, Option.getD_some, Option.map_some, Option.bind_some, ne_eq, Option.some.injEq, Prod.mk.injEq, exists_and_left, exists_eq_left', exists_eq_left, List.size_toArray, List.length_cons, List.length_nil, if_true, if_false, exists_eq', exists_const, List.getElem?_cons_zero, List.getElem?_cons_succ, List.map_toArray, List.map_cons, List.map_nil, beq_iff_eq, List.all_cons, List.all_nil, cond_true, List.set_cons_zero, List.set_cons_succ, List.drop_zero, List.drop_succ_cons, List.take_succ_cons, List.take_zero, List.getElem?_toArray, Option.map_none, Option.getD_none, TYA, k_tmp, k_val, List.append_toArray, List.nil_append, List.cons_append, mm_none, row_putm, undef, s1, s3, s4, r0', rx, ra', hr, ia23 lo0 lo1, ia23 hi0 hi1, fl, fh, dl1, dh1]
          refine ⟨?_, by omega, hC2⟩
          repeat first | assumption | exact EXn.refl _ _ | refine EXn.more ?_ _ | refine EXn.put ?_ (by omega) _ | refine EX.trans ?_ (by assumption)
    clear s1 s3 s4 hE' hnx r0' rx
    rintro S τ' ⟨s1, s3, s4, hE', hx', r0', rx, hC2⟩
    have hw : IntKind.i64.wrap ((k : Int) + 1) = ((k + 1 : Nat) : Int) := by rw [wrap64 (by omega) (by omega)]; rfl
    simp only [c_seq, RUNA, Nat.reduceAdd, Nat.reduceMod, Nat.reduceDiv, Nat.reduceSub, Nat.reduceMul, Nat.reduceEqDiff, Nat.reduceBEq, Nat.reduceLeDiff, Int.reduceToNat, fillS, wantG, vBox, Value.cells, one, putAt, Option.getD_some, Option.map_some, Option.bind_some, ne_eq, Option.some.injEq, Prod.mk.injEq, exists_and_left, exists_eq_left', exists_eq_left, List.size_toArray, List.length_cons, List.length_nil, if_true, if_false, exists_eq', exists_const, List.getElem?_cons_zero, List.getElem?_cons_succ, List.map_toArray, List.map_cons, List.map_nil, beq_iff_eq, List.all_cons, List.all_nil, cond_true, List.set_cons_zero, List.set_cons_succ, List.drop_zero, List.drop_succ_cons, List.take_succ_cons, List.take_zero, List.getElem?_toArray, Option.map_none, Option.getD_none, TYA, k_tmp, k_val, List.append_toArray, List.nil_append, List.cons_append, mm_none, row_putm, s1, s3, s4]
    refine loop_go (fun m S τ'' => S.at 1 = .pointer (some ⟨σ.next, 0, none⟩) ∧ S.at 3 = .int .i64 k ∧ S.at 4 = .pointer (some ⟨τ.next + 10, 0, none⟩) ∧ EX σ τ'' ∧ τ.next + 10 < τ''.next ∧
      τ''.row σ.next = some ([.slice (some ⟨aid, aoff, none⟩) l.length ca, .int .i64 root], boxMeta) ∧ τ''.row (τ.next + 10) = some ([.int .i64 (vx l k).1, .int .i64 (vx l k).2.1, .int .i64 (vx l k).2.2], boxMeta) ∧
      ∃ j : Nat, S.at 5 = .int .i64 j ∧ 2 ≤ j ∧ j ≤ k ∧ m = k - j ∧ ∀ p, 2 ≤ p → p < j → vx l p ≠ vx l k) (k - 2) ?_ ?_
    · simp only [c_seq, RUNA, Nat.reduceAdd, Nat.reduceMod, Nat.reduceDiv, Nat.reduceSub, Nat.reduceMul, Nat.reduceEqDiff, Nat.reduceBEq, Nat.reduceLeDiff, Int.reduceToNat, fillS, wantG, vBox, Value.cells, one, putAt, Option.getD_some, Option.map_some, Option.bind_some, ne_eq, Option.some.injEq, Prod.mk.injEq, exists_and_left, exists_eq_left', exists_eq_left, List.size_toArray, List.length_cons, List.length_nil, if_true, if_false, exists_eq', exists_const, List.getElem?_cons_zero, List.getElem?_cons_succ, List.map_toArray, List.map_cons, List.map_nil, beq_iff_eq, List.all_cons, List.all_nil, cond_true, List.set_cons_zero, List.set_cons_succ, List.drop_zero, List.drop_succ_cons, List.take_succ_cons, List.take_zero, List.getElem?_toArray, Option.map_none, Option.getD_none, s1, s3, s4]
      refine ⟨?_, by omega, r0', rx, 2, rfl, by omega, by omega, rfl, fun p h1 h2 => by omega⟩
      repeat first | assumption | exact EXn.refl _ _ | refine EXn.more ?_ _ | refine EXn.put ?_ (by omega) _ | refine EX.trans ?_ (by assumption)
    clear s1 s3 s4
    rintro _ S τ'' ⟨s1, s3, s4, hE'', hx'', r0'', rx'', j, s5, j2, jk, rfl, hq⟩
    have ra'' := (hE''.row aid a1).trans a2
    by_cases hjk : j < k
    · have hdj : decide ((j : Int) < (k : Int)) = true := by simp; omega
      have w0 : (0 : Int) ≤ (j : Int) := by omega
      have w1 : (j : Int) < (l.length : Int) := by omega
      have hwj : IntKind.i64.wrap ((j : Int) + 1) = ((j + 1 : Nat) : Int) := by rw [wrap64 (by omega) (by omega)]; rfl
      have cj := row_cut a3 (i := j) (by omega)
      simp only [c_seq, RUNA, Nat.reduceAdd, Nat.reduceMod, Nat.reduceDiv, Nat.reduceSub, Nat.reduceMul, Nat.reduceEqDiff, Nat.reduceBEq, Nat.reduceLeDiff, Int.reduceToNat, fillS, wantG, vBox, Value.cells, one, putAt, Option.getD_some, Option.map_some, Option.bind_some, ne_eq, Option.some.injEq, Prod.mk.injEq, exists_and_left, exists_eq_left', exists_eq_left, List.size_toArray, List.length_cons, List.length_nil, if_true, if_false, exists_eq', exists_const, List.getElem?_cons_zero, List.getElem?_cons_succ, List.map_toArray, List.map_cons, List.map_nil, beq_iff_eq, List.all_cons, List.all_nil, cond_true, List.set_cons_zero, List.set_cons_succ, List.drop_zero, List.drop_succ_cons, List.take_succ_cons, List.take_zero, List.getElem?_toArray, Option.map_none, Option.getD_none, TYA, k_tmp, k_val, List.append_toArray, List.nil_append, List.cons_append, mm_none, row_putm, s1, s3, s4, s5, hdj]
      refine d_go (ms := [0, 1, 0, 7, 15, 0, 63]) (order := [0, 1, 2, 3, 4, 5, 6]) (by kernel_rfl) (by kernel_rfl) (by kernel_rfl) ?_
      by_cases he : vx l j = vx l k
      · have ve := veq_t he
        simp only [YRUNA, Nat.reduceShiftRight, bit, List.filterMap_cons, List.filterMap_nil, List.filter_cons, List.filter_nil, List.forall_mem_cons, List.not_mem_nil, implies_true, List.getD_cons_zero, List.getD_cons_succ, eq_self, c_seq, RUNA, Nat.reduceAdd, Nat.reduceMod, Nat.reduceDiv, Nat.reduceSub, Nat.reduceMul, Nat.reduceEqDiff, Nat.reduceBEq, Nat.reduceLeDiff, Int.reduceToNat, fillS, wantG, vBox, Value.cells, one, putAt, Option.getD_some, Option.map_some, Option.bind_some, ne_eq, Option.some.injEq, Prod.mk.injEq, exists_and_left, exists_eq_left', exists_eq_left, List.size_toArray, List.length_cons, List.length_nil, if_true, if_false, exists_eq', exists_const, List.getElem?_cons_zero, List.getElem?_cons_succ, List.map_toArray, List.map_cons, List.map_nil, beq_iff_eq, List.all_cons, List.all_nil, cond_true, List.set_cons_zero, List.set_cons_succ, List.drop_zero, List.drop_succ_cons, List.take_succ_cons, List.take_zero, List.getElem?_toArray, Option.map_none, Option.getD_none, TYA, k_tmp, k_val, List.append_toArray, List.nil_append, List.cons_append, mm_none, row_putm, s1, s3, s4, s5, r0'', rx'', ra'', ia23 w0 w1, cj, eql40, ve, hr]
        refine bad (fun h => h.1.2.2.2.2.2.2.2 j j2 hjk he) _ ?_
        repeat first | assumption | exact EXn.refl _ _ | refine EXn.more ?_ _ | refine EXn.put ?_ (by omega) _ | refine EX.trans ?_ (by assumption)
      · have ve := veq_f he
        simp only [YRUNA, Nat.reduceShiftRight, bit, List.filterMap_cons, List.filterMap_nil, List.filter_cons, List.filter_nil, List.forall_mem_cons, List.not_mem_nil, implies_true, List.getD_cons_zero, List.getD_cons_succ, eq_self, c_seq, RUNA, Nat.reduceAdd, Nat.reduceMod, Nat.reduceDiv, Nat.reduceSub, Nat.reduceMul, Nat.reduceEqDiff, Nat.reduceBEq, Nat.reduceLeDiff, Int.reduceToNat, fillS, wantG, vBox, Value.cells, one, putAt, Option.getD_some, Option.map_some, Option.bind_some, ne_eq, Option.some.injEq, Prod.mk.injEq, exists_and_left, exists_eq_left', exists_eq_left, List.size_toArray, List.length_cons, List.length_nil, if_true, if_false, exists_eq', exists_const, List.getElem?_cons_zero, List.getElem?_cons_succ, List.map_toArray, List.map_cons, List.map_nil, beq_iff_eq, List.all_cons, List.all_nil, cond_true, List.set_cons_zero, List.set_cons_succ, List.drop_zero, List.drop_succ_cons, List.take_succ_cons, List.take_zero, List.getElem?_toArray, Option.map_none, Option.getD_none, TYA, k_tmp, k_val, List.append_toArray, List.nil_append, List.cons_append, mm_none, row_putm, s1, s3, s4, s5, r0'', rx'', ra'', ia23 w0 w1, cj, eql40, ve, hwj]
        refine ⟨k - (j + 1), by omega, ?_, by omega, j + 1, rfl, by omega, by omega, rfl, fun p h1 h2 => ?_⟩
        · repeat first | assumption | exact EXn.refl _ _ | refine EXn.more ?_ _ | refine EXn.put ?_ (by omega) _ | refine EX.trans ?_ (by assumption)
        · by_cases e : p = j
          · subst e; exact he
          · exact hq p h1 (by omega)
    · have hdj : decide ((j : Int) < (k : Int)) = false := by simp; omega
      have hC1 : Ck1 l k := ⟨by omega, by omega, by omega, by omega, by omega, by omega, q3, fun p h1 h2 => hq p h1 (by omega)⟩
      simp only [c_seq, RUNA, Nat.reduceAdd, Nat.reduceMod, Nat.reduceDiv, Nat.reduceSub, Nat.reduceMul, Nat.reduceEqDiff, Nat.reduceBEq, Nat.reduceLeDiff, Int.reduceToNat, fillS, wantG, vBox, Value.cells, one, putAt, Option.getD_some, Option.map_some, Option.bind_some, ne_eq, Option.some.injEq, Prod.mk.injEq, exists_and_left, exists_eq_left', exists_eq_left, List.size_toArray, List.length_cons, List.length_nil, if_true, if_false, exists_eq', exists_const, List.getElem?_cons_zero, List.getElem?_cons_succ, List.map_toArray, List.map_cons, List.map_nil, beq_iff_eq, List.all_cons, List.all_nil, cond_true, List.set_cons_zero, List.set_cons_succ, List.drop_zero, List.drop_succ_cons, List.take_succ_cons, List.take_zero, List.getElem?_toArray, Option.map_none, Option.getD_none, TYA, k_tmp, k_val, List.append_toArray, List.nil_append, List.cons_append, mm_none, row_putm, s1, s3, s4, s5, hdj, hw]
      refine ⟨l.length - (k + 1), by omega, ?_, by omega, r0'', k + 1, rfl, by omega, by omega, rfl, hG.succ hC1 hC2⟩
      repeat first | assumption | exact EXn.refl _ _ | refine EXn.more ?_ _ | refine EXn.put ?_ (by omega) _ | refine EX.trans ?_ (by assumption)
  · have hd : decide ((k : Int) < (l.length : Int)) = false := by simp; omega
    obtain rfl : k = l.length := by omega
    have hGd : Gd l := hG.gd (by omega)
    by_cases hn2 : l.length = 2
    · have g2 : ((l.length : Int) == 2) = true := by simp; omega
      have vd : (root = 0 ∨ root = 1) ↔ ValidD (l, root) := by
        constructor
        · intro h; exact ⟨hGd, h0, h1, Or.inl ⟨hn2, h⟩⟩
        · rintro ⟨_, _, _, ⟨_, h⟩ | ⟨h, _⟩⟩
          · exact h
          · simp only at h; omega
      by_cases hr0 : root = 0
      · have g3 : (root == 0) = true := by simp [hr0]
        simp only [c_seq, RUNA, Nat.reduceAdd, Nat.reduceMod, Nat.reduceDiv, Nat.reduceSub, Nat.reduceMul, Nat.reduceEqDiff, Nat.reduceBEq, Nat.reduceLeDiff, Int.reduceToNat, fillS, wantG, vBox, Value.cells, one, putAt, Option.getD_some, Option.map_some, Option.bind_some, ne_eq, Option.some.injEq, Prod.mk.injEq, exists_and_left, exists_eq_left', exists_eq_left, List.size_toArray, List.length_cons, List.length_nil, if_true, if_false, exists_eq', exists_const, List.getElem?_cons_zero, List.getElem?_cons_succ, List.map_toArray, List.map_cons, List.map_nil, beq_iff_eq, List.all_cons, List.all_nil, cond_true, List.set_cons_zero, List.set_cons_succ, List.drop_zero, List.drop_succ_cons, List.take_succ_cons, List.take_zero, List.getElem?_toArray, Option.map_none, Option.getD_none, TYA, k_tmp, k_val, List.append_toArray, List.nil_append, List.cons_append, mm_none, row_putm, s1, s3, hd, g2, r0, g3, hr]
        refine ⟨⟨true, rfl, ?_⟩, ?_⟩
        · rw [← vd]; simp [hr0]
        · repeat first | assumption | exact EXn.refl _ _ | refine EXn.more ?_ _ | refine EXn.put ?_ (by omega) _ | refine EX.trans ?_ (by assumption)
      · have g3 : (root == 0) = false := by simp [hr0]
        simp only [c_seq, RUNA, Nat.reduceAdd, Nat.reduceMod, Nat.reduceDiv, Nat.reduceSub, Nat.reduceMul, Nat.reduceEqDiff, Nat.reduceBEq, Nat.reduceLeDiff, Int.reduceToNat, fillS, wantG, vBox, Value.cells, one, putAt, Option.getD_some, Option.map_some, Option.bind_some, ne_eq, Option.some.injEq, Prod.mk.injEq, exists_and_left, exists_eq_left', exists_eq_left, List.size_toArray, List.length_cons, List.length_nil, if_true, if_false, exists_eq', exists_const, List.getElem?_cons_zero, List.getElem?_cons_succ, List.map_toArray, List.map_cons, List.map_nil, beq_iff_eq, List.all_cons, List.all_nil, cond_true, List.set_cons_zero, List.set_cons_succ, List.drop_zero, List.drop_succ_cons, List.take_succ_cons, List.take_zero, List.getElem?_toArray, Option.map_none, Option.getD_none, TYA, k_tmp, k_val, List.append_toArray, List.nil_append, List.cons_append, mm_none, row_putm, s1, s3, hd, g2, r0, g3, hr]
        refine ⟨⟨_, rfl, ?_⟩, ?_⟩
        · rw [← vd]; simp [hr0]
        · repeat first | assumption | exact EXn.refl _ _ | refine EXn.more ?_ _ | refine EXn.put ?_ (by omega) _ | refine EX.trans ?_ (by assumption)
    · have g2 : ((l.length : Int) == 2) = false := by simp; omega
      have hw1 : IntKind.i64.wrap ((l.length : Int) - 1) = ((l.length - 1 : Nat) : Int) := by rw [wrap64 (by omega) (by omega)]; omega
      have hw2 : IntKind.i64.wrap ((l.length : Int) - 2) = ((l.length - 2 : Nat) : Int) := by rw [wrap64 (by omega) (by omega)]; omega
      by_cases hrt : root = ((l.length - 1 : Nat) : Int)
      · have g3 : (root != ((l.length - 1 : Nat) : Int)) = false := by simp [hrt]
        obtain ⟨T, hT, hTo⟩ := Rep.ex hGd (l.length - 1) (by omega)
        rw [← hrt] at hT
        have hTo0 : T.ok 0 := Dt.ok_mono hTo (by omega)
        simp only [c_seq, RUNA, Nat.reduceAdd, Nat.reduceMod, Nat.reduceDiv, Nat.reduceSub, Nat.reduceMul, Nat.reduceEqDiff, Nat.reduceBEq, Nat.reduceLeDiff, Int.reduceToNat, fillS, wantG, vBox, Value.cells, one, putAt, Option.getD_some, Option.map_some, Option.bind_some, ne_eq, Option.some.injEq, Prod.mk.injEq, exists_and_left, exists_eq_left', exists_eq_left, List.size_toArray, List.length_cons, List.length_nil, if_true, if_false, exists_eq', exists_const, List.getElem?_cons_zero, List.getElem?_cons_succ, List.map_toArray, List.map_cons, List.map_nil, beq_iff_eq, List.all_cons, List.all_nil, cond_true, List.set_cons_zero, List.set_cons_succ, List.drop_zero, List.drop_succ_cons, List.take_succ_cons, List.take_zero, List.getElem?_toArray, Option.map_none, Option.getD_none, TYA, k_tmp, k_val, List.append_toArray, List.nil_append, List.cons_append, mm_none, row_putm, s1, s3, hd, g2, r0, hw1, g3]
        refine wpc_mono (order_spec l root aid aoff ca arow (m3 am) hGd a3 T root _ (.slice none 0 0) [] 0 (τ.next + 100000) hT hTo0 (by omega) (by simp) (Or.inl ⟨rfl, rfl⟩) ?_ ?_ (by omega) (by have := hE.fr hF; repeat first | assumption | refine Fr.more ?_ _ | refine Fr.put ?_ _ _)) ?_
        · exact ra
        · first | omega | (simp only [next_more, next_put] at *; omega)
        rintro r σ2 ⟨s', hO, hs', hE2, hF2⟩
        have n2 := hE2.next
        simp only [next_more] at n2 hs'
        have hlen := ordT_len (l := l) T root [] 0 hTo0 (by omega)
        simp only [List.length_nil, Nat.zero_add, Nat.sub_zero] at hlen
        have hvd : (ordT l T root [] = rng (l.length - 2)) ↔ ValidD (l, root) := by
          constructor
          · intro h; exact ⟨hGd, h0, h1, Or.inr ⟨by simp only; omega, by simp only; omega, T, hT, h⟩⟩
          · rintro ⟨_, _, _, ⟨h, _⟩ | ⟨_, _, T', h4, h5⟩⟩
            · simp only at h; omega
            · have e := Rep.fn h4 hT
              subst e
              exact h5
        have r2 : σ2.row σ.next = some ([.slice (some ⟨aid, aoff, none⟩) l.length ca, .int .i64 root], boxMeta) := by
          rw [hE2.row σ.next (by first | omega | (simp only [next_more, next_put] at *; omega)) (by omega)]; exact r0
        have eF : EX σ σ2 := by
          refine ⟨by have := hE2.next; first | omega | (simp only [next_more, next_put] at *; omega), fun id hi => ?_, fun id hi => ?_, fun _ => hF2, fun gg hg => ?_⟩
          · rw [hE2.get id (by first | omega | (simp only [next_more, next_put] at *; omega)) (by omega)]; exact hE.get id hi
          · rw [hE2.row id (by first | omega | (simp only [next_more, next_put] at *; omega)) (by omega)]; exact hE.row id hi
          · rw [hE2.ver gg (by first | omega | (simp only [next_more, next_put] at *; omega))]; exact hE.ver gg hg
        generalize ordT l T root [] = dn at *
        obtain ⟨o, c, rfl, hop⟩ := hO.open
        by_cases hln : dn.length = l.length - 2
        · have g4 : ((dn.length : Int) != ((l.length - 2 : Nat) : Int)) = false := by simp [hln]
          simp only [c_seq, RUNA, Nat.reduceAdd, Nat.reduceMod, Nat.reduceDiv, Nat.reduceSub, Nat.reduceMul, Nat.reduceEqDiff, Nat.reduceBEq, Nat.reduceLeDiff, Int.reduceToNat, fillS, wantG, vBox, Value.cells, one, putAt, Option.getD_some, Option.map_some, Option.bind_some, ne_eq, Option.some.injEq, Prod.mk.injEq, exists_and_left, exists_eq_left', exists_eq_left, List.size_toArray, List.length_cons, List.length_nil, if_true, if_false, exists_eq', exists_const, List.getElem?_cons_zero, List.getElem?_cons_succ, List.map_toArray, List.map_cons, List.map_nil, beq_iff_eq, List.all_cons, List.all_nil, cond_true, List.set_cons_zero, List.set_cons_succ, List.drop_zero, List.drop_succ_cons, List.take_succ_cons, List.take_zero, List.getElem?_toArray, Option.map_none, Option.getD_none, TYA, k_tmp, k_val, List.append_toArray, List.nil_append, List.cons_append, mm_none, row_putm, s1, s3, r2, hw2, g4]
          refine loop_go (fun m S τ => S.at 6 = .slice o dn.length c ∧ EX σ2 τ ∧ ∃ j : Nat, S.at 7 = .int .i64 j ∧ j ≤ dn.length ∧ m = dn.length - j ∧ ∀ p, p < j → dn.getD p 0 = (p : Int) + 2) dn.length ?_ ?_
          · simp only [c_seq, RUNA, Nat.reduceAdd, Nat.reduceMod, Nat.reduceDiv, Nat.reduceSub, Nat.reduceMul, Nat.reduceEqDiff, Nat.reduceBEq, Nat.reduceLeDiff, Int.reduceToNat, fillS, wantG, vBox, Value.cells, one, putAt, Option.getD_some, Option.map_some, Option.bind_some, ne_eq, Option.some.injEq, Prod.mk.injEq, exists_and_left, exists_eq_left', exists_eq_left, List.size_toArray, List.length_cons, List.length_nil, if_true, if_false, exists_eq', exists_const, List.getElem?_cons_zero, List.getElem?_cons_succ, List.map_toArray, List.map_cons, List.map_nil, beq_iff_eq, List.all_cons, List.all_nil, cond_true, List.set_cons_zero, List.set_cons_succ, List.drop_zero, List.drop_succ_cons, List.take_succ_cons, List.take_zero, List.getElem?_toArray, Option.map_none, Option.getD_none]
            refine ⟨?_, 0, rfl, by omega, by omega, fun p hp => by omega⟩
            repeat first | assumption | exact EXn.refl _ _ | refine EXn.more ?_ _ | refine EXn.put ?_ (by omega) _ | refine EX.trans ?_ (by assumption)
          rintro _ S τ2 ⟨s6, hE3, j, s7, hj, rfl, hq⟩
          by_cases hlt2 : j < dn.length
          · have hd2 : decide ((j : Int) < (dn.length : Int)) = true := by simp; omega
            obtain ⟨om, rfl, p1, p2⟩ := hop (by omega)
            have w0 : (0 : Int) ≤ (j : Int) := by omega
            have w1 : (j : Int) < (dn.length : Int) := by omega
            have rl := (hE3.row s' p1).trans p2
            have hv := ints_at hlt2
            have hwj : IntKind.i64.wrap ((j : Int) + 1) = ((j + 1 : Nat) : Int) := by rw [wrap64 (by omega) (by omega)]; rfl
            have hwj2 : IntKind.i64.wrap ((j : Int) + 2) = (j : Int) + 2 := wrap64 (by omega) (by omega)
            by_cases he : dn.getD j 0 = (j : Int) + 2
            · have hc : (dn.getD j 0 != (j : Int) + 2) = false := by simpa using he
              simp only [c_seq, RUNA, Nat.reduceAdd, Nat.reduceMod, Nat.reduceDiv, Nat.reduceSub, Nat.reduceMul, Nat.reduceEqDiff, Nat.reduceBEq, Nat.reduceLeDiff, Int.reduceToNat, fillS, wantG, vBox, Value.cells, one, putAt, Option.getD_some, Option.map_some, Option.bind_some, ne_eq, Option.some.injEq, Prod.mk.injEq, exists_and_left, exists_eq_left', exists_eq_left, List.size_toArray, List.length_cons, List.length_nil, if_true, if_false, exists_eq', exists_const, List.getElem?_cons_zero, List.getElem?_cons_succ, List.map_toArray, List.map_cons, List.map_nil, beq_iff_eq, List.all_cons, List.all_nil, cond_true, List.set_cons_zero, List.set_cons_succ, List.drop_zero, List.drop_succ_cons, List.take_succ_cons, List.take_zero, List.getElem?_toArray, Option.map_none, Option.getD_none, TYA, k_tmp, k_val, List.append_toArray, List.nil_append, List.cons_append, mm_none, row_putm, s6, s7, hd2, ia58 w0 w1, rl, hv, hwj2, hc, hwj]
              refine ⟨dn.length - (j + 1), by omega, ?_, j + 1, rfl, by omega, rfl, fun p hp => ?_⟩
              · repeat first | assumption | exact EXn.refl _ _ | refine EXn.more ?_ _ | refine EXn.put ?_ (by omega) _ | refine EX.trans ?_ (by assumption)
              · by_cases e : p = j
                · subst e; exact he
                · exact hq p (by omega)
            · have hc : (dn.getD j 0 != (j : Int) + 2) = true := by simpa using he
              simp only [c_seq, RUNA, Nat.reduceAdd, Nat.reduceMod, Nat.reduceDiv, Nat.reduceSub, Nat.reduceMul, Nat.reduceEqDiff, Nat.reduceBEq, Nat.reduceLeDiff, Int.reduceToNat, fillS, wantG, vBox, Value.cells, one, putAt, Option.getD_some, Option.map_some, Option.bind_some, ne_eq, Option.some.injEq, Prod.mk.injEq, exists_and_left, exists_eq_left', exists_eq_left, List.size_toArray, List.length_cons, List.length_nil, if_true, if_false, exists_eq', exists_const, List.getElem?_cons_zero, List.getElem?_cons_succ, List.map_toArray, List.map_cons, List.map_nil, beq_iff_eq, List.all_cons, List.all_nil, cond_true, List.set_cons_zero, List.set_cons_succ, List.drop_zero, List.drop_succ_cons, List.take_succ_cons, List.take_zero, List.getElem?_toArray, Option.map_none, Option.getD_none, TYA, k_tmp, k_val, List.append_toArray, List.nil_append, List.cons_append, mm_none, row_putm, s6, s7, hd2, ia58 w0 w1, rl, hv, hwj2, hc, hr]
              refine ⟨⟨false, rfl, no fun h => ?_⟩, ?_⟩
              · rw [← hvd] at h
                apply he
                have hj3 : j < (rng (l.length - 2)).length := by rw [rng_len]; omega
                rw [h, List.getD_eq_getElem?_getD, List.getElem?_eq_getElem hj3, Option.getD_some, rng_at]
              · repeat first | assumption | exact EXn.refl _ _ | refine EXn.more ?_ _ | refine EXn.put ?_ (by omega) _ | refine EX.trans ?_ (by assumption)
          · have hd2 : decide ((j : Int) < (dn.length : Int)) = false := by simp; omega
            simp only [c_seq, RUNA, Nat.reduceAdd, Nat.reduceMod, Nat.reduceDiv, Nat.reduceSub, Nat.reduceMul, Nat.reduceEqDiff, Nat.reduceBEq, Nat.reduceLeDiff, Int.reduceToNat, fillS, wantG, vBox, Value.cells, one, putAt, Option.getD_some, Option.map_some, Option.bind_some, ne_eq, Option.some.injEq, Prod.mk.injEq, exists_and_left, exists_eq_left', exists_eq_left, List.size_toArray, List.length_cons, List.length_nil, if_true, if_false, exists_eq', exists_const, List.getElem?_cons_zero, List.getElem?_cons_succ, List.map_toArray, List.map_cons, List.map_nil, beq_iff_eq, List.all_cons, List.all_nil, cond_true, List.set_cons_zero, List.set_cons_succ, List.drop_zero, List.drop_succ_cons, List.take_succ_cons, List.take_zero, List.getElem?_toArray, Option.map_none, Option.getD_none, TYA, k_tmp, k_val, List.append_toArray, List.nil_append, List.cons_append, mm_none, row_putm, s6, s7, hd2, hr]
            refine ⟨⟨true, rfl, ?_⟩, ?_⟩
            · rw [← hvd]
              refine ⟨fun _ => ?_, fun _ => rfl⟩
              refine List.ext_getElem (by rw [rng_len]; exact hln) fun p p1 p2 => ?_
              have := hq p (by omega)
              rw [List.getD_eq_getElem?_getD, List.getElem?_eq_getElem p1, Option.getD_some] at this
              rw [this, rng_at]
            · repeat first | assumption | exact EXn.refl _ _ | refine EXn.more ?_ _ | refine EXn.put ?_ (by omega) _ | refine EX.trans ?_ (by assumption)
        · have g4 : ((dn.length : Int) != ((l.length - 2 : Nat) : Int)) = true := by simp; omega
          simp only [c_seq, RUNA, Nat.reduceAdd, Nat.reduceMod, Nat.reduceDiv, Nat.reduceSub, Nat.reduceMul, Nat.reduceEqDiff, Nat.reduceBEq, Nat.reduceLeDiff, Int.reduceToNat, fillS, wantG, vBox, Value.cells, one, putAt, Option.getD_some, Option.map_some, Option.bind_some, ne_eq, Option.some.injEq, Prod.mk.injEq, exists_and_left, exists_eq_left', exists_eq_left, List.size_toArray, List.length_cons, List.length_nil, if_true, if_false, exists_eq', exists_const, List.getElem?_cons_zero, List.getElem?_cons_succ, List.map_toArray, List.map_cons, List.map_nil, beq_iff_eq, List.all_cons, List.all_nil, cond_true, List.set_cons_zero, List.set_cons_succ, List.drop_zero, List.drop_succ_cons, List.take_succ_cons, List.take_zero, List.getElem?_toArray, Option.map_none, Option.getD_none, TYA, k_tmp, k_val, List.append_toArray, List.nil_append, List.cons_append, mm_none, row_putm, s1, s3, r2, hw2, g4, hr]
          refine ⟨⟨false, rfl, no fun h => ?_⟩, ?_⟩
          · rw [← hvd] at h
            exact hln (by rw [h, rng_len])
          · repeat first | assumption | exact EXn.refl _ _ | refine EXn.more ?_ _ | refine EXn.put ?_ (by omega) _ | refine EX.trans ?_ (by assumption)
      · have g3 : (root != ((l.length - 1 : Nat) : Int)) = true := by simp [hrt]
        simp only [c_seq, RUNA, Nat.reduceAdd, Nat.reduceMod, Nat.reduceDiv, Nat.reduceSub, Nat.reduceMul, Nat.reduceEqDiff, Nat.reduceBEq, Nat.reduceLeDiff, Int.reduceToNat, fillS, wantG, vBox, Value.cells, one, putAt, Option.getD_some, Option.map_some, Option.bind_some, ne_eq, Option.some.injEq, Prod.mk.injEq, exists_and_left, exists_eq_left', exists_eq_left, List.size_toArray, List.length_cons, List.length_nil, if_true, if_false, exists_eq', exists_const, List.getElem?_cons_zero, List.getElem?_cons_succ, List.map_toArray, List.map_cons, List.map_nil, beq_iff_eq, List.all_cons, List.all_nil, cond_true, List.set_cons_zero, List.set_cons_succ, List.drop_zero, List.drop_succ_cons, List.take_succ_cons, List.take_zero, List.getElem?_toArray, Option.map_none, Option.getD_none, TYA, k_tmp, k_val, List.append_toArray, List.nil_append, List.cons_append, mm_none, row_putm, s1, s3, hd, g2, r0, hw1, g3, hr]
        refine ⟨⟨false, rfl, no fun h => ?_⟩, ?_⟩
        · obtain ⟨_, _, _, ⟨h, _⟩ | ⟨h, h', _⟩⟩ := h
          · exact hn2 h
          · simp only at h h'; omega
        · repeat first | assumption | exact EXn.refl _ _ | refine EXn.more ?_ _ | refine EXn.put ?_ (by omega) _ | refine EX.trans ?_ (by assumption)
end Go.Proofs.Ytlealdhgajomhaa
