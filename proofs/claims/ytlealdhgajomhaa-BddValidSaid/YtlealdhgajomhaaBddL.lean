/- The reference's Ite and Xor: walks. -/
import Derived.Test.YtlealdhgajomhaaBddK
namespace Go.Proofs.Ytlealdhgajomhaa
set_option linter.unusedVariables false
open Go.AI
set_option linter.unusedSimpArgs false

theorem IsD.hi {lo hi hi' : Nat} {σ : St} {v : Value} {φ : As → Bool} (h : IsD lo hi σ v φ) (hl : hi ≤ hi') : IsD lo hi' σ v φ := by
  obtain ⟨T, ⟨s, h1, h2⟩, h3⟩ := h
  refine ⟨T, ⟨s, h1, h2.imp (fun h => ?_) id⟩, h3⟩
  obtain ⟨id, off, c, row, m, h1, h2, h3, h4⟩ := h
  exact ⟨id, off, c, row, m, h1, h2, by omega, h4⟩
/-! ### Ite -/
theorem refIte_spec {σ : St} {a b c : Value} {φ ψ χ : As → Bool} (ha : IsD 0 σ.next σ a φ) (hb : IsD 0 σ.next σ b ψ) (hc : IsD 0 σ.next σ c χ) (hF : Fr σ) :
    wpc Try.prog 29 #[a, b, c] σ fun r σ' => IsD σ.next σ'.next σ' r (fun f => if φ f = true then ψ f else χ f) ∧ EX σ σ' := by
  have ten1 := ha.ten
  have ten2 := hb.ten
  have ten3 := hc.ten
  obtain ⟨o1, k1, c1, i1, rfl⟩ := ha.open
  obtain ⟨o2, k2, c2, i2, rfl⟩ := hb.open
  obtain ⟨o3, k3, c3, i3, rfl⟩ := hc.open
  refine body_go Try.func29 rfl ?_
  have hr := Try.results29
  simp only [c_seq, RUNA, Nat.reduceAdd, Nat.reduceMod, Nat.reduceDiv, Nat.reduceSub, Nat.reduceMul, Nat.reduceEqDiff, Nat.reduceBEq, Nat.reduceLeDiff, Int.reduceToNat, fillS, wantG, vBox, Value.cells, one, putAt, Option.getD_some, Option.map_some, Option.bind_some, ne_eq, Option.some.injEq, Prod.mk.injEq, exists_and_left, exists_eq_left', exists_eq_left, List.size_toArray, List.length_cons, List.length_nil, if_true, if_false, exists_eq', exists_const, List.getElem?_cons_zero, List.getElem?_cons_succ, List.map_toArray, List.map_cons, List.map_nil, beq_iff_eq, List.all_cons, List.all_nil, cond_true, List.set_cons_zero, List.set_cons_succ, List.drop_zero, List.drop_succ_cons, List.take_succ_cons, List.take_zero, List.getElem?_toArray, Option.map_none, Option.getD_none, TYA, hr]
  refine d_go (ms := [0, 1, 0, 7, 0, 31, 63, 127, 255]) (order := [0, 2, 4, 1, 3, 5, 6, 7, 8]) (by kernel_rfl) (by kernel_rfl) (by kernel_rfl) ?_
  simp only [YRUNA, Nat.reduceShiftRight, bit, List.filterMap_cons, List.filterMap_nil, List.filter_cons, List.filter_nil, List.forall_mem_cons, List.not_mem_nil, implies_true, List.getD_cons_zero, List.getD_cons_succ, eq_self, c_seq, RUNA, Nat.reduceAdd, Nat.reduceMod, Nat.reduceDiv, Nat.reduceSub, Nat.reduceMul, Nat.reduceEqDiff, Nat.reduceBEq, Nat.reduceLeDiff, Int.reduceToNat, fillS, wantG, vBox, Value.cells, one, putAt, Option.getD_some, Option.map_some, Option.bind_some, ne_eq, Option.some.injEq, Prod.mk.injEq, exists_and_left, exists_eq_left', exists_eq_left, List.size_toArray, List.length_cons, List.length_nil, if_true, if_false, exists_eq', exists_const, List.getElem?_cons_zero, List.getElem?_cons_succ, List.map_toArray, List.map_cons, List.map_nil, beq_iff_eq, List.all_cons, List.all_nil, cond_true, List.set_cons_zero, List.set_cons_succ, List.drop_zero, List.drop_succ_cons, List.take_succ_cons, List.take_zero, List.getElem?_toArray, Option.map_none, Option.getD_none, TYA]
  refine wpc_mono (Table_is (ha.un ?_) ?_) ?_
  · repeat first | assumption | exact UN.refl _ _ _ | refine UN.more ?_ _ | refine UN.put ?_ (by omega) _ | refine UN.ex (by assumption) ?_ (by first | omega | (simp only [next_more, next_put]; omega)) | refine UN.exb (by assumption) ?_ (by first | omega | (simp only [next_more, next_put]; omega)) (by omega)
  · first | omega | (simp only [next_more, next_put] at *; omega)
  rintro r σ1 ⟨⟨d1, rfl, t1, t1', t1''⟩, hE1⟩
  have n1 := hE1.next
  simp only [next_more, next_put] at n1 t1
  have a1 : σ1.row σ.next = some ([.slice o1 k1 c1, .int .i64 i1], boxMeta) := by rw [hE1.row _ (by first | omega | (simp only [next_more, next_put] at *; omega))]; simp only [c_seq, RUNA, Nat.reduceAdd, Nat.reduceMod, Nat.reduceDiv, Nat.reduceSub, Nat.reduceMul, Nat.reduceEqDiff, Nat.reduceBEq, Nat.reduceLeDiff, Int.reduceToNat, fillS, wantG, vBox, Value.cells, one, putAt, Option.getD_some, Option.map_some, Option.bind_some, ne_eq, Option.some.injEq, Prod.mk.injEq, exists_and_left, exists_eq_left', exists_eq_left, List.size_toArray, List.length_cons, List.length_nil, if_true, if_false, exists_eq', exists_const, List.getElem?_cons_zero, List.getElem?_cons_succ, List.map_toArray, List.map_cons, List.map_nil, beq_iff_eq, List.all_cons, List.all_nil, cond_true, List.set_cons_zero, List.set_cons_succ, List.drop_zero, List.drop_succ_cons, List.take_succ_cons, List.take_zero, List.getElem?_toArray, Option.map_none, Option.getD_none]
  have b1 : σ1.row (σ.next + 1) = some ([.slice o2 k2 c2, .int .i64 i2], boxMeta) := by rw [hE1.row _ (by first | omega | (simp only [next_more, next_put] at *; omega))]; simp only [c_seq, RUNA, Nat.reduceAdd, Nat.reduceMod, Nat.reduceDiv, Nat.reduceSub, Nat.reduceMul, Nat.reduceEqDiff, Nat.reduceBEq, Nat.reduceLeDiff, Int.reduceToNat, fillS, wantG, vBox, Value.cells, one, putAt, Option.getD_some, Option.map_some, Option.bind_some, ne_eq, Option.some.injEq, Prod.mk.injEq, exists_and_left, exists_eq_left', exists_eq_left, List.size_toArray, List.length_cons, List.length_nil, if_true, if_false, exists_eq', exists_const, List.getElem?_cons_zero, List.getElem?_cons_succ, List.map_toArray, List.map_cons, List.map_nil, beq_iff_eq, List.all_cons, List.all_nil, cond_true, List.set_cons_zero, List.set_cons_succ, List.drop_zero, List.drop_succ_cons, List.take_succ_cons, List.take_zero, List.getElem?_toArray, Option.map_none, Option.getD_none]
  have c1 : σ1.row (σ.next + 2) = some ([.slice o3 k3 c3, .int .i64 i3], boxMeta) := by rw [hE1.row _ (by first | omega | (simp only [next_more, next_put] at *; omega))]; simp only [c_seq, RUNA, Nat.reduceAdd, Nat.reduceMod, Nat.reduceDiv, Nat.reduceSub, Nat.reduceMul, Nat.reduceEqDiff, Nat.reduceBEq, Nat.reduceLeDiff, Int.reduceToNat, fillS, wantG, vBox, Value.cells, one, putAt, Option.getD_some, Option.map_some, Option.bind_some, ne_eq, Option.some.injEq, Prod.mk.injEq, exists_and_left, exists_eq_left', exists_eq_left, List.size_toArray, List.length_cons, List.length_nil, if_true, if_false, exists_eq', exists_const, List.getElem?_cons_zero, List.getElem?_cons_succ, List.map_toArray, List.map_cons, List.map_nil, beq_iff_eq, List.all_cons, List.all_nil, cond_true, List.set_cons_zero, List.set_cons_succ, List.drop_zero, List.drop_succ_cons, List.take_succ_cons, List.take_zero, List.getElem?_toArray, Option.map_none, Option.getD_none]
  have r1 : σ1.row (σ.next + 3) = some ([.slice none 0 0, .int .i64 0], boxMeta) := by rw [hE1.row _ (by first | omega | (simp only [next_more, next_put] at *; omega))]; simp only [c_seq, RUNA, Nat.reduceAdd, Nat.reduceMod, Nat.reduceDiv, Nat.reduceSub, Nat.reduceMul, Nat.reduceEqDiff, Nat.reduceBEq, Nat.reduceLeDiff, Int.reduceToNat, fillS, wantG, vBox, Value.cells, one, putAt, Option.getD_some, Option.map_some, Option.bind_some, ne_eq, Option.some.injEq, Prod.mk.injEq, exists_and_left, exists_eq_left', exists_eq_left, List.size_toArray, List.length_cons, List.length_nil, if_true, if_false, exists_eq', exists_const, List.getElem?_cons_zero, List.getElem?_cons_succ, List.map_toArray, List.map_cons, List.map_nil, beq_iff_eq, List.all_cons, List.all_nil, cond_true, List.set_cons_zero, List.set_cons_succ, List.drop_zero, List.drop_succ_cons, List.take_succ_cons, List.take_zero, List.getElem?_toArray, Option.map_none, Option.getD_none]
  have e1 : EX σ σ1 := by repeat first | assumption | exact EXn.refl _ _ | refine EXn.more ?_ _ | refine EXn.put ?_ (by omega) _ | refine EX.trans ?_ (by assumption)
  simp only [YRUNA, Nat.reduceShiftRight, bit, List.filterMap_cons, List.filterMap_nil, List.filter_cons, List.filter_nil, List.forall_mem_cons, List.not_mem_nil, implies_true, List.getD_cons_zero, List.getD_cons_succ, eq_self, c_seq, RUNA, Nat.reduceAdd, Nat.reduceMod, Nat.reduceDiv, Nat.reduceSub, Nat.reduceMul, Nat.reduceEqDiff, Nat.reduceBEq, Nat.reduceLeDiff, Int.reduceToNat, fillS, wantG, vBox, Value.cells, one, putAt, Option.getD_some, Option.map_some, Option.bind_some, ne_eq, Option.some.injEq, Prod.mk.injEq, exists_and_left, exists_eq_left', exists_eq_left, List.size_toArray, List.length_cons, List.length_nil, if_true, if_false, exists_eq', exists_const, List.getElem?_cons_zero, List.getElem?_cons_succ, List.map_toArray, List.map_cons, List.map_nil, beq_iff_eq, List.all_cons, List.all_nil, cond_true, List.set_cons_zero, List.set_cons_succ, List.drop_zero, List.drop_succ_cons, List.take_succ_cons, List.take_zero, List.getElem?_toArray, Option.map_none, Option.getD_none, TYA, a1, b1, c1]
  refine wpc_mono (Table_is (hb.un ?_) ?_) ?_
  · repeat first | assumption | exact UN.refl _ _ _ | refine UN.more ?_ _ | refine UN.put ?_ (by omega) _ | refine UN.ex (by assumption) ?_ (by first | omega | (simp only [next_more, next_put]; omega)) | refine UN.exb (by assumption) ?_ (by first | omega | (simp only [next_more, next_put]; omega)) (by omega)
  · first | omega | (simp only [next_more, next_put] at *; omega)
  rintro r σ2 ⟨⟨d2, rfl, t2, t2', t2''⟩, hE2⟩
  have n2 := hE2.next
  have a2 := (hE2.row σ.next (by omega)).trans a1
  have b2 := (hE2.row (σ.next + 1) (by omega)).trans b1
  have c2 := (hE2.row (σ.next + 2) (by omega)).trans c1
  have r2 := (hE2.row (σ.next + 3) (by omega)).trans r1
  have u1 := (hE2.row d1 (by omega)).trans t1''
  have e2 : EX σ σ2 := by repeat first | assumption | exact EXn.refl _ _ | refine EXn.more ?_ _ | refine EXn.put ?_ (by omega) _ | refine EX.trans ?_ (by assumption)
  simp only [YRUNA, Nat.reduceShiftRight, bit, List.filterMap_cons, List.filterMap_nil, List.filter_cons, List.filter_nil, List.forall_mem_cons, List.not_mem_nil, implies_true, List.getD_cons_zero, List.getD_cons_succ, eq_self, c_seq, RUNA, Nat.reduceAdd, Nat.reduceMod, Nat.reduceDiv, Nat.reduceSub, Nat.reduceMul, Nat.reduceEqDiff, Nat.reduceBEq, Nat.reduceLeDiff, Int.reduceToNat, fillS, wantG, vBox, Value.cells, one, putAt, Option.getD_some, Option.map_some, Option.bind_some, ne_eq, Option.some.injEq, Prod.mk.injEq, exists_and_left, exists_eq_left', exists_eq_left, List.size_toArray, List.length_cons, List.length_nil, if_true, if_false, exists_eq', exists_const, List.getElem?_cons_zero, List.getElem?_cons_succ, List.map_toArray, List.map_cons, List.map_nil, beq_iff_eq, List.all_cons, List.all_nil, cond_true, List.set_cons_zero, List.set_cons_succ, List.drop_zero, List.drop_succ_cons, List.take_succ_cons, List.take_zero, List.getElem?_toArray, Option.map_none, Option.getD_none, TYA, a2, b2, c2]
  refine wpc_mono (Table_is (hc.un ?_) ?_) ?_
  · repeat first | assumption | exact UN.refl _ _ _ | refine UN.more ?_ _ | refine UN.put ?_ (by omega) _ | refine UN.ex (by assumption) ?_ (by first | omega | (simp only [next_more, next_put]; omega)) | refine UN.exb (by assumption) ?_ (by first | omega | (simp only [next_more, next_put]; omega)) (by omega)
  · first | omega | (simp only [next_more, next_put] at *; omega)
  rintro r σ3 ⟨⟨d3, rfl, t3, t3', t3''⟩, hE3⟩
  have n3 := hE3.next
  have a3 := (hE3.row σ.next (by omega)).trans a2
  have b3 := (hE3.row (σ.next + 1) (by omega)).trans b2
  have c3 := (hE3.row (σ.next + 2) (by omega)).trans c2
  have r3 := (hE3.row (σ.next + 3) (by omega)).trans r2
  have w1 := (hE3.row d1 (by omega)).trans u1
  have w2 := (hE3.row d2 (by omega)).trans t2''
  have e3 : EX σ σ3 := by repeat first | assumption | exact EXn.refl _ _ | refine EXn.more ?_ _ | refine EXn.put ?_ (by omega) _ | refine EX.trans ?_ (by assumption)
  have f3 := e3.fr hF
  simp only [YRUNA, Nat.reduceShiftRight, bit, List.filterMap_cons, List.filterMap_nil, List.filter_cons, List.filter_nil, List.forall_mem_cons, List.not_mem_nil, implies_true, List.getD_cons_zero, List.getD_cons_succ, eq_self, c_seq, RUNA, Nat.reduceAdd, Nat.reduceMod, Nat.reduceDiv, Nat.reduceSub, Nat.reduceMul, Nat.reduceEqDiff, Nat.reduceBEq, Nat.reduceLeDiff, Int.reduceToNat, fillS, wantG, vBox, Value.cells, one, putAt, Option.getD_some, Option.map_some, Option.bind_some, ne_eq, Option.some.injEq, Prod.mk.injEq, exists_and_left, exists_eq_left', exists_eq_left, List.size_toArray, List.length_cons, List.length_nil, if_true, if_false, exists_eq', exists_const, List.getElem?_cons_zero, List.getElem?_cons_succ, List.map_toArray, List.map_cons, List.map_nil, beq_iff_eq, List.all_cons, List.all_nil, cond_true, List.set_cons_zero, List.set_cons_succ, List.drop_zero, List.drop_succ_cons, List.take_succ_cons, List.take_zero, List.getElem?_toArray, Option.map_none, Option.getD_none, TYA, a3, b3, c3]
  refine loop_go (fun m S τ => S.at 6 = .pointer (some ⟨σ.next + 3, 0, none⟩) ∧ S.at 7 = .slice (some ⟨d1, 0, none⟩) 1024 1024 ∧ S.at 8 = .slice (some ⟨d2, 0, none⟩) 1024 1024 ∧ S.at 9 = .slice (some ⟨d3, 0, none⟩) 1024 1024 ∧ EX σ τ ∧ Fr τ ∧ σ3.next ≤ τ.next ∧
    τ.row (σ.next + 3) = some ([.slice none 0 0, .int .i64 0], boxMeta) ∧ τ.row d1 = some ((tab 1024 fun n => φ (bits n)).map Value.bool, rowMeta 1) ∧ τ.row d2 = some ((tab 1024 fun n => ψ (bits n)).map Value.bool, rowMeta 1) ∧
    ∃ n : Nat, S.at 10 = .int .i64 n ∧ n ≤ 1024 ∧ m = 1024 - n ∧ τ.row d3 = some ((tab 1024 (half n (fun n => if φ (bits n) = true then ψ (bits n) else χ (bits n)) (fun n => χ (bits n)))).map Value.bool, rowMeta 1)) 1024 ?_ ?_
  · simp only [c_seq, RUNA, Nat.reduceAdd, Nat.reduceMod, Nat.reduceDiv, Nat.reduceSub, Nat.reduceMul, Nat.reduceEqDiff, Nat.reduceBEq, Nat.reduceLeDiff, Int.reduceToNat, fillS, wantG, vBox, Value.cells, one, putAt, Option.getD_some, Option.map_some, Option.bind_some, ne_eq, Option.some.injEq, Prod.mk.injEq, exists_and_left, exists_eq_left', exists_eq_left, List.size_toArray, List.length_cons, List.length_nil, if_true, if_false, exists_eq', exists_const, List.getElem?_cons_zero, List.getElem?_cons_succ, List.map_toArray, List.map_cons, List.map_nil, beq_iff_eq, List.all_cons, List.all_nil, cond_true, List.set_cons_zero, List.set_cons_succ, List.drop_zero, List.drop_succ_cons, List.take_succ_cons, List.take_zero, List.getElem?_toArray, Option.map_none, Option.getD_none]
    refine ⟨?_, ?_, by omega, r3, w1, w2, 0, rfl, by omega, by omega, ?_⟩
    · repeat first | assumption | exact EXn.refl _ _ | refine EXn.more ?_ _ | refine EXn.put ?_ (by omega) _ | refine EX.trans ?_ (by assumption)
    · repeat first | assumption | refine Fr.more ?_ _ | refine Fr.put ?_ _ _
    · rw [t3'', half_0 (f := fun n => if φ (bits n) = true then ψ (bits n) else χ (bits n))]
  rintro _ S τ ⟨s6, s7, s8, s9, hE, hF', hx, r0, x1, x2, n, s10, hn, rfl, rt⟩
  have nn := hE.next
  by_cases hlt : n < 1024
  · have hd : decide ((n : Int) < ((1024 : Nat) : Int)) = true := by simp; omega
    have z2 : (0 : Int) ≤ (n : Int) := by omega
    have z3 : (n : Int) < ((1024 : Nat) : Int) := by omega
    have hw : IntKind.i64.wrap ((n : Int) + 1) = ((n + 1 : Nat) : Int) := by rw [wrap64 (by omega) (by omega)]; rfl
    have hle : n + 1 ≤ ((tab 1024 (half n (fun n => if φ (bits n) = true then ψ (bits n) else χ (bits n)) (fun n => χ (bits n)))).map Value.bool).length := by rw [List.length_map, tab_len]; omega
    have hv1 := tabv (f := fun n => φ (bits n)) hlt
    have hv2 := tabv (f := fun n => ψ (bits n)) hlt
    have q : ¬ σ.next + 3 = d3 := by omega
    have q1 : ¬ d1 = d3 := by omega
    have q2 : ¬ d2 = d3 := by omega
    have hs := half_set (N := 1024) (n := n) (f := fun n => if φ (bits n) = true then ψ (bits n) else χ (bits n)) (g := fun n => χ (bits n))
    cases hp : φ (bits n) with
    | true =>
      rw [hp] at hv1
      simp only [hp, if_true] at hs
      simp only [c_seq, RUNA, Nat.reduceAdd, Nat.reduceMod, Nat.reduceDiv, Nat.reduceSub, Nat.reduceMul, Nat.reduceEqDiff, Nat.reduceBEq, Nat.reduceLeDiff, Int.reduceToNat, fillS, wantG, vBox, Value.cells, one, putAt, Option.getD_some, Option.map_some, Option.bind_some, ne_eq, Option.some.injEq, Prod.mk.injEq, exists_and_left, exists_eq_left', exists_eq_left, List.size_toArray, List.length_cons, List.length_nil, if_true, if_false, exists_eq', exists_const, List.getElem?_cons_zero, List.getElem?_cons_succ, List.map_toArray, List.map_cons, List.map_nil, beq_iff_eq, List.all_cons, List.all_nil, cond_true, List.set_cons_zero, List.set_cons_succ, List.drop_zero, List.drop_succ_cons, List.take_succ_cons, List.take_zero, List.getElem?_toArray, Option.map_none, Option.getD_none, TYA, s6, s7, s8, s9, s10, hd, ia43 z2 z3, rt, x1, x2, hv1, hv2, hle, hw, r0, q, q1, q2]
      refine ⟨1024 - (n + 1), by omega, ?_, ?_, by omega, n + 1, rfl, by omega, rfl, ?_⟩
      · repeat first | assumption | exact EXn.refl _ _ | refine EXn.more ?_ _ | refine EXn.put ?_ (by omega) _ | refine EX.trans ?_ (by assumption)
      · repeat first | assumption | refine Fr.more ?_ _ | refine Fr.put ?_ _ _
      · rw [← hs, List.map_set]
    | false =>
      rw [hp] at hv1
      simp only [hp, Bool.false_eq_true, if_false] at hs
      have hs2 : (tab 1024 (half n (fun n => if φ (bits n) = true then ψ (bits n) else χ (bits n)) (fun n => χ (bits n)))) = (tab 1024 (half (n + 1) (fun n => if φ (bits n) = true then ψ (bits n) else χ (bits n)) (fun n => χ (bits n)))) := by
        rw [← hs, tab_set]
        refine tab_congr fun i _ => ?_
        by_cases h : i = n
        · subst h; rw [if_pos rfl, half_at]
        · rw [if_neg h]
      simp only [c_seq, RUNA, Nat.reduceAdd, Nat.reduceMod, Nat.reduceDiv, Nat.reduceSub, Nat.reduceMul, Nat.reduceEqDiff, Nat.reduceBEq, Nat.reduceLeDiff, Int.reduceToNat, fillS, wantG, vBox, Value.cells, one, putAt, Option.getD_some, Option.map_some, Option.bind_some, ne_eq, Option.some.injEq, Prod.mk.injEq, exists_and_left, exists_eq_left', exists_eq_left, List.size_toArray, List.length_cons, List.length_nil, if_true, if_false, exists_eq', exists_const, List.getElem?_cons_zero, List.getElem?_cons_succ, List.map_toArray, List.map_cons, List.map_nil, beq_iff_eq, List.all_cons, List.all_nil, cond_true, List.set_cons_zero, List.set_cons_succ, List.drop_zero, List.drop_succ_cons, List.take_succ_cons, List.take_zero, List.getElem?_toArray, Option.map_none, Option.getD_none, TYA, s6, s7, s8, s9, s10, hd, ia43 z2 z3, rt, x1, x2, hv1, hv2, hle, hw, r0, q, q1, q2]
      refine ⟨1024 - (n + 1), by omega, ?_, ?_, by omega, n + 1, rfl, by omega, rfl, ?_⟩
      · repeat first | assumption | exact EXn.refl _ _ | refine EXn.more ?_ _ | refine EXn.put ?_ (by omega) _ | refine EX.trans ?_ (by assumption)
      · repeat first | assumption | refine Fr.more ?_ _ | refine Fr.put ?_ _ _
      · rw [hs2]
  · have hd : decide ((n : Int) < ((1024 : Nat) : Int)) = false := by simp; omega
    have hn1 : n = 1024 := by omega
    rw [hn1, half_N] at rt
    simp only [c_seq, RUNA, Nat.reduceAdd, Nat.reduceMod, Nat.reduceDiv, Nat.reduceSub, Nat.reduceMul, Nat.reduceEqDiff, Nat.reduceBEq, Nat.reduceLeDiff, Int.reduceToNat, fillS, wantG, vBox, Value.cells, one, putAt, Option.getD_some, Option.map_some, Option.bind_some, ne_eq, Option.some.injEq, Prod.mk.injEq, exists_and_left, exists_eq_left', exists_eq_left, List.size_toArray, List.length_cons, List.length_nil, if_true, if_false, exists_eq', exists_const, List.getElem?_cons_zero, List.getElem?_cons_succ, List.map_toArray, List.map_cons, List.map_nil, beq_iff_eq, List.all_cons, List.all_nil, cond_true, List.set_cons_zero, List.set_cons_succ, List.drop_zero, List.drop_succ_cons, List.take_succ_cons, List.take_zero, List.getElem?_toArray, Option.map_none, Option.getD_none, TYA, s6, s7, s8, s9, s10, hd]
    refine wpc_mono (Diagram_is (lo := 0) (hi := τ.next) ⟨d3, rfl, by omega, by omega, rt⟩ (by first | omega | (simp only [next_more, next_put] at *; omega)) (by repeat first | assumption | refine Fr.more ?_ _ | refine Fr.put ?_ _ _)) ?_
    rintro r σ2 ⟨hD, hE2⟩
    have n2 := hE2.next
    simp only [next_more] at n2 hD
    obtain ⟨o, k, c, i, rfl⟩ := hD.open
    have r2 : σ2.row (σ.next + 3) = some ([.slice none 0 0, .int .i64 0], boxMeta) := (hE2.row _ (by first | omega | (simp only [next_more, next_put] at *; omega))).trans r0
    simp only [c_seq, RUNA, Nat.reduceAdd, Nat.reduceMod, Nat.reduceDiv, Nat.reduceSub, Nat.reduceMul, Nat.reduceEqDiff, Nat.reduceBEq, Nat.reduceLeDiff, Int.reduceToNat, fillS, wantG, vBox, Value.cells, one, putAt, Option.getD_some, Option.map_some, Option.bind_some, ne_eq, Option.some.injEq, Prod.mk.injEq, exists_and_left, exists_eq_left', exists_eq_left, List.size_toArray, List.length_cons, List.length_nil, if_true, if_false, exists_eq', exists_const, List.getElem?_cons_zero, List.getElem?_cons_succ, List.map_toArray, List.map_cons, List.map_nil, beq_iff_eq, List.all_cons, List.all_nil, cond_true, List.set_cons_zero, List.set_cons_succ, List.drop_zero, List.drop_succ_cons, List.take_succ_cons, List.take_zero, List.getElem?_toArray, Option.map_none, Option.getD_none, TYA, s6, r2, hr]
    refine ⟨IsD.congr (IsD.weak (hD.un ?_) (by omega)) (fun f => by rw [ten1 f, ten2 f, ten3 f]), ?_⟩
    · repeat first | assumption | exact UN.refl _ _ _ | refine UN.more ?_ _ | refine UN.put ?_ (by omega) _ | refine UN.ex (by assumption) ?_ (by first | omega | (simp only [next_more, next_put]; omega)) | refine UN.exb (by assumption) ?_ (by first | omega | (simp only [next_more, next_put]; omega)) (by omega)
    · repeat first | assumption | exact EXn.refl _ _ | refine EXn.more ?_ _ | refine EXn.put ?_ (by omega) _ | refine EX.trans ?_ (by assumption)

/-! ### Xor -/
theorem refXor_spec {σ : St} {a b : Value} {φ ψ : As → Bool} (ha : IsD 0 σ.next σ a φ) (hb : IsD 0 σ.next σ b ψ) (hF : Fr σ) :
    wpc Try.prog 33 #[a, b] σ fun r σ' => IsD σ.next σ'.next σ' r (fun f => !(φ f == ψ f)) ∧ EX σ σ' := by
  have ten1 := ha.ten
  have ten2 := hb.ten
  obtain ⟨o1, k1, c1, i1, rfl⟩ := ha.open
  obtain ⟨o2, k2, c2, i2, rfl⟩ := hb.open
  refine body_go Try.func33 rfl ?_
  have hr := Try.results33
  simp only [c_seq, RUNA, Nat.reduceAdd, Nat.reduceMod, Nat.reduceDiv, Nat.reduceSub, Nat.reduceMul, Nat.reduceEqDiff, Nat.reduceBEq, Nat.reduceLeDiff, Int.reduceToNat, fillS, wantG, vBox, Value.cells, one, putAt, Option.getD_some, Option.map_some, Option.bind_some, ne_eq, Option.some.injEq, Prod.mk.injEq, exists_and_left, exists_eq_left', exists_eq_left, List.size_toArray, List.length_cons, List.length_nil, if_true, if_false, exists_eq', exists_const, List.getElem?_cons_zero, List.getElem?_cons_succ, List.map_toArray, List.map_cons, List.map_nil, beq_iff_eq, List.all_cons, List.all_nil, cond_true, List.set_cons_zero, List.set_cons_succ, List.drop_zero, List.drop_succ_cons, List.take_succ_cons, List.take_zero, List.getElem?_toArray, Option.map_none, Option.getD_none, TYA, hr]
  refine d_go (ms := [0, 1, 0, 7, 15, 31]) (order := [0, 2, 1, 3, 4, 5]) (by kernel_rfl) (by kernel_rfl) (by kernel_rfl) ?_
  simp only [YRUNA, Nat.reduceShiftRight, bit, List.filterMap_cons, List.filterMap_nil, List.filter_cons, List.filter_nil, List.forall_mem_cons, List.not_mem_nil, implies_true, List.getD_cons_zero, List.getD_cons_succ, eq_self, c_seq, RUNA, Nat.reduceAdd, Nat.reduceMod, Nat.reduceDiv, Nat.reduceSub, Nat.reduceMul, Nat.reduceEqDiff, Nat.reduceBEq, Nat.reduceLeDiff, Int.reduceToNat, fillS, wantG, vBox, Value.cells, one, putAt, Option.getD_some, Option.map_some, Option.bind_some, ne_eq, Option.some.injEq, Prod.mk.injEq, exists_and_left, exists_eq_left', exists_eq_left, List.size_toArray, List.length_cons, List.length_nil, if_true, if_false, exists_eq', exists_const, List.getElem?_cons_zero, List.getElem?_cons_succ, List.map_toArray, List.map_cons, List.map_nil, beq_iff_eq, List.all_cons, List.all_nil, cond_true, List.set_cons_zero, List.set_cons_succ, List.drop_zero, List.drop_succ_cons, List.take_succ_cons, List.take_zero, List.getElem?_toArray, Option.map_none, Option.getD_none, TYA]
  refine wpc_mono (Table_is (ha.un ?_) ?_) ?_
  · repeat first | assumption | exact UN.refl _ _ _ | refine UN.more ?_ _ | refine UN.put ?_ (by omega) _ | refine UN.ex (by assumption) ?_ (by first | omega | (simp only [next_more, next_put]; omega)) | refine UN.exb (by assumption) ?_ (by first | omega | (simp only [next_more, next_put]; omega)) (by omega)
  · first | omega | (simp only [next_more, next_put] at *; omega)
  rintro r σ1 ⟨⟨d1, rfl, t1, t1', t1''⟩, hE1⟩
  have n1 := hE1.next
  simp only [next_more, next_put] at n1 t1
  have a1 : σ1.row σ.next = some ([.slice o1 k1 c1, .int .i64 i1], boxMeta) := by rw [hE1.row _ (by first | omega | (simp only [next_more, next_put] at *; omega))]; simp only [c_seq, RUNA, Nat.reduceAdd, Nat.reduceMod, Nat.reduceDiv, Nat.reduceSub, Nat.reduceMul, Nat.reduceEqDiff, Nat.reduceBEq, Nat.reduceLeDiff, Int.reduceToNat, fillS, wantG, vBox, Value.cells, one, putAt, Option.getD_some, Option.map_some, Option.bind_some, ne_eq, Option.some.injEq, Prod.mk.injEq, exists_and_left, exists_eq_left', exists_eq_left, List.size_toArray, List.length_cons, List.length_nil, if_true, if_false, exists_eq', exists_const, List.getElem?_cons_zero, List.getElem?_cons_succ, List.map_toArray, List.map_cons, List.map_nil, beq_iff_eq, List.all_cons, List.all_nil, cond_true, List.set_cons_zero, List.set_cons_succ, List.drop_zero, List.drop_succ_cons, List.take_succ_cons, List.take_zero, List.getElem?_toArray, Option.map_none, Option.getD_none]
  have b1 : σ1.row (σ.next + 1) = some ([.slice o2 k2 c2, .int .i64 i2], boxMeta) := by rw [hE1.row _ (by first | omega | (simp only [next_more, next_put] at *; omega))]; simp only [c_seq, RUNA, Nat.reduceAdd, Nat.reduceMod, Nat.reduceDiv, Nat.reduceSub, Nat.reduceMul, Nat.reduceEqDiff, Nat.reduceBEq, Nat.reduceLeDiff, Int.reduceToNat, fillS, wantG, vBox, Value.cells, one, putAt, Option.getD_some, Option.map_some, Option.bind_some, ne_eq, Option.some.injEq, Prod.mk.injEq, exists_and_left, exists_eq_left', exists_eq_left, List.size_toArray, List.length_cons, List.length_nil, if_true, if_false, exists_eq', exists_const, List.getElem?_cons_zero, List.getElem?_cons_succ, List.map_toArray, List.map_cons, List.map_nil, beq_iff_eq, List.all_cons, List.all_nil, cond_true, List.set_cons_zero, List.set_cons_succ, List.drop_zero, List.drop_succ_cons, List.take_succ_cons, List.take_zero, List.getElem?_toArray, Option.map_none, Option.getD_none]
  have r1 : σ1.row (σ.next + 2) = some ([.slice none 0 0, .int .i64 0], boxMeta) := by rw [hE1.row _ (by first | omega | (simp only [next_more, next_put] at *; omega))]; simp only [c_seq, RUNA, Nat.reduceAdd, Nat.reduceMod, Nat.reduceDiv, Nat.reduceSub, Nat.reduceMul, Nat.reduceEqDiff, Nat.reduceBEq, Nat.reduceLeDiff, Int.reduceToNat, fillS, wantG, vBox, Value.cells, one, putAt, Option.getD_some, Option.map_some, Option.bind_some, ne_eq, Option.some.injEq, Prod.mk.injEq, exists_and_left, exists_eq_left', exists_eq_left, List.size_toArray, List.length_cons, List.length_nil, if_true, if_false, exists_eq', exists_const, List.getElem?_cons_zero, List.getElem?_cons_succ, List.map_toArray, List.map_cons, List.map_nil, beq_iff_eq, List.all_cons, List.all_nil, cond_true, List.set_cons_zero, List.set_cons_succ, List.drop_zero, List.drop_succ_cons, List.take_succ_cons, List.take_zero, List.getElem?_toArray, Option.map_none, Option.getD_none]
  have e1 : EX σ σ1 := by repeat first | assumption | exact EXn.refl _ _ | refine EXn.more ?_ _ | refine EXn.put ?_ (by omega) _ | refine EX.trans ?_ (by assumption)
  simp only [YRUNA, Nat.reduceShiftRight, bit, List.filterMap_cons, List.filterMap_nil, List.filter_cons, List.filter_nil, List.forall_mem_cons, List.not_mem_nil, implies_true, List.getD_cons_zero, List.getD_cons_succ, eq_self, c_seq, RUNA, Nat.reduceAdd, Nat.reduceMod, Nat.reduceDiv, Nat.reduceSub, Nat.reduceMul, Nat.reduceEqDiff, Nat.reduceBEq, Nat.reduceLeDiff, Int.reduceToNat, fillS, wantG, vBox, Value.cells, one, putAt, Option.getD_some, Option.map_some, Option.bind_some, ne_eq, Option.some.injEq, Prod.mk.injEq, exists_and_left, exists_eq_left', exists_eq_left, List.size_toArray, List.length_cons, List.length_nil, if_true, if_false, exists_eq', exists_const, List.getElem?_cons_zero, List.getElem?_cons_succ, List.map_toArray, List.map_cons, List.map_nil, beq_iff_eq, List.all_cons, List.all_nil, cond_true, List.set_cons_zero, List.set_cons_succ, List.drop_zero, List.drop_succ_cons, List.take_succ_cons, List.take_zero, List.getElem?_toArray, Option.map_none, Option.getD_none, TYA, a1, b1]
  refine wpc_mono (Table_is (hb.un ?_) ?_) ?_
  · repeat first | assumption | exact UN.refl _ _ _ | refine UN.more ?_ _ | refine UN.put ?_ (by omega) _ | refine UN.ex (by assumption) ?_ (by first | omega | (simp only [next_more, next_put]; omega)) | refine UN.exb (by assumption) ?_ (by first | omega | (simp only [next_more, next_put]; omega)) (by omega)
  · first | omega | (simp only [next_more, next_put] at *; omega)
  rintro r σ2 ⟨⟨d2, rfl, t2, t2', t2''⟩, hE2⟩
  have n2 := hE2.next
  have a2 := (hE2.row σ.next (by omega)).trans a1
  have b2 := (hE2.row (σ.next + 1) (by omega)).trans b1
  have r2 := (hE2.row (σ.next + 2) (by omega)).trans r1
  have u1 := (hE2.row d1 (by omega)).trans t1''
  have e2 : EX σ σ2 := by repeat first | assumption | exact EXn.refl _ _ | refine EXn.more ?_ _ | refine EXn.put ?_ (by omega) _ | refine EX.trans ?_ (by assumption)
  have f2 := e2.fr hF
  simp only [YRUNA, Nat.reduceShiftRight, bit, List.filterMap_cons, List.filterMap_nil, List.filter_cons, List.filter_nil, List.forall_mem_cons, List.not_mem_nil, implies_true, List.getD_cons_zero, List.getD_cons_succ, eq_self, c_seq, RUNA, Nat.reduceAdd, Nat.reduceMod, Nat.reduceDiv, Nat.reduceSub, Nat.reduceMul, Nat.reduceEqDiff, Nat.reduceBEq, Nat.reduceLeDiff, Int.reduceToNat, fillS, wantG, vBox, Value.cells, one, putAt, Option.getD_some, Option.map_some, Option.bind_some, ne_eq, Option.some.injEq, Prod.mk.injEq, exists_and_left, exists_eq_left', exists_eq_left, List.size_toArray, List.length_cons, List.length_nil, if_true, if_false, exists_eq', exists_const, List.getElem?_cons_zero, List.getElem?_cons_succ, List.map_toArray, List.map_cons, List.map_nil, beq_iff_eq, List.all_cons, List.all_nil, cond_true, List.set_cons_zero, List.set_cons_succ, List.drop_zero, List.drop_succ_cons, List.take_succ_cons, List.take_zero, List.getElem?_toArray, Option.map_none, Option.getD_none, TYA, a2, b2]
  refine loop_go (fun m S τ => S.at 4 = .pointer (some ⟨σ.next + 2, 0, none⟩) ∧ S.at 5 = .slice (some ⟨d1, 0, none⟩) 1024 1024 ∧ S.at 6 = .slice (some ⟨d2, 0, none⟩) 1024 1024 ∧ EX σ τ ∧ Fr τ ∧ σ2.next ≤ τ.next ∧
    τ.row (σ.next + 2) = some ([.slice none 0 0, .int .i64 0], boxMeta) ∧ τ.row d2 = some ((tab 1024 fun n => ψ (bits n)).map Value.bool, rowMeta 1) ∧
    ∃ n : Nat, S.at 7 = .int .i64 n ∧ n ≤ 1024 ∧ m = 1024 - n ∧ τ.row d1 = some ((tab 1024 (half n (fun n => !(φ (bits n) == ψ (bits n))) (fun n => φ (bits n)))).map Value.bool, rowMeta 1)) 1024 ?_ ?_
  · simp only [c_seq, RUNA, Nat.reduceAdd, Nat.reduceMod, Nat.reduceDiv, Nat.reduceSub, Nat.reduceMul, Nat.reduceEqDiff, Nat.reduceBEq, Nat.reduceLeDiff, Int.reduceToNat, fillS, wantG, vBox, Value.cells, one, putAt, Option.getD_some, Option.map_some, Option.bind_some, ne_eq, Option.some.injEq, Prod.mk.injEq, exists_and_left, exists_eq_left', exists_eq_left, List.size_toArray, List.length_cons, List.length_nil, if_true, if_false, exists_eq', exists_const, List.getElem?_cons_zero, List.getElem?_cons_succ, List.map_toArray, List.map_cons, List.map_nil, beq_iff_eq, List.all_cons, List.all_nil, cond_true, List.set_cons_zero, List.set_cons_succ, List.drop_zero, List.drop_succ_cons, List.take_succ_cons, List.take_zero, List.getElem?_toArray, Option.map_none, Option.getD_none]
    refine ⟨?_, ?_, by omega, r2, t2'', 0, rfl, by omega, by omega, ?_⟩
    · repeat first | assumption | exact EXn.refl _ _ | refine EXn.more ?_ _ | refine EXn.put ?_ (by omega) _ | refine EX.trans ?_ (by assumption)
    · repeat first | assumption | refine Fr.more ?_ _ | refine Fr.put ?_ _ _
    · rw [u1, half_0 (f := fun n => !(φ (bits n) == ψ (bits n)))]
  rintro _ S τ ⟨s4, s5, s6, hE, hF', hx, r0, x2, n, s7, hn, rfl, rt⟩
  have nn := hE.next
  by_cases hlt : n < 1024
  · have hd : decide ((n : Int) < ((1024 : Nat) : Int)) = true := by simp; omega
    have z2 : (0 : Int) ≤ (n : Int) := by omega
    have z3 : (n : Int) < ((1024 : Nat) : Int) := by omega
    have hw : IntKind.i64.wrap ((n : Int) + 1) = ((n + 1 : Nat) : Int) := by rw [wrap64 (by omega) (by omega)]; rfl
    have hle : n + 1 ≤ ((tab 1024 (half n (fun n => !(φ (bits n) == ψ (bits n))) (fun n => φ (bits n)))).map Value.bool).length := by rw [List.length_map, tab_len]; omega
    have hv1 := tabv (f := half n (fun n => !(φ (bits n) == ψ (bits n))) (fun n => φ (bits n))) hlt
    rw [half_at] at hv1
    have hv2 := tabv (f := fun n => ψ (bits n)) hlt
    have q : ¬ σ.next + 2 = d1 := by omega
    have q2 : ¬ d2 = d1 := by omega
    simp only [c_seq, RUNA, Nat.reduceAdd, Nat.reduceMod, Nat.reduceDiv, Nat.reduceSub, Nat.reduceMul, Nat.reduceEqDiff, Nat.reduceBEq, Nat.reduceLeDiff, Int.reduceToNat, fillS, wantG, vBox, Value.cells, one, putAt, Option.getD_some, Option.map_some, Option.bind_some, ne_eq, Option.some.injEq, Prod.mk.injEq, exists_and_left, exists_eq_left', exists_eq_left, List.size_toArray, List.length_cons, List.length_nil, if_true, if_false, exists_eq', exists_const, List.getElem?_cons_zero, List.getElem?_cons_succ, List.map_toArray, List.map_cons, List.map_nil, beq_iff_eq, List.all_cons, List.all_nil, cond_true, List.set_cons_zero, List.set_cons_succ, List.drop_zero, List.drop_succ_cons, List.take_succ_cons, List.take_zero, List.getElem?_toArray, Option.map_none, Option.getD_none, TYA, s4, s5, s6, s7, hd]
    refine d_go (ms := [0, 0, 0, 0, 12, 28, 0, 0, 192, 448, 1020, 2047, 4095]) (order := [0, 1, 2, 3, 4, 5, 6, 7, 8, 9, 10, 11, 12]) (by kernel_rfl) (by kernel_rfl) (by kernel_rfl) ?_
    simp only [YRUNA, Nat.reduceShiftRight, bit, List.filterMap_cons, List.filterMap_nil, List.filter_cons, List.filter_nil, List.forall_mem_cons, List.not_mem_nil, implies_true, List.getD_cons_zero, List.getD_cons_succ, eq_self, c_seq, RUNA, Nat.reduceAdd, Nat.reduceMod, Nat.reduceDiv, Nat.reduceSub, Nat.reduceMul, Nat.reduceEqDiff, Nat.reduceBEq, Nat.reduceLeDiff, Int.reduceToNat, fillS, wantG, vBox, Value.cells, one, putAt, Option.getD_some, Option.map_some, Option.bind_some, ne_eq, Option.some.injEq, Prod.mk.injEq, exists_and_left, exists_eq_left', exists_eq_left, List.size_toArray, List.length_cons, List.length_nil, if_true, if_false, exists_eq', exists_const, List.getElem?_cons_zero, List.getElem?_cons_succ, List.map_toArray, List.map_cons, List.map_nil, beq_iff_eq, List.all_cons, List.all_nil, cond_true, List.set_cons_zero, List.set_cons_succ, List.drop_zero, List.drop_succ_cons, List.take_succ_cons, List.take_zero, List.getElem?_toArray, Option.map_none, Option.getD_none, TYA, s4, s5, s6, s7, ia43 z2 z3, rt, x2, hv1, hv2, hle, hw, r0, q, q2, n_neb Try.underlying4]
    refine ⟨1024 - (n + 1), by omega, ?_, ?_, by omega, n + 1, rfl, by omega, rfl, ?_⟩
    · repeat first | assumption | exact EXn.refl _ _ | refine EXn.more ?_ _ | refine EXn.put ?_ (by omega) _ | refine EX.trans ?_ (by assumption)
    · repeat first | assumption | refine Fr.more ?_ _ | refine Fr.put ?_ _ _
    · rw [← half_set, List.map_set]
  · have hd : decide ((n : Int) < ((1024 : Nat) : Int)) = false := by simp; omega
    have hn1 : n = 1024 := by omega
    rw [hn1, half_N] at rt
    simp only [c_seq, RUNA, Nat.reduceAdd, Nat.reduceMod, Nat.reduceDiv, Nat.reduceSub, Nat.reduceMul, Nat.reduceEqDiff, Nat.reduceBEq, Nat.reduceLeDiff, Int.reduceToNat, fillS, wantG, vBox, Value.cells, one, putAt, Option.getD_some, Option.map_some, Option.bind_some, ne_eq, Option.some.injEq, Prod.mk.injEq, exists_and_left, exists_eq_left', exists_eq_left, List.size_toArray, List.length_cons, List.length_nil, if_true, if_false, exists_eq', exists_const, List.getElem?_cons_zero, List.getElem?_cons_succ, List.map_toArray, List.map_cons, List.map_nil, beq_iff_eq, List.all_cons, List.all_nil, cond_true, List.set_cons_zero, List.set_cons_succ, List.drop_zero, List.drop_succ_cons, List.take_succ_cons, List.take_zero, List.getElem?_toArray, Option.map_none, Option.getD_none, TYA, s4, s5, s6, s7, hd]
    refine wpc_mono (Diagram_is (lo := 0) (hi := τ.next) ⟨d1, rfl, by omega, by omega, rt⟩ (by first | omega | (simp only [next_more, next_put] at *; omega)) (by repeat first | assumption | refine Fr.more ?_ _ | refine Fr.put ?_ _ _)) ?_
    rintro r σ2 ⟨hD, hE2⟩
    have n2 := hE2.next
    simp only [next_more] at n2 hD
    obtain ⟨o, k, c, i, rfl⟩ := hD.open
    have r2 : σ2.row (σ.next + 2) = some ([.slice none 0 0, .int .i64 0], boxMeta) := (hE2.row _ (by first | omega | (simp only [next_more, next_put] at *; omega))).trans r0
    simp only [c_seq, RUNA, Nat.reduceAdd, Nat.reduceMod, Nat.reduceDiv, Nat.reduceSub, Nat.reduceMul, Nat.reduceEqDiff, Nat.reduceBEq, Nat.reduceLeDiff, Int.reduceToNat, fillS, wantG, vBox, Value.cells, one, putAt, Option.getD_some, Option.map_some, Option.bind_some, ne_eq, Option.some.injEq, Prod.mk.injEq, exists_and_left, exists_eq_left', exists_eq_left, List.size_toArray, List.length_cons, List.length_nil, if_true, if_false, exists_eq', exists_const, List.getElem?_cons_zero, List.getElem?_cons_succ, List.map_toArray, List.map_cons, List.map_nil, beq_iff_eq, List.all_cons, List.all_nil, cond_true, List.set_cons_zero, List.set_cons_succ, List.drop_zero, List.drop_succ_cons, List.take_succ_cons, List.take_zero, List.getElem?_toArray, Option.map_none, Option.getD_none, TYA, s4, r2, hr]
    refine ⟨IsD.congr (IsD.weak (hD.un ?_) (by omega)) (fun f => by rw [ten1 f, ten2 f]), ?_⟩
    · repeat first | assumption | exact UN.refl _ _ _ | refine UN.more ?_ _ | refine UN.put ?_ (by omega) _ | refine UN.ex (by assumption) ?_ (by first | omega | (simp only [next_more, next_put]; omega)) | refine UN.exb (by assumption) ?_ (by first | omega | (simp only [next_more, next_put]; omega)) (by omega)
    · repeat first | assumption | exact EXn.refl _ _ | refine EXn.more ?_ _ | refine EXn.put ?_ (by omega) _ | refine EX.trans ?_ (by assumption)
end Go.Proofs.Ytlealdhgajomhaa
