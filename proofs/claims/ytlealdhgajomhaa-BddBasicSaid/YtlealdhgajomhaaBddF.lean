/- The reference's Constant and Variable. -/
import Derived.Test.YtlealdhgajomhaaBddE
namespace Go.Proofs.Ytlealdhgajomhaa
set_option linter.unusedVariables false
open Go.AI
set_option linter.unusedSimpArgs false

/-- a table filled by a rule, after 'n' entries -/
def fill (f : Nat → Bool) : Nat → List Bool
  | 0 => List.replicate 1024 false
  | n + 1 => (fill f n).set n (f n)
theorem fill_len (f : Nat → Bool) : ∀ n, (fill f n).length = 1024 := by
  intro n
  induction n with
  | zero => exact List.length_replicate
  | succ n ih => rw [fill, List.length_set, ih]

theorem mk1024 (f : Nat → Bool) (id : Nat) : vMake Try.prog 43 (.int .i64 1024) (.int .i64 1024) id = some (.slice (some ⟨id, 0, none⟩) 1024 1024, .cells ((fill f 0).map Value.bool) (rowMeta 1)) := by
  have h := mk_eq (P := Try.prog) (t := 43) (id := id) (n := 1024) Try.underlying43 if4 (by omega) (by omega) rfl rfl (by omega)
  rw [show (Value.cells (.bool false)).toList = [.bool false] from rfl, zeros_false] at h
  exact h

theorem refConstant_spec (b : Bool) (σ : St) (hF : Fr σ) : wpc Try.prog 14 #[.bool b] σ fun r σ' => DVf σ.next σ' r (dgm (fill (fun _ => b) 1024)) ∧ EX σ σ' := by
  refine body_go Try.func14 rfl ?_
  have hr := Try.results14
  simp only [c_seq, RUNA, Nat.reduceAdd, Nat.reduceMod, Nat.reduceDiv, Nat.reduceSub, Nat.reduceMul, Nat.reduceEqDiff, Nat.reduceBEq, Nat.reduceLeDiff, Int.reduceToNat, fillS, wantG, vBox, Value.cells, one, putAt, Option.getD_some, Option.map_some, Option.bind_some, ne_eq, Option.some.injEq, Prod.mk.injEq, exists_and_left, exists_eq_left', exists_eq_left, List.size_toArray, List.length_cons, List.length_nil, if_true, if_false, exists_eq', exists_const, List.getElem?_cons_zero, List.getElem?_cons_succ, List.map_toArray, List.map_cons, List.map_nil, beq_iff_eq, List.all_cons, List.all_nil, cond_true, List.set_cons_zero, List.set_cons_succ, List.drop_zero, List.drop_succ_cons, List.take_succ_cons, List.take_zero, List.getElem?_toArray, Option.map_none, Option.getD_none, hr, al25, mk1024 (fun _ => b)]
  refine loop_go (fun m S τ => S.at 0 = .bool b ∧ S.at 2 = .pointer (some ⟨σ.next, 0, none⟩) ∧ S.at 3 = .slice (some ⟨σ.next + 1, 0, none⟩) 1024 1024 ∧ EX σ τ ∧ σ.next + 1 < τ.next ∧
    τ.row σ.next = some ([.slice none 0 0, .int .i64 0], boxMeta) ∧
    ∃ n : Nat, S.at 4 = .int .i64 n ∧ n ≤ 1024 ∧ m = 1024 - n ∧ τ.row (σ.next + 1) = some ((fill (fun _ => b) n).map Value.bool, rowMeta 1)) 1024 ?_ ?_
  · simp only [c_seq, RUNA, Nat.reduceAdd, Nat.reduceMod, Nat.reduceDiv, Nat.reduceSub, Nat.reduceMul, Nat.reduceEqDiff, Nat.reduceBEq, Nat.reduceLeDiff, Int.reduceToNat, fillS, wantG, vBox, Value.cells, one, putAt, Option.getD_some, Option.map_some, Option.bind_some, ne_eq, Option.some.injEq, Prod.mk.injEq, exists_and_left, exists_eq_left', exists_eq_left, List.size_toArray, List.length_cons, List.length_nil, if_true, if_false, exists_eq', exists_const, List.getElem?_cons_zero, List.getElem?_cons_succ, List.map_toArray, List.map_cons, List.map_nil, beq_iff_eq, List.all_cons, List.all_nil, cond_true, List.set_cons_zero, List.set_cons_succ, List.drop_zero, List.drop_succ_cons, List.take_succ_cons, List.take_zero, List.getElem?_toArray, Option.map_none, Option.getD_none]
    refine ⟨?_, by omega, 0, rfl, by omega, by omega, rfl⟩
    repeat first | assumption | exact EXn.refl _ _ | refine EXn.more ?_ _ | refine EXn.put ?_ (by omega) _ | refine EX.trans ?_ (by assumption)
  · rintro _ S τ ⟨s0, s2, s3, hE, hx, r0, n, s4, hn, rfl, rt⟩
    by_cases hlt : n < 1024
    · have hd : decide ((n : Int) < ((1024 : Nat) : Int)) = true := by simp; omega
      have z2 : (0 : Int) ≤ (n : Int) := by omega
      have z3 : (n : Int) < ((1024 : Nat) : Int) := by omega
      have hw : IntKind.i64.wrap ((n : Int) + 1) = ((n + 1 : Nat) : Int) := by rw [wrap64 (by omega) (by omega)]; rfl
      have hle : n + 1 ≤ ((fill (fun _ => b) n).map Value.bool).length := by rw [List.length_map, fill_len]; omega
      simp only [c_seq, RUNA, Nat.reduceAdd, Nat.reduceMod, Nat.reduceDiv, Nat.reduceSub, Nat.reduceMul, Nat.reduceEqDiff, Nat.reduceBEq, Nat.reduceLeDiff, Int.reduceToNat, fillS, wantG, vBox, Value.cells, one, putAt, Option.getD_some, Option.map_some, Option.bind_some, ne_eq, Option.some.injEq, Prod.mk.injEq, exists_and_left, exists_eq_left', exists_eq_left, List.size_toArray, List.length_cons, List.length_nil, if_true, if_false, exists_eq', exists_const, List.getElem?_cons_zero, List.getElem?_cons_succ, List.map_toArray, List.map_cons, List.map_nil, beq_iff_eq, List.all_cons, List.all_nil, cond_true, List.set_cons_zero, List.set_cons_succ, List.drop_zero, List.drop_succ_cons, List.take_succ_cons, List.take_zero, List.getElem?_toArray, Option.map_none, Option.getD_none, s0, s2, s3, s4, hd, ln43, ia43 z2 z3, st4, rt, hle, hw, r0]
      refine ⟨1024 - (n + 1), by omega, ?_, by omega, n + 1, rfl, by omega, rfl, ?_⟩
      · refine EXn.more (EXn.put (EXn.more (EXn.more hE _) _) (by omega) _) _
      · rw [fill, List.map_set]
    · have hd : decide ((n : Int) < ((1024 : Nat) : Int)) = false := by simp; omega
      have hn1 : n = 1024 := by omega
      rw [hn1] at rt
      simp only [c_seq, RUNA, Nat.reduceAdd, Nat.reduceMod, Nat.reduceDiv, Nat.reduceSub, Nat.reduceMul, Nat.reduceEqDiff, Nat.reduceBEq, Nat.reduceLeDiff, Int.reduceToNat, fillS, wantG, vBox, Value.cells, one, putAt, Option.getD_some, Option.map_some, Option.bind_some, ne_eq, Option.some.injEq, Prod.mk.injEq, exists_and_left, exists_eq_left', exists_eq_left, List.size_toArray, List.length_cons, List.length_nil, if_true, if_false, exists_eq', exists_const, List.getElem?_cons_zero, List.getElem?_cons_succ, List.map_toArray, List.map_cons, List.map_nil, beq_iff_eq, List.all_cons, List.all_nil, cond_true, List.set_cons_zero, List.set_cons_succ, List.drop_zero, List.drop_succ_cons, List.take_succ_cons, List.take_zero, List.getElem?_toArray, Option.map_none, Option.getD_none, s0, s2, s3, s4, hd, ln43]
      have e1 : EX σ ((τ.more 4).more 3) := by repeat first | assumption | exact EXn.refl _ _ | refine EXn.more ?_ _ | refine EXn.put ?_ (by omega) _ | refine EX.trans ?_ (by assumption)
      have htk : (((fill (fun _ => b) 1024).map Value.bool).drop 0).take 1024 = (fill (fun _ => b) 1024).map Value.bool := by
        rw [List.drop_zero, List.take_of_length_le (by rw [List.length_map, fill_len]; omega)]
      have hsp := Diagram_spec ((τ.more 4).more 3) (σ.next + 1) 0 1024 _ (rowMeta 1) (fill (fun _ => b) 1024) (fill_len _ _) (by simp only [next_more]; omega) rt htk (e1.fr hF)
      generalize dgm (fill (fun _ => b) 1024) = D at *
      refine wpc_mono hsp ?_
      rintro r σ3 ⟨hD, hE3⟩
      obtain ⟨o, cc, rfl, hO⟩ := hD.dv.open
      have hn3 := hE3.next
      simp only [next_more] at hn3
      have r2 : σ3.row σ.next = some ([.slice none 0 0, .int .i64 0], boxMeta) := (hE3.row σ.next (by simp only [next_more]; omega)).trans r0
      simp only [c_seq, RUNA, Nat.reduceAdd, Nat.reduceMod, Nat.reduceDiv, Nat.reduceSub, Nat.reduceMul, Nat.reduceEqDiff, Nat.reduceBEq, Nat.reduceLeDiff, Int.reduceToNat, fillS, wantG, vBox, Value.cells, one, putAt, Option.getD_some, Option.map_some, Option.bind_some, ne_eq, Option.some.injEq, Prod.mk.injEq, exists_and_left, exists_eq_left', exists_eq_left, List.size_toArray, List.length_cons, List.length_nil, if_true, if_false, exists_eq', exists_const, List.getElem?_cons_zero, List.getElem?_cons_succ, List.map_toArray, List.map_cons, List.map_nil, beq_iff_eq, List.all_cons, List.all_nil, cond_true, List.set_cons_zero, List.set_cons_succ, List.drop_zero, List.drop_succ_cons, List.take_succ_cons, List.take_zero, List.getElem?_toArray, Option.map_none, Option.getD_none, s2, st25, ld25, r2, hr]
      refine ⟨hD.put (by simp only [next_more]; omega) (by simp only [next_more]; omega), EXn.put (EX.trans e1 hE3) (by omega) _⟩

/-! ### Variable -/
theorem refVariable_out (i : Int) (hi : i < 0 ∨ 10 ≤ i) (σ : St) : wpc Try.prog 11 #[.int .i64 i] σ fun r σ' => r = .tuple #[.agg #[.slice none 0 0, .int .i64 0], .int .i64 45] ∧ EX σ σ' := by
  refine body_go Try.func11 rfl ?_
  have hr := Try.results11
  have g : decide (i < 0) = true ∨ decide (i < 0) = false ∧ decide (10 ≤ i) = true := by simp; omega
  rcases g with g | ⟨g, g'⟩
  · simp only [c_seq, RUNA, Nat.reduceAdd, Nat.reduceMod, Nat.reduceDiv, Nat.reduceSub, Nat.reduceMul, Nat.reduceEqDiff, Nat.reduceBEq, Nat.reduceLeDiff, Int.reduceToNat, fillS, wantG, vBox, Value.cells, one, putAt, Option.getD_some, Option.map_some, Option.bind_some, ne_eq, Option.some.injEq, Prod.mk.injEq, exists_and_left, exists_eq_left', exists_eq_left, List.size_toArray, List.length_cons, List.length_nil, if_true, if_false, exists_eq', exists_const, List.getElem?_cons_zero, List.getElem?_cons_succ, List.map_toArray, List.map_cons, List.map_nil, beq_iff_eq, List.all_cons, List.all_nil, cond_true, List.set_cons_zero, List.set_cons_succ, List.drop_zero, List.drop_succ_cons, List.take_succ_cons, List.take_zero, List.getElem?_toArray, Option.map_none, Option.getD_none, hr, al25, g, bd25_0, st25, ld25]
    repeat first | assumption | exact EXn.refl _ _ | refine EXn.more ?_ _ | refine EXn.put ?_ (by omega) _ | refine EX.trans ?_ (by assumption)
  · simp only [c_seq, RUNA, Nat.reduceAdd, Nat.reduceMod, Nat.reduceDiv, Nat.reduceSub, Nat.reduceMul, Nat.reduceEqDiff, Nat.reduceBEq, Nat.reduceLeDiff, Int.reduceToNat, fillS, wantG, vBox, Value.cells, one, putAt, Option.getD_some, Option.map_some, Option.bind_some, ne_eq, Option.some.injEq, Prod.mk.injEq, exists_and_left, exists_eq_left', exists_eq_left, List.size_toArray, List.length_cons, List.length_nil, if_true, if_false, exists_eq', exists_const, List.getElem?_cons_zero, List.getElem?_cons_succ, List.map_toArray, List.map_cons, List.map_nil, beq_iff_eq, List.all_cons, List.all_nil, cond_true, List.set_cons_zero, List.set_cons_succ, List.drop_zero, List.drop_succ_cons, List.take_succ_cons, List.take_zero, List.getElem?_toArray, Option.map_none, Option.getD_none, hr, al25, g, g', bd25_0, st25, ld25]
    repeat first | assumption | exact EXn.refl _ _ | refine EXn.more ?_ _ | refine EXn.put ?_ (by omega) _ | refine EX.trans ?_ (by assumption)

def bitF (i n : Nat) : Bool := ((n / 2 ^ i % 2 : Nat) : Int) == 1

theorem refVariable_in (i : Nat) (h1 : i < 10) (σ : St) (hF : Fr σ) : wpc Try.prog 11 #[.int .i64 i] σ fun r σ' => ∃ d, r = .tuple #[d, .int .i64 0] ∧ DVf σ.next σ' d (dgm (fill (bitF i) 1024)) ∧ EX σ σ' := by
  refine body_go Try.func11 rfl ?_
  have hr := Try.results11
  have g0 : decide ((i : Int) < 0) = false := by simp
  have g1 : decide (10 ≤ (i : Int)) = false := by simp; omega
  simp only [c_seq, RUNA, Nat.reduceAdd, Nat.reduceMod, Nat.reduceDiv, Nat.reduceSub, Nat.reduceMul, Nat.reduceEqDiff, Nat.reduceBEq, Nat.reduceLeDiff, Int.reduceToNat, fillS, wantG, vBox, Value.cells, one, putAt, Option.getD_some, Option.map_some, Option.bind_some, ne_eq, Option.some.injEq, Prod.mk.injEq, exists_and_left, exists_eq_left', exists_eq_left, List.size_toArray, List.length_cons, List.length_nil, if_true, if_false, exists_eq', exists_const, List.getElem?_cons_zero, List.getElem?_cons_succ, List.map_toArray, List.map_cons, List.map_nil, beq_iff_eq, List.all_cons, List.all_nil, cond_true, List.set_cons_zero, List.set_cons_succ, List.drop_zero, List.drop_succ_cons, List.take_succ_cons, List.take_zero, List.getElem?_toArray, Option.map_none, Option.getD_none, hr, al25, g0, g1, mk1024 (bitF i)]
  refine loop_go (fun m S τ => S.at 0 = .int .i64 i ∧ S.at 2 = .pointer (some ⟨σ.next, 0, none⟩) ∧ S.at 4 = .slice (some ⟨σ.next + 8, 0, none⟩) 1024 1024 ∧ EX σ τ ∧ σ.next + 8 < τ.next ∧
    τ.row σ.next = some ([.slice none 0 0, .int .i64 0], boxMeta) ∧
    ∃ n : Nat, S.at 5 = .int .i64 n ∧ n ≤ 1024 ∧ m = 1024 - n ∧ τ.row (σ.next + 8) = some ((fill (bitF i) n).map Value.bool, rowMeta 1)) 1024 ?_ ?_
  · simp only [c_seq, RUNA, Nat.reduceAdd, Nat.reduceMod, Nat.reduceDiv, Nat.reduceSub, Nat.reduceMul, Nat.reduceEqDiff, Nat.reduceBEq, Nat.reduceLeDiff, Int.reduceToNat, fillS, wantG, vBox, Value.cells, one, putAt, Option.getD_some, Option.map_some, Option.bind_some, ne_eq, Option.some.injEq, Prod.mk.injEq, exists_and_left, exists_eq_left', exists_eq_left, List.size_toArray, List.length_cons, List.length_nil, if_true, if_false, exists_eq', exists_const, List.getElem?_cons_zero, List.getElem?_cons_succ, List.map_toArray, List.map_cons, List.map_nil, beq_iff_eq, List.all_cons, List.all_nil, cond_true, List.set_cons_zero, List.set_cons_succ, List.drop_zero, List.drop_succ_cons, List.take_succ_cons, List.take_zero, List.getElem?_toArray, Option.map_none, Option.getD_none]
    refine ⟨?_, by omega, 0, rfl, by omega, by omega, rfl⟩
    repeat first | assumption | exact EXn.refl _ _ | refine EXn.more ?_ _ | refine EXn.put ?_ (by omega) _ | refine EX.trans ?_ (by assumption)
  · rintro _ S τ ⟨s0, s2, s3, hE, hx, r0, n, s4, hn, rfl, rt⟩
    by_cases hlt : n < 1024
    · have hd : decide ((n : Int) < ((1024 : Nat) : Int)) = true := by simp; omega
      have z2 : (0 : Int) ≤ (n : Int) := by omega
      have z3 : (n : Int) < ((1024 : Nat) : Int) := by omega
      have z4 : (0 : Int) ≤ (i : Int) := by omega
      have hw : IntKind.i64.wrap ((n : Int) + 1) = ((n + 1 : Nat) : Int) := by rw [wrap64 (by omega) (by omega)]; rfl
      have hle : n + 1 ≤ ((fill (bitF i) n).map Value.bool).length := by rw [List.length_map, fill_len]; omega
      have hsh := shr_nat (n := n) (i := i) (by omega)
      have hlt2 : n / 2 ^ i < 2 ^ 62 := Nat.lt_of_le_of_lt (Nat.div_le_self _ _) (by omega)
      have han := and_one hlt2
      simp only [c_seq, RUNA, Nat.reduceAdd, Nat.reduceMod, Nat.reduceDiv, Nat.reduceSub, Nat.reduceMul, Nat.reduceEqDiff, Nat.reduceBEq, Nat.reduceLeDiff, Int.reduceToNat, fillS, wantG, vBox, Value.cells, one, putAt, Option.getD_some, Option.map_some, Option.bind_some, ne_eq, Option.some.injEq, Prod.mk.injEq, exists_and_left, exists_eq_left', exists_eq_left, List.size_toArray, List.length_cons, List.length_nil, if_true, if_false, exists_eq', exists_const, List.getElem?_cons_zero, List.getElem?_cons_succ, List.map_toArray, List.map_cons, List.map_nil, beq_iff_eq, List.all_cons, List.all_nil, cond_true, List.set_cons_zero, List.set_cons_succ, List.drop_zero, List.drop_succ_cons, List.take_succ_cons, List.take_zero, List.getElem?_toArray, Option.map_none, Option.getD_none, s0, s2, s3, s4, hd, ln43, n_shr z4, hsh, han, ia43 z2 z3, st4, rt, hle, hw, r0]
      refine ⟨1024 - (n + 1), by omega, ?_, by omega, n + 1, rfl, by omega, rfl, ?_⟩
      · refine EXn.more (EXn.put (EXn.more (EXn.more hE _) _) (by omega) _) _
      · rw [fill, List.map_set]; rfl
    · have hd : decide ((n : Int) < ((1024 : Nat) : Int)) = false := by simp; omega
      have hn1 : n = 1024 := by omega
      rw [hn1] at rt
      simp only [c_seq, RUNA, Nat.reduceAdd, Nat.reduceMod, Nat.reduceDiv, Nat.reduceSub, Nat.reduceMul, Nat.reduceEqDiff, Nat.reduceBEq, Nat.reduceLeDiff, Int.reduceToNat, fillS, wantG, vBox, Value.cells, one, putAt, Option.getD_some, Option.map_some, Option.bind_some, ne_eq, Option.some.injEq, Prod.mk.injEq, exists_and_left, exists_eq_left', exists_eq_left, List.size_toArray, List.length_cons, List.length_nil, if_true, if_false, exists_eq', exists_const, List.getElem?_cons_zero, List.getElem?_cons_succ, List.map_toArray, List.map_cons, List.map_nil, beq_iff_eq, List.all_cons, List.all_nil, cond_true, List.set_cons_zero, List.set_cons_succ, List.drop_zero, List.drop_succ_cons, List.take_succ_cons, List.take_zero, List.getElem?_toArray, Option.map_none, Option.getD_none, s0, s2, s3, s4, hd, ln43]
      have e1 : EX σ ((τ.more 4).more 4) := by repeat first | assumption | exact EXn.refl _ _ | refine EXn.more ?_ _ | refine EXn.put ?_ (by omega) _ | refine EX.trans ?_ (by assumption)
      have htk : (((fill (bitF i) 1024).map Value.bool).drop 0).take 1024 = (fill (bitF i) 1024).map Value.bool := by
        rw [List.drop_zero, List.take_of_length_le (by rw [List.length_map, fill_len]; omega)]
      have hsp := Diagram_spec ((τ.more 4).more 4) (σ.next + 8) 0 1024 _ (rowMeta 1) (fill (bitF i) 1024) (fill_len _ _) (by simp only [next_more]; omega) rt htk (e1.fr hF)
      generalize dgm (fill (bitF i) 1024) = D at *
      refine wpc_mono hsp ?_
      rintro r σ3 ⟨hD, hE3⟩
      obtain ⟨o, cc, rfl, hO⟩ := hD.dv.open
      have hn3 := hE3.next
      simp only [next_more] at hn3
      have r2 : σ3.row σ.next = some ([.slice none 0 0, .int .i64 0], boxMeta) := (hE3.row σ.next (by simp only [next_more]; omega)).trans r0
      simp only [c_seq, RUNA, Nat.reduceAdd, Nat.reduceMod, Nat.reduceDiv, Nat.reduceSub, Nat.reduceMul, Nat.reduceEqDiff, Nat.reduceBEq, Nat.reduceLeDiff, Int.reduceToNat, fillS, wantG, vBox, Value.cells, one, putAt, Option.getD_some, Option.map_some, Option.bind_some, ne_eq, Option.some.injEq, Prod.mk.injEq, exists_and_left, exists_eq_left', exists_eq_left, List.size_toArray, List.length_cons, List.length_nil, if_true, if_false, exists_eq', exists_const, List.getElem?_cons_zero, List.getElem?_cons_succ, List.map_toArray, List.map_cons, List.map_nil, beq_iff_eq, List.all_cons, List.all_nil, cond_true, List.set_cons_zero, List.set_cons_succ, List.drop_zero, List.drop_succ_cons, List.take_succ_cons, List.take_zero, List.getElem?_toArray, Option.map_none, Option.getD_none, s2, st25, ld25, r2, hr]
      refine ⟨_, rfl, hD.put (by simp only [next_more]; omega) (by simp only [next_more]; omega), EXn.put (EX.trans e1 hE3) (by omega) _⟩
end Go.Proofs.Ytlealdhgajomhaa
