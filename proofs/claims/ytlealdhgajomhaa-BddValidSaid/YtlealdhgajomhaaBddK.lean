/- The reference's operations: walks. -/
import Derived.Test.YtlealdhgajomhaaBddJ
namespace Go.Proofs.Ytlealdhgajomhaa
set_option linter.unusedVariables false
open Go.AI
set_option linter.unusedSimpArgs false

theorem tabv {N i : Nat} {f : Nat → Bool} (h : i < N) : ((tab N f).map Value.bool)[i]? = some (.bool (f i)) := by simp [tab, h]
theorem half_at {n : Nat} {f g : Nat → Bool} : half n f g n = g n := by simp [half]
theorem ev_code {T : Dt} (h : T.ok 0) (f : As) : T.ev (bits (code f)) = T.ev f := ev10 h _ _ fun i hi => bits_code f hi

theorem Diagram_is {lo hi : Nat} {σ : St} {v : Value} {g : Nat → Bool} (h : TBo lo hi σ v 1024 g) (hhi : hi ≤ σ.next) (hF : Fr σ) : wpc Try.prog 45 #[v] σ fun r σ' => IsD σ.next σ'.next σ' r (fun f => g (code f)) ∧ EX σ σ' := by
  obtain ⟨id, rfl, h1, h2, h3⟩ := h
  refine wpc_mono (Diagram_spec σ id 0 1024 _ _ (tab 1024 g) (tab_len _ _) (by omega) h3 ?_ hF) ?_
  · rw [List.drop_zero, List.take_of_length_le (by rw [List.length_map, tab_len]; exact Nat.le_refl _)]
  · rintro r σ' ⟨hd, hE⟩
    rw [dgm_cd] at hd
    exact ⟨⟨_, hd.i, tt_ok _, fun f => by rw [tt_ev, bt_tab (code_lt f)]⟩, hE⟩
theorem IsD.open {lo hi : Nat} {σ : St} {v : Value} {φ : As → Bool} (h : IsD lo hi σ v φ) : ∃ o n c i, v = .agg #[.slice o n c, .int .i64 i] := by
  obtain ⟨T, ⟨s, rfl, h | h⟩, _⟩ := h
  · obtain ⟨id, off, c, row, m, rfl, _⟩ := h; exact ⟨_, _, _, _, rfl⟩
  · obtain ⟨rfl, _⟩ := h; exact ⟨_, _, _, _, rfl⟩
/-- a table is made of a diagram -/
theorem Table_is {lo hi : Nat} {σ : St} {v : Value} {φ : As → Bool} (h : IsD lo hi σ v φ) (hhi : hi ≤ σ.next) : wpc Try.prog 54 #[v] σ fun r σ' => TBo σ.next σ'.next σ' r 1024 (fun n => φ (bits n)) ∧ EX σ σ' := by
  obtain ⟨T, h1, h2, h3⟩ := h
  refine wpc_mono (Table_spec h1 hhi h2) ?_
  rintro r σ' ⟨⟨id, q1, q2, q3, q4⟩, hE⟩
  exact ⟨⟨id, q1, q2, q3, by rw [q4, tab_congr (fun i _ => h3 (bits i))]⟩, hE⟩
/-- a function of the ten variables alone -/
def Ten (φ : As → Bool) : Prop := ∀ f, φ (bits (code f)) = φ f
theorem IsD.ten {lo hi : Nat} {σ : St} {v : Value} {φ : As → Bool} (h : IsD lo hi σ v φ) : Ten φ := by
  obtain ⟨T, _, h2, h3⟩ := h
  intro f; rw [← h3, ← h3, ev_code h2]

/-! ### Not -/
theorem refNot_spec {lo hi : Nat} {σ : St} {a : Value} {φ : As → Bool} (ha : IsD lo hi σ a φ) (hhi : hi ≤ σ.next) (hF : Fr σ) : wpc Try.prog 30 #[a] σ fun r σ' => IsD σ.next σ'.next σ' r (fun f => !φ f) ∧ EX σ σ' := by
  have hten := ha.ten
  obtain ⟨o, k, c, i, rfl⟩ := ha.open
  refine body_go Try.func30 rfl ?_
  have hr := Try.results30
  simp only [c_seq, RUNA, Nat.reduceAdd, Nat.reduceMod, Nat.reduceDiv, Nat.reduceSub, Nat.reduceMul, Nat.reduceEqDiff, Nat.reduceBEq, Nat.reduceLeDiff, Int.reduceToNat, fillS, wantG, vBox, Value.cells, one, putAt, Option.getD_some, Option.map_some, Option.bind_some, ne_eq, Option.some.injEq, Prod.mk.injEq, exists_and_left, exists_eq_left', exists_eq_left, List.size_toArray, List.length_cons, List.length_nil, if_true, if_false, exists_eq', exists_const, List.getElem?_cons_zero, List.getElem?_cons_succ, List.map_toArray, List.map_cons, List.map_nil, beq_iff_eq, List.all_cons, List.all_nil, cond_true, List.set_cons_zero, List.set_cons_succ, List.drop_zero, List.drop_succ_cons, List.take_succ_cons, List.take_zero, List.getElem?_toArray, Option.map_none, Option.getD_none, TYA, hr]
  refine wpc_mono (Table_is (ha.un ?_) ?_) ?_
  · repeat first | assumption | exact UN.refl _ _ _ | refine UN.more ?_ _ | refine UN.put ?_ (by omega) _ | refine UN.ex (by assumption) ?_ (by first | omega | (simp only [next_more, next_put]; omega)) | refine UN.exb (by assumption) ?_ (by first | omega | (simp only [next_more, next_put]; omega)) (by omega)
  · first | omega | (simp only [next_more, next_put] at *; omega)
  rintro r σ1 ⟨⟨id, rfl, t1, t2, t3⟩, hE1⟩
  have n1 := hE1.next
  simp only [next_more, next_put] at n1 t1
  have f1 := hE1.fr (by repeat first | assumption | refine Fr.more ?_ _ | refine Fr.put ?_ _ _)
  have b1 : σ1.row (σ.next + 1) = some ([.slice none 0 0, .int .i64 0], boxMeta) := by
    rw [hE1.row _ (by first | omega | (simp only [next_more, next_put] at *; omega))]; simp only [c_seq, RUNA, Nat.reduceAdd, Nat.reduceMod, Nat.reduceDiv, Nat.reduceSub, Nat.reduceMul, Nat.reduceEqDiff, Nat.reduceBEq, Nat.reduceLeDiff, Int.reduceToNat, fillS, wantG, vBox, Value.cells, one, putAt, Option.getD_some, Option.map_some, Option.bind_some, ne_eq, Option.some.injEq, Prod.mk.injEq, exists_and_left, exists_eq_left', exists_eq_left, List.size_toArray, List.length_cons, List.length_nil, if_true, if_false, exists_eq', exists_const, List.getElem?_cons_zero, List.getElem?_cons_succ, List.map_toArray, List.map_cons, List.map_nil, beq_iff_eq, List.all_cons, List.all_nil, cond_true, List.set_cons_zero, List.set_cons_succ, List.drop_zero, List.drop_succ_cons, List.take_succ_cons, List.take_zero, List.getElem?_toArray, Option.map_none, Option.getD_none]
  have e1 : EX σ σ1 := by repeat first | assumption | exact EXn.refl _ _ | refine EXn.more ?_ _ | refine EXn.put ?_ (by omega) _ | refine EX.trans ?_ (by assumption)
  simp only [c_seq, RUNA, Nat.reduceAdd, Nat.reduceMod, Nat.reduceDiv, Nat.reduceSub, Nat.reduceMul, Nat.reduceEqDiff, Nat.reduceBEq, Nat.reduceLeDiff, Int.reduceToNat, fillS, wantG, vBox, Value.cells, one, putAt, Option.getD_some, Option.map_some, Option.bind_some, ne_eq, Option.some.injEq, Prod.mk.injEq, exists_and_left, exists_eq_left', exists_eq_left, List.size_toArray, List.length_cons, List.length_nil, if_true, if_false, exists_eq', exists_const, List.getElem?_cons_zero, List.getElem?_cons_succ, List.map_toArray, List.map_cons, List.map_nil, beq_iff_eq, List.all_cons, List.all_nil, cond_true, List.set_cons_zero, List.set_cons_succ, List.drop_zero, List.drop_succ_cons, List.take_succ_cons, List.take_zero, List.getElem?_toArray, Option.map_none, Option.getD_none, TYA]
  refine loop_go (fun m S τ => S.at 2 = .pointer (some ⟨σ.next + 1, 0, none⟩) ∧ S.at 3 = .slice (some ⟨id, 0, none⟩) 1024 1024 ∧ EX σ τ ∧ Fr τ ∧ σ1.next ≤ τ.next ∧
    τ.row (σ.next + 1) = some ([.slice none 0 0, .int .i64 0], boxMeta) ∧
    ∃ n : Nat, S.at 4 = .int .i64 n ∧ n ≤ 1024 ∧ m = 1024 - n ∧ τ.row id = some ((tab 1024 (half n (fun n => !φ (bits n)) (fun n => φ (bits n)))).map Value.bool, rowMeta 1)) 1024 ?_ ?_
  · simp only [c_seq, RUNA, Nat.reduceAdd, Nat.reduceMod, Nat.reduceDiv, Nat.reduceSub, Nat.reduceMul, Nat.reduceEqDiff, Nat.reduceBEq, Nat.reduceLeDiff, Int.reduceToNat, fillS, wantG, vBox, Value.cells, one, putAt, Option.getD_some, Option.map_some, Option.bind_some, ne_eq, Option.some.injEq, Prod.mk.injEq, exists_and_left, exists_eq_left', exists_eq_left, List.size_toArray, List.length_cons, List.length_nil, if_true, if_false, exists_eq', exists_const, List.getElem?_cons_zero, List.getElem?_cons_succ, List.map_toArray, List.map_cons, List.map_nil, beq_iff_eq, List.all_cons, List.all_nil, cond_true, List.set_cons_zero, List.set_cons_succ, List.drop_zero, List.drop_succ_cons, List.take_succ_cons, List.take_zero, List.getElem?_toArray, Option.map_none, Option.getD_none]
    refine ⟨?_, ?_, by omega, b1, 0, rfl, by omega, by omega, ?_⟩
    · repeat first | assumption | exact EXn.refl _ _ | refine EXn.more ?_ _ | refine EXn.put ?_ (by omega) _ | refine EX.trans ?_ (by assumption)
    · repeat first | assumption | refine Fr.more ?_ _ | refine Fr.put ?_ _ _
    · rw [t3, half_0 (f := fun n => !φ (bits n))]
  rintro _ S τ ⟨s2, s3, hE, hF', hx, r0, n, s4, hn, rfl, rt⟩
  have nn := hE.next
  by_cases hlt : n < 1024
  · have hd : decide ((n : Int) < ((1024 : Nat) : Int)) = true := by simp; omega
    have z2 : (0 : Int) ≤ (n : Int) := by omega
    have z3 : (n : Int) < ((1024 : Nat) : Int) := by omega
    have hw : IntKind.i64.wrap ((n : Int) + 1) = ((n + 1 : Nat) : Int) := by rw [wrap64 (by omega) (by omega)]; rfl
    have hle : n + 1 ≤ ((tab 1024 (half n (fun n => !φ (bits n)) (fun n => φ (bits n)))).map Value.bool).length := by rw [List.length_map, tab_len]; omega
    have hv := tabv (f := half n (fun n => !φ (bits n)) (fun n => φ (bits n))) hlt
    rw [half_at] at hv
    have q : ¬ σ.next + 1 = id := by omega
    simp only [c_seq, RUNA, Nat.reduceAdd, Nat.reduceMod, Nat.reduceDiv, Nat.reduceSub, Nat.reduceMul, Nat.reduceEqDiff, Nat.reduceBEq, Nat.reduceLeDiff, Int.reduceToNat, fillS, wantG, vBox, Value.cells, one, putAt, Option.getD_some, Option.map_some, Option.bind_some, ne_eq, Option.some.injEq, Prod.mk.injEq, exists_and_left, exists_eq_left', exists_eq_left, List.size_toArray, List.length_cons, List.length_nil, if_true, if_false, exists_eq', exists_const, List.getElem?_cons_zero, List.getElem?_cons_succ, List.map_toArray, List.map_cons, List.map_nil, beq_iff_eq, List.all_cons, List.all_nil, cond_true, List.set_cons_zero, List.set_cons_succ, List.drop_zero, List.drop_succ_cons, List.take_succ_cons, List.take_zero, List.getElem?_toArray, Option.map_none, Option.getD_none, TYA, s2, s3, s4, hd, ia43 z2 z3, rt, hv, hle, hw, r0, q]
    refine ⟨1024 - (n + 1), by omega, ?_, ?_, by omega, n + 1, rfl, by omega, rfl, ?_⟩
    · repeat first | assumption | exact EXn.refl _ _ | refine EXn.more ?_ _ | refine EXn.put ?_ (by omega) _ | refine EX.trans ?_ (by assumption)
    · repeat first | assumption | refine Fr.more ?_ _ | refine Fr.put ?_ _ _
    · rw [← half_set, List.map_set]
  · have hd : decide ((n : Int) < ((1024 : Nat) : Int)) = false := by simp; omega
    have hn1 : n = 1024 := by omega
    rw [hn1, half_N] at rt
    simp only [c_seq, RUNA, Nat.reduceAdd, Nat.reduceMod, Nat.reduceDiv, Nat.reduceSub, Nat.reduceMul, Nat.reduceEqDiff, Nat.reduceBEq, Nat.reduceLeDiff, Int.reduceToNat, fillS, wantG, vBox, Value.cells, one, putAt, Option.getD_some, Option.map_some, Option.bind_some, ne_eq, Option.some.injEq, Prod.mk.injEq, exists_and_left, exists_eq_left', exists_eq_left, List.size_toArray, List.length_cons, List.length_nil, if_true, if_false, exists_eq', exists_const, List.getElem?_cons_zero, List.getElem?_cons_succ, List.map_toArray, List.map_cons, List.map_nil, beq_iff_eq, List.all_cons, List.all_nil, cond_true, List.set_cons_zero, List.set_cons_succ, List.drop_zero, List.drop_succ_cons, List.take_succ_cons, List.take_zero, List.getElem?_toArray, Option.map_none, Option.getD_none, TYA, s2, s3, s4, hd]
    refine wpc_mono (Diagram_is (lo := 0) (hi := τ.next) ⟨id, rfl, by omega, by omega, rt⟩ (by first | omega | (simp only [next_more, next_put] at *; omega)) (by repeat first | assumption | refine Fr.more ?_ _ | refine Fr.put ?_ _ _)) ?_
    rintro r σ2 ⟨hD, hE2⟩
    have n2 := hE2.next
    simp only [next_more] at n2 hD
    obtain ⟨o, k, c, i, rfl⟩ := hD.open
    have r2 : σ2.row (σ.next + 1) = some ([.slice none 0 0, .int .i64 0], boxMeta) := (hE2.row _ (by first | omega | (simp only [next_more, next_put] at *; omega))).trans r0
    simp only [c_seq, RUNA, Nat.reduceAdd, Nat.reduceMod, Nat.reduceDiv, Nat.reduceSub, Nat.reduceMul, Nat.reduceEqDiff, Nat.reduceBEq, Nat.reduceLeDiff, Int.reduceToNat, fillS, wantG, vBox, Value.cells, one, putAt, Option.getD_some, Option.map_some, Option.bind_some, ne_eq, Option.some.injEq, Prod.mk.injEq, exists_and_left, exists_eq_left', exists_eq_left, List.size_toArray, List.length_cons, List.length_nil, if_true, if_false, exists_eq', exists_const, List.getElem?_cons_zero, List.getElem?_cons_succ, List.map_toArray, List.map_cons, List.map_nil, beq_iff_eq, List.all_cons, List.all_nil, cond_true, List.set_cons_zero, List.set_cons_succ, List.drop_zero, List.drop_succ_cons, List.take_succ_cons, List.take_zero, List.getElem?_toArray, Option.map_none, Option.getD_none, TYA, s2, r2, hr]
    refine ⟨IsD.congr (IsD.weak (hD.un ?_) (by omega)) (fun f => by rw [hten f]), ?_⟩
    · repeat first | assumption | exact UN.refl _ _ _ | refine UN.more ?_ _ | refine UN.put ?_ (by omega) _ | refine UN.ex (by assumption) ?_ (by first | omega | (simp only [next_more, next_put]; omega)) | refine UN.exb (by assumption) ?_ (by first | omega | (simp only [next_more, next_put]; omega)) (by omega)
    · repeat first | assumption | exact EXn.refl _ _ | refine EXn.more ?_ _ | refine EXn.put ?_ (by omega) _ | refine EX.trans ?_ (by assumption)
end Go.Proofs.Ytlealdhgajomhaa
