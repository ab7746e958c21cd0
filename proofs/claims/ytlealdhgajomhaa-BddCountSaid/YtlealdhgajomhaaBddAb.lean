/- bdd.safe and bdd.Evaluate. -/
import Derived.Test.YtlealdhgajomhaaBddAa
namespace Go.Proofs.Ytlealdhgajomhaa
set_option linter.unusedVariables false
open Go.AI
set_option linter.unusedSimpArgs false

/-- of a valid diagram the program's 'safe' makes that very diagram -/
theorem safe_spec {lo hi : Nat} {σ : St} {a : Value} {T : Dt} (ha : DVi lo hi σ a (cd T)) (hh : hi ≤ σ.next) (hT : T.ok 0) (hF : Fr σ) : wpc Try.prog 48 #[a] σ fun r σ' => r = a ∧ EX σ σ' := by
  obtain ⟨oa, ca, rfl, -⟩ := (ha.dv hh).open
  refine body_go Try.func48 rfl ?_
  have hr := Try.results48
  have hcl := cd_len hT (by omega)
  simp only [c_seq, RUNA, Nat.reduceAdd, Nat.reduceMod, Nat.reduceDiv, Nat.reduceSub, Nat.reduceMul, Nat.reduceEqDiff, Nat.reduceBEq, Nat.reduceLeDiff, Int.reduceToNat, fillS, wantG, vBox, Value.cells, one, putAt, Option.getD_some, Option.map_some, Option.bind_some, ne_eq, Option.some.injEq, Prod.mk.injEq, exists_and_left, exists_eq_left', exists_eq_left, List.size_toArray, List.length_cons, List.length_nil, if_true, if_false, exists_eq', exists_const, List.getElem?_cons_zero, List.getElem?_cons_succ, List.map_toArray, List.map_cons, List.map_nil, beq_iff_eq, List.all_cons, List.all_nil, cond_true, List.set_cons_zero, List.set_cons_succ, List.drop_zero, List.drop_succ_cons, List.take_succ_cons, List.take_zero, List.getElem?_toArray, Option.map_none, Option.getD_none, TYA, hr]
  refine wpc_mono (Valid_spec (d := cd T) ((ha.dv hh).mono ?_) (by omega) (by repeat first | assumption | refine Fr.more ?_ _ | refine Fr.put ?_ _ _)) ?_
  · repeat first | assumption | exact EXn.refl _ _ | refine EXn.more ?_ _ | refine EXn.put ?_ (by omega) _ | refine EX.trans ?_ (by assumption)
  rintro r σ1 ⟨⟨b, rfl, hb⟩, hE1⟩
  have n1 := hE1.next
  simp only [next_more, next_put] at n1
  have hb' : b = true := hb.2 (cd_valid hT)
  subst hb'
  have r0 : σ1.row σ.next = some ([.slice oa (cd T).1.length ca, .int .i64 (cd T).2], boxMeta) := by rw [hE1.row _ (by first | omega | (simp only [next_more, next_put] at *; omega))]; simp only [c_seq, RUNA, Nat.reduceAdd, Nat.reduceMod, Nat.reduceDiv, Nat.reduceSub, Nat.reduceMul, Nat.reduceEqDiff, Nat.reduceBEq, Nat.reduceLeDiff, Int.reduceToNat, fillS, wantG, vBox, Value.cells, one, putAt, Option.getD_some, Option.map_some, Option.bind_some, ne_eq, Option.some.injEq, Prod.mk.injEq, exists_and_left, exists_eq_left', exists_eq_left, List.size_toArray, List.length_cons, List.length_nil, if_true, if_false, exists_eq', exists_const, List.getElem?_cons_zero, List.getElem?_cons_succ, List.map_toArray, List.map_cons, List.map_nil, beq_iff_eq, List.all_cons, List.all_nil, cond_true, List.set_cons_zero, List.set_cons_succ, List.drop_zero, List.drop_succ_cons, List.take_succ_cons, List.take_zero, List.getElem?_toArray, Option.map_none, Option.getD_none]
  have r1 : σ1.row (σ.next + 1) = some ([.slice none 0 0, .int .i64 0], boxMeta) := by rw [hE1.row _ (by first | omega | (simp only [next_more, next_put] at *; omega))]; simp only [c_seq, RUNA, Nat.reduceAdd, Nat.reduceMod, Nat.reduceDiv, Nat.reduceSub, Nat.reduceMul, Nat.reduceEqDiff, Nat.reduceBEq, Nat.reduceLeDiff, Int.reduceToNat, fillS, wantG, vBox, Value.cells, one, putAt, Option.getD_some, Option.map_some, Option.bind_some, ne_eq, Option.some.injEq, Prod.mk.injEq, exists_and_left, exists_eq_left', exists_eq_left, List.size_toArray, List.length_cons, List.length_nil, if_true, if_false, exists_eq', exists_const, List.getElem?_cons_zero, List.getElem?_cons_succ, List.map_toArray, List.map_cons, List.map_nil, beq_iff_eq, List.all_cons, List.all_nil, cond_true, List.set_cons_zero, List.set_cons_succ, List.drop_zero, List.drop_succ_cons, List.take_succ_cons, List.take_zero, List.getElem?_toArray, Option.map_none, Option.getD_none]
  simp only [c_seq, RUNA, Nat.reduceAdd, Nat.reduceMod, Nat.reduceDiv, Nat.reduceSub, Nat.reduceMul, Nat.reduceEqDiff, Nat.reduceBEq, Nat.reduceLeDiff, Int.reduceToNat, fillS, wantG, vBox, Value.cells, one, putAt, Option.getD_some, Option.map_some, Option.bind_some, ne_eq, Option.some.injEq, Prod.mk.injEq, exists_and_left, exists_eq_left', exists_eq_left, List.size_toArray, List.length_cons, List.length_nil, if_true, if_false, exists_eq', exists_const, List.getElem?_cons_zero, List.getElem?_cons_succ, List.map_toArray, List.map_cons, List.map_nil, beq_iff_eq, List.all_cons, List.all_nil, cond_true, List.set_cons_zero, List.set_cons_succ, List.drop_zero, List.drop_succ_cons, List.take_succ_cons, List.take_zero, List.getElem?_toArray, Option.map_none, Option.getD_none, TYA, hr, r0, r1]
  repeat first | assumption | exact EXn.refl _ _ | refine EXn.more ?_ _ | refine EXn.put ?_ (by omega) _ | refine EX.trans ?_ (by assumption)
theorem Evaluate_spec {lo hi : Nat} {σ : St} {a b : Value} {φ : As → Bool} {bs : List Bool} (ha : IsD lo hi σ a φ) (hh : hi ≤ σ.next) (hb : SB σ b bs) (hF : Fr σ) : wpc Try.prog 19 #[a, b] σ fun r σ' => r = .bool (φ (bt bs)) ∧ EX σ σ' := by
  obtain ⟨T, hD, hT, hφ⟩ := ha
  rw [← hφ]
  obtain ⟨hg, hR⟩ := cd_gd hT
  have hd := hD.dv hh
  obtain ⟨oa, ca, rfl, hA⟩ := hd.open
  obtain ⟨ob, cb, rfl, hB⟩ := hb
  refine body_go Try.func19 rfl ?_
  have hr := Try.results19
  simp only [c_seq, RUNA, Nat.reduceAdd, Nat.reduceMod, Nat.reduceDiv, Nat.reduceSub, Nat.reduceMul, Nat.reduceEqDiff, Nat.reduceBEq, Nat.reduceLeDiff, Int.reduceToNat, fillS, wantG, vBox, Value.cells, one, putAt, Option.getD_some, Option.map_some, Option.bind_some, ne_eq, Option.some.injEq, Prod.mk.injEq, exists_and_left, exists_eq_left', exists_eq_left, List.size_toArray, List.length_cons, List.length_nil, if_true, if_false, exists_eq', exists_const, List.getElem?_cons_zero, List.getElem?_cons_succ, List.map_toArray, List.map_cons, List.map_nil, beq_iff_eq, List.all_cons, List.all_nil, cond_true, List.set_cons_zero, List.set_cons_succ, List.drop_zero, List.drop_succ_cons, List.take_succ_cons, List.take_zero, List.getElem?_toArray, Option.map_none, Option.getD_none, TYA, hr]
  refine wpc_mono (safe_spec (hD.un ?_) (by first | omega | (simp only [next_more, next_put] at *; omega)) hT (by repeat first | assumption | refine Fr.more ?_ _ | refine Fr.put ?_ _ _)) ?_
  · repeat first | assumption | exact UN.refl _ _ _ | refine UN.more ?_ _ | refine UN.put ?_ (by omega) _ | refine UN.ex (by assumption) ?_ (by first | omega | (simp only [next_more, next_put]; omega)) | refine UN.exb (by assumption) ?_ (by first | omega | (simp only [next_more, next_put]; omega)) (by omega)
  rintro r σ1 ⟨rfl, hE1⟩
  have n1 := hE1.next
  simp only [next_more, next_put] at n1
  have e1 : EX σ σ1 := by repeat first | assumption | exact EXn.refl _ _ | refine EXn.more ?_ _ | refine EXn.put ?_ (by omega) _ | refine EX.trans ?_ (by assumption)
  have r1 : σ1.row σ.next = some ([.slice oa (cd T).1.length ca, .int .i64 (cd T).2], boxMeta) := by rw [hE1.row _ (by first | omega | (simp only [next_more, next_put] at *; omega))]; simp only [c_seq, RUNA, Nat.reduceAdd, Nat.reduceMod, Nat.reduceDiv, Nat.reduceSub, Nat.reduceMul, Nat.reduceEqDiff, Nat.reduceBEq, Nat.reduceLeDiff, Int.reduceToNat, fillS, wantG, vBox, Value.cells, one, putAt, Option.getD_some, Option.map_some, Option.bind_some, ne_eq, Option.some.injEq, Prod.mk.injEq, exists_and_left, exists_eq_left', exists_eq_left, List.size_toArray, List.length_cons, List.length_nil, if_true, if_false, exists_eq', exists_const, List.getElem?_cons_zero, List.getElem?_cons_succ, List.map_toArray, List.map_cons, List.map_nil, beq_iff_eq, List.all_cons, List.all_nil, cond_true, List.set_cons_zero, List.set_cons_succ, List.drop_zero, List.drop_succ_cons, List.take_succ_cons, List.take_zero, List.getElem?_toArray, Option.map_none, Option.getD_none]
  generalize cd T = d at *
  obtain ⟨l, root⟩ := d
  simp only at *
  have hlen := hg.len
  obtain ⟨aid, aoff, arow, am, rfl, a1, a2, a3⟩ := hA (by omega)
  have hlt0 := Rep.lt hg.len hR
  obtain ⟨rt, rfl⟩ : ∃ rt : Nat, root = rt := ⟨_, (Int.toNat_of_nonneg hlt0.1).symm⟩
  simp only [c_seq, RUNA, Nat.reduceAdd, Nat.reduceMod, Nat.reduceDiv, Nat.reduceSub, Nat.reduceMul, Nat.reduceEqDiff, Nat.reduceBEq, Nat.reduceLeDiff, Int.reduceToNat, fillS, wantG, vBox, Value.cells, one, putAt, Option.getD_some, Option.map_some, Option.bind_some, ne_eq, Option.some.injEq, Prod.mk.injEq, exists_and_left, exists_eq_left', exists_eq_left, List.size_toArray, List.length_cons, List.length_nil, if_true, if_false, exists_eq', exists_const, List.getElem?_cons_zero, List.getElem?_cons_succ, List.map_toArray, List.map_cons, List.map_nil, beq_iff_eq, List.all_cons, List.all_nil, cond_true, List.set_cons_zero, List.set_cons_succ, List.drop_zero, List.drop_succ_cons, List.take_succ_cons, List.take_zero, List.getElem?_toArray, Option.map_none, Option.getD_none, TYA, r1]
  refine loop_go (fun m S τ => S.at 1 = .slice ob bs.length cb ∧ S.at 2 = .pointer (some ⟨σ.next, 0, none⟩) ∧ EX σ τ ∧ σ.next < τ.next ∧
    τ.row σ.next = some ([.slice (some ⟨aid, aoff, none⟩) l.length ca, .int .i64 rt], boxMeta) ∧
    S.at 5 = .int .i64 m ∧ ∃ U, Rep l U m ∧ U.ok 0 ∧ U.ev (bt bs) = T.ev (bt bs)) rt ?_ ?_
  · simp only [c_seq, RUNA, Nat.reduceAdd, Nat.reduceMod, Nat.reduceDiv, Nat.reduceSub, Nat.reduceMul, Nat.reduceEqDiff, Nat.reduceBEq, Nat.reduceLeDiff, Int.reduceToNat, fillS, wantG, vBox, Value.cells, one, putAt, Option.getD_some, Option.map_some, Option.bind_some, ne_eq, Option.some.injEq, Prod.mk.injEq, exists_and_left, exists_eq_left', exists_eq_left, List.size_toArray, List.length_cons, List.length_nil, if_true, if_false, exists_eq', exists_const, List.getElem?_cons_zero, List.getElem?_cons_succ, List.map_toArray, List.map_cons, List.map_nil, beq_iff_eq, List.all_cons, List.all_nil, cond_true, List.set_cons_zero, List.set_cons_succ, List.drop_zero, List.drop_succ_cons, List.take_succ_cons, List.take_zero, List.getElem?_toArray, Option.map_none, Option.getD_none]
    refine ⟨?_, by omega, T, hR, hT, rfl⟩
    repeat first | assumption | exact EXn.refl _ _ | refine EXn.more ?_ _ | refine EXn.put ?_ (by omega) _ | refine EX.trans ?_ (by assumption)
  · rintro i S τ ⟨s1, s2, hE, hx, r0, s5, U, hU, hUo, hUe⟩
    have hil := Rep.lt hg.len hU
    by_cases hlt : 2 ≤ i
    · obtain ⟨v, lo, hi, rfl, h3, h4, h5, h6⟩ := hU.node_at hlt
      have hd1 : decide ((1 : Int) < (i : Int)) = true := by simp; omega
      have i0 : (0 : Int) ≤ (i : Int) := by omega
      have i1 : (i : Int) < (l.length : Int) := by omega
      have ra := (hE.row aid a1).trans a2
      have ca' := row_cut a3 h3
      have hn := hE.next
      have hlo := hg.lo i hlt h3
      have hhi := hg.hi i hlt h3
      have hvv := hg.var i hlt h3
      have n5 : ¬ aid = τ.next + 7 := by omega
      have n6 : ¬ σ.next = τ.next + 7 := by omega
      by_cases hvl : v < bs.length
      · have hd4 : decide ((vx l i).1 < (bs.length : Int)) = true := by simp; omega
        obtain ⟨bid, boff, brow, bm, rfl, b1, b2, b3⟩ := hB (by omega)
        have rb := (hE.row bid b1).trans b2
        have v0 : (0 : Int) ≤ (vx l i).1 := by omega
        have v1 : (vx l i).1 < (bs.length : Int) := by omega
        have tv : brow[boff + (vx l i).1.toNat]? = some (.bool (bt bs v)) := by rw [h4, Int.toNat_natCast]; exact tb_at b3 hvl
        have n4 : ¬ bid = τ.next + 7 := by omega
        cases hbv : bt bs v with
        | true =>
          rw [hbv] at tv
          simp only [c_seq, RUNA, Nat.reduceAdd, Nat.reduceMod, Nat.reduceDiv, Nat.reduceSub, Nat.reduceMul, Nat.reduceEqDiff, Nat.reduceBEq, Nat.reduceLeDiff, Int.reduceToNat, fillS, wantG, vBox, Value.cells, one, putAt, Option.getD_some, Option.map_some, Option.bind_some, ne_eq, Option.some.injEq, Prod.mk.injEq, exists_and_left, exists_eq_left', exists_eq_left, List.size_toArray, List.length_cons, List.length_nil, if_true, if_false, exists_eq', exists_const, List.getElem?_cons_zero, List.getElem?_cons_succ, List.map_toArray, List.map_cons, List.map_nil, beq_iff_eq, List.all_cons, List.all_nil, cond_true, List.set_cons_zero, List.set_cons_succ, List.drop_zero, List.drop_succ_cons, List.take_succ_cons, List.take_zero, List.getElem?_toArray, Option.map_none, Option.getD_none, TYA, s1, s2, s5, r0, hd1, hd4, ia23 i0 i1, ia43 v0 v1, ra, ca', n4, n5, n6, rb, tv]
          refine ⟨(vx l i).2.2.toNat, by omega, ?_, by omega, ?_, hi, ?_, Dt.ok_mono hUo.2.2.2.2 (by omega), ?_⟩
          · repeat first | assumption | exact EXn.refl _ _ | refine EXn.more ?_ _ | refine EXn.put ?_ (by omega) _ | refine EX.trans ?_ (by assumption)
          · rw [Int.toNat_of_nonneg hhi.1]
          · rw [Int.toNat_of_nonneg hhi.1]; exact h6
          · rw [← hUe]; simp only [Dt.ev, hbv, if_true]
        | false =>
          rw [hbv] at tv
          simp only [c_seq, RUNA, Nat.reduceAdd, Nat.reduceMod, Nat.reduceDiv, Nat.reduceSub, Nat.reduceMul, Nat.reduceEqDiff, Nat.reduceBEq, Nat.reduceLeDiff, Int.reduceToNat, fillS, wantG, vBox, Value.cells, one, putAt, Option.getD_some, Option.map_some, Option.bind_some, ne_eq, Option.some.injEq, Prod.mk.injEq, exists_and_left, exists_eq_left', exists_eq_left, List.size_toArray, List.length_cons, List.length_nil, if_true, if_false, exists_eq', exists_const, List.getElem?_cons_zero, List.getElem?_cons_succ, List.map_toArray, List.map_cons, List.map_nil, beq_iff_eq, List.all_cons, List.all_nil, cond_true, List.set_cons_zero, List.set_cons_succ, List.drop_zero, List.drop_succ_cons, List.take_succ_cons, List.take_zero, List.getElem?_toArray, Option.map_none, Option.getD_none, TYA, s1, s2, s5, r0, hd1, hd4, ia23 i0 i1, ia43 v0 v1, ra, ca', n4, n5, n6, rb, tv]
          refine ⟨(vx l i).2.1.toNat, by omega, ?_, by omega, ?_, lo, ?_, Dt.ok_mono hUo.2.2.2.1 (by omega), ?_⟩
          · repeat first | assumption | exact EXn.refl _ _ | refine EXn.more ?_ _ | refine EXn.put ?_ (by omega) _ | refine EX.trans ?_ (by assumption)
          · rw [Int.toNat_of_nonneg hlo.1]
          · rw [Int.toNat_of_nonneg hlo.1]; exact h5
          · rw [← hUe]; simp only [Dt.ev, hbv, Bool.false_eq_true, if_false]
      · have hd4 : decide ((vx l i).1 < (bs.length : Int)) = false := by simp; omega
        have hbv : bt bs v = false := by unfold bt; rw [List.getD_eq_getElem?_getD, List.getElem?_eq_none (by omega)]; rfl
        simp only [c_seq, RUNA, Nat.reduceAdd, Nat.reduceMod, Nat.reduceDiv, Nat.reduceSub, Nat.reduceMul, Nat.reduceEqDiff, Nat.reduceBEq, Nat.reduceLeDiff, Int.reduceToNat, fillS, wantG, vBox, Value.cells, one, putAt, Option.getD_some, Option.map_some, Option.bind_some, ne_eq, Option.some.injEq, Prod.mk.injEq, exists_and_left, exists_eq_left', exists_eq_left, List.size_toArray, List.length_cons, List.length_nil, if_true, if_false, exists_eq', exists_const, List.getElem?_cons_zero, List.getElem?_cons_succ, List.map_toArray, List.map_cons, List.map_nil, beq_iff_eq, List.all_cons, List.all_nil, cond_true, List.set_cons_zero, List.set_cons_succ, List.drop_zero, List.drop_succ_cons, List.take_succ_cons, List.take_zero, List.getElem?_toArray, Option.map_none, Option.getD_none, TYA, s1, s2, s5, r0, hd1, hd4, ia23 i0 i1, ra, ca', n5, n6]
        refine ⟨(vx l i).2.1.toNat, by omega, ?_, by omega, ?_, lo, ?_, Dt.ok_mono hUo.2.2.2.1 (by omega), ?_⟩
        · repeat first | assumption | exact EXn.refl _ _ | refine EXn.more ?_ _ | refine EXn.put ?_ (by omega) _ | refine EX.trans ?_ (by assumption)
        · rw [Int.toNat_of_nonneg hlo.1]
        · rw [Int.toNat_of_nonneg hlo.1]; exact h5
        · rw [← hUe]; simp only [Dt.ev, hbv, Bool.false_eq_true, if_false]
    · have hd1 : decide ((1 : Int) < (i : Int)) = false := by simp; omega
      have hle := hU.leaf_at (by omega)
      subst hle
      simp only [c_seq, RUNA, Nat.reduceAdd, Nat.reduceMod, Nat.reduceDiv, Nat.reduceSub, Nat.reduceMul, Nat.reduceEqDiff, Nat.reduceBEq, Nat.reduceLeDiff, Int.reduceToNat, fillS, wantG, vBox, Value.cells, one, putAt, Option.getD_some, Option.map_some, Option.bind_some, ne_eq, Option.some.injEq, Prod.mk.injEq, exists_and_left, exists_eq_left', exists_eq_left, List.size_toArray, List.length_cons, List.length_nil, if_true, if_false, exists_eq', exists_const, List.getElem?_cons_zero, List.getElem?_cons_succ, List.map_toArray, List.map_cons, List.map_nil, beq_iff_eq, List.all_cons, List.all_nil, cond_true, List.set_cons_zero, List.set_cons_succ, List.drop_zero, List.drop_succ_cons, List.take_succ_cons, List.take_zero, List.getElem?_toArray, Option.map_none, Option.getD_none, TYA, s1, s2, s5, r0, hd1, hr]
      refine ⟨?_, ?_⟩
      · rw [← hUe]; simp only [Dt.ev]
        obtain rfl | rfl : i = 0 ∨ i = 1 := by omega
        · rfl
        · rfl
      · repeat first | assumption | exact EXn.refl _ _ | refine EXn.more ?_ _ | refine EXn.put ?_ (by omega) _ | refine EX.trans ?_ (by assumption)
end Go.Proofs.Ytlealdhgajomhaa
