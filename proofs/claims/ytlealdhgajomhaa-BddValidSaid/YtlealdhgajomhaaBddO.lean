/- The law's diagram: the walk. -/
import Derived.Test.YtlealdhgajomhaaBddN
namespace Go.Proofs.Ytlealdhgajomhaa
set_option linter.unusedVariables false
open Go.AI
set_option linter.unusedSimpArgs false

theorem Src.put {b k : Nat} {σ : St} {cs : List Nat} {ob : AObj} (h : Src b σ cs) (hk : b < k) : Src b (σ.put k ob) cs := by
  obtain ⟨o, c, p, q1, q2, q3, q4⟩ := h
  refine ⟨o, c, p, (row_put_ne (by omega)).trans q1, q2, q3, fun h0 => ?_⟩
  obtain ⟨id, off, row, m, w1, w2, w3, w4⟩ := q4 h0
  exact ⟨id, off, row, m, w1, w2, (row_put_ne (by omega)).trans w3, w4⟩
theorem bs68_2 (id : Nat) (a a' : Option Addr) (n c n' c' : Nat) (r r' : Int) : vBuildS Try.prog 68 2 #[(0, .agg #[.slice a n c, .int .i64 r]), (1, .agg #[.slice a' n' c', .int .i64 r'])] id =
    some (.slice (some ⟨id, 0, none⟩) 2 2, .cells [.slice a n c, .int .i64 r, .slice a' n' c', .int .i64 r'] (rowMeta 2)) := by kernel_rfl
theorem DL2 {σ : St} {id : Nat} {s1 i1 s2 i2 : Value} {m : Mta} {φ ψ : As → Bool} (hid : id < σ.next) (h : σ.row id = some ([s1, i1, s2, i2], m)) (h1 : IsD 0 σ.next σ (.agg #[s1, i1]) φ) (h2 : IsD 0 σ.next σ (.agg #[s2, i2]) ψ) : DL σ (.slice (some ⟨id, 0, none⟩) 2 2) [φ, ψ] := by
  refine ⟨_, 2, rfl, fun _ => ⟨id, 0, _, m, rfl, hid, h, fun i hi => ?_⟩⟩
  obtain rfl | rfl : i = 0 ∨ i = 1 := by simp at hi; omega
  · exact ⟨s1, i1, rfl, h1⟩
  · exact ⟨s2, i2, rfl, h2⟩
/-- what the drawing of a diagram comes to -/
def Drawn (b : Nat) (cs : List Nat) (σ : St) (r : Value) (σ' : St) : Prop := (∃ φ, IsD σ.next σ'.next σ' r φ) ∧ Src b σ' cs ∧ EXb b σ σ' ∧ Fr σ'
def DSpec (b : Nat) (cs : List Nat) (n : Nat) : Prop := ∀ σ, Src b σ cs → Fr σ → wpc Try.prog 17 #[.pointer (some ⟨b, 0, none⟩), .int .i64 n] σ (Drawn b cs σ)

set_option maxHeartbeats 2000000 in
theorem diagram_step {b : Nat} {cs : List Nat} (hc : ∀ k ∈ cs, k < 256) (hl : cs.length ≤ 1000) (n : Nat) (hn : n ≤ 100) (ih : ∀ m, n = m + 1 → DSpec b cs m) : DSpec b cs n := by
  intro σ hS hF
  refine body_go Try.func17 rfl ?_
  have hr := Try.results17
  have hb : b < σ.next := by obtain ⟨_, _, _, _, h, _⟩ := hS; exact h
  simp only [c_seq, RUNA, Nat.reduceAdd, Nat.reduceMod, Nat.reduceDiv, Nat.reduceSub, Nat.reduceMul, Nat.reduceEqDiff, Nat.reduceBEq, Nat.reduceLeDiff, Int.reduceToNat, fillS, wantG, vBox, Value.cells, one, putAt, Option.getD_some, Option.map_some, Option.bind_some, ne_eq, Option.some.injEq, Prod.mk.injEq, exists_and_left, exists_eq_left', exists_eq_left, List.size_toArray, List.length_cons, List.length_nil, if_true, if_false, exists_eq', exists_const, List.getElem?_cons_zero, List.getElem?_cons_succ, List.map_toArray, List.map_cons, List.map_nil, beq_iff_eq, List.all_cons, List.all_nil, cond_true, List.set_cons_zero, List.set_cons_succ, List.drop_zero, List.drop_succ_cons, List.take_succ_cons, List.take_zero, List.getElem?_toArray, Option.map_none, Option.getD_none, TYA, hr]
  refine wpc_mono (Next_spec (n := 8) (hS.mono ?_) hc hl (by omega) (by omega)) ?_
  · repeat first | assumption | exact EXn.refl _ _ | refine EXn.more ?_ _ | refine EXn.put ?_ (by omega) _ | refine EX.trans ?_ (by assumption)
  rintro r σ1 ⟨⟨k, rfl, hk⟩, hS1, hE1⟩
  have n1 := hE1.next
  have f1 := hE1.fr (by repeat first | assumption | refine Fr.more ?_ _ | refine Fr.put ?_ _ _)
  simp only [next_more, next_put] at n1
  have b1 : σ1.row σ.next = some ([.slice none 0 0, .int .i64 0], boxMeta) := by rw [hE1.row _ (by first | omega | (simp only [next_more, next_put] at *; omega)) (by omega)]; simp only [c_seq, RUNA, Nat.reduceAdd, Nat.reduceMod, Nat.reduceDiv, Nat.reduceSub, Nat.reduceMul, Nat.reduceEqDiff, Nat.reduceBEq, Nat.reduceLeDiff, Int.reduceToNat, fillS, wantG, vBox, Value.cells, one, putAt, Option.getD_some, Option.map_some, Option.bind_some, ne_eq, Option.some.injEq, Prod.mk.injEq, exists_and_left, exists_eq_left', exists_eq_left, List.size_toArray, List.length_cons, List.length_nil, if_true, if_false, exists_eq', exists_const, List.getElem?_cons_zero, List.getElem?_cons_succ, List.map_toArray, List.map_cons, List.map_nil, beq_iff_eq, List.all_cons, List.all_nil, cond_true, List.set_cons_zero, List.set_cons_succ, List.drop_zero, List.drop_succ_cons, List.take_succ_cons, List.take_zero, List.getElem?_toArray, Option.map_none, Option.getD_none]
  have e1 : EXb b σ σ1 := by repeat first | assumption | exact EXb.refl _ _ | refine EXb.more ?_ _ | refine EXb.put ?_ (by omega) _ | refine EXb.trans ?_ (by assumption) | refine EXb.thn ?_ (by assumption)
  simp only [RUNA, Nat.reduceAdd, Nat.reduceMod, Nat.reduceDiv, Nat.reduceSub, Nat.reduceMul, Nat.reduceEqDiff, Nat.reduceBEq, Nat.reduceLeDiff, Int.reduceToNat, fillS, wantG, vBox, Value.cells, one, putAt, Option.getD_some, Option.map_some, Option.bind_some, ne_eq, Option.some.injEq, Prod.mk.injEq, exists_and_left, exists_eq_left', exists_eq_left, List.size_toArray, List.length_cons, List.length_nil, if_true, if_false, exists_eq', exists_const, List.getElem?_cons_zero, List.getElem?_cons_succ, List.map_toArray, List.map_cons, List.map_nil, beq_iff_eq, List.all_cons, List.all_nil, cond_true, List.set_cons_zero, List.set_cons_succ, List.drop_zero, List.drop_succ_cons, List.take_succ_cons, List.take_zero, List.getElem?_toArray, Option.map_none, Option.getD_none, TYA]
  refine seq_cut (fun S τ => S.at 0 = .pointer (some ⟨b, 0, none⟩) ∧ S.at 1 = .int .i64 n ∧ S.at 4 = .pointer (some ⟨σ.next, 0, none⟩) ∧ (∃ k : Nat, S.at 5 = .int .i64 k ∧ k < 8 ∧ (3 < k → n ≠ 0)) ∧ EXb b σ τ ∧ Fr τ ∧ Src b τ cs ∧ σ.next < τ.next ∧ τ.row σ.next = some ([.slice none 0 0, .int .i64 0], boxMeta)) ?_ ?_
  · by_cases h0 : n = 0
    · have g1 : decide ((n : Int) < 1) = true := by simp; omega
      by_cases h3 : 3 < k
      · have g2 : decide ((3 : Int) < (k : Int)) = true := by simp; omega
        have four0 : (4 : Int) ≠ 0 := by decide
        simp only [c_seq, RUNA, Nat.reduceAdd, Nat.reduceMod, Nat.reduceDiv, Nat.reduceSub, Nat.reduceMul, Nat.reduceEqDiff, Nat.reduceBEq, Nat.reduceLeDiff, Int.reduceToNat, fillS, wantG, vBox, Value.cells, one, putAt, Option.getD_some, Option.map_some, Option.bind_some, ne_eq, Option.some.injEq, Prod.mk.injEq, exists_and_left, exists_eq_left', exists_eq_left, List.size_toArray, List.length_cons, List.length_nil, if_true, if_false, exists_eq', exists_const, List.getElem?_cons_zero, List.getElem?_cons_succ, List.map_toArray, List.map_cons, List.map_nil, beq_iff_eq, List.all_cons, List.all_nil, cond_true, List.set_cons_zero, List.set_cons_succ, List.drop_zero, List.drop_succ_cons, List.take_succ_cons, List.take_zero, List.getElem?_toArray, Option.map_none, Option.getD_none, TYA, g1, g2, n_rem four0]
        refine ⟨⟨k % 4, by rw [Int.natCast_emod]; rfl, by omega, by omega⟩, ?_, ?_, Src.mono hS1 ?_, by omega, b1⟩
        · repeat first | assumption | exact EXb.refl _ _ | refine EXb.more ?_ _ | refine EXb.put ?_ (by omega) _ | refine EXb.trans ?_ (by assumption) | refine EXb.thn ?_ (by assumption)
        · repeat first | assumption | refine Fr.more ?_ _ | refine Fr.put ?_ _ _
        · repeat first | assumption | exact EXn.refl _ _ | refine EXn.more ?_ _ | refine EXn.put ?_ (by omega) _ | refine EX.trans ?_ (by assumption)
      · have g2 : decide ((3 : Int) < (k : Int)) = false := by simp; omega
        simp only [c_seq, RUNA, Nat.reduceAdd, Nat.reduceMod, Nat.reduceDiv, Nat.reduceSub, Nat.reduceMul, Nat.reduceEqDiff, Nat.reduceBEq, Nat.reduceLeDiff, Int.reduceToNat, fillS, wantG, vBox, Value.cells, one, putAt, Option.getD_some, Option.map_some, Option.bind_some, ne_eq, Option.some.injEq, Prod.mk.injEq, exists_and_left, exists_eq_left', exists_eq_left, List.size_toArray, List.length_cons, List.length_nil, if_true, if_false, exists_eq', exists_const, List.getElem?_cons_zero, List.getElem?_cons_succ, List.map_toArray, List.map_cons, List.map_nil, beq_iff_eq, List.all_cons, List.all_nil, cond_true, List.set_cons_zero, List.set_cons_succ, List.drop_zero, List.drop_succ_cons, List.take_succ_cons, List.take_zero, List.getElem?_toArray, Option.map_none, Option.getD_none, TYA, g1, g2]
        refine ⟨⟨k, rfl, hk, by omega⟩, ?_, ?_, Src.mono hS1 ?_, by omega, b1⟩
        · repeat first | assumption | exact EXb.refl _ _ | refine EXb.more ?_ _ | refine EXb.put ?_ (by omega) _ | refine EXb.trans ?_ (by assumption) | refine EXb.thn ?_ (by assumption)
        · repeat first | assumption | refine Fr.more ?_ _ | refine Fr.put ?_ _ _
        · repeat first | assumption | exact EXn.refl _ _ | refine EXn.more ?_ _ | refine EXn.put ?_ (by omega) _ | refine EX.trans ?_ (by assumption)
    · have g1 : decide ((n : Int) < 1) = false := by simp; omega
      simp only [c_seq, RUNA, Nat.reduceAdd, Nat.reduceMod, Nat.reduceDiv, Nat.reduceSub, Nat.reduceMul, Nat.reduceEqDiff, Nat.reduceBEq, Nat.reduceLeDiff, Int.reduceToNat, fillS, wantG, vBox, Value.cells, one, putAt, Option.getD_some, Option.map_some, Option.bind_some, ne_eq, Option.some.injEq, Prod.mk.injEq, exists_and_left, exists_eq_left', exists_eq_left, List.size_toArray, List.length_cons, List.length_nil, if_true, if_false, exists_eq', exists_const, List.getElem?_cons_zero, List.getElem?_cons_succ, List.map_toArray, List.map_cons, List.map_nil, beq_iff_eq, List.all_cons, List.all_nil, cond_true, List.set_cons_zero, List.set_cons_succ, List.drop_zero, List.drop_succ_cons, List.take_succ_cons, List.take_zero, List.getElem?_toArray, Option.map_none, Option.getD_none, TYA, g1]
      refine ⟨⟨k, rfl, hk, fun _ => h0⟩, ?_, ?_, Src.mono hS1 ?_, by omega, b1⟩
      · repeat first | assumption | exact EXb.refl _ _ | refine EXb.more ?_ _ | refine EXb.put ?_ (by omega) _ | refine EXb.trans ?_ (by assumption) | refine EXb.thn ?_ (by assumption)
      · repeat first | assumption | refine Fr.more ?_ _ | refine Fr.put ?_ _ _
      · repeat first | assumption | exact EXn.refl _ _ | refine EXn.more ?_ _ | refine EXn.put ?_ (by omega) _ | refine EX.trans ?_ (by assumption)
  clear b1 e1 hE1 hS1 f1 n1 hk
  rintro S τ ⟨s0, s1, s4, ⟨k, s5, hk, hk3⟩, hE, hFt, hSt, hx, rb⟩
  -- what a case comes to
  have fin : ∀ (σ2 : St) (d : Value) (φ : As → Bool) (lo hi : Nat), IsD lo hi σ2 d φ → hi ≤ σ2.next → σ.next < lo → Src b σ2 cs → EXb b σ σ2 → Fr σ2 → ∀ ob, Drawn b cs σ d (σ2.put σ.next ob) := by
    intro σ2 d φ lo hi h1 hh h2 h3 h4 h5 ob
    refine ⟨⟨φ, (IsD.weak (h1.un ((UN.refl _ _ _).put (by omega) _)) (by omega)).hi hh⟩, ?_, h4.put (by omega) _, h5⟩
    obtain ⟨o, c, p, q1, q2, q3, q4⟩ := h3
    refine ⟨o, c, p, (row_put_ne (by omega)).trans q1, q2, q3, fun h0 => ?_⟩
    obtain ⟨id, off, row, m, w1, w2, w3, w4⟩ := q4 h0
    exact ⟨id, off, row, m, w1, w2, (row_put_ne (by omega)).trans w3, w4⟩
  obtain hk0 | hk0 : k = 0 ∨ k ≠ 0 := by omega
  · have g0 : ((k : Int) == 0) = true := by simp; omega
    simp only [c_seq, RUNA, Nat.reduceAdd, Nat.reduceMod, Nat.reduceDiv, Nat.reduceSub, Nat.reduceMul, Nat.reduceEqDiff, Nat.reduceBEq, Nat.reduceLeDiff, Int.reduceToNat, fillS, wantG, vBox, Value.cells, one, putAt, Option.getD_some, Option.map_some, Option.bind_some, ne_eq, Option.some.injEq, Prod.mk.injEq, exists_and_left, exists_eq_left', exists_eq_left, List.size_toArray, List.length_cons, List.length_nil, if_true, if_false, exists_eq', exists_const, List.getElem?_cons_zero, List.getElem?_cons_succ, List.map_toArray, List.map_cons, List.map_nil, beq_iff_eq, List.all_cons, List.all_nil, cond_true, List.set_cons_zero, List.set_cons_succ, List.drop_zero, List.drop_succ_cons, List.take_succ_cons, List.take_zero, List.getElem?_toArray, Option.map_none, Option.getD_none, TYA, s0, s1, s4, s5, g0]
    refine wpc_mono (Next_spec (n := 2) (hSt.mono ?_) hc hl (by omega) (by omega)) ?_
    · repeat first | assumption | exact EXn.refl _ _ | refine EXn.more ?_ _ | refine EXn.put ?_ (by omega) _ | refine EX.trans ?_ (by assumption)
    rintro r σ1 ⟨⟨q, rfl, hq⟩, hS1, hE1⟩
    have n1 := hE1.next
    have f1 := hE1.fr (by repeat first | assumption | refine Fr.more ?_ _ | refine Fr.put ?_ _ _)
    simp only [next_more, next_put] at n1
    have r1 : σ1.row σ.next = some ([.slice none 0 0, .int .i64 0], boxMeta) := by rw [hE1.row _ (by first | omega | (simp only [next_more, next_put] at *; omega)) (by omega)]; exact rb
    simp only [c_seq, RUNA, Nat.reduceAdd, Nat.reduceMod, Nat.reduceDiv, Nat.reduceSub, Nat.reduceMul, Nat.reduceEqDiff, Nat.reduceBEq, Nat.reduceLeDiff, Int.reduceToNat, fillS, wantG, vBox, Value.cells, one, putAt, Option.getD_some, Option.map_some, Option.bind_some, ne_eq, Option.some.injEq, Prod.mk.injEq, exists_and_left, exists_eq_left', exists_eq_left, List.size_toArray, List.length_cons, List.length_nil, if_true, if_false, exists_eq', exists_const, List.getElem?_cons_zero, List.getElem?_cons_succ, List.map_toArray, List.map_cons, List.map_nil, beq_iff_eq, List.all_cons, List.all_nil, cond_true, List.set_cons_zero, List.set_cons_succ, List.drop_zero, List.drop_succ_cons, List.take_succ_cons, List.take_zero, List.getElem?_toArray, Option.map_none, Option.getD_none, TYA, s0, s1, s4, s5]
    refine wpc_mono (refConstant_is _ _ f1) ?_
    rintro r σ2 ⟨hD2, hE2⟩
    have n2 := hE2.next
    obtain ⟨o2, k2, c2, i2, rfl⟩ := hD2.open
    have r2 := (hE2.row σ.next (by omega)).trans r1
    simp only [c_seq, RUNA, Nat.reduceAdd, Nat.reduceMod, Nat.reduceDiv, Nat.reduceSub, Nat.reduceMul, Nat.reduceEqDiff, Nat.reduceBEq, Nat.reduceLeDiff, Int.reduceToNat, fillS, wantG, vBox, Value.cells, one, putAt, Option.getD_some, Option.map_some, Option.bind_some, ne_eq, Option.some.injEq, Prod.mk.injEq, exists_and_left, exists_eq_left', exists_eq_left, List.size_toArray, List.length_cons, List.length_nil, if_true, if_false, exists_eq', exists_const, List.getElem?_cons_zero, List.getElem?_cons_succ, List.map_toArray, List.map_cons, List.map_nil, beq_iff_eq, List.all_cons, List.all_nil, cond_true, List.set_cons_zero, List.set_cons_succ, List.drop_zero, List.drop_succ_cons, List.take_succ_cons, List.take_zero, List.getElem?_toArray, Option.map_none, Option.getD_none, TYA, s0, s1, s4, s5, r2, hr]
    refine fin σ2 _ _ _ _ hD2 (Nat.le_refl _) (by omega) (hS1.mono hE2) ?_ (hE2.fr f1) _
    repeat first | assumption | exact EXb.refl _ _ | refine EXb.more ?_ _ | refine EXb.put ?_ (by omega) _ | refine EXb.trans ?_ (by assumption) | refine EXb.thn ?_ (by assumption)
  obtain hk3' | hk3' : k ≤ 3 ∨ 3 < k := by omega
  · have g0 : ((k : Int) == 0) = false := by simp; omega
    have q11 : ¬ σ.next = τ.next + 11 := by omega
    have q13 : ¬ σ.next = τ.next + 13 := by omega
    have q15 : ¬ σ.next = τ.next + 15 := by omega
    obtain hk1 | hk1 | hk1 : k = 1 ∨ k = 2 ∨ k = 3 := by omega
    · skip
      have g1 : ((k : Int) == 1) = true := by simp; omega
      simp only [c_seq, RUNA, Nat.reduceAdd, Nat.reduceMod, Nat.reduceDiv, Nat.reduceSub, Nat.reduceMul, Nat.reduceEqDiff, Nat.reduceBEq, Nat.reduceLeDiff, Int.reduceToNat, fillS, wantG, vBox, Value.cells, one, putAt, Option.getD_some, Option.map_some, Option.bind_some, ne_eq, Option.some.injEq, Prod.mk.injEq, exists_and_left, exists_eq_left', exists_eq_left, List.size_toArray, List.length_cons, List.length_nil, if_true, if_false, exists_eq', exists_const, List.getElem?_cons_zero, List.getElem?_cons_succ, List.map_toArray, List.map_cons, List.map_nil, beq_iff_eq, List.all_cons, List.all_nil, cond_true, List.set_cons_zero, List.set_cons_succ, List.drop_zero, List.drop_succ_cons, List.take_succ_cons, List.take_zero, List.getElem?_toArray, Option.map_none, Option.getD_none, TYA, s0, s1, s4, s5, g0, g1]
      refine wpc_mono (Next_spec (n := 10) (hSt.mono ?_) hc hl (by omega) (by omega)) ?_
      · repeat first | assumption | exact EXn.refl _ _ | refine EXn.more ?_ _ | refine EXn.put ?_ (by omega) _ | refine EX.trans ?_ (by assumption)
      rintro r σ1 ⟨⟨q, rfl, hq⟩, hS1, hE1⟩
      have n1 := hE1.next
      have f1 := hE1.fr (by repeat first | assumption | refine Fr.more ?_ _ | refine Fr.put ?_ _ _)
      simp only [next_more, next_put] at n1
      have r1 : σ1.row σ.next = some ([.slice none 0 0, .int .i64 0], boxMeta) := by rw [hE1.row _ (by first | omega | (simp only [next_more, next_put] at *; omega)) (by omega)]; exact rb
      simp only [c_seq, RUNA, Nat.reduceAdd, Nat.reduceMod, Nat.reduceDiv, Nat.reduceSub, Nat.reduceMul, Nat.reduceEqDiff, Nat.reduceBEq, Nat.reduceLeDiff, Int.reduceToNat, fillS, wantG, vBox, Value.cells, one, putAt, Option.getD_some, Option.map_some, Option.bind_some, ne_eq, Option.some.injEq, Prod.mk.injEq, exists_and_left, exists_eq_left', exists_eq_left, List.size_toArray, List.length_cons, List.length_nil, if_true, if_false, exists_eq', exists_const, List.getElem?_cons_zero, List.getElem?_cons_succ, List.map_toArray, List.map_cons, List.map_nil, beq_iff_eq, List.all_cons, List.all_nil, cond_true, List.set_cons_zero, List.set_cons_succ, List.drop_zero, List.drop_succ_cons, List.take_succ_cons, List.take_zero, List.getElem?_toArray, Option.map_none, Option.getD_none, TYA, s0, s1, s4, s5]
      refine wpc_mono (refVariable_is q hq _ f1) ?_
      rintro r σ2 ⟨d2, rfl, hD2, hE2⟩
      have n2 := hE2.next
      have f2 := hE2.fr f1
      obtain ⟨o2, k2, c2, i2, rfl⟩ := hD2.open
      have r2 := (hE2.row σ.next (by omega)).trans r1
      have hS2 := hS1.mono hE2
      simp only [c_seq, RUNA, Nat.reduceAdd, Nat.reduceMod, Nat.reduceDiv, Nat.reduceSub, Nat.reduceMul, Nat.reduceEqDiff, Nat.reduceBEq, Nat.reduceLeDiff, Int.reduceToNat, fillS, wantG, vBox, Value.cells, one, putAt, Option.getD_some, Option.map_some, Option.bind_some, ne_eq, Option.some.injEq, Prod.mk.injEq, exists_and_left, exists_eq_left', exists_eq_left, List.size_toArray, List.length_cons, List.length_nil, if_true, if_false, exists_eq', exists_const, List.getElem?_cons_zero, List.getElem?_cons_succ, List.map_toArray, List.map_cons, List.map_nil, beq_iff_eq, List.all_cons, List.all_nil, cond_true, List.set_cons_zero, List.set_cons_succ, List.drop_zero, List.drop_succ_cons, List.take_succ_cons, List.take_zero, List.getElem?_toArray, Option.map_none, Option.getD_none, TYA, s0, s1, s4, s5, r2, hr, q11, q13, q15]
      refine fin _ _ _ _ σ2.next (hD2.un ?_) (by first | omega | (simp only [next_more, next_put] at *; omega)) (by omega) (Src.put (Src.put hS2 (by omega)) (by omega) |>.mono ((EX.refl _).more _)) ?_ ?_ _
      · repeat first | assumption | exact UN.refl _ _ _ | refine UN.more ?_ _ | refine UN.put ?_ (by omega) _ | refine UN.ex (by assumption) ?_ (by first | omega | (simp only [next_more, next_put]; omega)) | refine UN.exb (by assumption) ?_ (by first | omega | (simp only [next_more, next_put]; omega)) (by omega)
      · repeat first | assumption | exact EXb.refl _ _ | refine EXb.more ?_ _ | refine EXb.put ?_ (by omega) _ | refine EXb.trans ?_ (by assumption) | refine EXb.thn ?_ (by assumption)
      · repeat first | assumption | refine Fr.more ?_ _ | refine Fr.put ?_ _ _
    · skip
      have g1 : ((k : Int) == 1) = false := by simp; omega
      have g2 : ((k : Int) == 2) = true := by simp; omega
      simp only [c_seq, RUNA, Nat.reduceAdd, Nat.reduceMod, Nat.reduceDiv, Nat.reduceSub, Nat.reduceMul, Nat.reduceEqDiff, Nat.reduceBEq, Nat.reduceLeDiff, Int.reduceToNat, fillS, wantG, vBox, Value.cells, one, putAt, Option.getD_some, Option.map_some, Option.bind_some, ne_eq, Option.some.injEq, Prod.mk.injEq, exists_and_left, exists_eq_left', exists_eq_left, List.size_toArray, List.length_cons, List.length_nil, if_true, if_false, exists_eq', exists_const, List.getElem?_cons_zero, List.getElem?_cons_succ, List.map_toArray, List.map_cons, List.map_nil, beq_iff_eq, List.all_cons, List.all_nil, cond_true, List.set_cons_zero, List.set_cons_succ, List.drop_zero, List.drop_succ_cons, List.take_succ_cons, List.take_zero, List.getElem?_toArray, Option.map_none, Option.getD_none, TYA, s0, s1, s4, s5, g0, g1, g2]
      refine wpc_mono (Next_spec (n := 10) (hSt.mono ?_) hc hl (by omega) (by omega)) ?_
      · repeat first | assumption | exact EXn.refl _ _ | refine EXn.more ?_ _ | refine EXn.put ?_ (by omega) _ | refine EX.trans ?_ (by assumption)
      rintro r σ1 ⟨⟨q, rfl, hq⟩, hS1, hE1⟩
      have n1 := hE1.next
      have f1 := hE1.fr (by repeat first | assumption | refine Fr.more ?_ _ | refine Fr.put ?_ _ _)
      simp only [next_more, next_put] at n1
      have r1 : σ1.row σ.next = some ([.slice none 0 0, .int .i64 0], boxMeta) := by rw [hE1.row _ (by first | omega | (simp only [next_more, next_put] at *; omega)) (by omega)]; exact rb
      simp only [c_seq, RUNA, Nat.reduceAdd, Nat.reduceMod, Nat.reduceDiv, Nat.reduceSub, Nat.reduceMul, Nat.reduceEqDiff, Nat.reduceBEq, Nat.reduceLeDiff, Int.reduceToNat, fillS, wantG, vBox, Value.cells, one, putAt, Option.getD_some, Option.map_some, Option.bind_some, ne_eq, Option.some.injEq, Prod.mk.injEq, exists_and_left, exists_eq_left', exists_eq_left, List.size_toArray, List.length_cons, List.length_nil, if_true, if_false, exists_eq', exists_const, List.getElem?_cons_zero, List.getElem?_cons_succ, List.map_toArray, List.map_cons, List.map_nil, beq_iff_eq, List.all_cons, List.all_nil, cond_true, List.set_cons_zero, List.set_cons_succ, List.drop_zero, List.drop_succ_cons, List.take_succ_cons, List.take_zero, List.getElem?_toArray, Option.map_none, Option.getD_none, TYA, s0, s1, s4, s5]
      refine wpc_mono (refVariable_is q hq _ f1) ?_
      rintro r σ2 ⟨d2, rfl, hD2, hE2⟩
      have n2 := hE2.next
      have f2 := hE2.fr f1
      obtain ⟨o2, k2, c2, i2, rfl⟩ := hD2.open
      have r2 := (hE2.row σ.next (by omega)).trans r1
      have hS2 := hS1.mono hE2
      simp only [c_seq, RUNA, Nat.reduceAdd, Nat.reduceMod, Nat.reduceDiv, Nat.reduceSub, Nat.reduceMul, Nat.reduceEqDiff, Nat.reduceBEq, Nat.reduceLeDiff, Int.reduceToNat, fillS, wantG, vBox, Value.cells, one, putAt, Option.getD_some, Option.map_some, Option.bind_some, ne_eq, Option.some.injEq, Prod.mk.injEq, exists_and_left, exists_eq_left', exists_eq_left, List.size_toArray, List.length_cons, List.length_nil, if_true, if_false, exists_eq', exists_const, List.getElem?_cons_zero, List.getElem?_cons_succ, List.map_toArray, List.map_cons, List.map_nil, beq_iff_eq, List.all_cons, List.all_nil, cond_true, List.set_cons_zero, List.set_cons_succ, List.drop_zero, List.drop_succ_cons, List.take_succ_cons, List.take_zero, List.getElem?_toArray, Option.map_none, Option.getD_none, TYA, s0, s1, s4, s5, r2, hr, q11, q13, q15]
      refine fin _ _ _ _ σ2.next (hD2.un ?_) (by first | omega | (simp only [next_more, next_put] at *; omega)) (by omega) (Src.put (Src.put hS2 (by omega)) (by omega) |>.mono ((EX.refl _).more _)) ?_ ?_ _
      · repeat first | assumption | exact UN.refl _ _ _ | refine UN.more ?_ _ | refine UN.put ?_ (by omega) _ | refine UN.ex (by assumption) ?_ (by first | omega | (simp only [next_more, next_put]; omega)) | refine UN.exb (by assumption) ?_ (by first | omega | (simp only [next_more, next_put]; omega)) (by omega)
      · repeat first | assumption | exact EXb.refl _ _ | refine EXb.more ?_ _ | refine EXb.put ?_ (by omega) _ | refine EXb.trans ?_ (by assumption) | refine EXb.thn ?_ (by assumption)
      · repeat first | assumption | refine Fr.more ?_ _ | refine Fr.put ?_ _ _
    · skip
      have g1 : ((k : Int) == 1) = false := by simp; omega
      have g2 : ((k : Int) == 2) = false := by simp; omega
      have g3 : ((k : Int) == 3) = true := by simp; omega
      simp only [c_seq, RUNA, Nat.reduceAdd, Nat.reduceMod, Nat.reduceDiv, Nat.reduceSub, Nat.reduceMul, Nat.reduceEqDiff, Nat.reduceBEq, Nat.reduceLeDiff, Int.reduceToNat, fillS, wantG, vBox, Value.cells, one, putAt, Option.getD_some, Option.map_some, Option.bind_some, ne_eq, Option.some.injEq, Prod.mk.injEq, exists_and_left, exists_eq_left', exists_eq_left, List.size_toArray, List.length_cons, List.length_nil, if_true, if_false, exists_eq', exists_const, List.getElem?_cons_zero, List.getElem?_cons_succ, List.map_toArray, List.map_cons, List.map_nil, beq_iff_eq, List.all_cons, List.all_nil, cond_true, List.set_cons_zero, List.set_cons_succ, List.drop_zero, List.drop_succ_cons, List.take_succ_cons, List.take_zero, List.getElem?_toArray, Option.map_none, Option.getD_none, TYA, s0, s1, s4, s5, g0, g1, g2, g3]
      refine wpc_mono (Next_spec (n := 10) (hSt.mono ?_) hc hl (by omega) (by omega)) ?_
      · repeat first | assumption | exact EXn.refl _ _ | refine EXn.more ?_ _ | refine EXn.put ?_ (by omega) _ | refine EX.trans ?_ (by assumption)
      rintro r σ1 ⟨⟨q, rfl, hq⟩, hS1, hE1⟩
      have n1 := hE1.next
      have f1 := hE1.fr (by repeat first | assumption | refine Fr.more ?_ _ | refine Fr.put ?_ _ _)
      simp only [next_more, next_put] at n1
      have r1 : σ1.row σ.next = some ([.slice none 0 0, .int .i64 0], boxMeta) := by rw [hE1.row _ (by first | omega | (simp only [next_more, next_put] at *; omega)) (by omega)]; exact rb
      simp only [c_seq, RUNA, Nat.reduceAdd, Nat.reduceMod, Nat.reduceDiv, Nat.reduceSub, Nat.reduceMul, Nat.reduceEqDiff, Nat.reduceBEq, Nat.reduceLeDiff, Int.reduceToNat, fillS, wantG, vBox, Value.cells, one, putAt, Option.getD_some, Option.map_some, Option.bind_some, ne_eq, Option.some.injEq, Prod.mk.injEq, exists_and_left, exists_eq_left', exists_eq_left, List.size_toArray, List.length_cons, List.length_nil, if_true, if_false, exists_eq', exists_const, List.getElem?_cons_zero, List.getElem?_cons_succ, List.map_toArray, List.map_cons, List.map_nil, beq_iff_eq, List.all_cons, List.all_nil, cond_true, List.set_cons_zero, List.set_cons_succ, List.drop_zero, List.drop_succ_cons, List.take_succ_cons, List.take_zero, List.getElem?_toArray, Option.map_none, Option.getD_none, TYA, s0, s1, s4, s5]
      refine wpc_mono (refVariable_is q hq _ f1) ?_
      rintro r σ2 ⟨d2, rfl, hD2, hE2⟩
      have n2 := hE2.next
      have f2 := hE2.fr f1
      obtain ⟨o2, k2, c2, i2, rfl⟩ := hD2.open
      have r2 := (hE2.row σ.next (by omega)).trans r1
      have hS2 := hS1.mono hE2
      simp only [c_seq, RUNA, Nat.reduceAdd, Nat.reduceMod, Nat.reduceDiv, Nat.reduceSub, Nat.reduceMul, Nat.reduceEqDiff, Nat.reduceBEq, Nat.reduceLeDiff, Int.reduceToNat, fillS, wantG, vBox, Value.cells, one, putAt, Option.getD_some, Option.map_some, Option.bind_some, ne_eq, Option.some.injEq, Prod.mk.injEq, exists_and_left, exists_eq_left', exists_eq_left, List.size_toArray, List.length_cons, List.length_nil, if_true, if_false, exists_eq', exists_const, List.getElem?_cons_zero, List.getElem?_cons_succ, List.map_toArray, List.map_cons, List.map_nil, beq_iff_eq, List.all_cons, List.all_nil, cond_true, List.set_cons_zero, List.set_cons_succ, List.drop_zero, List.drop_succ_cons, List.take_succ_cons, List.take_zero, List.getElem?_toArray, Option.map_none, Option.getD_none, TYA, s0, s1, s4, s5, r2, hr, q11, q13, q15]
      refine fin _ _ _ _ σ2.next (hD2.un ?_) (by first | omega | (simp only [next_more, next_put] at *; omega)) (by omega) (Src.put (Src.put hS2 (by omega)) (by omega) |>.mono ((EX.refl _).more _)) ?_ ?_ _
      · repeat first | assumption | exact UN.refl _ _ _ | refine UN.more ?_ _ | refine UN.put ?_ (by omega) _ | refine UN.ex (by assumption) ?_ (by first | omega | (simp only [next_more, next_put]; omega)) | refine UN.exb (by assumption) ?_ (by first | omega | (simp only [next_more, next_put]; omega)) (by omega)
      · repeat first | assumption | exact EXb.refl _ _ | refine EXb.more ?_ _ | refine EXb.put ?_ (by omega) _ | refine EXb.trans ?_ (by assumption) | refine EXb.thn ?_ (by assumption)
      · repeat first | assumption | refine Fr.more ?_ _ | refine Fr.put ?_ _ _
  have hw : IntKind.i64.wrap ((n : Int) - 1) = ((n - 1 : Nat) : Int) := by rw [wrap64 (by omega) (by omega)]; omega
  have ih' := ih (n - 1) (by omega)
  obtain hk1 | hk1 | hk1 | hk1 : k = 4 ∨ k = 5 ∨ k = 6 ∨ k = 7 := by omega
  · skip
    have g0 : ((k : Int) == 0) = false := by simp; omega
    have g1 : ((k : Int) == 1) = false := by simp; omega
    have g2 : ((k : Int) == 2) = false := by simp; omega
    have g3 : ((k : Int) == 3) = false := by simp; omega
    have g4 : ((k : Int) == 4) = true := by simp; omega
    simp only [c_seq, RUNA, Nat.reduceAdd, Nat.reduceMod, Nat.reduceDiv, Nat.reduceSub, Nat.reduceMul, Nat.reduceEqDiff, Nat.reduceBEq, Nat.reduceLeDiff, Int.reduceToNat, fillS, wantG, vBox, Value.cells, one, putAt, Option.getD_some, Option.map_some, Option.bind_some, ne_eq, Option.some.injEq, Prod.mk.injEq, exists_and_left, exists_eq_left', exists_eq_left, List.size_toArray, List.length_cons, List.length_nil, if_true, if_false, exists_eq', exists_const, List.getElem?_cons_zero, List.getElem?_cons_succ, List.map_toArray, List.map_cons, List.map_nil, beq_iff_eq, List.all_cons, List.all_nil, cond_true, List.set_cons_zero, List.set_cons_succ, List.drop_zero, List.drop_succ_cons, List.take_succ_cons, List.take_zero, List.getElem?_toArray, Option.map_none, Option.getD_none, TYA, s0, s1, s4, s5, g0, g1, g2, g3, g4, hw]
    refine wpc_mono (ih' _ (Src.mono hSt ?_) ?_) ?_
    · repeat first | assumption | exact EXn.refl _ _ | refine EXn.more ?_ _ | refine EXn.put ?_ (by omega) _ | refine EX.trans ?_ (by assumption)
    · repeat first | assumption | refine Fr.more ?_ _ | refine Fr.put ?_ _ _
    rintro r σ1 ⟨⟨φ1, hD1⟩, hS1, hE1, hF1⟩
    have n1 := hE1.next
    try simp only [next_more, next_put] at n1 hD1
    obtain ⟨o1, k1, c1, i1, rfl⟩ := hD1.open
    have r1 : σ1.row σ.next = some ([.slice none 0 0, .int .i64 0], boxMeta) := by rw [hE1.row _ (by first | omega | (simp only [next_more, next_put] at *; omega)) (by omega)]; exact rb
    simp only [c_seq, RUNA, Nat.reduceAdd, Nat.reduceMod, Nat.reduceDiv, Nat.reduceSub, Nat.reduceMul, Nat.reduceEqDiff, Nat.reduceBEq, Nat.reduceLeDiff, Int.reduceToNat, fillS, wantG, vBox, Value.cells, one, putAt, Option.getD_some, Option.map_some, Option.bind_some, ne_eq, Option.some.injEq, Prod.mk.injEq, exists_and_left, exists_eq_left', exists_eq_left, List.size_toArray, List.length_cons, List.length_nil, if_true, if_false, exists_eq', exists_const, List.getElem?_cons_zero, List.getElem?_cons_succ, List.map_toArray, List.map_cons, List.map_nil, beq_iff_eq, List.all_cons, List.all_nil, cond_true, List.set_cons_zero, List.set_cons_succ, List.drop_zero, List.drop_succ_cons, List.take_succ_cons, List.take_zero, List.getElem?_toArray, Option.map_none, Option.getD_none, TYA, s0, s1, s4, s5, hw]
    refine wpc_mono (ih' _ (Src.mono hS1 ?_) ?_) ?_
    · repeat first | assumption | exact EXn.refl _ _ | refine EXn.more ?_ _ | refine EXn.put ?_ (by omega) _ | refine EX.trans ?_ (by assumption)
    · repeat first | assumption | refine Fr.more ?_ _ | refine Fr.put ?_ _ _
    rintro r σ2 ⟨⟨φ2, hD2⟩, hS2, hE2, hF2⟩
    have n2 := hE2.next
    try simp only [next_more, next_put] at n2 hD2
    obtain ⟨o2, k2, c2, i2, rfl⟩ := hD2.open
    have r2 : σ2.row σ.next = some ([.slice none 0 0, .int .i64 0], boxMeta) := by rw [hE2.row _ (by first | omega | (simp only [next_more, next_put] at *; omega)) (by omega)]; exact r1
    simp only [c_seq, RUNA, Nat.reduceAdd, Nat.reduceMod, Nat.reduceDiv, Nat.reduceSub, Nat.reduceMul, Nat.reduceEqDiff, Nat.reduceBEq, Nat.reduceLeDiff, Int.reduceToNat, fillS, wantG, vBox, Value.cells, one, putAt, Option.getD_some, Option.map_some, Option.bind_some, ne_eq, Option.some.injEq, Prod.mk.injEq, exists_and_left, exists_eq_left', exists_eq_left, List.size_toArray, List.length_cons, List.length_nil, if_true, if_false, exists_eq', exists_const, List.getElem?_cons_zero, List.getElem?_cons_succ, List.map_toArray, List.map_cons, List.map_nil, beq_iff_eq, List.all_cons, List.all_nil, cond_true, List.set_cons_zero, List.set_cons_succ, List.drop_zero, List.drop_succ_cons, List.take_succ_cons, List.take_zero, List.getElem?_toArray, Option.map_none, Option.getD_none, TYA, s0, s1, s4, s5, hw]
    refine wpc_mono (ih' _ (Src.mono hS2 ?_) ?_) ?_
    · repeat first | assumption | exact EXn.refl _ _ | refine EXn.more ?_ _ | refine EXn.put ?_ (by omega) _ | refine EX.trans ?_ (by assumption)
    · repeat first | assumption | refine Fr.more ?_ _ | refine Fr.put ?_ _ _
    rintro r σ3 ⟨⟨φ3, hD3⟩, hS3, hE3, hF3⟩
    have n3 := hE3.next
    try simp only [next_more, next_put] at n3 hD3
    obtain ⟨o3, k3, c3, i3, rfl⟩ := hD3.open
    have r3 : σ3.row σ.next = some ([.slice none 0 0, .int .i64 0], boxMeta) := by rw [hE3.row _ (by first | omega | (simp only [next_more, next_put] at *; omega)) (by omega)]; exact r2
    simp only [c_seq, RUNA, Nat.reduceAdd, Nat.reduceMod, Nat.reduceDiv, Nat.reduceSub, Nat.reduceMul, Nat.reduceEqDiff, Nat.reduceBEq, Nat.reduceLeDiff, Int.reduceToNat, fillS, wantG, vBox, Value.cells, one, putAt, Option.getD_some, Option.map_some, Option.bind_some, ne_eq, Option.some.injEq, Prod.mk.injEq, exists_and_left, exists_eq_left', exists_eq_left, List.size_toArray, List.length_cons, List.length_nil, if_true, if_false, exists_eq', exists_const, List.getElem?_cons_zero, List.getElem?_cons_succ, List.map_toArray, List.map_cons, List.map_nil, beq_iff_eq, List.all_cons, List.all_nil, cond_true, List.set_cons_zero, List.set_cons_succ, List.drop_zero, List.drop_succ_cons, List.take_succ_cons, List.take_zero, List.getElem?_toArray, Option.map_none, Option.getD_none, TYA, s0, s1, s4, s5, hw]
    refine wpc_mono (refIte_spec (IsD.hi (IsD.weak (hD1.un ?_) (Nat.zero_le _)) ?_) (IsD.hi (IsD.weak (hD2.un ?_) (Nat.zero_le _)) ?_) (IsD.weak hD3 (Nat.zero_le _)) hF3) ?_
    · repeat first | assumption | exact UN.refl _ _ _ | refine UN.more ?_ _ | refine UN.put ?_ (by omega) _ | refine UN.ex (by assumption) ?_ (by first | omega | (simp only [next_more, next_put]; omega)) | refine UN.exb (by assumption) ?_ (by first | omega | (simp only [next_more, next_put]; omega)) (by omega)
    · omega
    · repeat first | assumption | exact UN.refl _ _ _ | refine UN.more ?_ _ | refine UN.put ?_ (by omega) _ | refine UN.ex (by assumption) ?_ (by first | omega | (simp only [next_more, next_put]; omega)) | refine UN.exb (by assumption) ?_ (by first | omega | (simp only [next_more, next_put]; omega)) (by omega)
    · omega
    rintro r σ4 ⟨hD4, hE4⟩
    have n4 := hE4.next
    obtain ⟨o4, k4, c4, i4, rfl⟩ := hD4.open
    have r4 := (hE4.row σ.next (by omega)).trans r3
    simp only [c_seq, RUNA, Nat.reduceAdd, Nat.reduceMod, Nat.reduceDiv, Nat.reduceSub, Nat.reduceMul, Nat.reduceEqDiff, Nat.reduceBEq, Nat.reduceLeDiff, Int.reduceToNat, fillS, wantG, vBox, Value.cells, one, putAt, Option.getD_some, Option.map_some, Option.bind_some, ne_eq, Option.some.injEq, Prod.mk.injEq, exists_and_left, exists_eq_left', exists_eq_left, List.size_toArray, List.length_cons, List.length_nil, if_true, if_false, exists_eq', exists_const, List.getElem?_cons_zero, List.getElem?_cons_succ, List.map_toArray, List.map_cons, List.map_nil, beq_iff_eq, List.all_cons, List.all_nil, cond_true, List.set_cons_zero, List.set_cons_succ, List.drop_zero, List.drop_succ_cons, List.take_succ_cons, List.take_zero, List.getElem?_toArray, Option.map_none, Option.getD_none, TYA, s0, s1, s4, s5, r4, hr]
    refine fin σ4 _ _ _ _ hD4 (Nat.le_refl _) (by omega) (hS3.mono hE4) ?_ (hE4.fr hF3) _
    repeat first | assumption | exact EXb.refl _ _ | refine EXb.more ?_ _ | refine EXb.put ?_ (by omega) _ | refine EXb.trans ?_ (by assumption) | refine EXb.thn ?_ (by assumption)
  · skip
    have g0 : ((k : Int) == 0) = false := by simp; omega
    have g1 : ((k : Int) == 1) = false := by simp; omega
    have g2 : ((k : Int) == 2) = false := by simp; omega
    have g3 : ((k : Int) == 3) = false := by simp; omega
    have g4 : ((k : Int) == 4) = false := by simp; omega
    have g5 : ((k : Int) == 5) = true := by simp; omega
    simp only [c_seq, RUNA, Nat.reduceAdd, Nat.reduceMod, Nat.reduceDiv, Nat.reduceSub, Nat.reduceMul, Nat.reduceEqDiff, Nat.reduceBEq, Nat.reduceLeDiff, Int.reduceToNat, fillS, wantG, vBox, Value.cells, one, putAt, Option.getD_some, Option.map_some, Option.bind_some, ne_eq, Option.some.injEq, Prod.mk.injEq, exists_and_left, exists_eq_left', exists_eq_left, List.size_toArray, List.length_cons, List.length_nil, if_true, if_false, exists_eq', exists_const, List.getElem?_cons_zero, List.getElem?_cons_succ, List.map_toArray, List.map_cons, List.map_nil, beq_iff_eq, List.all_cons, List.all_nil, cond_true, List.set_cons_zero, List.set_cons_succ, List.drop_zero, List.drop_succ_cons, List.take_succ_cons, List.take_zero, List.getElem?_toArray, Option.map_none, Option.getD_none, TYA, s0, s1, s4, s5, g0, g1, g2, g3, g4, g5, hw]
    refine wpc_mono (ih' _ (Src.mono hSt ?_) ?_) ?_
    · repeat first | assumption | exact EXn.refl _ _ | refine EXn.more ?_ _ | refine EXn.put ?_ (by omega) _ | refine EX.trans ?_ (by assumption)
    · repeat first | assumption | refine Fr.more ?_ _ | refine Fr.put ?_ _ _
    rintro r σ1 ⟨⟨φ1, hD1⟩, hS1, hE1, hF1⟩
    have n1 := hE1.next
    try simp only [next_more, next_put] at n1 hD1
    obtain ⟨o1, k1, c1, i1, rfl⟩ := hD1.open
    have r1 : σ1.row σ.next = some ([.slice none 0 0, .int .i64 0], boxMeta) := by rw [hE1.row _ (by first | omega | (simp only [next_more, next_put] at *; omega)) (by omega)]; exact rb
    simp only [c_seq, RUNA, Nat.reduceAdd, Nat.reduceMod, Nat.reduceDiv, Nat.reduceSub, Nat.reduceMul, Nat.reduceEqDiff, Nat.reduceBEq, Nat.reduceLeDiff, Int.reduceToNat, fillS, wantG, vBox, Value.cells, one, putAt, Option.getD_some, Option.map_some, Option.bind_some, ne_eq, Option.some.injEq, Prod.mk.injEq, exists_and_left, exists_eq_left', exists_eq_left, List.size_toArray, List.length_cons, List.length_nil, if_true, if_false, exists_eq', exists_const, List.getElem?_cons_zero, List.getElem?_cons_succ, List.map_toArray, List.map_cons, List.map_nil, beq_iff_eq, List.all_cons, List.all_nil, cond_true, List.set_cons_zero, List.set_cons_succ, List.drop_zero, List.drop_succ_cons, List.take_succ_cons, List.take_zero, List.getElem?_toArray, Option.map_none, Option.getD_none, TYA, s0, s1, s4, s5, hw]
    refine wpc_mono (refNot_spec hD1 (Nat.le_refl _) hF1) ?_
    rintro r σ4 ⟨hD4, hE4⟩
    have n4 := hE4.next
    obtain ⟨o4, k4, c4, i4, rfl⟩ := hD4.open
    have r4 := (hE4.row σ.next (by omega)).trans r1
    simp only [c_seq, RUNA, Nat.reduceAdd, Nat.reduceMod, Nat.reduceDiv, Nat.reduceSub, Nat.reduceMul, Nat.reduceEqDiff, Nat.reduceBEq, Nat.reduceLeDiff, Int.reduceToNat, fillS, wantG, vBox, Value.cells, one, putAt, Option.getD_some, Option.map_some, Option.bind_some, ne_eq, Option.some.injEq, Prod.mk.injEq, exists_and_left, exists_eq_left', exists_eq_left, List.size_toArray, List.length_cons, List.length_nil, if_true, if_false, exists_eq', exists_const, List.getElem?_cons_zero, List.getElem?_cons_succ, List.map_toArray, List.map_cons, List.map_nil, beq_iff_eq, List.all_cons, List.all_nil, cond_true, List.set_cons_zero, List.set_cons_succ, List.drop_zero, List.drop_succ_cons, List.take_succ_cons, List.take_zero, List.getElem?_toArray, Option.map_none, Option.getD_none, TYA, s0, s1, s4, s5, r4, hr]
    refine fin σ4 _ _ _ _ hD4 (Nat.le_refl _) (by omega) (hS1.mono hE4) ?_ (hE4.fr hF1) _
    repeat first | assumption | exact EXb.refl _ _ | refine EXb.more ?_ _ | refine EXb.put ?_ (by omega) _ | refine EXb.trans ?_ (by assumption) | refine EXb.thn ?_ (by assumption)
  · skip
    have g0 : ((k : Int) == 0) = false := by simp; omega
    have g1 : ((k : Int) == 1) = false := by simp; omega
    have g2 : ((k : Int) == 2) = false := by simp; omega
    have g3 : ((k : Int) == 3) = false := by simp; omega
    have g4 : ((k : Int) == 4) = false := by simp; omega
    have g5 : ((k : Int) == 5) = false := by simp; omega
    have g6 : ((k : Int) == 6) = true := by simp; omega
    simp only [c_seq, RUNA, Nat.reduceAdd, Nat.reduceMod, Nat.reduceDiv, Nat.reduceSub, Nat.reduceMul, Nat.reduceEqDiff, Nat.reduceBEq, Nat.reduceLeDiff, Int.reduceToNat, fillS, wantG, vBox, Value.cells, one, putAt, Option.getD_some, Option.map_some, Option.bind_some, ne_eq, Option.some.injEq, Prod.mk.injEq, exists_and_left, exists_eq_left', exists_eq_left, List.size_toArray, List.length_cons, List.length_nil, if_true, if_false, exists_eq', exists_const, List.getElem?_cons_zero, List.getElem?_cons_succ, List.map_toArray, List.map_cons, List.map_nil, beq_iff_eq, List.all_cons, List.all_nil, cond_true, List.set_cons_zero, List.set_cons_succ, List.drop_zero, List.drop_succ_cons, List.take_succ_cons, List.take_zero, List.getElem?_toArray, Option.map_none, Option.getD_none, TYA, s0, s1, s4, s5, g0, g1, g2, g3, g4, g5, g6, hw]
    refine wpc_mono (ih' _ (Src.mono hSt ?_) ?_) ?_
    · repeat first | assumption | exact EXn.refl _ _ | refine EXn.more ?_ _ | refine EXn.put ?_ (by omega) _ | refine EX.trans ?_ (by assumption)
    · repeat first | assumption | refine Fr.more ?_ _ | refine Fr.put ?_ _ _
    rintro r σ1 ⟨⟨φ1, hD1⟩, hS1, hE1, hF1⟩
    have n1 := hE1.next
    try simp only [next_more, next_put] at n1 hD1
    obtain ⟨o1, k1, c1, i1, rfl⟩ := hD1.open
    have r1 : σ1.row σ.next = some ([.slice none 0 0, .int .i64 0], boxMeta) := by rw [hE1.row _ (by first | omega | (simp only [next_more, next_put] at *; omega)) (by omega)]; exact rb
    simp only [c_seq, RUNA, Nat.reduceAdd, Nat.reduceMod, Nat.reduceDiv, Nat.reduceSub, Nat.reduceMul, Nat.reduceEqDiff, Nat.reduceBEq, Nat.reduceLeDiff, Int.reduceToNat, fillS, wantG, vBox, Value.cells, one, putAt, Option.getD_some, Option.map_some, Option.bind_some, ne_eq, Option.some.injEq, Prod.mk.injEq, exists_and_left, exists_eq_left', exists_eq_left, List.size_toArray, List.length_cons, List.length_nil, if_true, if_false, exists_eq', exists_const, List.getElem?_cons_zero, List.getElem?_cons_succ, List.map_toArray, List.map_cons, List.map_nil, beq_iff_eq, List.all_cons, List.all_nil, cond_true, List.set_cons_zero, List.set_cons_succ, List.drop_zero, List.drop_succ_cons, List.take_succ_cons, List.take_zero, List.getElem?_toArray, Option.map_none, Option.getD_none, TYA, s0, s1, s4, s5, hw]
    refine wpc_mono (ih' _ (Src.mono hS1 ?_) ?_) ?_
    · repeat first | assumption | exact EXn.refl _ _ | refine EXn.more ?_ _ | refine EXn.put ?_ (by omega) _ | refine EX.trans ?_ (by assumption)
    · repeat first | assumption | refine Fr.more ?_ _ | refine Fr.put ?_ _ _
    rintro r σ2 ⟨⟨φ2, hD2⟩, hS2, hE2, hF2⟩
    have n2 := hE2.next
    try simp only [next_more, next_put] at n2 hD2
    obtain ⟨o2, k2, c2, i2, rfl⟩ := hD2.open
    have r2 : σ2.row σ.next = some ([.slice none 0 0, .int .i64 0], boxMeta) := by rw [hE2.row _ (by first | omega | (simp only [next_more, next_put] at *; omega)) (by omega)]; exact r1
    simp only [c_seq, RUNA, Nat.reduceAdd, Nat.reduceMod, Nat.reduceDiv, Nat.reduceSub, Nat.reduceMul, Nat.reduceEqDiff, Nat.reduceBEq, Nat.reduceLeDiff, Int.reduceToNat, fillS, wantG, vBox, Value.cells, one, putAt, Option.getD_some, Option.map_some, Option.bind_some, ne_eq, Option.some.injEq, Prod.mk.injEq, exists_and_left, exists_eq_left', exists_eq_left, List.size_toArray, List.length_cons, List.length_nil, if_true, if_false, exists_eq', exists_const, List.getElem?_cons_zero, List.getElem?_cons_succ, List.map_toArray, List.map_cons, List.map_nil, beq_iff_eq, List.all_cons, List.all_nil, cond_true, List.set_cons_zero, List.set_cons_succ, List.drop_zero, List.drop_succ_cons, List.take_succ_cons, List.take_zero, List.getElem?_toArray, Option.map_none, Option.getD_none, TYA, s0, s1, s4, s5, hw, bs68_2]
    refine wpc_mono (refAnd_spec (φs := [φ1, φ2]) (DL2 (m := rowMeta 2) (id := τ.next + 23) ?_ ?_ (IsD.hi (IsD.weak (hD1.un ?_) (Nat.zero_le _)) ?_) (IsD.hi (IsD.weak (hD2.un ?_) (Nat.zero_le _)) ?_)) (by simp) hF2) ?_
    · first | omega | (simp only [next_more, next_put] at *; omega)
    · simp only [c_seq, RUNA, Nat.reduceAdd, Nat.reduceMod, Nat.reduceDiv, Nat.reduceSub, Nat.reduceMul, Nat.reduceEqDiff, Nat.reduceBEq, Nat.reduceLeDiff, Int.reduceToNat, fillS, wantG, vBox, Value.cells, one, putAt, Option.getD_some, Option.map_some, Option.bind_some, ne_eq, Option.some.injEq, Prod.mk.injEq, exists_and_left, exists_eq_left', exists_eq_left, List.size_toArray, List.length_cons, List.length_nil, if_true, if_false, exists_eq', exists_const, List.getElem?_cons_zero, List.getElem?_cons_succ, List.map_toArray, List.map_cons, List.map_nil, beq_iff_eq, List.all_cons, List.all_nil, cond_true, List.set_cons_zero, List.set_cons_succ, List.drop_zero, List.drop_succ_cons, List.take_succ_cons, List.take_zero, List.getElem?_toArray, Option.map_none, Option.getD_none]
    · repeat first | assumption | exact UN.refl _ _ _ | refine UN.more ?_ _ | refine UN.put ?_ (by omega) _ | refine UN.ex (by assumption) ?_ (by first | omega | (simp only [next_more, next_put]; omega)) | refine UN.exb (by assumption) ?_ (by first | omega | (simp only [next_more, next_put]; omega)) (by omega)
    · first | omega | (simp only [next_more, next_put] at *; omega)
    · repeat first | assumption | exact UN.refl _ _ _ | refine UN.more ?_ _ | refine UN.put ?_ (by omega) _ | refine UN.ex (by assumption) ?_ (by first | omega | (simp only [next_more, next_put]; omega)) | refine UN.exb (by assumption) ?_ (by first | omega | (simp only [next_more, next_put]; omega)) (by omega)
    · first | omega | (simp only [next_more, next_put] at *; omega)
    rintro r σ4 ⟨hD4, hE4⟩
    have n4 := hE4.next
    simp only [next_put] at n4 hD4
    obtain ⟨o4, k4, c4, i4, rfl⟩ := hD4.open
    have r4 : σ4.row σ.next = some ([.slice none 0 0, .int .i64 0], boxMeta) := by rw [hE4.row σ.next (by first | omega | (simp only [next_more, next_put] at *; omega)), row_put_ne (by omega)]; exact r2
    simp only [c_seq, RUNA, Nat.reduceAdd, Nat.reduceMod, Nat.reduceDiv, Nat.reduceSub, Nat.reduceMul, Nat.reduceEqDiff, Nat.reduceBEq, Nat.reduceLeDiff, Int.reduceToNat, fillS, wantG, vBox, Value.cells, one, putAt, Option.getD_some, Option.map_some, Option.bind_some, ne_eq, Option.some.injEq, Prod.mk.injEq, exists_and_left, exists_eq_left', exists_eq_left, List.size_toArray, List.length_cons, List.length_nil, if_true, if_false, exists_eq', exists_const, List.getElem?_cons_zero, List.getElem?_cons_succ, List.map_toArray, List.map_cons, List.map_nil, beq_iff_eq, List.all_cons, List.all_nil, cond_true, List.set_cons_zero, List.set_cons_succ, List.drop_zero, List.drop_succ_cons, List.take_succ_cons, List.take_zero, List.getElem?_toArray, Option.map_none, Option.getD_none, TYA, s0, s1, s4, s5, r4, hr]
    refine fin σ4 _ _ _ _ hD4 (Nat.le_refl _) (by omega) ((hS2.put (by omega)).mono hE4) ?_ (hE4.fr (by repeat first | assumption | refine Fr.more ?_ _ | refine Fr.put ?_ _ _)) _
    repeat first | assumption | exact EXb.refl _ _ | refine EXb.more ?_ _ | refine EXb.put ?_ (by omega) _ | refine EXb.trans ?_ (by assumption) | refine EXb.thn ?_ (by assumption)
  · skip
    have g0 : ((k : Int) == 0) = false := by simp; omega
    have g1 : ((k : Int) == 1) = false := by simp; omega
    have g2 : ((k : Int) == 2) = false := by simp; omega
    have g3 : ((k : Int) == 3) = false := by simp; omega
    have g4 : ((k : Int) == 4) = false := by simp; omega
    have g5 : ((k : Int) == 5) = false := by simp; omega
    have g6 : ((k : Int) == 6) = false := by simp; omega
    simp only [c_seq, RUNA, Nat.reduceAdd, Nat.reduceMod, Nat.reduceDiv, Nat.reduceSub, Nat.reduceMul, Nat.reduceEqDiff, Nat.reduceBEq, Nat.reduceLeDiff, Int.reduceToNat, fillS, wantG, vBox, Value.cells, one, putAt, Option.getD_some, Option.map_some, Option.bind_some, ne_eq, Option.some.injEq, Prod.mk.injEq, exists_and_left, exists_eq_left', exists_eq_left, List.size_toArray, List.length_cons, List.length_nil, if_true, if_false, exists_eq', exists_const, List.getElem?_cons_zero, List.getElem?_cons_succ, List.map_toArray, List.map_cons, List.map_nil, beq_iff_eq, List.all_cons, List.all_nil, cond_true, List.set_cons_zero, List.set_cons_succ, List.drop_zero, List.drop_succ_cons, List.take_succ_cons, List.take_zero, List.getElem?_toArray, Option.map_none, Option.getD_none, TYA, s0, s1, s4, s5, g0, g1, g2, g3, g4, g5, g6, hw]
    refine wpc_mono (ih' _ (Src.mono hSt ?_) ?_) ?_
    · repeat first | assumption | exact EXn.refl _ _ | refine EXn.more ?_ _ | refine EXn.put ?_ (by omega) _ | refine EX.trans ?_ (by assumption)
    · repeat first | assumption | refine Fr.more ?_ _ | refine Fr.put ?_ _ _
    rintro r σ1 ⟨⟨φ1, hD1⟩, hS1, hE1, hF1⟩
    have n1 := hE1.next
    try simp only [next_more, next_put] at n1 hD1
    obtain ⟨o1, k1, c1, i1, rfl⟩ := hD1.open
    have r1 : σ1.row σ.next = some ([.slice none 0 0, .int .i64 0], boxMeta) := by rw [hE1.row _ (by first | omega | (simp only [next_more, next_put] at *; omega)) (by omega)]; exact rb
    simp only [c_seq, RUNA, Nat.reduceAdd, Nat.reduceMod, Nat.reduceDiv, Nat.reduceSub, Nat.reduceMul, Nat.reduceEqDiff, Nat.reduceBEq, Nat.reduceLeDiff, Int.reduceToNat, fillS, wantG, vBox, Value.cells, one, putAt, Option.getD_some, Option.map_some, Option.bind_some, ne_eq, Option.some.injEq, Prod.mk.injEq, exists_and_left, exists_eq_left', exists_eq_left, List.size_toArray, List.length_cons, List.length_nil, if_true, if_false, exists_eq', exists_const, List.getElem?_cons_zero, List.getElem?_cons_succ, List.map_toArray, List.map_cons, List.map_nil, beq_iff_eq, List.all_cons, List.all_nil, cond_true, List.set_cons_zero, List.set_cons_succ, List.drop_zero, List.drop_succ_cons, List.take_succ_cons, List.take_zero, List.getElem?_toArray, Option.map_none, Option.getD_none, TYA, s0, s1, s4, s5, hw]
    refine wpc_mono (ih' _ (Src.mono hS1 ?_) ?_) ?_
    · repeat first | assumption | exact EXn.refl _ _ | refine EXn.more ?_ _ | refine EXn.put ?_ (by omega) _ | refine EX.trans ?_ (by assumption)
    · repeat first | assumption | refine Fr.more ?_ _ | refine Fr.put ?_ _ _
    rintro r σ2 ⟨⟨φ2, hD2⟩, hS2, hE2, hF2⟩
    have n2 := hE2.next
    try simp only [next_more, next_put] at n2 hD2
    obtain ⟨o2, k2, c2, i2, rfl⟩ := hD2.open
    have r2 : σ2.row σ.next = some ([.slice none 0 0, .int .i64 0], boxMeta) := by rw [hE2.row _ (by first | omega | (simp only [next_more, next_put] at *; omega)) (by omega)]; exact r1
    simp only [c_seq, RUNA, Nat.reduceAdd, Nat.reduceMod, Nat.reduceDiv, Nat.reduceSub, Nat.reduceMul, Nat.reduceEqDiff, Nat.reduceBEq, Nat.reduceLeDiff, Int.reduceToNat, fillS, wantG, vBox, Value.cells, one, putAt, Option.getD_some, Option.map_some, Option.bind_some, ne_eq, Option.some.injEq, Prod.mk.injEq, exists_and_left, exists_eq_left', exists_eq_left, List.size_toArray, List.length_cons, List.length_nil, if_true, if_false, exists_eq', exists_const, List.getElem?_cons_zero, List.getElem?_cons_succ, List.map_toArray, List.map_cons, List.map_nil, beq_iff_eq, List.all_cons, List.all_nil, cond_true, List.set_cons_zero, List.set_cons_succ, List.drop_zero, List.drop_succ_cons, List.take_succ_cons, List.take_zero, List.getElem?_toArray, Option.map_none, Option.getD_none, TYA, s0, s1, s4, s5, hw]
    refine wpc_mono (refXor_spec (IsD.hi (IsD.weak (hD1.un ?_) (Nat.zero_le _)) ?_) (IsD.weak hD2 (Nat.zero_le _)) hF2) ?_
    · repeat first | assumption | exact UN.refl _ _ _ | refine UN.more ?_ _ | refine UN.put ?_ (by omega) _ | refine UN.ex (by assumption) ?_ (by first | omega | (simp only [next_more, next_put]; omega)) | refine UN.exb (by assumption) ?_ (by first | omega | (simp only [next_more, next_put]; omega)) (by omega)
    · omega
    rintro r σ4 ⟨hD4, hE4⟩
    have n4 := hE4.next
    obtain ⟨o4, k4, c4, i4, rfl⟩ := hD4.open
    have r4 := (hE4.row σ.next (by omega)).trans r2
    simp only [c_seq, RUNA, Nat.reduceAdd, Nat.reduceMod, Nat.reduceDiv, Nat.reduceSub, Nat.reduceMul, Nat.reduceEqDiff, Nat.reduceBEq, Nat.reduceLeDiff, Int.reduceToNat, fillS, wantG, vBox, Value.cells, one, putAt, Option.getD_some, Option.map_some, Option.bind_some, ne_eq, Option.some.injEq, Prod.mk.injEq, exists_and_left, exists_eq_left', exists_eq_left, List.size_toArray, List.length_cons, List.length_nil, if_true, if_false, exists_eq', exists_const, List.getElem?_cons_zero, List.getElem?_cons_succ, List.map_toArray, List.map_cons, List.map_nil, beq_iff_eq, List.all_cons, List.all_nil, cond_true, List.set_cons_zero, List.set_cons_succ, List.drop_zero, List.drop_succ_cons, List.take_succ_cons, List.take_zero, List.getElem?_toArray, Option.map_none, Option.getD_none, TYA, s0, s1, s4, s5, r4, hr]
    refine fin σ4 _ _ _ _ hD4 (Nat.le_refl _) (by omega) (hS2.mono hE4) ?_ (hE4.fr hF2) _
    repeat first | assumption | exact EXb.refl _ _ | refine EXb.more ?_ _ | refine EXb.put ?_ (by omega) _ | refine EXb.trans ?_ (by assumption) | refine EXb.thn ?_ (by assumption)
theorem diagram_spec {b : Nat} {cs : List Nat} (hc : ∀ k ∈ cs, k < 256) (hl : cs.length ≤ 1000) : ∀ n, n ≤ 100 → DSpec b cs n := by
  intro n
  induction n with
  | zero => intro h; exact diagram_step hc hl 0 h (fun m e => by omega)
  | succ n ih => intro h; exact diagram_step hc hl (n + 1) h (fun m e => by obtain rfl : m = n := by omega
                                                                            exact ih (by omega))
end Go.Proofs.Ytlealdhgajomhaa
