import Derived.Test.YtmjddjjcnhckgaaGreatDoorKm
import Derived.Test.YtmjddjjcnhckgaaGreatDoorKl
set_option linter.unusedVariables false
set_option linter.unusedSimpArgs false
set_option linter.constructorNameAsVariable false
open Nat renaming reduceAdd → zAd, reduceMod → zMo, reduceDiv → zDi, reduceSub → zSu, reduceMul → zMu, reduceEqDiff → zEq, reduceBEq → zBe, reduceLeDiff → zLe, reduceShiftRight → zSh
open Int renaming reduceToNat → zTo
namespace Go.Proofs.Q
open Go.AI
set_option maxRecDepth 4000
def FoS (vs : List Sy) (t : PT) : Prop := kT t → okP t → ∀ (σ : St) (v w : Value), TV σ v t → YL σ w vs → wpc Tryz.prog 27 #[v, w] σ fun r σ' => r = .int .i64 (fmT vs t) ∧ EX σ σ'
theorem fo_step {vs : List Sy} (hvs : vs.length < 1000) (t : PT) (ih : ∀ x ∈ t.l, FoS vs x) : FoS vs t := by
 intro hk hok σ v w hv hw
 have ho : t.l.length ≤ 3 ∧ okP.okL t.l := by cases t; exact hok
 have hkk : (t.k = 1 ∨ t.k = 2 ∨ t.k = 3) ∧ kT.kL t.l := by cases t; exact hk
 have hv0 := hv
 have hw0 := hw
 obtain ⟨a, c, rfl, hA⟩ := hv.al
 obtain ⟨b, d, rfl, -⟩ := hw
 refine body_go Tryz.func27 rfl ?_
 have hr := Tryz.results27
 rw [fmT_eq]
 rcases hkk.1 with h1 | h1 | h1
 ·have g1 : (t.k == (1 : Int)) = true := by simp [h1]
  have g2 : (t.k == (2 : Int)) = false := by simp [h1]
  simp only [c_seq, RUNA, RUNB, zAd, zMo, zDi, zSu, zMu, zEq, zBe, zLe, zTo, fillS, wantG, vBox, Value.cells, one, putAt, TYA, hr, g1, g2]
  refine wpc_mono (index_spec (t.p, t.s) (hw0.mono ?_) hvs) ?_
  ·repeat first | assumption | exact EXn.refl _ _ | refine EXn.more ?_ _ | refine EXn.put ?_ (by omega) _ | refine EX.trans ?_ (by assumption)
  rintro r σ1 ⟨rfl, hE1⟩
  have e1 : EX σ σ1 := by refine EX.trans ?_ hE1; repeat first | assumption | exact EXn.refl _ _ | refine EXn.more ?_ _ | refine EXn.put ?_ (by omega) _ | refine EX.trans ?_ (by assumption)
  by_cases h2 : idxY (t.p, t.s) vs 0 < 0
  ·have g3 : decide (idxY (t.p, t.s) vs 0 < 0) = true := decide_eq_true h2
   simp only [c_seq, RUNA, RUNB, zAd, zMo, zDi, zSu, zMu, zEq, zBe, zLe, zTo, fillS, wantG, vBox, Value.cells, one, putAt, TYA, hr, g3]
   exact ⟨by simp [h1, h2], by repeat first | assumption | exact EXn.refl _ _ | refine EXn.more ?_ _ | refine EXn.put ?_ (by omega) _ | refine EX.trans ?_ (by assumption)⟩
  ·have g3 : decide (idxY (t.p, t.s) vs 0 < 0) = false := decide_eq_false h2
   simp only [c_seq, RUNA, RUNB, zAd, zMo, zDi, zSu, zMu, zEq, zBe, zLe, zTo, fillS, wantG, vBox, Value.cells, one, putAt, TYA, hr, g3]
   exact ⟨by simp [h1, h2], by repeat first | assumption | exact EXn.refl _ _ | refine EXn.more ?_ _ | refine EXn.put ?_ (by omega) _ | refine EX.trans ?_ (by assumption)⟩
 ·have g2 : (t.k == (2 : Int)) = true := by simp [h1]
  simp only [c_seq, RUNA, RUNB, zAd, zMo, zDi, zSu, zMu, zEq, zBe, zLe, zTo, fillS, wantG, vBox, Value.cells, one, putAt, TYA, hr, g2]
  exact ⟨by simp [h1], by repeat first | assumption | exact EXn.refl _ _ | refine EXn.more ?_ _ | refine EXn.put ?_ (by omega) _ | refine EX.trans ?_ (by assumption)⟩
 ·have g1 : (t.k == (1 : Int)) = false := by simp [h1]
  have g2 : (t.k == (2 : Int)) = false := by simp [h1]
  have e0 : (if t.k = 1 then (if idxY (t.p, t.s) vs 0 < 0 then (6 : Int) else 0) else if t.k = 2 then 0 else if propB t then fmL vs t.l else 46) = if propB t then fmL vs t.l else 46 := by simp [h1]
  rw [e0]
  unfold propB
  simp only [c_seq, RUNA, RUNB, zAd, zMo, zDi, zSu, zMu, zEq, zBe, zLe, zTo, fillS, wantG, vBox, Value.cells, one, putAt, TYA, hr, g1, g2]
  refine wpc_mono (refIs_spec (hv0.mono ?_) nIf 3) ?_
  ·repeat first | assumption | exact EXn.refl _ _ | refine EXn.more ?_ _ | refine EXn.put ?_ (by omega) _ | refine EX.trans ?_ (by assumption)
  rintro r σ1 ⟨rfl, hE1⟩
  have r1 : σ1.row σ.next = some (tcell t a c, boxMeta) := by rw [hE1.row _ (by first | omega | (simp only [next_more, next_put] at *; omega))]; simp only [c_seq, RUNA, RUNB, zAd, zMo, zDi, zSu, zMu, zEq, zBe, zLe, zTo, fillS, wantG, vBox, Value.cells, one, putAt, tcell]
  have r1' := r1
  simp only [tcell] at r1
  have e1 : EX σ σ1 := by refine EX.trans ?_ hE1; repeat first | assumption | exact EXn.refl _ _ | refine EXn.more ?_ _ | refine EXn.put ?_ (by omega) _ | refine EX.trans ?_ (by assumption)
  have n1 : σ.next < σ1.next := by have := hE1.next; simp only [next_more, next_put] at this; omega
  cases isB t nIf 3 with
  | true =>
   simp only [c_seq, RUNA, RUNB, zAd, zMo, zDi, zSu, zMu, zEq, zBe, zLe, zTo, fillS, wantG, vBox, Value.cells, one, putAt, TYA, hr, r1, Bool.not_true, Bool.not_false, Bool.true_or, Bool.false_or, Bool.or_true, if_true]
   refine loop_go (fun m S τ => S.at 1 = .slice b vs.length d ∧ S.at 2 = .pointer (some ⟨σ.next, 0, none⟩) ∧ EX σ τ ∧ σ.next < τ.next ∧ τ.row σ.next = some (tcell t a c, boxMeta) ∧ ∃ i : Nat, S.at 5 = .int .i64 i ∧ i ≤ t.l.length ∧ m = t.l.length - i ∧ fmL vs t.l = fmL vs (t.l.drop i)) t.l.length ?_ ?_
   ·simp only [c_seq, RUNA, RUNB, zAd, zMo, zDi, zSu, zMu, zEq, zBe, zLe, zTo, fillS, wantG, vBox, Value.cells, one, putAt]
    exact ⟨by repeat first | assumption | exact EXn.refl _ _ | refine EXn.more ?_ _ | refine EXn.put ?_ (by omega) _ | refine EX.trans ?_ (by assumption), by omega, r1', 0, rfl, by omega, by omega, rfl⟩
   rintro _ S τ ⟨s1, s2, hE, hn, hb, i, s5, hi, rfl, hx⟩
   simp only [tcell] at hb
   by_cases hlt : i < t.l.length
   ·have hd : decide ((i : Int) < (t.l.length : Int)) = true := by simp; omega
    have hne : t.l ≠ [] := by intro e; rw [e] at hlt; simp at hlt
    have ht : t.l[i]? = some (t.l[i]'hlt) := List.getElem?_eq_getElem hlt
    generalize t.l[i]'hlt = x at ht
    have hm : x ∈ t.l := List.mem_of_getElem? ht
    obtain ⟨a0, c0, e', k2⟩ := hA
    cases e'
    obtain ⟨id, off, row, m, rfl, g2, g3, g4⟩ := k2 hne
    have g3' := (hE.row id g2).trans g3
    have z2 : (0 : Int) ≤ (i : Int) := by omega
    have z3 : (i : Int) < (t.l.length : Int) := by omega
    obtain ⟨a1, c1, hc, hT⟩ := row_cutT g4 ht
    have hw : IntKind.i64.wrap ((i : Int) + 1) = ((i + 1 : Nat) : Int) := by rw [wrap64 (by omega) (by omega)]; rfl
    simp only [c_seq, RUNA, RUNB, zAd, zMo, zDi, zSu, zMu, zEq, zBe, zLe, zTo, fillS, wantG, vBox, Value.cells, one, putAt, TYA, s1, s2, s5, hb, hd, ia32 z2 z3, Int.toNat_natCast, g3', hc]
    refine wpc_mono (ih x hm (kL_mem hkk.2 hm) (okL_mem ho.2 hm) _ _ _ (hT.mono ?_) (hw0.mono ?_)) ?_
    ·repeat first | assumption | exact EXn.refl _ _ | refine EXn.more ?_ _ | refine EXn.put ?_ (by omega) _ | refine EX.trans ?_ (by assumption)
    ·repeat first | assumption | exact EXn.refl _ _ | refine EXn.more ?_ _ | refine EXn.put ?_ (by omega) _ | refine EX.trans ?_ (by assumption)
    rintro r σ2 ⟨rfl, hE2⟩
    have e2 : EX σ σ2 := by refine EX.trans ?_ hE2; repeat first | assumption | exact EXn.refl _ _ | refine EXn.more ?_ _ | refine EXn.put ?_ (by omega) _ | refine EX.trans ?_ (by assumption)
    have n2 := hE2.next
    simp only [next_more, next_put] at n2
    have b2 : σ2.row σ.next = some (tcell t (some ⟨id, off, none⟩) c, boxMeta) := by rw [hE2.row _ (by first | omega | (simp only [next_more, next_put] at *; omega))]; simp only [c_seq, RUNA, RUNB, zAd, zMo, zDi, zSu, zMu, zEq, zBe, zLe, zTo, fillS, wantG, vBox, Value.cells, one, putAt, hb, tcell]
    rw [hx, drop_get ht, fmL]
    by_cases h2 : fmT vs x = 0
    ·have g5 : (fmT vs x != (0 : Int)) = false := by simp [h2]
     simp only [c_seq, RUNA, RUNB, zAd, zMo, zDi, zSu, zMu, zEq, zBe, zLe, zTo, fillS, wantG, vBox, Value.cells, one, putAt, TYA, s1, s2, s5, g5, hw]
     refine ⟨t.l.length - (i + 1), by omega, ?_, by omega, b2, i + 1, rfl, by omega, rfl, ?_⟩
     ·repeat first | assumption | exact EXn.refl _ _ | refine EXn.more ?_ _ | refine EXn.put ?_ (by omega) _ | refine EX.trans ?_ (by assumption)
     ·rw [if_pos h2]
    ·have g5 : (fmT vs x != (0 : Int)) = true := by simp [h2]
     simp only [c_seq, RUNA, RUNB, zAd, zMo, zDi, zSu, zMu, zEq, zBe, zLe, zTo, fillS, wantG, vBox, Value.cells, one, putAt, TYA, s1, s2, s5, g5, hr]
     exact ⟨by simp [h2], by repeat first | assumption | exact EXn.refl _ _ | refine EXn.more ?_ _ | refine EXn.put ?_ (by omega) _ | refine EX.trans ?_ (by assumption)⟩
   ·have hd : decide ((i : Int) < (t.l.length : Int)) = false := by simp; omega
    have hi' : t.l.drop i = [] := List.drop_eq_nil_of_le (by omega)
    simp only [c_seq, RUNA, RUNB, zAd, zMo, zDi, zSu, zMu, zEq, zBe, zLe, zTo, fillS, wantG, vBox, Value.cells, one, putAt, TYA, s1, s2, s5, hb, hd, hr]
    rw [hx, hi', fmL]
    first
    | exact ⟨by simp, by repeat first | assumption | exact EXn.refl _ _ | refine EXn.more ?_ _ | refine EXn.put ?_ (by omega) _ | refine EX.trans ?_ (by assumption)⟩
    | (repeat first | assumption | exact EXn.refl _ _ | refine EXn.more ?_ _ | refine EXn.put ?_ (by omega) _ | refine EX.trans ?_ (by assumption))
  | false =>
   simp only [c_seq, RUNA, RUNB, zAd, zMo, zDi, zSu, zMu, zEq, zBe, zLe, zTo, fillS, wantG, vBox, Value.cells, one, putAt, TYA, hr, r1, Bool.not_false, Bool.false_or]
   refine wpc_mono (refIs_spec (hv0.mono ?_) nNot 1) ?_
   ·repeat first | assumption | exact EXn.refl _ _ | refine EXn.more ?_ _ | refine EXn.put ?_ (by omega) _ | refine EX.trans ?_ (by assumption)
   rintro r σ2 ⟨rfl, hE2⟩
   have r2 := (hE2.row σ.next n1).trans r1
   have r2' := (hE2.row σ.next n1).trans r1'
   have e2 : EX σ σ2 := by refine EX.trans ?_ hE2; repeat first | assumption | exact EXn.refl _ _ | refine EXn.more ?_ _ | refine EXn.put ?_ (by omega) _ | refine EX.trans ?_ (by assumption)
   have n2 : σ.next < σ2.next := by have := hE2.next; omega
   cases isB t nNot 1 with
   | true =>
    simp only [c_seq, RUNA, RUNB, zAd, zMo, zDi, zSu, zMu, zEq, zBe, zLe, zTo, fillS, wantG, vBox, Value.cells, one, putAt, TYA, hr, r2, Bool.not_true, Bool.not_false, Bool.true_or, Bool.false_or, Bool.or_true, if_true]
    refine loop_go (fun m S τ => S.at 1 = .slice b vs.length d ∧ S.at 2 = .pointer (some ⟨σ.next, 0, none⟩) ∧ EX σ τ ∧ σ.next < τ.next ∧ τ.row σ.next = some (tcell t a c, boxMeta) ∧ ∃ i : Nat, S.at 5 = .int .i64 i ∧ i ≤ t.l.length ∧ m = t.l.length - i ∧ fmL vs t.l = fmL vs (t.l.drop i)) t.l.length ?_ ?_
    ·simp only [c_seq, RUNA, RUNB, zAd, zMo, zDi, zSu, zMu, zEq, zBe, zLe, zTo, fillS, wantG, vBox, Value.cells, one, putAt]
     exact ⟨by repeat first | assumption | exact EXn.refl _ _ | refine EXn.more ?_ _ | refine EXn.put ?_ (by omega) _ | refine EX.trans ?_ (by assumption), by omega, r2', 0, rfl, by omega, by omega, rfl⟩
    rintro _ S τ ⟨s1, s2, hE, hn, hb, i, s5, hi, rfl, hx⟩
    simp only [tcell] at hb
    by_cases hlt : i < t.l.length
    ·have hd : decide ((i : Int) < (t.l.length : Int)) = true := by simp; omega
     have hne : t.l ≠ [] := by intro e; rw [e] at hlt; simp at hlt
     have ht : t.l[i]? = some (t.l[i]'hlt) := List.getElem?_eq_getElem hlt
     generalize t.l[i]'hlt = x at ht
     have hm : x ∈ t.l := List.mem_of_getElem? ht
     obtain ⟨a0, c0, e', k2⟩ := hA
     cases e'
     obtain ⟨id, off, row, m, rfl, g2, g3, g4⟩ := k2 hne
     have g3' := (hE.row id g2).trans g3
     have z2 : (0 : Int) ≤ (i : Int) := by omega
     have z3 : (i : Int) < (t.l.length : Int) := by omega
     obtain ⟨a1, c1, hc, hT⟩ := row_cutT g4 ht
     have hw : IntKind.i64.wrap ((i : Int) + 1) = ((i + 1 : Nat) : Int) := by rw [wrap64 (by omega) (by omega)]; rfl
     simp only [c_seq, RUNA, RUNB, zAd, zMo, zDi, zSu, zMu, zEq, zBe, zLe, zTo, fillS, wantG, vBox, Value.cells, one, putAt, TYA, s1, s2, s5, hb, hd, ia32 z2 z3, Int.toNat_natCast, g3', hc]
     refine wpc_mono (ih x hm (kL_mem hkk.2 hm) (okL_mem ho.2 hm) _ _ _ (hT.mono ?_) (hw0.mono ?_)) ?_
     ·repeat first | assumption | exact EXn.refl _ _ | refine EXn.more ?_ _ | refine EXn.put ?_ (by omega) _ | refine EX.trans ?_ (by assumption)
     ·repeat first | assumption | exact EXn.refl _ _ | refine EXn.more ?_ _ | refine EXn.put ?_ (by omega) _ | refine EX.trans ?_ (by assumption)
     rintro r σ2 ⟨rfl, hE2⟩
     have e2 : EX σ σ2 := by refine EX.trans ?_ hE2; repeat first | assumption | exact EXn.refl _ _ | refine EXn.more ?_ _ | refine EXn.put ?_ (by omega) _ | refine EX.trans ?_ (by assumption)
     have n2 := hE2.next
     simp only [next_more, next_put] at n2
     have b2 : σ2.row σ.next = some (tcell t (some ⟨id, off, none⟩) c, boxMeta) := by rw [hE2.row _ (by first | omega | (simp only [next_more, next_put] at *; omega))]; simp only [c_seq, RUNA, RUNB, zAd, zMo, zDi, zSu, zMu, zEq, zBe, zLe, zTo, fillS, wantG, vBox, Value.cells, one, putAt, hb, tcell]
     rw [hx, drop_get ht, fmL]
     by_cases h2 : fmT vs x = 0
     ·have g5 : (fmT vs x != (0 : Int)) = false := by simp [h2]
      simp only [c_seq, RUNA, RUNB, zAd, zMo, zDi, zSu, zMu, zEq, zBe, zLe, zTo, fillS, wantG, vBox, Value.cells, one, putAt, TYA, s1, s2, s5, g5, hw]
      refine ⟨t.l.length - (i + 1), by omega, ?_, by omega, b2, i + 1, rfl, by omega, rfl, ?_⟩
      ·repeat first | assumption | exact EXn.refl _ _ | refine EXn.more ?_ _ | refine EXn.put ?_ (by omega) _ | refine EX.trans ?_ (by assumption)
      ·rw [if_pos h2]
     ·have g5 : (fmT vs x != (0 : Int)) = true := by simp [h2]
      simp only [c_seq, RUNA, RUNB, zAd, zMo, zDi, zSu, zMu, zEq, zBe, zLe, zTo, fillS, wantG, vBox, Value.cells, one, putAt, TYA, s1, s2, s5, g5, hr]
      exact ⟨by simp [h2], by repeat first | assumption | exact EXn.refl _ _ | refine EXn.more ?_ _ | refine EXn.put ?_ (by omega) _ | refine EX.trans ?_ (by assumption)⟩
    ·have hd : decide ((i : Int) < (t.l.length : Int)) = false := by simp; omega
     have hi' : t.l.drop i = [] := List.drop_eq_nil_of_le (by omega)
     simp only [c_seq, RUNA, RUNB, zAd, zMo, zDi, zSu, zMu, zEq, zBe, zLe, zTo, fillS, wantG, vBox, Value.cells, one, putAt, TYA, s1, s2, s5, hb, hd, hr]
     rw [hx, hi', fmL]
     first
     | exact ⟨by simp, by repeat first | assumption | exact EXn.refl _ _ | refine EXn.more ?_ _ | refine EXn.put ?_ (by omega) _ | refine EX.trans ?_ (by assumption)⟩
     | (repeat first | assumption | exact EXn.refl _ _ | refine EXn.more ?_ _ | refine EXn.put ?_ (by omega) _ | refine EX.trans ?_ (by assumption))
   | false =>
    simp only [c_seq, RUNA, RUNB, zAd, zMo, zDi, zSu, zMu, zEq, zBe, zLe, zTo, fillS, wantG, vBox, Value.cells, one, putAt, TYA, hr, r2, Bool.not_false, Bool.false_or]
    refine wpc_mono (refIs_spec (hv0.mono ?_) nImp 2) ?_
    ·repeat first | assumption | exact EXn.refl _ _ | refine EXn.more ?_ _ | refine EXn.put ?_ (by omega) _ | refine EX.trans ?_ (by assumption)
    rintro r σ3 ⟨rfl, hE3⟩
    have r3 := (hE3.row σ.next n2).trans r2
    have r3' := (hE3.row σ.next n2).trans r2'
    have e3 : EX σ σ3 := by refine EX.trans ?_ hE3; repeat first | assumption | exact EXn.refl _ _ | refine EXn.more ?_ _ | refine EXn.put ?_ (by omega) _ | refine EX.trans ?_ (by assumption)
    have n3 : σ.next < σ3.next := by have := hE3.next; omega
    cases isB t nImp 2 with
    | true =>
     simp only [c_seq, RUNA, RUNB, zAd, zMo, zDi, zSu, zMu, zEq, zBe, zLe, zTo, fillS, wantG, vBox, Value.cells, one, putAt, TYA, hr, r3, Bool.not_true, Bool.not_false, Bool.true_or, Bool.false_or, Bool.or_true, if_true]
     refine loop_go (fun m S τ => S.at 1 = .slice b vs.length d ∧ S.at 2 = .pointer (some ⟨σ.next, 0, none⟩) ∧ EX σ τ ∧ σ.next < τ.next ∧ τ.row σ.next = some (tcell t a c, boxMeta) ∧ ∃ i : Nat, S.at 5 = .int .i64 i ∧ i ≤ t.l.length ∧ m = t.l.length - i ∧ fmL vs t.l = fmL vs (t.l.drop i)) t.l.length ?_ ?_
     ·simp only [c_seq, RUNA, RUNB, zAd, zMo, zDi, zSu, zMu, zEq, zBe, zLe, zTo, fillS, wantG, vBox, Value.cells, one, putAt]
      exact ⟨by repeat first | assumption | exact EXn.refl _ _ | refine EXn.more ?_ _ | refine EXn.put ?_ (by omega) _ | refine EX.trans ?_ (by assumption), by omega, r3', 0, rfl, by omega, by omega, rfl⟩
     rintro _ S τ ⟨s1, s2, hE, hn, hb, i, s5, hi, rfl, hx⟩
     simp only [tcell] at hb
     by_cases hlt : i < t.l.length
     ·have hd : decide ((i : Int) < (t.l.length : Int)) = true := by simp; omega
      have hne : t.l ≠ [] := by intro e; rw [e] at hlt; simp at hlt
      have ht : t.l[i]? = some (t.l[i]'hlt) := List.getElem?_eq_getElem hlt
      generalize t.l[i]'hlt = x at ht
      have hm : x ∈ t.l := List.mem_of_getElem? ht
      obtain ⟨a0, c0, e', k2⟩ := hA
      cases e'
      obtain ⟨id, off, row, m, rfl, g2, g3, g4⟩ := k2 hne
      have g3' := (hE.row id g2).trans g3
      have z2 : (0 : Int) ≤ (i : Int) := by omega
      have z3 : (i : Int) < (t.l.length : Int) := by omega
      obtain ⟨a1, c1, hc, hT⟩ := row_cutT g4 ht
      have hw : IntKind.i64.wrap ((i : Int) + 1) = ((i + 1 : Nat) : Int) := by rw [wrap64 (by omega) (by omega)]; rfl
      simp only [c_seq, RUNA, RUNB, zAd, zMo, zDi, zSu, zMu, zEq, zBe, zLe, zTo, fillS, wantG, vBox, Value.cells, one, putAt, TYA, s1, s2, s5, hb, hd, ia32 z2 z3, Int.toNat_natCast, g3', hc]
      refine wpc_mono (ih x hm (kL_mem hkk.2 hm) (okL_mem ho.2 hm) _ _ _ (hT.mono ?_) (hw0.mono ?_)) ?_
      ·repeat first | assumption | exact EXn.refl _ _ | refine EXn.more ?_ _ | refine EXn.put ?_ (by omega) _ | refine EX.trans ?_ (by assumption)
      ·repeat first | assumption | exact EXn.refl _ _ | refine EXn.more ?_ _ | refine EXn.put ?_ (by omega) _ | refine EX.trans ?_ (by assumption)
      rintro r σ2 ⟨rfl, hE2⟩
      have e2 : EX σ σ2 := by refine EX.trans ?_ hE2; repeat first | assumption | exact EXn.refl _ _ | refine EXn.more ?_ _ | refine EXn.put ?_ (by omega) _ | refine EX.trans ?_ (by assumption)
      have n2 := hE2.next
      simp only [next_more, next_put] at n2
      have b2 : σ2.row σ.next = some (tcell t (some ⟨id, off, none⟩) c, boxMeta) := by rw [hE2.row _ (by first | omega | (simp only [next_more, next_put] at *; omega))]; simp only [c_seq, RUNA, RUNB, zAd, zMo, zDi, zSu, zMu, zEq, zBe, zLe, zTo, fillS, wantG, vBox, Value.cells, one, putAt, hb, tcell]
      rw [hx, drop_get ht, fmL]
      by_cases h2 : fmT vs x = 0
      ·have g5 : (fmT vs x != (0 : Int)) = false := by simp [h2]
       simp only [c_seq, RUNA, RUNB, zAd, zMo, zDi, zSu, zMu, zEq, zBe, zLe, zTo, fillS, wantG, vBox, Value.cells, one, putAt, TYA, s1, s2, s5, g5, hw]
       refine ⟨t.l.length - (i + 1), by omega, ?_, by omega, b2, i + 1, rfl, by omega, rfl, ?_⟩
       ·repeat first | assumption | exact EXn.refl _ _ | refine EXn.more ?_ _ | refine EXn.put ?_ (by omega) _ | refine EX.trans ?_ (by assumption)
       ·rw [if_pos h2]
      ·have g5 : (fmT vs x != (0 : Int)) = true := by simp [h2]
       simp only [c_seq, RUNA, RUNB, zAd, zMo, zDi, zSu, zMu, zEq, zBe, zLe, zTo, fillS, wantG, vBox, Value.cells, one, putAt, TYA, s1, s2, s5, g5, hr]
       exact ⟨by simp [h2], by repeat first | assumption | exact EXn.refl _ _ | refine EXn.more ?_ _ | refine EXn.put ?_ (by omega) _ | refine EX.trans ?_ (by assumption)⟩
     ·have hd : decide ((i : Int) < (t.l.length : Int)) = false := by simp; omega
      have hi' : t.l.drop i = [] := List.drop_eq_nil_of_le (by omega)
      simp only [c_seq, RUNA, RUNB, zAd, zMo, zDi, zSu, zMu, zEq, zBe, zLe, zTo, fillS, wantG, vBox, Value.cells, one, putAt, TYA, s1, s2, s5, hb, hd, hr]
      rw [hx, hi', fmL]
      first
      | exact ⟨by simp, by repeat first | assumption | exact EXn.refl _ _ | refine EXn.more ?_ _ | refine EXn.put ?_ (by omega) _ | refine EX.trans ?_ (by assumption)⟩
      | (repeat first | assumption | exact EXn.refl _ _ | refine EXn.more ?_ _ | refine EXn.put ?_ (by omega) _ | refine EX.trans ?_ (by assumption))
    | false =>
     simp only [c_seq, RUNA, RUNB, zAd, zMo, zDi, zSu, zMu, zEq, zBe, zLe, zTo, fillS, wantG, vBox, Value.cells, one, putAt, TYA, hr, r3, Bool.not_false, Bool.false_or]
     refine wpc_mono (refIs_spec (hv0.mono ?_) nIff 2) ?_
     ·repeat first | assumption | exact EXn.refl _ _ | refine EXn.more ?_ _ | refine EXn.put ?_ (by omega) _ | refine EX.trans ?_ (by assumption)
     rintro r σ4 ⟨rfl, hE4⟩
     have r4 := (hE4.row σ.next n3).trans r3
     have r4' := (hE4.row σ.next n3).trans r3'
     have e4 : EX σ σ4 := by refine EX.trans ?_ hE4; repeat first | assumption | exact EXn.refl _ _ | refine EXn.more ?_ _ | refine EXn.put ?_ (by omega) _ | refine EX.trans ?_ (by assumption)
     have n4 : σ.next < σ4.next := by have := hE4.next; omega
     cases isB t nIff 2 with
     | true =>
      simp only [c_seq, RUNA, RUNB, zAd, zMo, zDi, zSu, zMu, zEq, zBe, zLe, zTo, fillS, wantG, vBox, Value.cells, one, putAt, TYA, hr, r4, Bool.not_true, Bool.not_false, Bool.true_or, Bool.false_or, Bool.or_true, if_true]
      refine loop_go (fun m S τ => S.at 1 = .slice b vs.length d ∧ S.at 2 = .pointer (some ⟨σ.next, 0, none⟩) ∧ EX σ τ ∧ σ.next < τ.next ∧ τ.row σ.next = some (tcell t a c, boxMeta) ∧ ∃ i : Nat, S.at 5 = .int .i64 i ∧ i ≤ t.l.length ∧ m = t.l.length - i ∧ fmL vs t.l = fmL vs (t.l.drop i)) t.l.length ?_ ?_
      ·simp only [c_seq, RUNA, RUNB, zAd, zMo, zDi, zSu, zMu, zEq, zBe, zLe, zTo, fillS, wantG, vBox, Value.cells, one, putAt]
       exact ⟨by repeat first | assumption | exact EXn.refl _ _ | refine EXn.more ?_ _ | refine EXn.put ?_ (by omega) _ | refine EX.trans ?_ (by assumption), by omega, r4', 0, rfl, by omega, by omega, rfl⟩
      rintro _ S τ ⟨s1, s2, hE, hn, hb, i, s5, hi, rfl, hx⟩
      simp only [tcell] at hb
      by_cases hlt : i < t.l.length
      ·have hd : decide ((i : Int) < (t.l.length : Int)) = true := by simp; omega
       have hne : t.l ≠ [] := by intro e; rw [e] at hlt; simp at hlt
       have ht : t.l[i]? = some (t.l[i]'hlt) := List.getElem?_eq_getElem hlt
       generalize t.l[i]'hlt = x at ht
       have hm : x ∈ t.l := List.mem_of_getElem? ht
       obtain ⟨a0, c0, e', k2⟩ := hA
       cases e'
       obtain ⟨id, off, row, m, rfl, g2, g3, g4⟩ := k2 hne
       have g3' := (hE.row id g2).trans g3
       have z2 : (0 : Int) ≤ (i : Int) := by omega
       have z3 : (i : Int) < (t.l.length : Int) := by omega
       obtain ⟨a1, c1, hc, hT⟩ := row_cutT g4 ht
       have hw : IntKind.i64.wrap ((i : Int) + 1) = ((i + 1 : Nat) : Int) := by rw [wrap64 (by omega) (by omega)]; rfl
       simp only [c_seq, RUNA, RUNB, zAd, zMo, zDi, zSu, zMu, zEq, zBe, zLe, zTo, fillS, wantG, vBox, Value.cells, one, putAt, TYA, s1, s2, s5, hb, hd, ia32 z2 z3, Int.toNat_natCast, g3', hc]
       refine wpc_mono (ih x hm (kL_mem hkk.2 hm) (okL_mem ho.2 hm) _ _ _ (hT.mono ?_) (hw0.mono ?_)) ?_
       ·repeat first | assumption | exact EXn.refl _ _ | refine EXn.more ?_ _ | refine EXn.put ?_ (by omega) _ | refine EX.trans ?_ (by assumption)
       ·repeat first | assumption | exact EXn.refl _ _ | refine EXn.more ?_ _ | refine EXn.put ?_ (by omega) _ | refine EX.trans ?_ (by assumption)
       rintro r σ2 ⟨rfl, hE2⟩
       have e2 : EX σ σ2 := by refine EX.trans ?_ hE2; repeat first | assumption | exact EXn.refl _ _ | refine EXn.more ?_ _ | refine EXn.put ?_ (by omega) _ | refine EX.trans ?_ (by assumption)
       have n2 := hE2.next
       simp only [next_more, next_put] at n2
       have b2 : σ2.row σ.next = some (tcell t (some ⟨id, off, none⟩) c, boxMeta) := by rw [hE2.row _ (by first | omega | (simp only [next_more, next_put] at *; omega))]; simp only [c_seq, RUNA, RUNB, zAd, zMo, zDi, zSu, zMu, zEq, zBe, zLe, zTo, fillS, wantG, vBox, Value.cells, one, putAt, hb, tcell]
       rw [hx, drop_get ht, fmL]
       by_cases h2 : fmT vs x = 0
       ·have g5 : (fmT vs x != (0 : Int)) = false := by simp [h2]
        simp only [c_seq, RUNA, RUNB, zAd, zMo, zDi, zSu, zMu, zEq, zBe, zLe, zTo, fillS, wantG, vBox, Value.cells, one, putAt, TYA, s1, s2, s5, g5, hw]
        refine ⟨t.l.length - (i + 1), by omega, ?_, by omega, b2, i + 1, rfl, by omega, rfl, ?_⟩
        ·repeat first | assumption | exact EXn.refl _ _ | refine EXn.more ?_ _ | refine EXn.put ?_ (by omega) _ | refine EX.trans ?_ (by assumption)
        ·rw [if_pos h2]
       ·have g5 : (fmT vs x != (0 : Int)) = true := by simp [h2]
        simp only [c_seq, RUNA, RUNB, zAd, zMo, zDi, zSu, zMu, zEq, zBe, zLe, zTo, fillS, wantG, vBox, Value.cells, one, putAt, TYA, s1, s2, s5, g5, hr]
        exact ⟨by simp [h2], by repeat first | assumption | exact EXn.refl _ _ | refine EXn.more ?_ _ | refine EXn.put ?_ (by omega) _ | refine EX.trans ?_ (by assumption)⟩
      ·have hd : decide ((i : Int) < (t.l.length : Int)) = false := by simp; omega
       have hi' : t.l.drop i = [] := List.drop_eq_nil_of_le (by omega)
       simp only [c_seq, RUNA, RUNB, zAd, zMo, zDi, zSu, zMu, zEq, zBe, zLe, zTo, fillS, wantG, vBox, Value.cells, one, putAt, TYA, s1, s2, s5, hb, hd, hr]
       rw [hx, hi', fmL]
       first
       | exact ⟨by simp, by repeat first | assumption | exact EXn.refl _ _ | refine EXn.more ?_ _ | refine EXn.put ?_ (by omega) _ | refine EX.trans ?_ (by assumption)⟩
       | (repeat first | assumption | exact EXn.refl _ _ | refine EXn.more ?_ _ | refine EXn.put ?_ (by omega) _ | refine EX.trans ?_ (by assumption))
     | false =>
      simp only [c_seq, RUNA, RUNB, zAd, zMo, zDi, zSu, zMu, zEq, zBe, zLe, zTo, fillS, wantG, vBox, Value.cells, one, putAt, TYA, hr, r4, Bool.not_false, Bool.false_or]
      first
      | exact ⟨by simp, by repeat first | assumption | exact EXn.refl _ _ | refine EXn.more ?_ _ | refine EXn.put ?_ (by omega) _ | refine EX.trans ?_ (by assumption)⟩
      | (repeat first | assumption | exact EXn.refl _ _ | refine EXn.more ?_ _ | refine EXn.put ?_ (by omega) _ | refine EX.trans ?_ (by assumption))
mutual
theorem foT {vs : List Sy} (hvs : vs.length < 1000) : ∀ t : PT, FoS vs t
 | .mk k p s o l => fo_step hvs (.mk k p s o l) (foL hvs l)
theorem foL {vs : List Sy} (hvs : vs.length < 1000) : ∀ (l : List PT) (x : PT), x ∈ l → FoS vs x
 | t :: l, x, h => by
  rcases List.mem_cons.1 h with e | e
  ·rw [e]; exact foT hvs t
  ·exact foL hvs l x e
end
end Go.Proofs.Q
namespace Go.Proofs.Q
open Go.AI
set_option maxRecDepth 4000
theorem idxY_first {l : List Sy} (y : Sy) : ∀ (i : Nat) (k : Int), 0 ≤ k → i < l.length → yx l i = y → (idxY y l k = k + i ↔ ∀ j, j < i → ¬ yx l j = y) := by
 induction l with
 | nil => intro i k h0 hi; simp at hi
 | cons x l ih =>
  intro i k h0 hi hy
  rw [idxY]
  cases i with
  | zero =>
   have : x = y := by simpa [yx] using hy
   rw [if_pos this]
   simp
  | succ i =>
   have hy' : yx l i = y := by simpa [yx] using hy
   by_cases hx : x = y
   ·rw [if_pos hx]
    constructor
    ·intro h; omega
    ·intro h; exact absurd (by simpa [yx] using hx) (h 0 (by omega))
   ·rw [if_neg hx]
    have := ih i (k + 1) (by omega) (by simpa using hi) hy'
    rw [show k + ((i + 1 : Nat) : Int) = k + 1 + (i : Int) by omega, this]
    constructor
    ·intro h j hj
     cases j with
     | zero => simpa [yx] using hx
     | succ j => simpa [yx] using h j (by omega)
    ·intro h j hj
     simpa [yx] using h (j + 1) (by omega)
theorem slice_hi {σ : St} {id off len c : Nat} {cs : List Value} {m : Mta} (hr : σ.row id = some (cs, m2 m)) {i : Nat} (hi : i < len) :
    ∃ c', aslice Tryz.prog σ 37 (.slice (some ⟨id, off, none⟩) len c) none (some (.int .i64 (i : Int))) none = some (.slice (some ⟨id, off, none⟩) i c') := by
 have hz' : rowZ σ id 2 = true := by simp [rowZ, hr, nbeq]
 by_cases h0 : i = 0
 ·subst h0
  have hn1 : ¬ len = 0 := by omega
  have hn2 : ¬ 0 = len := by omega
  exact ⟨1, by simp [aslice, Tryz.underlying37, sz28, hz', nbeq, intOpt, hn1, hn2, hi]⟩
 ·have := slice_in (P := Tryz.prog) (σ := σ) (id := id) (off := off) (len := len) (c := c) (lo := none) (hi := some (.int .i64 (i : Int))) (l := none) (h := some (i : Int)) Tryz.underlying37 sz28 hr rfl rfl rfl (by simp) (by simp; omega) (by simp; omega)
  obtain ⟨c', h⟩ := this
  exact ⟨c', by simpa using h⟩
theorem checkVars_spec {σ : St} {v : Value} {l : List Sy} (h : YL σ v l) (hl : l.length < 1000) : wpc Tryz.prog 23 #[v] σ fun r σ' => r = .int .i64 (ckY l) ∧ EX σ σ' := by
 obtain ⟨a, c, rfl, h2⟩ := h
 refine body_go Tryz.func23 rfl ?_
 have hr := Tryz.results23
 by_cases h10 : 10 < l.length
 ·have hd : decide ((10 : Int) < (l.length : Int)) = true := by simp; omega
  simp only [c_seq, RUNA, RUNB, zAd, zMo, zDi, zSu, zMu, zEq, zBe, zLe, zTo, fillS, wantG, vBox, Value.cells, one, putAt, TYA, hr, hd]
  exact ⟨by rw [ckY, if_pos h10], by repeat first | assumption | exact EXn.refl _ _ | refine EXn.more ?_ _ | refine EXn.put ?_ (by omega) _ | refine EX.trans ?_ (by assumption)⟩
 have hd : decide ((10 : Int) < (l.length : Int)) = false := by simp; omega
 simp only [c_seq, RUNA, RUNB, zAd, zMo, zDi, zSu, zMu, zEq, zBe, zLe, zTo, fillS, wantG, vBox, Value.cells, one, putAt, TYA, hr, hd]
 rw [ckY, if_neg h10]
 refine loop_go (fun m S τ => S.at 0 = .slice a l.length c ∧ S.at 10 = .slice a l.length c ∧ S.at 11 = .int .i64 l.length ∧ EX σ τ ∧ ∃ i : Nat, S.at 12 = .int .i64 i ∧ i ≤ l.length ∧ m = l.length - i ∧ ckVs l l 0 = ckVs l (l.drop i) i) l.length ?_ ?_
 ·simp only [c_seq, RUNA, RUNB, zAd, zMo, zDi, zSu, zMu, zEq, zBe, zLe, zTo, fillS, wantG, vBox, Value.cells, one, putAt]
  exact ⟨by repeat first | assumption | exact EXn.refl _ _ | refine EXn.more ?_ _ | refine EXn.put ?_ (by omega) _ | refine EX.trans ?_ (by assumption), 0, rfl, by omega, by omega, rfl⟩
 rintro _ S τ ⟨s0, s10, s11, hE, i, s12, hi, rfl, hx⟩
 have hn := hE.next
 by_cases hlt : i < l.length
 ·have hd : decide ((i : Int) < (l.length : Int)) = true := by simp; omega
  obtain ⟨id, off, row, m, rfl, g2, g3, g4⟩ := h2 (by intro e; rw [e] at hlt; simp at hlt)
  have g3' := (hE.row id g2).trans g3
  have z2 : (0 : Int) ≤ (i : Int) := by omega
  have z3 : (i : Int) < (l.length : Int) := by omega
  have hc := row_cutY g4 hlt
  have hw : IntKind.i64.wrap ((i : Int) + 1) = ((i + 1 : Nat) : Int) := by rw [wrap64 (by omega) (by omega)]; rfl
  have q2 : ∀ k, ¬ id = τ.next + k := fun k => by omega
  simp only [c_seq, RUNA, RUNB, zAd, zMo, zDi, zSu, zMu, zEq, zBe, zLe, zTo, fillS, wantG, vBox, Value.cells, one, putAt, TYA, s0, s10, s11, s12, hd, ia37 z2 z3, Int.toNat_natCast, g3', hc, q2]
  obtain ⟨c', hsl⟩ := slice_hi (σ := ((((τ.more 1).more 6).put (τ.next + 4) (AObj.cells [.string es, .string es] boxMeta)).put (τ.next + 4) (AObj.cells [.string (yx l i).1, .string (yx l i).2] boxMeta)).more 5) (id := id) (off := off) (len := l.length) (c := c) (cs := row) (m := m) (by simp only [c_seq, RUNA, RUNB, zAd, zMo, zDi, zSu, zMu, zEq, zBe, zLe, zTo, fillS, wantG, vBox, Value.cells, one, putAt, q2]; exact g3') hlt
  simp only [es] at hsl
  simp only [hsl, c_seq, RUNA, RUNB, zAd, zMo, zDi, zSu, zMu, zEq, zBe, zLe, zTo, fillS, wantG, vBox, Value.cells, one, putAt, TYA, s0, s10, s11, s12]
  refine loop_go (fun m S υ => S.at 0 = .slice (some ⟨id, off, none⟩) l.length c ∧ S.at 10 = .slice (some ⟨id, off, none⟩) l.length c ∧ S.at 11 = .int .i64 l.length ∧ S.at 12 = .int .i64 i ∧ S.at 19 = .slice (some ⟨id, off, none⟩) i c' ∧ S.at 20 = .int .i64 i ∧ S.at 4 = .pointer (some ⟨τ.next + 4, 0, none⟩) ∧
   EX σ υ ∧ τ.next + 4 < υ.next ∧ υ.row (τ.next + 4) = some ([.string (yx l i).1, .string (yx l i).2], boxMeta) ∧ ∃ j : Nat, S.at 21 = .int .i64 j ∧ j ≤ i ∧ m = i - j ∧ ∀ k, k < j → ¬ yx l k = yx l i) i ?_ ?_
  ·simp only [c_seq, RUNA, RUNB, zAd, zMo, zDi, zSu, zMu, zEq, zBe, zLe, zTo, fillS, wantG, vBox, Value.cells, one, putAt, s0, s10, s11, s12]
   exact ⟨by repeat first | assumption | exact EXn.refl _ _ | refine EXn.more ?_ _ | refine EXn.put ?_ (by omega) _ | refine EX.trans ?_ (by assumption), by omega, 0, rfl, by omega, by omega, fun k hk => by omega⟩
  rintro _ S υ ⟨s0, s10, s11, s12, s19, s20, s4, hE2, hn2, hb2, j, s21, hj, rfl, hnot⟩
  have hn3 := hE2.next
  have hfirst := idxY_first (l := l) (yx l i) i 0 (by omega) hlt rfl
  simp only [Int.zero_add] at hfirst
  by_cases hjl : j < i
  ·have hd2 : decide ((j : Int) < (i : Int)) = true := by simp; omega
   have y2 : (0 : Int) ≤ (j : Int) := by omega
   have y3 : (j : Int) < (i : Int) := by omega
   have hcj := row_cutY g4 (show j < l.length by omega)
   have g3u := (hE2.row id g2).trans g3
   have q3 : ∀ k, ¬ id = υ.next + k := fun k => by omega
   have q4 : ∀ k, ¬ τ.next + 4 = υ.next + k := fun k => by omega
   have hwj : IntKind.i64.wrap ((j : Int) + 1) = ((j + 1 : Nat) : Int) := by rw [wrap64 (by omega) (by omega)]; rfl
   by_cases he : yx l j = yx l i
   ·have hq : decide ((yx l j).1 = (yx l i).1 ∧ (yx l j).2 = (yx l i).2) = true := by rw [he]; simp
    simp only [c_seq, RUNA, RUNB, zAd, zMo, zDi, zSu, zMu, zEq, zBe, zLe, zTo, fillS, wantG, vBox, Value.cells, one, putAt, TYA, s0, s10, s11, s12, s19, s20, s4, s21, hd2, hb2, ia37 y2 y3, Int.toNat_natCast, g3u, hcj, eqY, hq, hr, q3, q4]
    rw [hx, drop_yx hlt, ckVs, if_neg (fun e => (hfirst.1 e) j hjl he)]
    exact ⟨rfl, by repeat first | assumption | exact EXn.refl _ _ | refine EXn.more ?_ _ | refine EXn.put ?_ (by omega) _ | refine EX.trans ?_ (by assumption)⟩
   ·have hq : decide ((yx l j).1 = (yx l i).1 ∧ (yx l j).2 = (yx l i).2) = false := by
     apply decide_eq_false; intro h; exact he (Prod.ext h.1 h.2)
    simp only [c_seq, RUNA, RUNB, zAd, zMo, zDi, zSu, zMu, zEq, zBe, zLe, zTo, fillS, wantG, vBox, Value.cells, one, putAt, TYA, s0, s10, s11, s12, s19, s20, s4, s21, hd2, hb2, ia37 y2 y3, Int.toNat_natCast, g3u, hcj, eqY, hq, hwj, q3, q4]
    refine ⟨i - (j + 1), by omega, ?_, by omega, j + 1, rfl, by omega, rfl, fun k hk => ?_⟩
    ·repeat first | assumption | exact EXn.refl _ _ | refine EXn.more ?_ _ | refine EXn.put ?_ (by omega) _ | refine EX.trans ?_ (by assumption)
    ·by_cases hkj : k = j
     ·rw [hkj]; exact he
     ·exact hnot k (by omega)
  ·have hd2 : decide ((j : Int) < (i : Int)) = false := by simp; omega
   have hji : j = i := by omega
   subst hji
   simp only [c_seq, RUNA, RUNB, zAd, zMo, zDi, zSu, zMu, zEq, zBe, zLe, zTo, fillS, wantG, vBox, Value.cells, one, putAt, TYA, s0, s10, s11, s12, s19, s20, s4, s21, hd2, hw]
   refine ⟨l.length - (j + 1), by omega, ?_, j + 1, rfl, by omega, rfl, ?_⟩
   ·repeat first | assumption | exact EXn.refl _ _ | refine EXn.more ?_ _ | refine EXn.put ?_ (by omega) _ | refine EX.trans ?_ (by assumption)
   ·rw [hx, drop_yx hlt, ckVs, if_pos (hfirst.2 hnot)]; rfl
 ·have hd : decide ((i : Int) < (l.length : Int)) = false := by simp; omega
  have hi' : l.drop i = [] := List.drop_eq_nil_of_le (by omega)
  simp only [c_seq, RUNA, RUNB, zAd, zMo, zDi, zSu, zMu, zEq, zBe, zLe, zTo, fillS, wantG, vBox, Value.cells, one, putAt, TYA, s0, s10, s11, s12, hd, hr]
  rw [hx, hi', ckVs]
  exact ⟨rfl, by repeat first | assumption | exact EXn.refl _ _ | refine EXn.more ?_ _ | refine EXn.put ?_ (by omega) _ | refine EX.trans ?_ (by assumption)⟩
end Go.Proofs.Q
namespace Go.Proofs.Q
open Go.AI
set_option maxRecDepth 4000
def usr : ByteArray := ⟨#[117, 115, 101, 114]⟩
theorem User_spec (σ : St) (s : ByteArray) : wpc Tryz.prog 22 #[.string s] σ fun r σ' => r = .agg #[.string usr, .string s] ∧ EX σ σ' := by
 refine body_go Tryz.func22 rfl ?_
 have hr := Tryz.results22
 simp only [c_seq, RUNA, RUNB, zAd, zMo, zDi, zSu, zMu, zEq, zBe, zLe, zTo, fillS, wantG, vBox, Value.cells, one, putAt, TYA, hr, bdSym]
 exact ⟨rfl, by repeat first | assumption | exact EXn.refl _ _ | refine EXn.more ?_ _ | refine EXn.put ?_ (by omega) _ | refine EX.trans ?_ (by assumption)⟩
theorem V_spec (σ : St) (s : ByteArray) : wpc Tryz.prog 20 #[.string s] σ fun r σ' => r = varV usr s ∧ EX σ σ' := by
 refine body_go Tryz.func20 rfl ?_
 have hr := Tryz.results20
 simp only [c_seq, RUNA, RUNB, zAd, zMo, zDi, zSu, zMu, zEq, zBe, zLe, zTo, fillS, wantG, vBox, Value.cells, one, putAt, TYA, hr]
 refine wpc_mono (User_spec _ _) ?_
 rintro r σ1 ⟨rfl, hE1⟩
 have n1 := hE1.next
 simp only [next_more, next_put] at n1
 have r1 : σ1.row (σ.next) = some ([.int .i64 0, .string ⟨#[]⟩, .string ⟨#[]⟩, .int .i64 0, .string ⟨#[]⟩, .string ⟨#[]⟩, .string ⟨#[]⟩, .string ⟨#[]⟩, .string ⟨#[]⟩, .slice none 0 0, .slice none 0 0], boxMeta) := by rw [hE1.row _ (by first | omega | (simp only [next_more, next_put] at *; omega))]; simp only [c_seq, RUNA, RUNB, zAd, zMo, zDi, zSu, zMu, zEq, zBe, zLe, zTo, fillS, wantG, vBox, Value.cells, one, putAt]
 have e1 : EX σ σ1 := by refine EX.trans ?_ hE1; repeat first | assumption | exact EXn.refl _ _ | refine EXn.more ?_ _ | refine EXn.put ?_ (by omega) _ | refine EX.trans ?_ (by assumption)
 simp only [c_seq, RUNA, RUNB, zAd, zMo, zDi, zSu, zMu, zEq, zBe, zLe, zTo, fillS, wantG, vBox, Value.cells, one, putAt, TYA, hr]
 refine wpc_mono (refVar_spec _ _ _) ?_
 rintro r σ2 ⟨rfl, hE2⟩
 have n2 := hE2.next
 have r2 := (hE2.row (σ.next) (by omega)).trans r1
 have e2 : EX σ σ2 := by refine EX.trans ?_ hE2; repeat first | assumption | exact EXn.refl _ _ | refine EXn.more ?_ _ | refine EXn.put ?_ (by omega) _ | refine EX.trans ?_ (by assumption)
 simp only [c_seq, RUNA, RUNB, zAd, zMo, zDi, zSu, zMu, zEq, zBe, zLe, zTo, fillS, wantG, vBox, Value.cells, one, putAt, TYA, hr, r2]
 first
 | exact ⟨rfl, by repeat first | assumption | exact EXn.refl _ _ | refine EXn.more ?_ _ | refine EXn.put ?_ (by omega) _ | refine EX.trans ?_ (by assumption)⟩
 | (repeat first | assumption | exact EXn.refl _ _ | refine EXn.more ?_ _ | refine EXn.put ?_ (by omega) _ | refine EX.trans ?_ (by assumption))
theorem refLispT_spec (σ : St) (s : ByteArray) (a : Option Addr) (n c : Nat) : wpc Tryz.prog 21 #[.string s, .slice a n c] σ fun r σ' => r = appV lsp s a n c ∧ EX σ σ' := by
 refine body_go Tryz.func21 rfl ?_
 have hr := Tryz.results21
 simp only [c_seq, RUNA, RUNB, zAd, zMo, zDi, zSu, zMu, zEq, zBe, zLe, zTo, fillS, wantG, vBox, Value.cells, one, putAt, TYA, hr]
 refine wpc_mono (refLisp_spec _ _) ?_
 rintro r σ1 ⟨rfl, hE1⟩
 have n1 := hE1.next
 simp only [next_more, next_put] at n1
 have r1 : σ1.row (σ.next) = some ([.int .i64 0, .string ⟨#[]⟩, .string ⟨#[]⟩, .int .i64 0, .string ⟨#[]⟩, .string ⟨#[]⟩, .string ⟨#[]⟩, .string ⟨#[]⟩, .string ⟨#[]⟩, .slice none 0 0, .slice none 0 0], boxMeta) := by rw [hE1.row _ (by first | omega | (simp only [next_more, next_put] at *; omega))]; simp only [c_seq, RUNA, RUNB, zAd, zMo, zDi, zSu, zMu, zEq, zBe, zLe, zTo, fillS, wantG, vBox, Value.cells, one, putAt]
 have e1 : EX σ σ1 := by refine EX.trans ?_ hE1; repeat first | assumption | exact EXn.refl _ _ | refine EXn.more ?_ _ | refine EXn.put ?_ (by omega) _ | refine EX.trans ?_ (by assumption)
 simp only [c_seq, RUNA, RUNB, zAd, zMo, zDi, zSu, zMu, zEq, zBe, zLe, zTo, fillS, wantG, vBox, Value.cells, one, putAt, TYA, hr]
 refine wpc_mono (refApp_spec _ _ _ _ _ _) ?_
 rintro r σ2 ⟨rfl, hE2⟩
 have n2 := hE2.next
 have r2 := (hE2.row (σ.next) (by omega)).trans r1
 have e2 : EX σ σ2 := by refine EX.trans ?_ hE2; repeat first | assumption | exact EXn.refl _ _ | refine EXn.more ?_ _ | refine EXn.put ?_ (by omega) _ | refine EX.trans ?_ (by assumption)
 simp only [c_seq, RUNA, RUNB, zAd, zMo, zDi, zSu, zMu, zEq, zBe, zLe, zTo, fillS, wantG, vBox, Value.cells, one, putAt, TYA, hr, r2]
 first
 | exact ⟨rfl, by repeat first | assumption | exact EXn.refl _ _ | refine EXn.more ?_ _ | refine EXn.put ?_ (by omega) _ | refine EX.trans ?_ (by assumption)⟩
 | (repeat first | assumption | exact EXn.refl _ _ | refine EXn.more ?_ _ | refine EXn.put ?_ (by omega) _ | refine EX.trans ?_ (by assumption))
theorem LispT_spec (σ : St) (s : ByteArray) (a : Option Addr) (n c : Nat) : wpc Tryz.prog 81 #[.string s, .slice a n c] σ fun r σ' => r = appV lsp s a n c ∧ EX σ σ' := by
 refine body_go Tryz.func81 rfl ?_
 have hr := Tryz.results81
 simp only [c_seq, RUNA, RUNB, zAd, zMo, zDi, zSu, zMu, zEq, zBe, zLe, zTo, fillS, wantG, vBox, Value.cells, one, putAt, TYA, hr, bdSym]
 refine wpc_mono (App_spec _ lsp _ _ _ _) ?_
 rintro r σ2 ⟨rfl, hE2⟩
 have n2 := hE2.next
 simp only [next_more, next_put] at n2
 have r2 : σ2.row σ.next = some ([.int .i64 0, .string ⟨#[]⟩, .string ⟨#[]⟩, .int .i64 0, .string ⟨#[]⟩, .string ⟨#[]⟩, .string ⟨#[]⟩, .string ⟨#[]⟩, .string ⟨#[]⟩, .slice none 0 0, .slice none 0 0], boxMeta) := by rw [hE2.row _ (by first | omega | (simp only [next_more, next_put] at *; omega))]; simp only [c_seq, RUNA, RUNB, zAd, zMo, zDi, zSu, zMu, zEq, zBe, zLe, zTo, fillS, wantG, vBox, Value.cells, one, putAt]
 have e2 : EX σ σ2 := by refine EX.trans ?_ hE2; repeat first | assumption | exact EXn.refl _ _ | refine EXn.more ?_ _ | refine EXn.put ?_ (by omega) _ | refine EX.trans ?_ (by assumption)
 simp only [c_seq, RUNA, RUNB, zAd, zMo, zDi, zSu, zMu, zEq, zBe, zLe, zTo, fillS, wantG, vBox, Value.cells, one, putAt, TYA, hr, r2]
 first
 | exact ⟨rfl, by repeat first | assumption | exact EXn.refl _ _ | refine EXn.more ?_ _ | refine EXn.put ?_ (by omega) _ | refine EX.trans ?_ (by assumption)⟩
 | (repeat first | assumption | exact EXn.refl _ _ | refine EXn.more ?_ _ | refine EXn.put ?_ (by omega) _ | refine EX.trans ?_ (by assumption))
theorem L_spec (σ : St) (s : ByteArray) (a : Option Addr) (n c : Nat) : wpc Tryz.prog 6 #[.string s, .slice a n c] σ fun r σ' => r = appV lsp s a n c ∧ EX σ σ' := by
 refine body_go Tryz.func6 rfl ?_
 have hr := Tryz.results6
 simp only [c_seq, RUNA, RUNB, zAd, zMo, zDi, zSu, zMu, zEq, zBe, zLe, zTo, fillS, wantG, vBox, Value.cells, one, putAt, TYA, hr]
 refine wpc_mono (refLispT_spec _ _ _ _ _) ?_
 rintro r σ2 ⟨rfl, hE2⟩
 have n2 := hE2.next
 simp only [next_more, next_put] at n2
 have r2 : σ2.row σ.next = some ([.int .i64 0, .string ⟨#[]⟩, .string ⟨#[]⟩, .int .i64 0, .string ⟨#[]⟩, .string ⟨#[]⟩, .string ⟨#[]⟩, .string ⟨#[]⟩, .string ⟨#[]⟩, .slice none 0 0, .slice none 0 0], boxMeta) := by rw [hE2.row _ (by first | omega | (simp only [next_more, next_put] at *; omega))]; simp only [c_seq, RUNA, RUNB, zAd, zMo, zDi, zSu, zMu, zEq, zBe, zLe, zTo, fillS, wantG, vBox, Value.cells, one, putAt]
 have e2 : EX σ σ2 := by refine EX.trans ?_ hE2; repeat first | assumption | exact EXn.refl _ _ | refine EXn.more ?_ _ | refine EXn.put ?_ (by omega) _ | refine EX.trans ?_ (by assumption)
 simp only [c_seq, RUNA, RUNB, zAd, zMo, zDi, zSu, zMu, zEq, zBe, zLe, zTo, fillS, wantG, vBox, Value.cells, one, putAt, TYA, hr, r2]
 first
 | exact ⟨rfl, by repeat first | assumption | exact EXn.refl _ _ | refine EXn.more ?_ _ | refine EXn.put ?_ (by omega) _ | refine EX.trans ?_ (by assumption)⟩
 | (repeat first | assumption | exact EXn.refl _ _ | refine EXn.more ?_ _ | refine EXn.put ?_ (by omega) _ | refine EX.trans ?_ (by assumption))
theorem C_spec (σ : St) (o : Ob) : wpc Tryz.prog 78 #[.agg #[.int .i64 o.k, .string o.n, .string o.d, .string o.p, .string o.s, .string o.t, .slice none 0 0]] σ fun r σ' => r = conV o ∧ EX σ σ' := by
 refine body_go Tryz.func78 rfl ?_
 have hr := Tryz.results78
 simp only [c_seq, RUNA, RUNB, zAd, zMo, zDi, zSu, zMu, zEq, zBe, zLe, zTo, fillS, wantG, vBox, Value.cells, one, putAt, TYA, hr]
 refine wpc_mono (Const_spec _ o) ?_
 rintro r σ2 ⟨rfl, hE2⟩
 have n2 := hE2.next
 simp only [next_more, next_put] at n2
 have r2 : σ2.row (σ.next + 1) = some ([.int .i64 0, .string ⟨#[]⟩, .string ⟨#[]⟩, .int .i64 0, .string ⟨#[]⟩, .string ⟨#[]⟩, .string ⟨#[]⟩, .string ⟨#[]⟩, .string ⟨#[]⟩, .slice none 0 0, .slice none 0 0], boxMeta) := by rw [hE2.row _ (by first | omega | (simp only [next_more, next_put] at *; omega))]; simp only [c_seq, RUNA, RUNB, zAd, zMo, zDi, zSu, zMu, zEq, zBe, zLe, zTo, fillS, wantG, vBox, Value.cells, one, putAt]
 have e2 : EX σ σ2 := by refine EX.trans ?_ hE2; repeat first | assumption | exact EXn.refl _ _ | refine EXn.more ?_ _ | refine EXn.put ?_ (by omega) _ | refine EX.trans ?_ (by assumption)
 simp only [c_seq, RUNA, RUNB, zAd, zMo, zDi, zSu, zMu, zEq, zBe, zLe, zTo, fillS, wantG, vBox, Value.cells, one, putAt, TYA, hr, r2]
 first
 | exact ⟨rfl, by repeat first | assumption | exact EXn.refl _ _ | refine EXn.more ?_ _ | refine EXn.put ?_ (by omega) _ | refine EX.trans ?_ (by assumption)⟩
 | (repeat first | assumption | exact EXn.refl _ _ | refine EXn.more ?_ _ | refine EXn.put ?_ (by omega) _ | refine EX.trans ?_ (by assumption))
theorem sNil_spec (σ : St) : wpc Tryz.prog 68 #[] σ fun r σ' => r = conV obNil ∧ EX σ σ' := by
 refine body_go Tryz.func68 rfl ?_
 have hr := Tryz.results68
 simp only [c_seq, RUNA, RUNB, zAd, zMo, zDi, zSu, zMu, zEq, zBe, zLe, zTo, fillS, wantG, vBox, Value.cells, one, putAt, TYA, hr]
 refine wpc_mono (oNil_spec _) ?_
 rintro r σ1 ⟨rfl, hE1⟩
 have n1 := hE1.next
 simp only [next_more, next_put] at n1
 have r1 : σ1.row (σ.next) = some ([.int .i64 0, .string ⟨#[]⟩, .string ⟨#[]⟩, .int .i64 0, .string ⟨#[]⟩, .string ⟨#[]⟩, .string ⟨#[]⟩, .string ⟨#[]⟩, .string ⟨#[]⟩, .slice none 0 0, .slice none 0 0], boxMeta) := by rw [hE1.row _ (by first | omega | (simp only [next_more, next_put] at *; omega))]; simp only [c_seq, RUNA, RUNB, zAd, zMo, zDi, zSu, zMu, zEq, zBe, zLe, zTo, fillS, wantG, vBox, Value.cells, one, putAt]
 have e1 : EX σ σ1 := by refine EX.trans ?_ hE1; repeat first | assumption | exact EXn.refl _ _ | refine EXn.more ?_ _ | refine EXn.put ?_ (by omega) _ | refine EX.trans ?_ (by assumption)
 simp only [c_seq, RUNA, RUNB, zAd, zMo, zDi, zSu, zMu, zEq, zBe, zLe, zTo, fillS, wantG, vBox, Value.cells, one, putAt, TYA, hr]
 refine wpc_mono (C_spec _ obNil) ?_
 rintro r σ2 ⟨rfl, hE2⟩
 have n2 := hE2.next
 have r2 := (hE2.row (σ.next) (by omega)).trans r1
 have e2 : EX σ σ2 := by refine EX.trans ?_ hE2; repeat first | assumption | exact EXn.refl _ _ | refine EXn.more ?_ _ | refine EXn.put ?_ (by omega) _ | refine EX.trans ?_ (by assumption)
 simp only [c_seq, RUNA, RUNB, zAd, zMo, zDi, zSu, zMu, zEq, zBe, zLe, zTo, fillS, wantG, vBox, Value.cells, one, putAt, TYA, hr, r2]
 first
 | exact ⟨rfl, by repeat first | assumption | exact EXn.refl _ _ | refine EXn.more ?_ _ | refine EXn.put ?_ (by omega) _ | refine EX.trans ?_ (by assumption)⟩
 | (repeat first | assumption | exact EXn.refl _ _ | refine EXn.more ?_ _ | refine EXn.put ?_ (by omega) _ | refine EX.trans ?_ (by assumption))
theorem sT_spec (σ : St) : wpc Tryz.prog 69 #[] σ fun r σ' => r = conV obT ∧ EX σ σ' := by
 refine body_go Tryz.func69 rfl ?_
 have hr := Tryz.results69
 simp only [c_seq, RUNA, RUNB, zAd, zMo, zDi, zSu, zMu, zEq, zBe, zLe, zTo, fillS, wantG, vBox, Value.cells, one, putAt, TYA, hr]
 refine wpc_mono (oT_spec _) ?_
 rintro r σ1 ⟨rfl, hE1⟩
 have n1 := hE1.next
 simp only [next_more, next_put] at n1
 have r1 : σ1.row (σ.next) = some ([.int .i64 0, .string ⟨#[]⟩, .string ⟨#[]⟩, .int .i64 0, .string ⟨#[]⟩, .string ⟨#[]⟩, .string ⟨#[]⟩, .string ⟨#[]⟩, .string ⟨#[]⟩, .slice none 0 0, .slice none 0 0], boxMeta) := by rw [hE1.row _ (by first | omega | (simp only [next_more, next_put] at *; omega))]; simp only [c_seq, RUNA, RUNB, zAd, zMo, zDi, zSu, zMu, zEq, zBe, zLe, zTo, fillS, wantG, vBox, Value.cells, one, putAt]
 have e1 : EX σ σ1 := by refine EX.trans ?_ hE1; repeat first | assumption | exact EXn.refl _ _ | refine EXn.more ?_ _ | refine EXn.put ?_ (by omega) _ | refine EX.trans ?_ (by assumption)
 simp only [c_seq, RUNA, RUNB, zAd, zMo, zDi, zSu, zMu, zEq, zBe, zLe, zTo, fillS, wantG, vBox, Value.cells, one, putAt, TYA, hr]
 refine wpc_mono (C_spec _ obT) ?_
 rintro r σ2 ⟨rfl, hE2⟩
 have n2 := hE2.next
 have r2 := (hE2.row (σ.next) (by omega)).trans r1
 have e2 : EX σ σ2 := by refine EX.trans ?_ hE2; repeat first | assumption | exact EXn.refl _ _ | refine EXn.more ?_ _ | refine EXn.put ?_ (by omega) _ | refine EX.trans ?_ (by assumption)
 simp only [c_seq, RUNA, RUNB, zAd, zMo, zDi, zSu, zMu, zEq, zBe, zLe, zTo, fillS, wantG, vBox, Value.cells, one, putAt, TYA, hr, r2]
 first
 | exact ⟨rfl, by repeat first | assumption | exact EXn.refl _ _ | refine EXn.more ?_ _ | refine EXn.put ?_ (by omega) _ | refine EX.trans ?_ (by assumption)⟩
 | (repeat first | assumption | exact EXn.refl _ _ | refine EXn.more ?_ _ | refine EXn.put ?_ (by omega) _ | refine EX.trans ?_ (by assumption))
theorem If_spec (σ : St) (t u w : PT) (At Au Aw : Option Addr) (ct cu cw : Nat) : wpc Tryz.prog 70 #[.agg #[.int .i64 t.k, .string t.p, .string t.s, .int .i64 t.o.k, .string t.o.n, .string t.o.d, .string t.o.p, .string t.o.s, .string t.o.t, .slice none 0 0, .slice At t.l.length ct], .agg #[.int .i64 u.k, .string u.p, .string u.s, .int .i64 u.o.k, .string u.o.n, .string u.o.d, .string u.o.p, .string u.o.s, .string u.o.t, .slice none 0 0, .slice Au u.l.length cu], .agg #[.int .i64 w.k, .string w.p, .string w.s, .int .i64 w.o.k, .string w.o.n, .string w.o.d, .string w.o.p, .string w.o.s, .string w.o.t, .slice none 0 0, .slice Aw w.l.length cw]] σ fun r σ' =>
    ∃ id, r = appV lsp nIf (some ⟨id, 0, none⟩) 3 3 ∧ σ.next ≤ id ∧ id < σ'.next ∧ σ'.row id = some ([.int .i64 t.k, .string t.p, .string t.s, .int .i64 t.o.k, .string t.o.n, .string t.o.d, .string t.o.p, .string t.o.s, .string t.o.t, .slice none 0 0, .slice At t.l.length ct, .int .i64 u.k, .string u.p, .string u.s, .int .i64 u.o.k, .string u.o.n, .string u.o.d, .string u.o.p, .string u.o.s, .string u.o.t, .slice none 0 0, .slice Au u.l.length cu, .int .i64 w.k, .string w.p, .string w.s, .int .i64 w.o.k, .string w.o.n, .string w.o.d, .string w.o.p, .string w.o.s, .string w.o.t, .slice none 0 0, .slice Aw w.l.length cw], rowMeta 11) ∧ EX σ σ' := by
 refine body_go Tryz.func70 rfl ?_
 have hr := Tryz.results70
 simp only [c_seq, RUNA, RUNB, zAd, zMo, zDi, zSu, zMu, zEq, zBe, zLe, zTo, fillS, wantG, vBox, Value.cells, one, putAt, TYA, hr, bsT3]
 refine wpc_mono (LispT_spec _ nIf _ _ _) ?_
 rintro r σ2 ⟨rfl, hE2⟩
 have n2 := hE2.next
 simp only [next_more, next_put] at n2
 have r2 : σ2.row (σ.next + 3) = some ([.int .i64 0, .string ⟨#[]⟩, .string ⟨#[]⟩, .int .i64 0, .string ⟨#[]⟩, .string ⟨#[]⟩, .string ⟨#[]⟩, .string ⟨#[]⟩, .string ⟨#[]⟩, .slice none 0 0, .slice none 0 0], boxMeta) := by rw [hE2.row _ (by first | omega | (simp only [next_more, next_put] at *; omega))]; simp only [c_seq, RUNA, RUNB, zAd, zMo, zDi, zSu, zMu, zEq, zBe, zLe, zTo, fillS, wantG, vBox, Value.cells, one, putAt]
 have r3 : σ2.row (σ.next + 7) = some ([.int .i64 t.k, .string t.p, .string t.s, .int .i64 t.o.k, .string t.o.n, .string t.o.d, .string t.o.p, .string t.o.s, .string t.o.t, .slice none 0 0, .slice At t.l.length ct, .int .i64 u.k, .string u.p, .string u.s, .int .i64 u.o.k, .string u.o.n, .string u.o.d, .string u.o.p, .string u.o.s, .string u.o.t, .slice none 0 0, .slice Au u.l.length cu, .int .i64 w.k, .string w.p, .string w.s, .int .i64 w.o.k, .string w.o.n, .string w.o.d, .string w.o.p, .string w.o.s, .string w.o.t, .slice none 0 0, .slice Aw w.l.length cw], rowMeta 11) := by rw [hE2.row _ (by first | omega | (simp only [next_more, next_put] at *; omega))]; simp only [c_seq, RUNA, RUNB, zAd, zMo, zDi, zSu, zMu, zEq, zBe, zLe, zTo, fillS, wantG, vBox, Value.cells, one, putAt]
 have e2 : EX σ σ2 := by refine EX.trans ?_ hE2; repeat first | assumption | exact EXn.refl _ _ | refine EXn.more ?_ _ | refine EXn.put ?_ (by omega) _ | refine EX.trans ?_ (by assumption)
 simp only [c_seq, RUNA, RUNB, zAd, zMo, zDi, zSu, zMu, zEq, zBe, zLe, zTo, fillS, wantG, vBox, Value.cells, one, putAt, TYA, hr, r2]
 refine ⟨σ.next + 7, rfl, by omega, by first | omega | (simp only [next_more, next_put] at *; omega), ?_, ?_⟩
 ·simp only [c_seq, RUNA, RUNB, zAd, zMo, zDi, zSu, zMu, zEq, zBe, zLe, zTo, fillS, wantG, vBox, Value.cells, one, putAt, r3]
 ·repeat first | assumption | exact EXn.refl _ _ | refine EXn.more ?_ _ | refine EXn.put ?_ (by omega) _ | refine EX.trans ?_ (by assumption)
end Go.Proofs.Q
namespace Go.Proofs.Q
open Go.AI
theorem allSame_eq (t : List Bool) : allSame t = t.all (fun x => x == bt t 0) := by
 rw [Bool.eq_iff_iff]
 simp only [allSame, decide_eq_true_eq, List.all_eq_true, beq_iff_eq]
 constructor
 ·intro h x hx
  obtain ⟨j, hj, rfl⟩ := List.getElem_of_mem hx
  have := h j hj
  rw [← this]; simp [bt, hj]
 ·intro h j hj
  have := h (t[j]) (List.getElem_mem hj)
  simpa [bt, hj] using this
def bldE : Nat → List Bool → List Vtx → Int × List Vtx
 | 0, t, l => (if bt t 0 = true then 1 else 0, l)
 | k + 1, t, l => if t.all (fun x => x == bt t 0) = true then (if bt t 0 = true then 1 else 0, l) else
  let a := bldE k (t.take (2 ^ k)) l
  let b := bldE k (t.drop (2 ^ k)) a.2
  if a.1 = b.1 then (a.1, b.2) else
  let x : Vtx := (9 - (k : Int), a.1, b.1)
  ((fnd x b.2 : Int), if fnd x b.2 < b.2.length then b.2 else b.2 ++ [x])
theorem bld_eq : ∀ (k : Nat) (t : List Bool) (l : List Vtx), bld k t l = bldE k t l := by
 intro k
 induction k with
 | zero => intro t l; rfl
 | succ k ih => intro t l; simp only [bld, bldE, allSame_eq, ih]
theorem rv_rv_all : (List.range 1024).all (fun n => rv (rv n 10) 10 == n) = true := by kernel_rfl
theorem rv_rv {n : Nat} (h : n < 1024) : rv (rv n 10) 10 = n := by
 have := List.all_eq_true.1 rv_rv_all n (List.mem_range.2 h)
 simpa using this
theorem bt_set {t : List Bool} {i p : Nat} {v : Bool} (hi : i < t.length) : bt (t.set i v) p = if p = i then v else bt t p := by
 unfold bt
 rw [List.getD_eq_getElem?_getD, List.getD_eq_getElem?_getD, List.getElem?_set]
 by_cases h : i = p
 ·subst h; simp [hi]
 ·have h' : ¬ p = i := fun e => h e.symm
  simp [h, h']
theorem bt_turn (t : List Bool) (p : Nat) (hp : p < 1024) : ∀ n, n ≤ 1024 → bt (turn t n) p = if rv p 10 < n then bt t (rv p 10) else false := by
 intro n
 induction n with
 | zero => intro _; simp only [turn, Nat.not_lt_zero, if_false, bt, List.getD_eq_getElem?_getD, List.getElem?_replicate]; split <;> rfl
 | succ n ih =>
  intro hn
  have hr := rv_lt n 10
  rw [turn, bt_set (by rw [turn_len]; omega), ih (by omega)]
  by_cases h : p = rv n 10
  ·have e : rv p 10 = n := by rw [h, rv_rv (by omega)]
   rw [if_pos h, e, if_pos (by omega)]
  ·have e : rv p 10 ≠ n := fun e => h (by rw [← e, rv_rv hp])
   rw [if_neg h]
   by_cases h2 : rv p 10 < n
   ·rw [if_pos h2, if_pos (by omega)]
   ·rw [if_neg h2, if_neg (by omega)]
theorem bt_fill (f : Nat → Bool) (p : Nat) : ∀ n, n ≤ 1024 → bt (fill f n) p = if p < n then f p else false := by
 intro n
 induction n with
 | zero => intro _; simp only [fill, Nat.not_lt_zero, if_false, bt, List.getD_eq_getElem?_getD, List.getElem?_replicate]; split <;> rfl
 | succ n ih =>
  intro hn
  rw [fill, bt_set (by rw [fill_len]; omega), ih (by omega)]
  by_cases h : p = n
  ·rw [if_pos h, if_pos (by omega), h]
  ·rw [if_neg h]
   by_cases h2 : p < n
   ·rw [if_pos h2, if_pos (by omega)]
   ·rw [if_neg h2, if_neg (by omega)]
theorem turn_eq (t : List Bool) : turn t 1024 = (List.range 1024).map fun p => bt t (rv p 10) := by
 refine List.ext_getElem (by rw [turn_len, List.length_map, List.length_range]) fun p h1 h2 => ?_
 rw [turn_len] at h1
 have := bt_turn t p h1 1024 (Nat.le_refl _)
 rw [if_pos (rv_lt p 10)] at this
 rw [List.getElem_map, List.getElem_range, ← this]
 simp [bt, turn_len, h1]
theorem turn_fill (f : Nat → Bool) : turn (fill f 1024) 1024 = (List.range 1024).map fun p => f (rv p 10) := by
 rw [turn_eq]
 refine List.map_congr_left fun p _ => ?_
 rw [bt_fill f _ 1024 (Nat.le_refl _), if_pos (rv_lt p 10)]
theorem dgm_fill (f : Nat → Bool) : dgm (fill f 1024) = ((bldE 10 ((List.range 1024).map fun p => f (rv p 10)) c01).2, (bldE 10 ((List.range 1024).map fun p => f (rv p 10)) c01).1) := by
 rw [dgm_eq, turn_fill, bld_eq]
theorem dgm_const (b : Bool) : dgm (fill (fun _ => b) 1024) = constD b := by
 rw [dgm_fill]
 cases b <;> kernel_rfl
theorem dv0 : ((bldE 10 ((List.range 1024).map fun p => bitF 0 (rv p 10)) c01).2, (bldE 10 ((List.range 1024).map fun p => bitF 0 (rv p 10)) c01).1) = varD 0 := by kernel_rfl
theorem dv1 : ((bldE 10 ((List.range 1024).map fun p => bitF 1 (rv p 10)) c01).2, (bldE 10 ((List.range 1024).map fun p => bitF 1 (rv p 10)) c01).1) = varD 1 := by kernel_rfl
theorem dv2 : ((bldE 10 ((List.range 1024).map fun p => bitF 2 (rv p 10)) c01).2, (bldE 10 ((List.range 1024).map fun p => bitF 2 (rv p 10)) c01).1) = varD 2 := by kernel_rfl
theorem dv3 : ((bldE 10 ((List.range 1024).map fun p => bitF 3 (rv p 10)) c01).2, (bldE 10 ((List.range 1024).map fun p => bitF 3 (rv p 10)) c01).1) = varD 3 := by kernel_rfl
theorem dv4 : ((bldE 10 ((List.range 1024).map fun p => bitF 4 (rv p 10)) c01).2, (bldE 10 ((List.range 1024).map fun p => bitF 4 (rv p 10)) c01).1) = varD 4 := by kernel_rfl
theorem dv5 : ((bldE 10 ((List.range 1024).map fun p => bitF 5 (rv p 10)) c01).2, (bldE 10 ((List.range 1024).map fun p => bitF 5 (rv p 10)) c01).1) = varD 5 := by kernel_rfl
theorem dv6 : ((bldE 10 ((List.range 1024).map fun p => bitF 6 (rv p 10)) c01).2, (bldE 10 ((List.range 1024).map fun p => bitF 6 (rv p 10)) c01).1) = varD 6 := by kernel_rfl
theorem dv7 : ((bldE 10 ((List.range 1024).map fun p => bitF 7 (rv p 10)) c01).2, (bldE 10 ((List.range 1024).map fun p => bitF 7 (rv p 10)) c01).1) = varD 7 := by kernel_rfl
theorem dv8 : ((bldE 10 ((List.range 1024).map fun p => bitF 8 (rv p 10)) c01).2, (bldE 10 ((List.range 1024).map fun p => bitF 8 (rv p 10)) c01).1) = varD 8 := by kernel_rfl
theorem dv9 : ((bldE 10 ((List.range 1024).map fun p => bitF 9 (rv p 10)) c01).2, (bldE 10 ((List.range 1024).map fun p => bitF 9 (rv p 10)) c01).1) = varD 9 := by kernel_rfl
theorem dgm_var (i : Nat) (h : i < 10) : dgm (fill (bitF i) 1024) = varD i := by
 rw [dgm_fill]
 match i, h with
 | 0, _ => exact dv0
 | 1, _ => exact dv1
 | 2, _ => exact dv2
 | 3, _ => exact dv3
 | 4, _ => exact dv4
 | 5, _ => exact dv5
 | 6, _ => exact dv6
 | 7, _ => exact dv7
 | 8, _ => exact dv8
 | 9, _ => exact dv9
end Go.Proofs.Q
