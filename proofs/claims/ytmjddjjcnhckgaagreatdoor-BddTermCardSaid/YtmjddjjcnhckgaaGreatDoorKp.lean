import Derived.Test.YtmjddjjcnhckgaaGreatDoorKo
set_option linter.unusedVariables false
set_option linter.unusedSimpArgs false
set_option linter.constructorNameAsVariable false
open Nat renaming reduceAdd → zAd, reduceMod → zMo, reduceDiv → zDi, reduceSub → zSu, reduceMul → zMu, reduceEqDiff → zEq, reduceBEq → zBe, reduceLeDiff → zLe, reduceShiftRight → zSh
open Int renaming reduceToNat → zTo
namespace Go.Proofs.Q
open Go.AI
theorem IsD.hi {lo hi hi' : Nat} {σ : St} {v : Value} {φ : As → Bool} (h : IsD lo hi σ v φ) (hl : hi ≤ hi') : IsD lo hi' σ v φ := by
 obtain ⟨T, ⟨s, h1, h2⟩, h3⟩ := h
 refine ⟨T, ⟨s, h1, h2.imp (fun h => ?_) id⟩, h3⟩
 obtain ⟨id, off, c, row, m, h1, h2, h3, h4⟩ := h
 exact ⟨id, off, c, row, m, h1, h2, by omega, h4⟩
theorem refIte_spec {σ : St} {a b c : Value} {φ ψ χ : As → Bool} (ha : IsD 0 σ.next σ a φ) (hb : IsD 0 σ.next σ b ψ) (hc : IsD 0 σ.next σ c χ) (hF : Fr σ) :
    wpc Tryz.prog 33 #[a, b, c] σ fun r σ' => IsD σ.next σ'.next σ' r (fun f => if φ f = true then ψ f else χ f) ∧ EX σ σ' := by
 have ten1 := ha.ten
 have ten2 := hb.ten
 have ten3 := hc.ten
 obtain ⟨o1, k1, c1, i1, rfl⟩ := ha.open
 obtain ⟨o2, k2, c2, i2, rfl⟩ := hb.open
 obtain ⟨o3, k3, c3, i3, rfl⟩ := hc.open
 refine body_go Tryz.func33 rfl ?_
 have hr := Tryz.results33
 simp only [c_seq, RUNA, RUNB, zAd, zMo, zDi, zSu, zMu, zEq, zBe, zLe, zTo, fillS, wantG, vBox, Value.cells, one, putAt, TYA, hr]
 refine d_go (ms := [0, 1, 0, 7, 0, 31, 63, 127, 255]) (order := [0, 2, 4, 1, 3, 5, 6, 7, 8]) (by kernel_rfl) (by kernel_rfl) (by kernel_rfl) (by kernel_rfl) ?_
 simp only [YRUNA, YRUNB, zSh, bit, c_seq, RUNA, RUNB, zAd, zMo, zDi, zSu, zMu, zEq, zBe, zLe, zTo, fillS, wantG, vBox, Value.cells, one, putAt, TYA]
 refine wpc_mono (Table_is (ha.un ?_) ?_) ?_
 ·repeat first | assumption | exact UN.refl _ _ _ | refine UN.more ?_ _ | refine UN.put ?_ (by omega) _ | refine UN.ex (by assumption) ?_ (by first | omega | (simp only [next_more, next_put]; omega)) | refine UN.exb (by assumption) ?_ (by first | omega | (simp only [next_more, next_put]; omega)) (by omega)
 ·first | omega | (simp only [next_more, next_put] at *; omega)
 rintro r σ1 ⟨⟨d1, rfl, t1, t1', t1''⟩, hE1⟩
 have n1 := hE1.next
 simp only [next_more, next_put] at n1 t1
 have a1 : σ1.row σ.next = some ([.slice o1 k1 c1, .int .i64 i1], boxMeta) := by rw [hE1.row _ (by first | omega | (simp only [next_more, next_put] at *; omega))]; simp only [c_seq, RUNA, RUNB, zAd, zMo, zDi, zSu, zMu, zEq, zBe, zLe, zTo, fillS, wantG, vBox, Value.cells, one, putAt]
 have b1 : σ1.row (σ.next + 1) = some ([.slice o2 k2 c2, .int .i64 i2], boxMeta) := by rw [hE1.row _ (by first | omega | (simp only [next_more, next_put] at *; omega))]; simp only [c_seq, RUNA, RUNB, zAd, zMo, zDi, zSu, zMu, zEq, zBe, zLe, zTo, fillS, wantG, vBox, Value.cells, one, putAt]
 have c1 : σ1.row (σ.next + 2) = some ([.slice o3 k3 c3, .int .i64 i3], boxMeta) := by rw [hE1.row _ (by first | omega | (simp only [next_more, next_put] at *; omega))]; simp only [c_seq, RUNA, RUNB, zAd, zMo, zDi, zSu, zMu, zEq, zBe, zLe, zTo, fillS, wantG, vBox, Value.cells, one, putAt]
 have r1 : σ1.row (σ.next + 3) = some ([.slice none 0 0, .int .i64 0], boxMeta) := by rw [hE1.row _ (by first | omega | (simp only [next_more, next_put] at *; omega))]; simp only [c_seq, RUNA, RUNB, zAd, zMo, zDi, zSu, zMu, zEq, zBe, zLe, zTo, fillS, wantG, vBox, Value.cells, one, putAt]
 have e1 : EX σ σ1 := by repeat first | assumption | exact EXn.refl _ _ | refine EXn.more ?_ _ | refine EXn.put ?_ (by omega) _ | refine EX.trans ?_ (by assumption)
 simp only [YRUNA, YRUNB, zSh, bit, c_seq, RUNA, RUNB, zAd, zMo, zDi, zSu, zMu, zEq, zBe, zLe, zTo, fillS, wantG, vBox, Value.cells, one, putAt, TYA, a1, b1, c1]
 refine wpc_mono (Table_is (hb.un ?_) ?_) ?_
 ·repeat first | assumption | exact UN.refl _ _ _ | refine UN.more ?_ _ | refine UN.put ?_ (by omega) _ | refine UN.ex (by assumption) ?_ (by first | omega | (simp only [next_more, next_put]; omega)) | refine UN.exb (by assumption) ?_ (by first | omega | (simp only [next_more, next_put]; omega)) (by omega)
 ·first | omega | (simp only [next_more, next_put] at *; omega)
 rintro r σ2 ⟨⟨d2, rfl, t2, t2', t2''⟩, hE2⟩
 have n2 := hE2.next
 have a2 := (hE2.row σ.next (by omega)).trans a1
 have b2 := (hE2.row (σ.next + 1) (by omega)).trans b1
 have c2 := (hE2.row (σ.next + 2) (by omega)).trans c1
 have r2 := (hE2.row (σ.next + 3) (by omega)).trans r1
 have u1 := (hE2.row d1 (by omega)).trans t1''
 have e2 : EX σ σ2 := by repeat first | assumption | exact EXn.refl _ _ | refine EXn.more ?_ _ | refine EXn.put ?_ (by omega) _ | refine EX.trans ?_ (by assumption)
 simp only [YRUNA, YRUNB, zSh, bit, c_seq, RUNA, RUNB, zAd, zMo, zDi, zSu, zMu, zEq, zBe, zLe, zTo, fillS, wantG, vBox, Value.cells, one, putAt, TYA, a2, b2, c2]
 refine wpc_mono (Table_is (hc.un ?_) ?_) ?_
 ·repeat first | assumption | exact UN.refl _ _ _ | refine UN.more ?_ _ | refine UN.put ?_ (by omega) _ | refine UN.ex (by assumption) ?_ (by first | omega | (simp only [next_more, next_put]; omega)) | refine UN.exb (by assumption) ?_ (by first | omega | (simp only [next_more, next_put]; omega)) (by omega)
 ·first | omega | (simp only [next_more, next_put] at *; omega)
 rintro r σ3 ⟨⟨d3, rfl, t3, t3', t3''⟩, hE3⟩
 have n3 := hE3.next
 have a3 := (hE3.row σ.next (by omega)).trans a2
 have b3 := (hE3.row (σ.next + 1) (by omega)).trans b2
 have c3 := (hE3.row (σ.next + 2) (by omega)).trans c2
 have r3 := (hE3.row (σ.next + 3) (by omega)).trans r2
 have w1 := (hE3.row d1 (by omega)).trans u1
 have w2 := (hE3.row d2 (by omega)).trans t2''
 have e3 : EX σ σ3 := by repeat first | assumption | exact EXn.refl _ _ | refine EXn.more ?_ _ | refine EXn.put ?_ (by omega) _ | refine EX.trans ?_ (by assumption)
 have f3 := e3.fr hF
 simp only [YRUNA, YRUNB, zSh, bit, c_seq, RUNA, RUNB, zAd, zMo, zDi, zSu, zMu, zEq, zBe, zLe, zTo, fillS, wantG, vBox, Value.cells, one, putAt, TYA, a3, b3, c3]
 refine loop_go (fun m S τ => S.at 6 = .pointer (some ⟨σ.next + 3, 0, none⟩) ∧ S.at 7 = .slice (some ⟨d1, 0, none⟩) 1024 1024 ∧ S.at 8 = .slice (some ⟨d2, 0, none⟩) 1024 1024 ∧ S.at 9 = .slice (some ⟨d3, 0, none⟩) 1024 1024 ∧ EX σ τ ∧ Fr τ ∧ σ3.next ≤ τ.next ∧
  τ.row (σ.next + 3) = some ([.slice none 0 0, .int .i64 0], boxMeta) ∧ τ.row d1 = some ((tab 1024 fun n => φ (bits n)).map Value.bool, rowMeta 1) ∧ τ.row d2 = some ((tab 1024 fun n => ψ (bits n)).map Value.bool, rowMeta 1) ∧
  ∃ n : Nat, S.at 10 = .int .i64 n ∧ n ≤ 1024 ∧ m = 1024 - n ∧ τ.row d3 = some ((tab 1024 (half n (fun n => if φ (bits n) = true then ψ (bits n) else χ (bits n)) (fun n => χ (bits n)))).map Value.bool, rowMeta 1)) 1024 ?_ ?_
 ·simp only [c_seq, RUNA, RUNB, zAd, zMo, zDi, zSu, zMu, zEq, zBe, zLe, zTo, fillS, wantG, vBox, Value.cells, one, putAt]
  refine ⟨?_, ?_, by omega, r3, w1, w2, 0, rfl, by omega, by omega, ?_⟩
  ·repeat first | assumption | exact EXn.refl _ _ | refine EXn.more ?_ _ | refine EXn.put ?_ (by omega) _ | refine EX.trans ?_ (by assumption)
  ·repeat first | assumption | refine Fr.more ?_ _ | refine Fr.put ?_ _ _
  ·rw [t3'', half_0 (f := fun n => if φ (bits n) = true then ψ (bits n) else χ (bits n))]
 rintro _ S τ ⟨s6, s7, s8, s9, hE, hF', hx, r0, x1, x2, n, s10, hn, rfl, rt⟩
 have nn := hE.next
 by_cases hlt : n < 1024
 ·have hd : decide ((n : Int) < ((1024 : Nat) : Int)) = true := by simp; omega
  have z2 : (0 : Int) ≤ (n : Int) := by omega
  have z3 : (n : Int) < ((1024 : Nat) : Int) := by omega
  have hw : IntKind.i64.wrap ((n : Int) + 1) = ((n + 1 : Nat) : Int) := by rw [wrap64 (by omega) (by omega)]; rfl
  have hle : n + 1 ≤ ((tab 1024 (half n (fun n => if φ (bits n) = true then ψ (bits n) else χ (bits n)) (fun n => χ (bits n)))).map Value.bool).length := by rw [List.length_map, tab_len]; omega
  have hv1 := tabv (f := fun n => φ (bits n)) hlt
  have hv2 := tabv (f := fun n => ψ (bits n)) hlt
  have q : ¬ σ.next + 3 = d3 := by omega
  have q1 : ¬ d1 = d3 := by omega
  have q2 : ¬ d2 = d3 := by omega
  have hs := half_set (N := 1024) (n := n) (f := fun n => if φ (bits n) = true then ψ (bits n) else χ (bits n)) (g := fun n => χ (bits n))
  cases hp : φ (bits n) with
  | true =>
   rw [hp] at hv1
   simp only [hp, if_true] at hs
   simp only [c_seq, RUNA, RUNB, zAd, zMo, zDi, zSu, zMu, zEq, zBe, zLe, zTo, fillS, wantG, vBox, Value.cells, one, putAt, TYA, s6, s7, s8, s9, s10, hd, ia63 z2 z3, rt, x1, x2, hv1, hv2, hle, hw, r0, q, q1, q2]
   refine ⟨1024 - (n + 1), by omega, ?_, ?_, by omega, n + 1, rfl, by omega, rfl, ?_⟩
   ·repeat first | assumption | exact EXn.refl _ _ | refine EXn.more ?_ _ | refine EXn.put ?_ (by omega) _ | refine EX.trans ?_ (by assumption)
   ·repeat first | assumption | refine Fr.more ?_ _ | refine Fr.put ?_ _ _
   ·rw [← hs, List.map_set]
  | false =>
   rw [hp] at hv1
   simp only [hp, Bool.false_eq_true, if_false] at hs
   have hs2 : (tab 1024 (half n (fun n => if φ (bits n) = true then ψ (bits n) else χ (bits n)) (fun n => χ (bits n)))) = (tab 1024 (half (n + 1) (fun n => if φ (bits n) = true then ψ (bits n) else χ (bits n)) (fun n => χ (bits n)))) := by
    rw [← hs, tab_set]
    refine tab_congr fun i _ => ?_
    by_cases h : i = n
    ·subst h; rw [if_pos rfl, half_at]
    ·rw [if_neg h]
   simp only [c_seq, RUNA, RUNB, zAd, zMo, zDi, zSu, zMu, zEq, zBe, zLe, zTo, fillS, wantG, vBox, Value.cells, one, putAt, TYA, s6, s7, s8, s9, s10, hd, ia63 z2 z3, rt, x1, x2, hv1, hv2, hle, hw, r0, q, q1, q2]
   refine ⟨1024 - (n + 1), by omega, ?_, ?_, by omega, n + 1, rfl, by omega, rfl, ?_⟩
   ·repeat first | assumption | exact EXn.refl _ _ | refine EXn.more ?_ _ | refine EXn.put ?_ (by omega) _ | refine EX.trans ?_ (by assumption)
   ·repeat first | assumption | refine Fr.more ?_ _ | refine Fr.put ?_ _ _
   ·rw [hs2]
 ·have hd : decide ((n : Int) < ((1024 : Nat) : Int)) = false := by simp; omega
  have hn1 : n = 1024 := by omega
  rw [hn1, half_N] at rt
  simp only [c_seq, RUNA, RUNB, zAd, zMo, zDi, zSu, zMu, zEq, zBe, zLe, zTo, fillS, wantG, vBox, Value.cells, one, putAt, TYA, s6, s7, s8, s9, s10, hd]
  refine wpc_mono (Diagram_is (lo := 0) (hi := τ.next) ⟨d3, rfl, by omega, by omega, rt⟩ (by first | omega | (simp only [next_more, next_put] at *; omega)) (by repeat first | assumption | refine Fr.more ?_ _ | refine Fr.put ?_ _ _)) ?_
  rintro r σ2 ⟨hD, hE2⟩
  have n2 := hE2.next
  simp only [next_more] at n2 hD
  obtain ⟨o, k, c, i, rfl⟩ := hD.open
  have r2 : σ2.row (σ.next + 3) = some ([.slice none 0 0, .int .i64 0], boxMeta) := (hE2.row _ (by first | omega | (simp only [next_more, next_put] at *; omega))).trans r0
  simp only [c_seq, RUNA, RUNB, zAd, zMo, zDi, zSu, zMu, zEq, zBe, zLe, zTo, fillS, wantG, vBox, Value.cells, one, putAt, TYA, s6, r2, hr]
  refine ⟨IsD.congr (IsD.weak (hD.un ?_) (by omega)) (fun f => by rw [ten1 f, ten2 f, ten3 f]), ?_⟩
  ·repeat first | assumption | exact UN.refl _ _ _ | refine UN.more ?_ _ | refine UN.put ?_ (by omega) _ | refine UN.ex (by assumption) ?_ (by first | omega | (simp only [next_more, next_put]; omega)) | refine UN.exb (by assumption) ?_ (by first | omega | (simp only [next_more, next_put]; omega)) (by omega)
  ·repeat first | assumption | exact EXn.refl _ _ | refine EXn.more ?_ _ | refine EXn.put ?_ (by omega) _ | refine EX.trans ?_ (by assumption)
theorem refXor_spec {σ : St} {a b : Value} {φ ψ : As → Bool} (ha : IsD 0 σ.next σ a φ) (hb : IsD 0 σ.next σ b ψ) (hF : Fr σ) :
    wpc Tryz.prog 36 #[a, b] σ fun r σ' => IsD σ.next σ'.next σ' r (fun f => !(φ f == ψ f)) ∧ EX σ σ' := by
 have ten1 := ha.ten
 have ten2 := hb.ten
 obtain ⟨o1, k1, c1, i1, rfl⟩ := ha.open
 obtain ⟨o2, k2, c2, i2, rfl⟩ := hb.open
 refine body_go Tryz.func36 rfl ?_
 have hr := Tryz.results36
 simp only [c_seq, RUNA, RUNB, zAd, zMo, zDi, zSu, zMu, zEq, zBe, zLe, zTo, fillS, wantG, vBox, Value.cells, one, putAt, TYA, hr]
 refine d_go (ms := [0, 1, 0, 7, 15, 31]) (order := [0, 2, 1, 3, 4, 5]) (by kernel_rfl) (by kernel_rfl) (by kernel_rfl) (by kernel_rfl) ?_
 simp only [YRUNA, YRUNB, zSh, bit, c_seq, RUNA, RUNB, zAd, zMo, zDi, zSu, zMu, zEq, zBe, zLe, zTo, fillS, wantG, vBox, Value.cells, one, putAt, TYA]
 refine wpc_mono (Table_is (ha.un ?_) ?_) ?_
 ·repeat first | assumption | exact UN.refl _ _ _ | refine UN.more ?_ _ | refine UN.put ?_ (by omega) _ | refine UN.ex (by assumption) ?_ (by first | omega | (simp only [next_more, next_put]; omega)) | refine UN.exb (by assumption) ?_ (by first | omega | (simp only [next_more, next_put]; omega)) (by omega)
 ·first | omega | (simp only [next_more, next_put] at *; omega)
 rintro r σ1 ⟨⟨d1, rfl, t1, t1', t1''⟩, hE1⟩
 have n1 := hE1.next
 simp only [next_more, next_put] at n1 t1
 have a1 : σ1.row σ.next = some ([.slice o1 k1 c1, .int .i64 i1], boxMeta) := by rw [hE1.row _ (by first | omega | (simp only [next_more, next_put] at *; omega))]; simp only [c_seq, RUNA, RUNB, zAd, zMo, zDi, zSu, zMu, zEq, zBe, zLe, zTo, fillS, wantG, vBox, Value.cells, one, putAt]
 have b1 : σ1.row (σ.next + 1) = some ([.slice o2 k2 c2, .int .i64 i2], boxMeta) := by rw [hE1.row _ (by first | omega | (simp only [next_more, next_put] at *; omega))]; simp only [c_seq, RUNA, RUNB, zAd, zMo, zDi, zSu, zMu, zEq, zBe, zLe, zTo, fillS, wantG, vBox, Value.cells, one, putAt]
 have r1 : σ1.row (σ.next + 2) = some ([.slice none 0 0, .int .i64 0], boxMeta) := by rw [hE1.row _ (by first | omega | (simp only [next_more, next_put] at *; omega))]; simp only [c_seq, RUNA, RUNB, zAd, zMo, zDi, zSu, zMu, zEq, zBe, zLe, zTo, fillS, wantG, vBox, Value.cells, one, putAt]
 have e1 : EX σ σ1 := by repeat first | assumption | exact EXn.refl _ _ | refine EXn.more ?_ _ | refine EXn.put ?_ (by omega) _ | refine EX.trans ?_ (by assumption)
 simp only [YRUNA, YRUNB, zSh, bit, c_seq, RUNA, RUNB, zAd, zMo, zDi, zSu, zMu, zEq, zBe, zLe, zTo, fillS, wantG, vBox, Value.cells, one, putAt, TYA, a1, b1]
 refine wpc_mono (Table_is (hb.un ?_) ?_) ?_
 ·repeat first | assumption | exact UN.refl _ _ _ | refine UN.more ?_ _ | refine UN.put ?_ (by omega) _ | refine UN.ex (by assumption) ?_ (by first | omega | (simp only [next_more, next_put]; omega)) | refine UN.exb (by assumption) ?_ (by first | omega | (simp only [next_more, next_put]; omega)) (by omega)
 ·first | omega | (simp only [next_more, next_put] at *; omega)
 rintro r σ2 ⟨⟨d2, rfl, t2, t2', t2''⟩, hE2⟩
 have n2 := hE2.next
 have a2 := (hE2.row σ.next (by omega)).trans a1
 have b2 := (hE2.row (σ.next + 1) (by omega)).trans b1
 have r2 := (hE2.row (σ.next + 2) (by omega)).trans r1
 have u1 := (hE2.row d1 (by omega)).trans t1''
 have e2 : EX σ σ2 := by repeat first | assumption | exact EXn.refl _ _ | refine EXn.more ?_ _ | refine EXn.put ?_ (by omega) _ | refine EX.trans ?_ (by assumption)
 have f2 := e2.fr hF
 simp only [YRUNA, YRUNB, zSh, bit, c_seq, RUNA, RUNB, zAd, zMo, zDi, zSu, zMu, zEq, zBe, zLe, zTo, fillS, wantG, vBox, Value.cells, one, putAt, TYA, a2, b2]
 refine loop_go (fun m S τ => S.at 4 = .pointer (some ⟨σ.next + 2, 0, none⟩) ∧ S.at 5 = .slice (some ⟨d1, 0, none⟩) 1024 1024 ∧ S.at 6 = .slice (some ⟨d2, 0, none⟩) 1024 1024 ∧ EX σ τ ∧ Fr τ ∧ σ2.next ≤ τ.next ∧
  τ.row (σ.next + 2) = some ([.slice none 0 0, .int .i64 0], boxMeta) ∧ τ.row d2 = some ((tab 1024 fun n => ψ (bits n)).map Value.bool, rowMeta 1) ∧
  ∃ n : Nat, S.at 7 = .int .i64 n ∧ n ≤ 1024 ∧ m = 1024 - n ∧ τ.row d1 = some ((tab 1024 (half n (fun n => !(φ (bits n) == ψ (bits n))) (fun n => φ (bits n)))).map Value.bool, rowMeta 1)) 1024 ?_ ?_
 ·simp only [c_seq, RUNA, RUNB, zAd, zMo, zDi, zSu, zMu, zEq, zBe, zLe, zTo, fillS, wantG, vBox, Value.cells, one, putAt]
  refine ⟨?_, ?_, by omega, r2, t2'', 0, rfl, by omega, by omega, ?_⟩
  ·repeat first | assumption | exact EXn.refl _ _ | refine EXn.more ?_ _ | refine EXn.put ?_ (by omega) _ | refine EX.trans ?_ (by assumption)
  ·repeat first | assumption | refine Fr.more ?_ _ | refine Fr.put ?_ _ _
  ·rw [u1, half_0 (f := fun n => !(φ (bits n) == ψ (bits n)))]
 rintro _ S τ ⟨s4, s5, s6, hE, hF', hx, r0, x2, n, s7, hn, rfl, rt⟩
 have nn := hE.next
 by_cases hlt : n < 1024
 ·have hd : decide ((n : Int) < ((1024 : Nat) : Int)) = true := by simp; omega
  have z2 : (0 : Int) ≤ (n : Int) := by omega
  have z3 : (n : Int) < ((1024 : Nat) : Int) := by omega
  have hw : IntKind.i64.wrap ((n : Int) + 1) = ((n + 1 : Nat) : Int) := by rw [wrap64 (by omega) (by omega)]; rfl
  have hle : n + 1 ≤ ((tab 1024 (half n (fun n => !(φ (bits n) == ψ (bits n))) (fun n => φ (bits n)))).map Value.bool).length := by rw [List.length_map, tab_len]; omega
  have hv1 := tabv (f := half n (fun n => !(φ (bits n) == ψ (bits n))) (fun n => φ (bits n))) hlt
  rw [half_at] at hv1
  have hv2 := tabv (f := fun n => ψ (bits n)) hlt
  have q : ¬ σ.next + 2 = d1 := by omega
  have q2 : ¬ d2 = d1 := by omega
  simp only [c_seq, RUNA, RUNB, zAd, zMo, zDi, zSu, zMu, zEq, zBe, zLe, zTo, fillS, wantG, vBox, Value.cells, one, putAt, TYA, s4, s5, s6, s7, hd]
  refine d_go (ms := [0, 0, 0, 0, 12, 28, 0, 0, 192, 448, 1020, 2047, 4095]) (order := [0, 1, 2, 3, 4, 5, 6, 7, 8, 9, 10, 11, 12]) (by kernel_rfl) (by kernel_rfl) (by kernel_rfl) (by kernel_rfl) ?_
  simp only [YRUNA, YRUNB, zSh, bit, c_seq, RUNA, RUNB, zAd, zMo, zDi, zSu, zMu, zEq, zBe, zLe, zTo, fillS, wantG, vBox, Value.cells, one, putAt, TYA, s4, s5, s6, s7, ia63 z2 z3, rt, x2, hv1, hv2, hle, hw, r0, q, q2, n_neb Tryz.underlying4]
  refine ⟨1024 - (n + 1), by omega, ?_, ?_, by omega, n + 1, rfl, by omega, rfl, ?_⟩
  ·repeat first | assumption | exact EXn.refl _ _ | refine EXn.more ?_ _ | refine EXn.put ?_ (by omega) _ | refine EX.trans ?_ (by assumption)
  ·repeat first | assumption | refine Fr.more ?_ _ | refine Fr.put ?_ _ _
  ·rw [← half_set, List.map_set]
 ·have hd : decide ((n : Int) < ((1024 : Nat) : Int)) = false := by simp; omega
  have hn1 : n = 1024 := by omega
  rw [hn1, half_N] at rt
  simp only [c_seq, RUNA, RUNB, zAd, zMo, zDi, zSu, zMu, zEq, zBe, zLe, zTo, fillS, wantG, vBox, Value.cells, one, putAt, TYA, s4, s5, s6, s7, hd]
  refine wpc_mono (Diagram_is (lo := 0) (hi := τ.next) ⟨d1, rfl, by omega, by omega, rt⟩ (by first | omega | (simp only [next_more, next_put] at *; omega)) (by repeat first | assumption | refine Fr.more ?_ _ | refine Fr.put ?_ _ _)) ?_
  rintro r σ2 ⟨hD, hE2⟩
  have n2 := hE2.next
  simp only [next_more] at n2 hD
  obtain ⟨o, k, c, i, rfl⟩ := hD.open
  have r2 : σ2.row (σ.next + 2) = some ([.slice none 0 0, .int .i64 0], boxMeta) := (hE2.row _ (by first | omega | (simp only [next_more, next_put] at *; omega))).trans r0
  simp only [c_seq, RUNA, RUNB, zAd, zMo, zDi, zSu, zMu, zEq, zBe, zLe, zTo, fillS, wantG, vBox, Value.cells, one, putAt, TYA, s4, r2, hr]
  refine ⟨IsD.congr (IsD.weak (hD.un ?_) (by omega)) (fun f => by rw [ten1 f, ten2 f]), ?_⟩
  ·repeat first | assumption | exact UN.refl _ _ _ | refine UN.more ?_ _ | refine UN.put ?_ (by omega) _ | refine UN.ex (by assumption) ?_ (by first | omega | (simp only [next_more, next_put]; omega)) | refine UN.exb (by assumption) ?_ (by first | omega | (simp only [next_more, next_put]; omega)) (by omega)
  ·repeat first | assumption | exact EXn.refl _ _ | refine EXn.more ?_ _ | refine EXn.put ?_ (by omega) _ | refine EX.trans ?_ (by assumption)
end Go.Proofs.Q
namespace Go.Proofs.Q
open Go.AI
theorem constD_cd (b : Bool) : constD b = cd (.leaf b) := rfl
theorem refConstant_is (b : Bool) (σ : St) (hF : Fr σ) : wpc Tryz.prog 31 #[.bool b] σ fun r σ' => IsD σ.next σ'.next σ' r (fun _ => b) ∧ EX σ σ' := by
 refine wpc_mono (refConstant_spec b σ hF) ?_
 rintro r σ' ⟨h1, h2⟩
 rw [dgm_const, constD_cd] at h1
 exact ⟨⟨_, h1.i, trivial, fun _ => rfl⟩, h2⟩
theorem varD_cd (i : Nat) : varD i = cd (.node i (.leaf false) (.leaf true)) := by
 simp only [cd, num_node]
 have h1 : num (.leaf false) c01 = (0, c01) := rfl
 have h2 : num (.leaf true) c01 = (1, c01) := rfl
 simp only [h1, h2]
 have h3 : fnd ((i : Int), 0, 1) c01 = 2 := rfl
 have h4 : c01.length = 2 := rfl
 simp only [put, h3, h4]
 rfl
theorem refVariable_is (i : Nat) (hi : i < 10) (σ : St) (hF : Fr σ) : wpc Tryz.prog 32 #[.int .i64 i] σ fun r σ' => ∃ d, r = .tuple #[d, .int .i64 0] ∧ IsD σ.next σ'.next σ' d (fun f => f i) ∧ EX σ σ' := by
 refine wpc_mono (refVariable_in i hi σ hF) ?_
 rintro r σ' ⟨d, rfl, h1, h2⟩
 rw [dgm_var i hi, varD_cd] at h1
 refine ⟨d, rfl, ⟨_, h1.i, ⟨by omega, hi, by simp, trivial, trivial⟩, fun f => ?_⟩, h2⟩
 simp only [Dt.ev]; cases f i <;> rfl
def DL (σ : St) (v : Value) (φs : List (As → Bool)) : Prop := ∃ o c, v = .slice o φs.length c ∧ (0 < φs.length → ∃ id off row m, o = some ⟨id, off, none⟩ ∧ id < σ.next ∧ σ.row id = some (row, m) ∧
 ∀ i, i < φs.length → ∃ s r, cut row (off + i * 2) 2 = some [s, r] ∧ IsD 0 σ.next σ (.agg #[s, r]) (φs.getD i fun _ => false))
theorem IsD.mono {σ τ : St} {v : Value} {φ : As → Bool} (h : IsD 0 σ.next σ v φ) (e : EX σ τ) : IsD 0 τ.next τ v φ := (h.un ⟨fun id _ hi => e.row id hi⟩).hi e.next
theorem DL.mono {σ τ : St} {v : Value} {φs : List (As → Bool)} (h : DL σ v φs) (e : EX σ τ) : DL τ v φs := by
 obtain ⟨o, c, h1, h2⟩ := h
 refine ⟨o, c, h1, fun h0 => ?_⟩
 obtain ⟨id, off, row, m, h3, h4, h5, h6⟩ := h2 h0
 refine ⟨id, off, row, m, h3, by have := e.next; omega, (e.row id h4).trans h5, fun i hi => ?_⟩
 obtain ⟨s, r, h7, h8⟩ := h6 i hi
 exact ⟨s, r, h7, h8.mono e⟩
def allOf (φs : List (As → Bool)) (i : Nat) (f : As) : Bool := (φs.take i).all fun φ => φ f
theorem allOf_s {φs : List (As → Bool)} {i : Nat} (h : i < φs.length) (f : As) : allOf φs (i + 1) f = (allOf φs i f && (φs.getD i fun _ => false) f) := by
 unfold allOf
 rw [List.take_succ_eq_append_getElem h, List.all_append]
 simp [h]
theorem allOf_ten {φs : List (As → Bool)} (h : ∀ i, i < φs.length → Ten (φs.getD i fun _ => false)) : ∀ i, i ≤ φs.length → Ten (allOf φs i) := by
 intro i
 induction i with
 | zero => intro _ f; rfl
 | succ i ih => intro hi f; rw [allOf_s (by omega), allOf_s (by omega), ih (by omega) f, h i (by omega) f]
theorem refAnd_spec {σ : St} {a : Value} {φs : List (As → Bool)} (ha : DL σ a φs) (hlen : φs.length < 1000) (hF : Fr σ) : wpc Tryz.prog 35 #[a] σ fun r σ' => IsD σ.next σ'.next σ' r (allOf φs φs.length) ∧ EX σ σ' := by
 obtain ⟨o, c, rfl, hA⟩ := ha
 have hten := allOf_ten (φs := φs) (fun i hi => by obtain ⟨_, _, _, _, _, _, _, h⟩ := hA (by omega); obtain ⟨_, _, _, h⟩ := h i hi; exact h.ten)
 refine body_go Tryz.func35 rfl ?_
 have hr := Tryz.results35
 simp only [c_seq, RUNA, RUNB, zAd, zMo, zDi, zSu, zMu, zEq, zBe, zLe, zTo, fillS, wantG, vBox, Value.cells, one, putAt, TYA, hr]
 refine wpc_mono (refConstant_is true _ ?_) ?_
 ·repeat first | assumption | refine Fr.more ?_ _ | refine Fr.put ?_ _ _
 rintro r σ0 ⟨hD0, hE0⟩
 have n0 := hE0.next
 have f0 := hE0.fr (by repeat first | assumption | refine Fr.more ?_ _ | refine Fr.put ?_ _ _)
 simp only [next_more, next_put] at n0 hD0
 have b0 : σ0.row σ.next = some ([.slice none 0 0, .int .i64 0], boxMeta) := by rw [hE0.row _ (by first | omega | (simp only [next_more, next_put] at *; omega))]; simp only [c_seq, RUNA, RUNB, zAd, zMo, zDi, zSu, zMu, zEq, zBe, zLe, zTo, fillS, wantG, vBox, Value.cells, one, putAt]
 have e0 : EX σ σ0 := by repeat first | assumption | exact EXn.refl _ _ | refine EXn.more ?_ _ | refine EXn.put ?_ (by omega) _ | refine EX.trans ?_ (by assumption)
 simp only [c_seq, RUNA, RUNB, zAd, zMo, zDi, zSu, zMu, zEq, zBe, zLe, zTo, fillS, wantG, vBox, Value.cells, one, putAt, TYA]
 refine wpc_mono (Table_is hD0 ?_) ?_
 ·first | omega | (simp only [next_more, next_put] at *; omega)
 rintro r σ1 ⟨⟨d1, rfl, t1, t1', t1''⟩, hE1⟩
 have n1 := hE1.next
 have f1 := hE1.fr f0
 have b1 := (hE1.row σ.next (by omega)).trans b0
 have e1 : EX σ σ1 := by repeat first | assumption | exact EXn.refl _ _ | refine EXn.more ?_ _ | refine EXn.put ?_ (by omega) _ | refine EX.trans ?_ (by assumption)
 simp only [c_seq, RUNA, RUNB, zAd, zMo, zDi, zSu, zMu, zEq, zBe, zLe, zTo, fillS, wantG, vBox, Value.cells, one, putAt, TYA]
 refine loop_go (fun m S τ => S.at 0 = .slice o φs.length c ∧ S.at 2 = .pointer (some ⟨σ.next, 0, none⟩) ∧ S.at 3 = .slice (some ⟨d1, 0, none⟩) 1024 1024 ∧ EX σ τ ∧ Fr τ ∧ σ1.next ≤ τ.next ∧
  τ.row σ.next = some ([.slice none 0 0, .int .i64 0], boxMeta) ∧
  ∃ i : Nat, S.at 4 = .int .i64 i ∧ i ≤ φs.length ∧ m = φs.length - i ∧ τ.row d1 = some ((tab 1024 fun n => allOf φs i (bits n)).map Value.bool, rowMeta 1)) φs.length ?_ ?_
 ·simp only [c_seq, RUNA, RUNB, zAd, zMo, zDi, zSu, zMu, zEq, zBe, zLe, zTo, fillS, wantG, vBox, Value.cells, one, putAt]
  refine ⟨?_, ?_, by omega, b1, 0, rfl, by omega, by omega, t1''⟩
  ·repeat first | assumption | exact EXn.refl _ _ | refine EXn.more ?_ _ | refine EXn.put ?_ (by omega) _ | refine EX.trans ?_ (by assumption)
  ·repeat first | assumption | refine Fr.more ?_ _ | refine Fr.put ?_ _ _
 rintro _ S τ ⟨s0, s2, s3, hE, hF', hx, r0, i, s4, hi, rfl, rt⟩
 have nn := hE.next
 by_cases hlt : i < φs.length
 ·have hd : decide ((i : Int) < (φs.length : Int)) = true := by simp; omega
  have z2 : (0 : Int) ≤ (i : Int) := by omega
  have z3 : (i : Int) < (φs.length : Int) := by omega
  have hw : IntKind.i64.wrap ((i : Int) + 1) = ((i + 1 : Nat) : Int) := by rw [wrap64 (by omega) (by omega)]; rfl
  obtain ⟨id, off, row, m, rfl, h1, h2, h3⟩ := hA (by omega)
  obtain ⟨sv, rv', h4, h5⟩ := h3 i hlt
  have ra := (hE.row id h1).trans h2
  simp only [c_seq, RUNA, RUNB, zAd, zMo, zDi, zSu, zMu, zEq, zBe, zLe, zTo, fillS, wantG, vBox, Value.cells, one, putAt, TYA, s0, s2, s3, s4, hd, ia79 z2 z3, ra, h4]
  refine wpc_mono (Table_is (h5.un ?_) ?_) ?_
  ·repeat first | assumption | exact UN.refl _ _ _ | refine UN.more ?_ _ | refine UN.put ?_ (by omega) _ | refine UN.ex (by assumption) ?_ (by first | omega | (simp only [next_more, next_put]; omega)) | refine UN.exb (by assumption) ?_ (by first | omega | (simp only [next_more, next_put]; omega)) (by omega)
  ·first | omega | (simp only [next_more, next_put] at *; omega)
  rintro r σ2 ⟨⟨d2, rfl, t2, t2', t2''⟩, hE2⟩
  have n2 := hE2.next
  simp only [next_more] at n2 t2
  have b2 := (hE2.row σ.next (by first | omega | (simp only [next_more, next_put] at *; omega))).trans r0
  have x2 := (hE2.row d1 (by first | omega | (simp only [next_more, next_put] at *; omega))).trans rt
  have e2 : EX σ σ2 := by repeat first | assumption | exact EXn.refl _ _ | refine EXn.more ?_ _ | refine EXn.put ?_ (by omega) _ | refine EX.trans ?_ (by assumption)
  have f2 := hE2.fr (by repeat first | assumption | refine Fr.more ?_ _ | refine Fr.put ?_ _ _)
  simp only [c_seq, RUNA, RUNB, zAd, zMo, zDi, zSu, zMu, zEq, zBe, zLe, zTo, fillS, wantG, vBox, Value.cells, one, putAt, TYA, s0, s2, s3, s4]
  refine loop_go (fun m S τ' => S.at 0 = .slice (some ⟨id, off, none⟩) φs.length c ∧ S.at 2 = .pointer (some ⟨σ.next, 0, none⟩) ∧ S.at 3 = .slice (some ⟨d1, 0, none⟩) 1024 1024 ∧ S.at 4 = .int .i64 i ∧ S.at 5 = .slice (some ⟨d2, 0, none⟩) 1024 1024 ∧
   EX σ τ' ∧ Fr τ' ∧ σ2.next ≤ τ'.next ∧ τ'.row σ.next = some ([.slice none 0 0, .int .i64 0], boxMeta) ∧ τ'.row d2 = some ((tab 1024 fun n => (φs.getD i fun _ => false) (bits n)).map Value.bool, rowMeta 1) ∧
   ∃ n : Nat, S.at 6 = .int .i64 n ∧ n ≤ 1024 ∧ m = 1024 - n ∧ τ'.row d1 = some ((tab 1024 (half n (fun n => allOf φs (i + 1) (bits n)) (fun n => allOf φs i (bits n)))).map Value.bool, rowMeta 1)) 1024 ?_ ?_
  ·simp only [c_seq, RUNA, RUNB, zAd, zMo, zDi, zSu, zMu, zEq, zBe, zLe, zTo, fillS, wantG, vBox, Value.cells, one, putAt, s0, s2, s3, s4]
   refine ⟨?_, ?_, by omega, b2, t2'', 0, rfl, by omega, by omega, ?_⟩
   ·repeat first | assumption | exact EXn.refl _ _ | refine EXn.more ?_ _ | refine EXn.put ?_ (by omega) _ | refine EX.trans ?_ (by assumption)
   ·repeat first | assumption | refine Fr.more ?_ _ | refine Fr.put ?_ _ _
   ·rw [x2, half_0 (f := fun n => allOf φs (i + 1) (bits n))]
  clear s0 s2 s3 s4
  rintro _ S τ' ⟨s0, s2, s3, s4, s5, hE', hF2, hx', r0', y2, n, s6, hn, rfl, y1⟩
  by_cases hnl : n < 1024
  ·have hd' : decide ((n : Int) < ((1024 : Nat) : Int)) = true := by simp; omega
   have z4 : (0 : Int) ≤ (n : Int) := by omega
   have z5 : (n : Int) < ((1024 : Nat) : Int) := by omega
   have hw' : IntKind.i64.wrap ((n : Int) + 1) = ((n + 1 : Nat) : Int) := by rw [wrap64 (by omega) (by omega)]; rfl
   have hle : n + 1 ≤ ((tab 1024 (half n (fun n => allOf φs (i + 1) (bits n)) (fun n => allOf φs i (bits n)))).map Value.bool).length := by rw [List.length_map, tab_len]; omega
   have hv1 := tabv (f := half n (fun n => allOf φs (i + 1) (bits n)) (fun n => allOf φs i (bits n))) hnl
   rw [half_at] at hv1
   have hv2 := tabv (f := fun n => (φs.getD i fun _ => false) (bits n)) hnl
   have q : ¬ σ.next = d1 := by omega
   have q2 : ¬ d2 = d1 := by omega
   have hs := half_set (N := 1024) (n := n) (f := fun n => allOf φs (i + 1) (bits n)) (g := fun n => allOf φs i (bits n))
   have hv := allOf_s hlt (bits n)
   simp only [hv] at hs
   cases hp : allOf φs i (bits n) with
   | true =>
    rw [hp] at hv1 hs
    rw [Bool.true_and] at hs
    simp only [c_seq, RUNA, RUNB, zAd, zMo, zDi, zSu, zMu, zEq, zBe, zLe, zTo, fillS, wantG, vBox, Value.cells, one, putAt, TYA, s0, s2, s3, s4, s5, s6, hd', ia63 z4 z5, y1, y2, hv1, hv2, hle, hw', r0', q, q2]
    refine ⟨1024 - (n + 1), by omega, ?_, ?_, by omega, n + 1, rfl, by omega, rfl, ?_⟩
    ·repeat first | assumption | exact EXn.refl _ _ | refine EXn.more ?_ _ | refine EXn.put ?_ (by omega) _ | refine EX.trans ?_ (by assumption)
    ·repeat first | assumption | refine Fr.more ?_ _ | refine Fr.put ?_ _ _
    ·rw [← hs, List.map_set]
   | false =>
    rw [hp] at hv1 hs
    rw [Bool.false_and] at hs
    simp only [c_seq, RUNA, RUNB, zAd, zMo, zDi, zSu, zMu, zEq, zBe, zLe, zTo, fillS, wantG, vBox, Value.cells, one, putAt, TYA, s0, s2, s3, s4, s5, s6, hd', ia63 z4 z5, y1, y2, hv1, hv2, hle, hw', r0', q, q2]
    refine ⟨1024 - (n + 1), by omega, ?_, ?_, by omega, n + 1, rfl, by omega, rfl, ?_⟩
    ·repeat first | assumption | exact EXn.refl _ _ | refine EXn.more ?_ _ | refine EXn.put ?_ (by omega) _ | refine EX.trans ?_ (by assumption)
    ·repeat first | assumption | refine Fr.more ?_ _ | refine Fr.put ?_ _ _
    ·rw [← hs, List.map_set]
  ·have hd' : decide ((n : Int) < ((1024 : Nat) : Int)) = false := by simp; omega
   have hn1 : n = 1024 := by omega
   rw [hn1, half_N] at y1
   simp only [c_seq, RUNA, RUNB, zAd, zMo, zDi, zSu, zMu, zEq, zBe, zLe, zTo, fillS, wantG, vBox, Value.cells, one, putAt, TYA, s0, s2, s3, s4, s5, s6, hd', hw]
   refine ⟨φs.length - (i + 1), by omega, ?_, ?_, by omega, r0', i + 1, rfl, by omega, rfl, y1⟩
   ·repeat first | assumption | exact EXn.refl _ _ | refine EXn.more ?_ _ | refine EXn.put ?_ (by omega) _ | refine EX.trans ?_ (by assumption)
   ·repeat first | assumption | refine Fr.more ?_ _ | refine Fr.put ?_ _ _
 ·have hd : decide ((i : Int) < (φs.length : Int)) = false := by simp; omega
  have hn1 : i = φs.length := by omega
  rw [hn1] at rt
  simp only [c_seq, RUNA, RUNB, zAd, zMo, zDi, zSu, zMu, zEq, zBe, zLe, zTo, fillS, wantG, vBox, Value.cells, one, putAt, TYA, s0, s2, s3, s4, hd]
  refine wpc_mono (Diagram_is (lo := 0) (hi := τ.next) ⟨d1, rfl, by omega, by omega, rt⟩ (by first | omega | (simp only [next_more, next_put] at *; omega)) (by repeat first | assumption | refine Fr.more ?_ _ | refine Fr.put ?_ _ _)) ?_
  rintro r σ2 ⟨hD, hE2⟩
  have n2 := hE2.next
  simp only [next_more] at n2 hD
  obtain ⟨o', k', c', i', rfl⟩ := hD.open
  have r2 : σ2.row σ.next = some ([.slice none 0 0, .int .i64 0], boxMeta) := (hE2.row _ (by first | omega | (simp only [next_more, next_put] at *; omega))).trans r0
  simp only [c_seq, RUNA, RUNB, zAd, zMo, zDi, zSu, zMu, zEq, zBe, zLe, zTo, fillS, wantG, vBox, Value.cells, one, putAt, TYA, s2, r2, hr]
  refine ⟨IsD.congr (IsD.weak (hD.un ?_) (by omega)) (fun f => by rw [hten _ (Nat.le_refl _) f]), ?_⟩
  ·repeat first | assumption | exact UN.refl _ _ _ | refine UN.more ?_ _ | refine UN.put ?_ (by omega) _ | refine UN.ex (by assumption) ?_ (by first | omega | (simp only [next_more, next_put]; omega)) | refine UN.exb (by assumption) ?_ (by first | omega | (simp only [next_more, next_put]; omega)) (by omega)
  ·repeat first | assumption | exact EXn.refl _ _ | refine EXn.more ?_ _ | refine EXn.put ?_ (by omega) _ | refine EX.trans ?_ (by assumption)
end Go.Proofs.Q
namespace Go.Proofs.Q
open Go.AI
structure EXb (b : Nat) (σ σ' : St) : Prop where
 next : σ.next ≤ σ'.next
 get : ∀ id, id < σ.next → id ≠ b → σ'.get id = σ.get id
 row : ∀ id, id < σ.next → id ≠ b → σ'.row id = σ.row id
 fr : Fr σ → Fr σ'
 ver : ∀ g, g < σ.next → σ'.ver g = σ.ver g
theorem EXb.refl (b : Nat) (σ : St) : EXb b σ σ := ⟨Nat.le_refl _, fun _ _ _ => rfl, fun _ _ _ => rfl, id, fun _ _ => rfl⟩
theorem EXb.of {b : Nat} {σ σ' : St} (h : EX σ σ') : EXb b σ σ' := ⟨h.next, fun id hi _ => h.get id hi, fun id hi _ => h.row id hi, h.fr, h.ver⟩
theorem EXb.trans {b : Nat} {σ τ υ : St} (h : EXb b σ τ) (k : EXb b τ υ) : EXb b σ υ :=
 ⟨Nat.le_trans h.next k.next, fun id hi hb => (k.get id (by have := h.next; omega) hb).trans (h.get id hi hb), fun id hi hb => (k.row id (by have := h.next; omega) hb).trans (h.row id hi hb), fun f => k.fr (h.fr f), fun g hg => (k.ver g (by have := h.next; omega)).trans (h.ver g hg)⟩
theorem EXb.thn {b : Nat} {σ τ υ : St} (h : EXb b σ τ) (k : EX τ υ) : EXb b σ υ := h.trans (.of k)
theorem EXb.more {b : Nat} {σ τ : St} (h : EXb b σ τ) (k : Nat) : EXb b σ (τ.more k) := h.trans (.of ((EX.refl τ).more k))
theorem EXb.put {b : Nat} {σ τ : St} (h : EXb b σ τ) {k : Nat} (hk : σ.next ≤ k ∨ k = b) (ob : AObj) : EXb b σ (τ.put k ob) := by
 refine ⟨h.next, fun id hi hb => ?_, fun id hi hb => ?_, fun f => (h.fr f), h.ver⟩
 ·rw [St.get_put, if_neg (by omega)]; exact h.get id hi hb
 ·rw [row_put_ne (by omega)]; exact h.row id hi hb
theorem UN.exb {b lo hi : Nat} {σ τ τ' : St} (e : EXb b τ τ') (h : UN lo hi σ τ) (hh : hi ≤ τ.next) (hb : b < lo ∨ hi ≤ b) : UN lo hi σ τ' := ⟨fun id h1 h2 => (e.row id (by omega) (by omega)).trans (h.row id h1 h2)⟩
def u8s (cs : List Nat) : List Value := cs.map fun (k : Nat) => .int .u8 (k : Int)
def Src (b : Nat) (σ : St) (cs : List Nat) : Prop := ∃ (o : Option Addr) (c p : Nat), σ.row b = some ([.slice o cs.length c, .int .i64 p], boxMeta) ∧ b < σ.next ∧ p ≤ cs.length ∧
 (0 < cs.length → ∃ id off row m, o = some ⟨id, off, none⟩ ∧ id < b ∧ σ.row id = some (row, m) ∧ (row.drop off).take cs.length = u8s cs)
theorem Src.mono {b : Nat} {σ τ : St} {cs : List Nat} (h : Src b σ cs) (e : EX σ τ) : Src b τ cs := by
 obtain ⟨o, c, p, h1, h2, h3, h4⟩ := h
 refine ⟨o, c, p, (e.row b h2).trans h1, by have := e.next; omega, h3, fun h0 => ?_⟩
 obtain ⟨id, off, row, m, g1, g2, g3, g4⟩ := h4 h0
 exact ⟨id, off, row, m, g1, g2, (e.row id (by omega)).trans g3, g4⟩
theorem u8_at {row : List Value} {off : Nat} {cs : List Nat} (h : (row.drop off).take cs.length = u8s cs) {i : Nat} (hi : i < cs.length) : row[off + i]? = some (.int .u8 ((cs.getD i 0 : Nat) : Int)) := by
 have h1 : ((row.drop off).take cs.length)[i]? = some (.int .u8 ((cs.getD i 0 : Nat) : Int)) := by
  rw [h]; simp [u8s, hi]
 rw [List.getElem?_take, if_pos hi, List.getElem?_drop] at h1
 exact h1
theorem Next_spec {b : Nat} {σ : St} {cs : List Nat} {n : Nat} (h : Src b σ cs) (hc : ∀ k ∈ cs, k < 256) (hl : cs.length ≤ 1000) (hn : 1 ≤ n) (hn2 : n ≤ 1000) :
    wpc Tryz.prog 17 #[.pointer (some ⟨b, 0, none⟩), .int .i64 n] σ fun r σ' => (∃ k : Nat, r = .int .i64 k ∧ k < n) ∧ Src b σ' cs ∧ EXb b σ σ' := by
 obtain ⟨o, c, p, h1, h2, h3, h4⟩ := h
 refine body_go Tryz.func17 rfl ?_
 have hr := Tryz.results17
 simp only [c_seq, RUNA, RUNB, zAd, zMo, zDi, zSu, zMu, zEq, zBe, zLe, zTo, fillS, wantG, vBox, Value.cells, one, putAt, TYA, hr]
 refine d_go (ms := [0, 1, 3, 7, 0, 16, 48, 112, 240, 511, 1023, 2047, 4095, 8191]) (order := [0, 1, 2, 3, 4, 5, 6, 7, 8, 9, 10, 11, 12, 13]) (by kernel_rfl) (by kernel_rfl) (by kernel_rfl) (by kernel_rfl) ?_
 by_cases hp : p < cs.length
 ·have hd : decide (((cs.length : Nat) : Int) ≤ (p : Int)) = false := by simp; omega
  have hd2 : decide ((n : Int) < 1) = false := by simp; omega
  have hw : IntKind.i64.wrap ((p : Int) + 1) = ((p + 1 : Nat) : Int) := by rw [wrap64 (by omega) (by omega)]; rfl
  have hw2 : IntKind.i64.wrap (((p + 1 : Nat) : Int) - 1) = (p : Int) := by rw [wrap64 (by omega) (by omega)]; omega
  obtain ⟨id, off, row, m, rfl, g2, g3, g4⟩ := h4 (by omega)
  have q : ¬ id = b := by omega
  have z2 : (0 : Int) ≤ (p : Int) := by omega
  have z3 : (p : Int) < (cs.length : Int) := by omega
  have hv := u8_at g4 hp
  have hk : cs.getD p 0 < 256 := by
   rw [List.getD_eq_getElem?_getD, List.getElem?_eq_getElem hp, Option.getD_some]; exact hc _ (List.getElem_mem hp)
  have hcv : aconv Tryz.prog 5 3 (.int .u8 ((cs.getD p 0 : Nat) : Int)) = some (.int .i64 ((cs.getD p 0 : Nat) : Int)) := by
   rw [n_conv Tryz.underlying5 Tryz.underlying3, wrap64 (by omega) (by omega)]
  have hn0 : (n : Int) ≠ 0 := by omega
  simp only [YRUNA, YRUNB, zSh, bit, c_seq, RUNA, RUNB, zAd, zMo, zDi, zSu, zMu, zEq, zBe, zLe, zTo, fillS, wantG, vBox, Value.cells, one, putAt, TYA, h1, hd, hd2, hw]
  refine d_go (ms := [0, 1, 3, 7, 0, 16, 48, 112, 240, 511, 1023, 2047, 0, 8191, 16383]) (order := [0, 1, 2, 3, 4, 5, 6, 7, 8, 9, 10, 11, 12, 13, 14]) (by kernel_rfl) (by kernel_rfl) (by kernel_rfl) (by kernel_rfl) ?_
  simp only [YRUNA, YRUNB, zSh, bit, c_seq, RUNA, RUNB, zAd, zMo, zDi, zSu, zMu, zEq, zBe, zLe, zTo, fillS, wantG, vBox, Value.cells, one, putAt, TYA, h1, hw2, ia22 z2 z3, g3, q, hv, hcv, n_rem hn0, hr]
  refine ⟨⟨cs.getD p 0 % n, ?_, Nat.mod_lt _ (by omega)⟩, ⟨_, c, p + 1, ?_, ?_, by omega, fun _ => ⟨id, off, row, m, rfl, g2, ?_, g4⟩⟩, ?_⟩
  ·rw [Int.natCast_emod]; rfl
  ·simp only [c_seq, RUNA, RUNB, zAd, zMo, zDi, zSu, zMu, zEq, zBe, zLe, zTo, fillS, wantG, vBox, Value.cells, one, putAt]
  ·first | omega | (simp only [next_more, next_put] at *; omega)
  ·simp only [c_seq, RUNA, RUNB, zAd, zMo, zDi, zSu, zMu, zEq, zBe, zLe, zTo, fillS, wantG, vBox, Value.cells, one, putAt, q, g3]
  ·repeat first | exact EXb.refl _ _ | refine EXb.more ?_ _ | refine EXb.put ?_ (by omega) _
 ·have hd : decide (((cs.length : Nat) : Int) ≤ (p : Int)) = true := by simp; omega
  simp only [YRUNA, YRUNB, zSh, bit, c_seq, RUNA, RUNB, zAd, zMo, zDi, zSu, zMu, zEq, zBe, zLe, zTo, fillS, wantG, vBox, Value.cells, one, putAt, TYA, h1, hd, hr]
  refine ⟨⟨0, rfl, by omega⟩, Src.mono ⟨o, c, p, h1, h2, h3, h4⟩ ?_, EXb.of ?_⟩
  ·repeat first | assumption | exact EXn.refl _ _ | refine EXn.more ?_ _ | refine EXn.put ?_ (by omega) _ | refine EX.trans ?_ (by assumption)
  ·repeat first | assumption | exact EXn.refl _ _ | refine EXn.more ?_ _ | refine EXn.put ?_ (by omega) _ | refine EX.trans ?_ (by assumption)
end Go.Proofs.Q
namespace Go.Proofs.Q
open Go.AI
theorem Src.put {b k : Nat} {σ : St} {cs : List Nat} {ob : AObj} (h : Src b σ cs) (hk : b < k) : Src b (σ.put k ob) cs := by
 obtain ⟨o, c, p, q1, q2, q3, q4⟩ := h
 refine ⟨o, c, p, (row_put_ne (by omega)).trans q1, q2, q3, fun h0 => ?_⟩
 obtain ⟨id, off, row, m, w1, w2, w3, w4⟩ := q4 h0
 exact ⟨id, off, row, m, w1, w2, (row_put_ne (by omega)).trans w3, w4⟩
theorem bs68_2 (id : Nat) (a a' : Option Addr) (n c n' c' : Nat) (r r' : Int) : vBuildS Tryz.prog 79 2 #[(0, .agg #[.slice a n c, .int .i64 r]), (1, .agg #[.slice a' n' c', .int .i64 r'])] id =
    some (.slice (some ⟨id, 0, none⟩) 2 2, .cells [.slice a n c, .int .i64 r, .slice a' n' c', .int .i64 r'] (rowMeta 2)) := by kernel_rfl
theorem DL2 {σ : St} {id : Nat} {s1 i1 s2 i2 : Value} {m : Mta} {φ ψ : As → Bool} (hid : id < σ.next) (h : σ.row id = some ([s1, i1, s2, i2], m)) (h1 : IsD 0 σ.next σ (.agg #[s1, i1]) φ) (h2 : IsD 0 σ.next σ (.agg #[s2, i2]) ψ) : DL σ (.slice (some ⟨id, 0, none⟩) 2 2) [φ, ψ] := by
 refine ⟨_, 2, rfl, fun _ => ⟨id, 0, _, m, rfl, hid, h, fun i hi => ?_⟩⟩
 obtain rfl | rfl : i = 0 ∨ i = 1 := by simp at hi; omega
 ·exact ⟨s1, i1, rfl, h1⟩
 ·exact ⟨s2, i2, rfl, h2⟩
def Drawn (b : Nat) (cs : List Nat) (σ : St) (r : Value) (σ' : St) : Prop := (∃ φ, IsD σ.next σ'.next σ' r φ) ∧ Src b σ' cs ∧ EXb b σ σ' ∧ Fr σ'
def DSpec (b : Nat) (cs : List Nat) (n : Nat) : Prop := ∀ σ, Src b σ cs → Fr σ → wpc Tryz.prog 11 #[.pointer (some ⟨b, 0, none⟩), .int .i64 n] σ (Drawn b cs σ)
set_option maxHeartbeats 2000000 in
theorem diagram_step {b : Nat} {cs : List Nat} (hc : ∀ k ∈ cs, k < 256) (hl : cs.length ≤ 1000) (n : Nat) (hn : n ≤ 100) (ih : ∀ m, n = m + 1 → DSpec b cs m) : DSpec b cs n := by
 intro σ hS hF
 refine body_go Tryz.func11 rfl ?_
 have hr := Tryz.results11
 have hb : b < σ.next := by obtain ⟨_, _, _, _, h, _⟩ := hS; exact h
 simp only [c_seq, RUNA, RUNB, zAd, zMo, zDi, zSu, zMu, zEq, zBe, zLe, zTo, fillS, wantG, vBox, Value.cells, one, putAt, TYA, hr]
 refine wpc_mono (Next_spec (n := 8) (hS.mono ?_) hc hl (by omega) (by omega)) ?_
 ·repeat first | assumption | exact EXn.refl _ _ | refine EXn.more ?_ _ | refine EXn.put ?_ (by omega) _ | refine EX.trans ?_ (by assumption)
 rintro r σ1 ⟨⟨k, rfl, hk⟩, hS1, hE1⟩
 have n1 := hE1.next
 have f1 := hE1.fr (by repeat first | assumption | refine Fr.more ?_ _ | refine Fr.put ?_ _ _)
 simp only [next_more, next_put] at n1
 have b1 : σ1.row σ.next = some ([.slice none 0 0, .int .i64 0], boxMeta) := by rw [hE1.row _ (by first | omega | (simp only [next_more, next_put] at *; omega)) (by omega)]; simp only [c_seq, RUNA, RUNB, zAd, zMo, zDi, zSu, zMu, zEq, zBe, zLe, zTo, fillS, wantG, vBox, Value.cells, one, putAt]
 have e1 : EXb b σ σ1 := by repeat first | assumption | exact EXb.refl _ _ | refine EXb.more ?_ _ | refine EXb.put ?_ (by omega) _ | refine EXb.trans ?_ (by assumption) | refine EXb.thn ?_ (by assumption)
 simp only [RUNA, RUNB, zAd, zMo, zDi, zSu, zMu, zEq, zBe, zLe, zTo, fillS, wantG, vBox, Value.cells, one, putAt, TYA]
 refine seq_cut (fun S τ => S.at 0 = .pointer (some ⟨b, 0, none⟩) ∧ S.at 1 = .int .i64 n ∧ S.at 4 = .pointer (some ⟨σ.next, 0, none⟩) ∧ (∃ k : Nat, S.at 5 = .int .i64 k ∧ k < 8 ∧ (3 < k → n ≠ 0)) ∧ EXb b σ τ ∧ Fr τ ∧ Src b τ cs ∧ σ.next < τ.next ∧ τ.row σ.next = some ([.slice none 0 0, .int .i64 0], boxMeta)) ?_ ?_
 ·by_cases h0 : n = 0
  ·have g1 : decide ((n : Int) < 1) = true := by simp; omega
   by_cases h3 : 3 < k
   ·have g2 : decide ((3 : Int) < (k : Int)) = true := by simp; omega
    have four0 : (4 : Int) ≠ 0 := by decide
    simp only [c_seq, RUNA, RUNB, zAd, zMo, zDi, zSu, zMu, zEq, zBe, zLe, zTo, fillS, wantG, vBox, Value.cells, one, putAt, TYA, g1, g2, n_rem four0]
    refine ⟨⟨k % 4, by rw [Int.natCast_emod]; rfl, by omega, by omega⟩, ?_, ?_, Src.mono hS1 ?_, by omega, b1⟩
    ·repeat first | assumption | exact EXb.refl _ _ | refine EXb.more ?_ _ | refine EXb.put ?_ (by omega) _ | refine EXb.trans ?_ (by assumption) | refine EXb.thn ?_ (by assumption)
    ·repeat first | assumption | refine Fr.more ?_ _ | refine Fr.put ?_ _ _
    ·repeat first | assumption | exact EXn.refl _ _ | refine EXn.more ?_ _ | refine EXn.put ?_ (by omega) _ | refine EX.trans ?_ (by assumption)
   ·have g2 : decide ((3 : Int) < (k : Int)) = false := by simp; omega
    simp only [c_seq, RUNA, RUNB, zAd, zMo, zDi, zSu, zMu, zEq, zBe, zLe, zTo, fillS, wantG, vBox, Value.cells, one, putAt, TYA, g1, g2]
    refine ⟨⟨k, rfl, hk, by omega⟩, ?_, ?_, Src.mono hS1 ?_, by omega, b1⟩
    ·repeat first | assumption | exact EXb.refl _ _ | refine EXb.more ?_ _ | refine EXb.put ?_ (by omega) _ | refine EXb.trans ?_ (by assumption) | refine EXb.thn ?_ (by assumption)
    ·repeat first | assumption | refine Fr.more ?_ _ | refine Fr.put ?_ _ _
    ·repeat first | assumption | exact EXn.refl _ _ | refine EXn.more ?_ _ | refine EXn.put ?_ (by omega) _ | refine EX.trans ?_ (by assumption)
  ·have g1 : decide ((n : Int) < 1) = false := by simp; omega
   simp only [c_seq, RUNA, RUNB, zAd, zMo, zDi, zSu, zMu, zEq, zBe, zLe, zTo, fillS, wantG, vBox, Value.cells, one, putAt, TYA, g1]
   refine ⟨⟨k, rfl, hk, fun _ => h0⟩, ?_, ?_, Src.mono hS1 ?_, by omega, b1⟩
   ·repeat first | assumption | exact EXb.refl _ _ | refine EXb.more ?_ _ | refine EXb.put ?_ (by omega) _ | refine EXb.trans ?_ (by assumption) | refine EXb.thn ?_ (by assumption)
   ·repeat first | assumption | refine Fr.more ?_ _ | refine Fr.put ?_ _ _
   ·repeat first | assumption | exact EXn.refl _ _ | refine EXn.more ?_ _ | refine EXn.put ?_ (by omega) _ | refine EX.trans ?_ (by assumption)
 clear b1 e1 hE1 hS1 f1 n1 hk
 rintro S τ ⟨s0, s1, s4, ⟨k, s5, hk, hk3⟩, hE, hFt, hSt, hx, rb⟩
 have fin : ∀ (σ2 : St) (d : Value) (φ : As → Bool) (lo hi : Nat), IsD lo hi σ2 d φ → hi ≤ σ2.next → σ.next < lo → Src b σ2 cs → EXb b σ σ2 → Fr σ2 → ∀ ob, Drawn b cs σ d (σ2.put σ.next ob) := by
  intro σ2 d φ lo hi h1 hh h2 h3 h4 h5 ob
  refine ⟨⟨φ, (IsD.weak (h1.un ((UN.refl _ _ _).put (by omega) _)) (by omega)).hi hh⟩, ?_, h4.put (by omega) _, h5⟩
  obtain ⟨o, c, p, q1, q2, q3, q4⟩ := h3
  refine ⟨o, c, p, (row_put_ne (by omega)).trans q1, q2, q3, fun h0 => ?_⟩
  obtain ⟨id, off, row, m, w1, w2, w3, w4⟩ := q4 h0
  exact ⟨id, off, row, m, w1, w2, (row_put_ne (by omega)).trans w3, w4⟩
 obtain hk0 | hk0 : k = 0 ∨ k ≠ 0 := by omega
 ·have g0 : ((k : Int) == 0) = true := by simp; omega
  simp only [c_seq, RUNA, RUNB, zAd, zMo, zDi, zSu, zMu, zEq, zBe, zLe, zTo, fillS, wantG, vBox, Value.cells, one, putAt, TYA, s0, s1, s4, s5, g0]
  refine wpc_mono (Next_spec (n := 2) (hSt.mono ?_) hc hl (by omega) (by omega)) ?_
  ·repeat first | assumption | exact EXn.refl _ _ | refine EXn.more ?_ _ | refine EXn.put ?_ (by omega) _ | refine EX.trans ?_ (by assumption)
  rintro r σ1 ⟨⟨q, rfl, hq⟩, hS1, hE1⟩
  have n1 := hE1.next
  have f1 := hE1.fr (by repeat first | assumption | refine Fr.more ?_ _ | refine Fr.put ?_ _ _)
  simp only [next_more, next_put] at n1
  have r1 : σ1.row σ.next = some ([.slice none 0 0, .int .i64 0], boxMeta) := by rw [hE1.row _ (by first | omega | (simp only [next_more, next_put] at *; omega)) (by omega)]; exact rb
  simp only [c_seq, RUNA, RUNB, zAd, zMo, zDi, zSu, zMu, zEq, zBe, zLe, zTo, fillS, wantG, vBox, Value.cells, one, putAt, TYA, s0, s1, s4, s5]
  refine wpc_mono (refConstant_is _ _ f1) ?_
  rintro r σ2 ⟨hD2, hE2⟩
  have n2 := hE2.next
  obtain ⟨o2, k2, c2, i2, rfl⟩ := hD2.open
  have r2 := (hE2.row σ.next (by omega)).trans r1
  simp only [c_seq, RUNA, RUNB, zAd, zMo, zDi, zSu, zMu, zEq, zBe, zLe, zTo, fillS, wantG, vBox, Value.cells, one, putAt, TYA, s0, s1, s4, s5, r2, hr]
  refine fin σ2 _ _ _ _ hD2 (Nat.le_refl _) (by omega) (hS1.mono hE2) ?_ (hE2.fr f1) _
  repeat first | assumption | exact EXb.refl _ _ | refine EXb.more ?_ _ | refine EXb.put ?_ (by omega) _ | refine EXb.trans ?_ (by assumption) | refine EXb.thn ?_ (by assumption)
 obtain hk3' | hk3' : k ≤ 3 ∨ 3 < k := by omega
 ·have g0 : ((k : Int) == 0) = false := by simp; omega
  have q11 : ¬ σ.next = τ.next + 11 := by omega
  have q13 : ¬ σ.next = τ.next + 13 := by omega
  have q15 : ¬ σ.next = τ.next + 15 := by omega
  obtain hk1 | hk1 | hk1 : k = 1 ∨ k = 2 ∨ k = 3 := by omega
  ·skip
   have g1 : ((k : Int) == 1) = true := by simp; omega
   simp only [c_seq, RUNA, RUNB, zAd, zMo, zDi, zSu, zMu, zEq, zBe, zLe, zTo, fillS, wantG, vBox, Value.cells, one, putAt, TYA, s0, s1, s4, s5, g0, g1]
   refine wpc_mono (Next_spec (n := 10) (hSt.mono ?_) hc hl (by omega) (by omega)) ?_
   ·repeat first | assumption | exact EXn.refl _ _ | refine EXn.more ?_ _ | refine EXn.put ?_ (by omega) _ | refine EX.trans ?_ (by assumption)
   rintro r σ1 ⟨⟨q, rfl, hq⟩, hS1, hE1⟩
   have n1 := hE1.next
   have f1 := hE1.fr (by repeat first | assumption | refine Fr.more ?_ _ | refine Fr.put ?_ _ _)
   simp only [next_more, next_put] at n1
   have r1 : σ1.row σ.next = some ([.slice none 0 0, .int .i64 0], boxMeta) := by rw [hE1.row _ (by first | omega | (simp only [next_more, next_put] at *; omega)) (by omega)]; exact rb
   simp only [c_seq, RUNA, RUNB, zAd, zMo, zDi, zSu, zMu, zEq, zBe, zLe, zTo, fillS, wantG, vBox, Value.cells, one, putAt, TYA, s0, s1, s4, s5]
   refine wpc_mono (refVariable_is q hq _ f1) ?_
   rintro r σ2 ⟨d2, rfl, hD2, hE2⟩
   have n2 := hE2.next
   have f2 := hE2.fr f1
   obtain ⟨o2, k2, c2, i2, rfl⟩ := hD2.open
   have r2 := (hE2.row σ.next (by omega)).trans r1
   have hS2 := hS1.mono hE2
   simp only [c_seq, RUNA, RUNB, zAd, zMo, zDi, zSu, zMu, zEq, zBe, zLe, zTo, fillS, wantG, vBox, Value.cells, one, putAt, TYA, s0, s1, s4, s5, r2, hr, q11, q13, q15]
   refine fin _ _ _ _ σ2.next (hD2.un ?_) (by first | omega | (simp only [next_more, next_put] at *; omega)) (by omega) (Src.put (Src.put hS2 (by omega)) (by omega) |>.mono ((EX.refl _).more _)) ?_ ?_ _
   ·repeat first | assumption | exact UN.refl _ _ _ | refine UN.more ?_ _ | refine UN.put ?_ (by omega) _ | refine UN.ex (by assumption) ?_ (by first | omega | (simp only [next_more, next_put]; omega)) | refine UN.exb (by assumption) ?_ (by first | omega | (simp only [next_more, next_put]; omega)) (by omega)
   ·repeat first | assumption | exact EXb.refl _ _ | refine EXb.more ?_ _ | refine EXb.put ?_ (by omega) _ | refine EXb.trans ?_ (by assumption) | refine EXb.thn ?_ (by assumption)
   ·repeat first | assumption | refine Fr.more ?_ _ | refine Fr.put ?_ _ _
  ·skip
   have g1 : ((k : Int) == 1) = false := by simp; omega
   have g2 : ((k : Int) == 2) = true := by simp; omega
   simp only [c_seq, RUNA, RUNB, zAd, zMo, zDi, zSu, zMu, zEq, zBe, zLe, zTo, fillS, wantG, vBox, Value.cells, one, putAt, TYA, s0, s1, s4, s5, g0, g1, g2]
   refine wpc_mono (Next_spec (n := 10) (hSt.mono ?_) hc hl (by omega) (by omega)) ?_
   ·repeat first | assumption | exact EXn.refl _ _ | refine EXn.more ?_ _ | refine EXn.put ?_ (by omega) _ | refine EX.trans ?_ (by assumption)
   rintro r σ1 ⟨⟨q, rfl, hq⟩, hS1, hE1⟩
   have n1 := hE1.next
   have f1 := hE1.fr (by repeat first | assumption | refine Fr.more ?_ _ | refine Fr.put ?_ _ _)
   simp only [next_more, next_put] at n1
   have r1 : σ1.row σ.next = some ([.slice none 0 0, .int .i64 0], boxMeta) := by rw [hE1.row _ (by first | omega | (simp only [next_more, next_put] at *; omega)) (by omega)]; exact rb
   simp only [c_seq, RUNA, RUNB, zAd, zMo, zDi, zSu, zMu, zEq, zBe, zLe, zTo, fillS, wantG, vBox, Value.cells, one, putAt, TYA, s0, s1, s4, s5]
   refine wpc_mono (refVariable_is q hq _ f1) ?_
   rintro r σ2 ⟨d2, rfl, hD2, hE2⟩
   have n2 := hE2.next
   have f2 := hE2.fr f1
   obtain ⟨o2, k2, c2, i2, rfl⟩ := hD2.open
   have r2 := (hE2.row σ.next (by omega)).trans r1
   have hS2 := hS1.mono hE2
   simp only [c_seq, RUNA, RUNB, zAd, zMo, zDi, zSu, zMu, zEq, zBe, zLe, zTo, fillS, wantG, vBox, Value.cells, one, putAt, TYA, s0, s1, s4, s5, r2, hr, q11, q13, q15]
   refine fin _ _ _ _ σ2.next (hD2.un ?_) (by first | omega | (simp only [next_more, next_put] at *; omega)) (by omega) (Src.put (Src.put hS2 (by omega)) (by omega) |>.mono ((EX.refl _).more _)) ?_ ?_ _
   ·repeat first | assumption | exact UN.refl _ _ _ | refine UN.more ?_ _ | refine UN.put ?_ (by omega) _ | refine UN.ex (by assumption) ?_ (by first | omega | (simp only [next_more, next_put]; omega)) | refine UN.exb (by assumption) ?_ (by first | omega | (simp only [next_more, next_put]; omega)) (by omega)
   ·repeat first | assumption | exact EXb.refl _ _ | refine EXb.more ?_ _ | refine EXb.put ?_ (by omega) _ | refine EXb.trans ?_ (by assumption) | refine EXb.thn ?_ (by assumption)
   ·repeat first | assumption | refine Fr.more ?_ _ | refine Fr.put ?_ _ _
  ·skip
   have g1 : ((k : Int) == 1) = false := by simp; omega
   have g2 : ((k : Int) == 2) = false := by simp; omega
   have g3 : ((k : Int) == 3) = true := by simp; omega
   simp only [c_seq, RUNA, RUNB, zAd, zMo, zDi, zSu, zMu, zEq, zBe, zLe, zTo, fillS, wantG, vBox, Value.cells, one, putAt, TYA, s0, s1, s4, s5, g0, g1, g2, g3]
   refine wpc_mono (Next_spec (n := 10) (hSt.mono ?_) hc hl (by omega) (by omega)) ?_
   ·repeat first | assumption | exact EXn.refl _ _ | refine EXn.more ?_ _ | refine EXn.put ?_ (by omega) _ | refine EX.trans ?_ (by assumption)
   rintro r σ1 ⟨⟨q, rfl, hq⟩, hS1, hE1⟩
   have n1 := hE1.next
   have f1 := hE1.fr (by repeat first | assumption | refine Fr.more ?_ _ | refine Fr.put ?_ _ _)
   simp only [next_more, next_put] at n1
   have r1 : σ1.row σ.next = some ([.slice none 0 0, .int .i64 0], boxMeta) := by rw [hE1.row _ (by first | omega | (simp only [next_more, next_put] at *; omega)) (by omega)]; exact rb
   simp only [c_seq, RUNA, RUNB, zAd, zMo, zDi, zSu, zMu, zEq, zBe, zLe, zTo, fillS, wantG, vBox, Value.cells, one, putAt, TYA, s0, s1, s4, s5]
   refine wpc_mono (refVariable_is q hq _ f1) ?_
   rintro r σ2 ⟨d2, rfl, hD2, hE2⟩
   have n2 := hE2.next
   have f2 := hE2.fr f1
   obtain ⟨o2, k2, c2, i2, rfl⟩ := hD2.open
   have r2 := (hE2.row σ.next (by omega)).trans r1
   have hS2 := hS1.mono hE2
   simp only [c_seq, RUNA, RUNB, zAd, zMo, zDi, zSu, zMu, zEq, zBe, zLe, zTo, fillS, wantG, vBox, Value.cells, one, putAt, TYA, s0, s1, s4, s5, r2, hr, q11, q13, q15]
   refine fin _ _ _ _ σ2.next (hD2.un ?_) (by first | omega | (simp only [next_more, next_put] at *; omega)) (by omega) (Src.put (Src.put hS2 (by omega)) (by omega) |>.mono ((EX.refl _).more _)) ?_ ?_ _
   ·repeat first | assumption | exact UN.refl _ _ _ | refine UN.more ?_ _ | refine UN.put ?_ (by omega) _ | refine UN.ex (by assumption) ?_ (by first | omega | (simp only [next_more, next_put]; omega)) | refine UN.exb (by assumption) ?_ (by first | omega | (simp only [next_more, next_put]; omega)) (by omega)
   ·repeat first | assumption | exact EXb.refl _ _ | refine EXb.more ?_ _ | refine EXb.put ?_ (by omega) _ | refine EXb.trans ?_ (by assumption) | refine EXb.thn ?_ (by assumption)
   ·repeat first | assumption | refine Fr.more ?_ _ | refine Fr.put ?_ _ _
 have hw : IntKind.i64.wrap ((n : Int) - 1) = ((n - 1 : Nat) : Int) := by rw [wrap64 (by omega) (by omega)]; omega
 have ih' := ih (n - 1) (by omega)
 obtain hk1 | hk1 | hk1 | hk1 : k = 4 ∨ k = 5 ∨ k = 6 ∨ k = 7 := by omega
 ·skip
  have g0 : ((k : Int) == 0) = false := by simp; omega
  have g1 : ((k : Int) == 1) = false := by simp; omega
  have g2 : ((k : Int) == 2) = false := by simp; omega
  have g3 : ((k : Int) == 3) = false := by simp; omega
  have g4 : ((k : Int) == 4) = true := by simp; omega
  simp only [c_seq, RUNA, RUNB, zAd, zMo, zDi, zSu, zMu, zEq, zBe, zLe, zTo, fillS, wantG, vBox, Value.cells, one, putAt, TYA, s0, s1, s4, s5, g0, g1, g2, g3, g4, hw]
  refine wpc_mono (ih' _ (Src.mono hSt ?_) ?_) ?_
  ·repeat first | assumption | exact EXn.refl _ _ | refine EXn.more ?_ _ | refine EXn.put ?_ (by omega) _ | refine EX.trans ?_ (by assumption)
  ·repeat first | assumption | refine Fr.more ?_ _ | refine Fr.put ?_ _ _
  rintro r σ1 ⟨⟨φ1, hD1⟩, hS1, hE1, hF1⟩
  have n1 := hE1.next
  try simp only [next_more, next_put] at n1 hD1
  obtain ⟨o1, k1, c1, i1, rfl⟩ := hD1.open
  have r1 : σ1.row σ.next = some ([.slice none 0 0, .int .i64 0], boxMeta) := by rw [hE1.row _ (by first | omega | (simp only [next_more, next_put] at *; omega)) (by omega)]; exact rb
  simp only [c_seq, RUNA, RUNB, zAd, zMo, zDi, zSu, zMu, zEq, zBe, zLe, zTo, fillS, wantG, vBox, Value.cells, one, putAt, TYA, s0, s1, s4, s5, hw]
  refine wpc_mono (ih' _ (Src.mono hS1 ?_) ?_) ?_
  ·repeat first | assumption | exact EXn.refl _ _ | refine EXn.more ?_ _ | refine EXn.put ?_ (by omega) _ | refine EX.trans ?_ (by assumption)
  ·repeat first | assumption | refine Fr.more ?_ _ | refine Fr.put ?_ _ _
  rintro r σ2 ⟨⟨φ2, hD2⟩, hS2, hE2, hF2⟩
  have n2 := hE2.next
  try simp only [next_more, next_put] at n2 hD2
  obtain ⟨o2, k2, c2, i2, rfl⟩ := hD2.open
  have r2 : σ2.row σ.next = some ([.slice none 0 0, .int .i64 0], boxMeta) := by rw [hE2.row _ (by first | omega | (simp only [next_more, next_put] at *; omega)) (by omega)]; exact r1
  simp only [c_seq, RUNA, RUNB, zAd, zMo, zDi, zSu, zMu, zEq, zBe, zLe, zTo, fillS, wantG, vBox, Value.cells, one, putAt, TYA, s0, s1, s4, s5, hw]
  refine wpc_mono (ih' _ (Src.mono hS2 ?_) ?_) ?_
  ·repeat first | assumption | exact EXn.refl _ _ | refine EXn.more ?_ _ | refine EXn.put ?_ (by omega) _ | refine EX.trans ?_ (by assumption)
  ·repeat first | assumption | refine Fr.more ?_ _ | refine Fr.put ?_ _ _
  rintro r σ3 ⟨⟨φ3, hD3⟩, hS3, hE3, hF3⟩
  have n3 := hE3.next
  try simp only [next_more, next_put] at n3 hD3
  obtain ⟨o3, k3, c3, i3, rfl⟩ := hD3.open
  have r3 : σ3.row σ.next = some ([.slice none 0 0, .int .i64 0], boxMeta) := by rw [hE3.row _ (by first | omega | (simp only [next_more, next_put] at *; omega)) (by omega)]; exact r2
  simp only [c_seq, RUNA, RUNB, zAd, zMo, zDi, zSu, zMu, zEq, zBe, zLe, zTo, fillS, wantG, vBox, Value.cells, one, putAt, TYA, s0, s1, s4, s5, hw]
  refine wpc_mono (refIte_spec (IsD.hi (IsD.weak (hD1.un ?_) (Nat.zero_le _)) ?_) (IsD.hi (IsD.weak (hD2.un ?_) (Nat.zero_le _)) ?_) (IsD.weak hD3 (Nat.zero_le _)) hF3) ?_
  ·repeat first | assumption | exact UN.refl _ _ _ | refine UN.more ?_ _ | refine UN.put ?_ (by omega) _ | refine UN.ex (by assumption) ?_ (by first | omega | (simp only [next_more, next_put]; omega)) | refine UN.exb (by assumption) ?_ (by first | omega | (simp only [next_more, next_put]; omega)) (by omega)
  ·omega
  ·repeat first | assumption | exact UN.refl _ _ _ | refine UN.more ?_ _ | refine UN.put ?_ (by omega) _ | refine UN.ex (by assumption) ?_ (by first | omega | (simp only [next_more, next_put]; omega)) | refine UN.exb (by assumption) ?_ (by first | omega | (simp only [next_more, next_put]; omega)) (by omega)
  ·omega
  rintro r σ4 ⟨hD4, hE4⟩
  have n4 := hE4.next
  obtain ⟨o4, k4, c4, i4, rfl⟩ := hD4.open
  have r4 := (hE4.row σ.next (by omega)).trans r3
  simp only [c_seq, RUNA, RUNB, zAd, zMo, zDi, zSu, zMu, zEq, zBe, zLe, zTo, fillS, wantG, vBox, Value.cells, one, putAt, TYA, s0, s1, s4, s5, r4, hr]
  refine fin σ4 _ _ _ _ hD4 (Nat.le_refl _) (by omega) (hS3.mono hE4) ?_ (hE4.fr hF3) _
  repeat first | assumption | exact EXb.refl _ _ | refine EXb.more ?_ _ | refine EXb.put ?_ (by omega) _ | refine EXb.trans ?_ (by assumption) | refine EXb.thn ?_ (by assumption)
 ·skip
  have g0 : ((k : Int) == 0) = false := by simp; omega
  have g1 : ((k : Int) == 1) = false := by simp; omega
  have g2 : ((k : Int) == 2) = false := by simp; omega
  have g3 : ((k : Int) == 3) = false := by simp; omega
  have g4 : ((k : Int) == 4) = false := by simp; omega
  have g5 : ((k : Int) == 5) = true := by simp; omega
  simp only [c_seq, RUNA, RUNB, zAd, zMo, zDi, zSu, zMu, zEq, zBe, zLe, zTo, fillS, wantG, vBox, Value.cells, one, putAt, TYA, s0, s1, s4, s5, g0, g1, g2, g3, g4, g5, hw]
  refine wpc_mono (ih' _ (Src.mono hSt ?_) ?_) ?_
  ·repeat first | assumption | exact EXn.refl _ _ | refine EXn.more ?_ _ | refine EXn.put ?_ (by omega) _ | refine EX.trans ?_ (by assumption)
  ·repeat first | assumption | refine Fr.more ?_ _ | refine Fr.put ?_ _ _
  rintro r σ1 ⟨⟨φ1, hD1⟩, hS1, hE1, hF1⟩
  have n1 := hE1.next
  try simp only [next_more, next_put] at n1 hD1
  obtain ⟨o1, k1, c1, i1, rfl⟩ := hD1.open
  have r1 : σ1.row σ.next = some ([.slice none 0 0, .int .i64 0], boxMeta) := by rw [hE1.row _ (by first | omega | (simp only [next_more, next_put] at *; omega)) (by omega)]; exact rb
  simp only [c_seq, RUNA, RUNB, zAd, zMo, zDi, zSu, zMu, zEq, zBe, zLe, zTo, fillS, wantG, vBox, Value.cells, one, putAt, TYA, s0, s1, s4, s5, hw]
  refine wpc_mono (refNot_spec hD1 (Nat.le_refl _) hF1) ?_
  rintro r σ4 ⟨hD4, hE4⟩
  have n4 := hE4.next
  obtain ⟨o4, k4, c4, i4, rfl⟩ := hD4.open
  have r4 := (hE4.row σ.next (by omega)).trans r1
  simp only [c_seq, RUNA, RUNB, zAd, zMo, zDi, zSu, zMu, zEq, zBe, zLe, zTo, fillS, wantG, vBox, Value.cells, one, putAt, TYA, s0, s1, s4, s5, r4, hr]
  refine fin σ4 _ _ _ _ hD4 (Nat.le_refl _) (by omega) (hS1.mono hE4) ?_ (hE4.fr hF1) _
  repeat first | assumption | exact EXb.refl _ _ | refine EXb.more ?_ _ | refine EXb.put ?_ (by omega) _ | refine EXb.trans ?_ (by assumption) | refine EXb.thn ?_ (by assumption)
 ·skip
  have g0 : ((k : Int) == 0) = false := by simp; omega
  have g1 : ((k : Int) == 1) = false := by simp; omega
  have g2 : ((k : Int) == 2) = false := by simp; omega
  have g3 : ((k : Int) == 3) = false := by simp; omega
  have g4 : ((k : Int) == 4) = false := by simp; omega
  have g5 : ((k : Int) == 5) = false := by simp; omega
  have g6 : ((k : Int) == 6) = true := by simp; omega
  simp only [c_seq, RUNA, RUNB, zAd, zMo, zDi, zSu, zMu, zEq, zBe, zLe, zTo, fillS, wantG, vBox, Value.cells, one, putAt, TYA, s0, s1, s4, s5, g0, g1, g2, g3, g4, g5, g6, hw]
  refine wpc_mono (ih' _ (Src.mono hSt ?_) ?_) ?_
  ·repeat first | assumption | exact EXn.refl _ _ | refine EXn.more ?_ _ | refine EXn.put ?_ (by omega) _ | refine EX.trans ?_ (by assumption)
  ·repeat first | assumption | refine Fr.more ?_ _ | refine Fr.put ?_ _ _
  rintro r σ1 ⟨⟨φ1, hD1⟩, hS1, hE1, hF1⟩
  have n1 := hE1.next
  try simp only [next_more, next_put] at n1 hD1
  obtain ⟨o1, k1, c1, i1, rfl⟩ := hD1.open
  have r1 : σ1.row σ.next = some ([.slice none 0 0, .int .i64 0], boxMeta) := by rw [hE1.row _ (by first | omega | (simp only [next_more, next_put] at *; omega)) (by omega)]; exact rb
  simp only [c_seq, RUNA, RUNB, zAd, zMo, zDi, zSu, zMu, zEq, zBe, zLe, zTo, fillS, wantG, vBox, Value.cells, one, putAt, TYA, s0, s1, s4, s5, hw]
  refine wpc_mono (ih' _ (Src.mono hS1 ?_) ?_) ?_
  ·repeat first | assumption | exact EXn.refl _ _ | refine EXn.more ?_ _ | refine EXn.put ?_ (by omega) _ | refine EX.trans ?_ (by assumption)
  ·repeat first | assumption | refine Fr.more ?_ _ | refine Fr.put ?_ _ _
  rintro r σ2 ⟨⟨φ2, hD2⟩, hS2, hE2, hF2⟩
  have n2 := hE2.next
  try simp only [next_more, next_put] at n2 hD2
  obtain ⟨o2, k2, c2, i2, rfl⟩ := hD2.open
  have r2 : σ2.row σ.next = some ([.slice none 0 0, .int .i64 0], boxMeta) := by rw [hE2.row _ (by first | omega | (simp only [next_more, next_put] at *; omega)) (by omega)]; exact r1
  simp only [c_seq, RUNA, RUNB, zAd, zMo, zDi, zSu, zMu, zEq, zBe, zLe, zTo, fillS, wantG, vBox, Value.cells, one, putAt, TYA, s0, s1, s4, s5, hw, bs68_2]
  refine wpc_mono (refAnd_spec (φs := [φ1, φ2]) (DL2 (m := rowMeta 2) (id := τ.next + 23) ?_ ?_ (IsD.hi (IsD.weak (hD1.un ?_) (Nat.zero_le _)) ?_) (IsD.hi (IsD.weak (hD2.un ?_) (Nat.zero_le _)) ?_)) (by simp) hF2) ?_
  ·first | omega | (simp only [next_more, next_put] at *; omega)
  ·simp only [c_seq, RUNA, RUNB, zAd, zMo, zDi, zSu, zMu, zEq, zBe, zLe, zTo, fillS, wantG, vBox, Value.cells, one, putAt]
  ·repeat first | assumption | exact UN.refl _ _ _ | refine UN.more ?_ _ | refine UN.put ?_ (by omega) _ | refine UN.ex (by assumption) ?_ (by first | omega | (simp only [next_more, next_put]; omega)) | refine UN.exb (by assumption) ?_ (by first | omega | (simp only [next_more, next_put]; omega)) (by omega)
  ·first | omega | (simp only [next_more, next_put] at *; omega)
  ·repeat first | assumption | exact UN.refl _ _ _ | refine UN.more ?_ _ | refine UN.put ?_ (by omega) _ | refine UN.ex (by assumption) ?_ (by first | omega | (simp only [next_more, next_put]; omega)) | refine UN.exb (by assumption) ?_ (by first | omega | (simp only [next_more, next_put]; omega)) (by omega)
  ·first | omega | (simp only [next_more, next_put] at *; omega)
  rintro r σ4 ⟨hD4, hE4⟩
  have n4 := hE4.next
  simp only [next_put] at n4 hD4
  obtain ⟨o4, k4, c4, i4, rfl⟩ := hD4.open
  have r4 : σ4.row σ.next = some ([.slice none 0 0, .int .i64 0], boxMeta) := by rw [hE4.row σ.next (by first | omega | (simp only [next_more, next_put] at *; omega)), row_put_ne (by omega)]; exact r2
  simp only [c_seq, RUNA, RUNB, zAd, zMo, zDi, zSu, zMu, zEq, zBe, zLe, zTo, fillS, wantG, vBox, Value.cells, one, putAt, TYA, s0, s1, s4, s5, r4, hr]
  refine fin σ4 _ _ _ _ hD4 (Nat.le_refl _) (by omega) ((hS2.put (by omega)).mono hE4) ?_ (hE4.fr (by repeat first | assumption | refine Fr.more ?_ _ | refine Fr.put ?_ _ _)) _
  repeat first | assumption | exact EXb.refl _ _ | refine EXb.more ?_ _ | refine EXb.put ?_ (by omega) _ | refine EXb.trans ?_ (by assumption) | refine EXb.thn ?_ (by assumption)
 ·skip
  have g0 : ((k : Int) == 0) = false := by simp; omega
  have g1 : ((k : Int) == 1) = false := by simp; omega
  have g2 : ((k : Int) == 2) = false := by simp; omega
  have g3 : ((k : Int) == 3) = false := by simp; omega
  have g4 : ((k : Int) == 4) = false := by simp; omega
  have g5 : ((k : Int) == 5) = false := by simp; omega
  have g6 : ((k : Int) == 6) = false := by simp; omega
  simp only [c_seq, RUNA, RUNB, zAd, zMo, zDi, zSu, zMu, zEq, zBe, zLe, zTo, fillS, wantG, vBox, Value.cells, one, putAt, TYA, s0, s1, s4, s5, g0, g1, g2, g3, g4, g5, g6, hw]
  refine wpc_mono (ih' _ (Src.mono hSt ?_) ?_) ?_
  ·repeat first | assumption | exact EXn.refl _ _ | refine EXn.more ?_ _ | refine EXn.put ?_ (by omega) _ | refine EX.trans ?_ (by assumption)
  ·repeat first | assumption | refine Fr.more ?_ _ | refine Fr.put ?_ _ _
  rintro r σ1 ⟨⟨φ1, hD1⟩, hS1, hE1, hF1⟩
  have n1 := hE1.next
  try simp only [next_more, next_put] at n1 hD1
  obtain ⟨o1, k1, c1, i1, rfl⟩ := hD1.open
  have r1 : σ1.row σ.next = some ([.slice none 0 0, .int .i64 0], boxMeta) := by rw [hE1.row _ (by first | omega | (simp only [next_more, next_put] at *; omega)) (by omega)]; exact rb
  simp only [c_seq, RUNA, RUNB, zAd, zMo, zDi, zSu, zMu, zEq, zBe, zLe, zTo, fillS, wantG, vBox, Value.cells, one, putAt, TYA, s0, s1, s4, s5, hw]
  refine wpc_mono (ih' _ (Src.mono hS1 ?_) ?_) ?_
  ·repeat first | assumption | exact EXn.refl _ _ | refine EXn.more ?_ _ | refine EXn.put ?_ (by omega) _ | refine EX.trans ?_ (by assumption)
  ·repeat first | assumption | refine Fr.more ?_ _ | refine Fr.put ?_ _ _
  rintro r σ2 ⟨⟨φ2, hD2⟩, hS2, hE2, hF2⟩
  have n2 := hE2.next
  try simp only [next_more, next_put] at n2 hD2
  obtain ⟨o2, k2, c2, i2, rfl⟩ := hD2.open
  have r2 : σ2.row σ.next = some ([.slice none 0 0, .int .i64 0], boxMeta) := by rw [hE2.row _ (by first | omega | (simp only [next_more, next_put] at *; omega)) (by omega)]; exact r1
  simp only [c_seq, RUNA, RUNB, zAd, zMo, zDi, zSu, zMu, zEq, zBe, zLe, zTo, fillS, wantG, vBox, Value.cells, one, putAt, TYA, s0, s1, s4, s5, hw]
  refine wpc_mono (refXor_spec (IsD.hi (IsD.weak (hD1.un ?_) (Nat.zero_le _)) ?_) (IsD.weak hD2 (Nat.zero_le _)) hF2) ?_
  ·repeat first | assumption | exact UN.refl _ _ _ | refine UN.more ?_ _ | refine UN.put ?_ (by omega) _ | refine UN.ex (by assumption) ?_ (by first | omega | (simp only [next_more, next_put]; omega)) | refine UN.exb (by assumption) ?_ (by first | omega | (simp only [next_more, next_put]; omega)) (by omega)
  ·omega
  rintro r σ4 ⟨hD4, hE4⟩
  have n4 := hE4.next
  obtain ⟨o4, k4, c4, i4, rfl⟩ := hD4.open
  have r4 := (hE4.row σ.next (by omega)).trans r2
  simp only [c_seq, RUNA, RUNB, zAd, zMo, zDi, zSu, zMu, zEq, zBe, zLe, zTo, fillS, wantG, vBox, Value.cells, one, putAt, TYA, s0, s1, s4, s5, r4, hr]
  refine fin σ4 _ _ _ _ hD4 (Nat.le_refl _) (by omega) (hS2.mono hE4) ?_ (hE4.fr hF2) _
  repeat first | assumption | exact EXb.refl _ _ | refine EXb.more ?_ _ | refine EXb.put ?_ (by omega) _ | refine EXb.trans ?_ (by assumption) | refine EXb.thn ?_ (by assumption)
theorem diagram_spec {b : Nat} {cs : List Nat} (hc : ∀ k ∈ cs, k < 256) (hl : cs.length ≤ 1000) : ∀ n, n ≤ 100 → DSpec b cs n := by
 intro n
 induction n with
 | zero => intro h; exact diagram_step hc hl 0 h (fun m e => by omega)
 | succ n ih => intro h; exact diagram_step hc hl (n + 1) h (fun m e => by obtain rfl : m = n := (by omega); exact ih (by omega))
end Go.Proofs.Q
