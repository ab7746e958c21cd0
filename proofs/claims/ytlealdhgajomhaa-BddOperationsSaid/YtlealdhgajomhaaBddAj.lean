/- The program's Ite, Not, Xor, And, Or: walks. The program's And and Or: walks (printed by a program). -/
import Derived.Test.YtlealdhgajomhaaBddAm
namespace Go.Proofs.Ytlealdhgajomhaa
set_option linter.unusedVariables false
open Go.AI
set_option linter.unusedSimpArgs false

theorem Constant_is (b : Bool) (σ : St) : wpc Try.prog 13 #[.bool b] σ fun r σ' => IsD σ.next σ'.next σ' r (fun _ => b) ∧ EX σ σ' := by
  refine wpc_mono (Constant_spec b σ) ?_
  rintro r σ' ⟨h, hE⟩
  rw [constD_cd] at h
  exact ⟨⟨.leaf b, h.i, trivial, fun f => rfl⟩, hE⟩
theorem IsD.zero {lo hi lo' : Nat} {σ : St} {v : Value} {φ : As → Bool} (h : IsD lo hi σ v φ) (hl : lo' ≤ lo) (hh : hi ≤ σ.next) : IsD lo' σ.next σ v φ := (h.weak hl).hi hh

theorem Ite_spec {σ : St} {a b c : Value} {φ ψ χ : As → Bool} (ha : IsD 0 σ.next σ a φ) (hb : IsD 0 σ.next σ b ψ) (hc : IsD 0 σ.next σ c χ) (hF : Fr σ) :
    wpc Try.prog 21 #[a, b, c] σ fun r σ' => IsD σ.next σ'.next σ' r (fun f => if φ f = true then ψ f else χ f) ∧ EX σ σ' := by
  obtain ⟨o1, k1, c1, i1, rfl⟩ := ha.open
  obtain ⟨o2, k2, c2, i2, rfl⟩ := hb.open
  obtain ⟨o3, k3, c3, i3, rfl⟩ := hc.open
  refine body_go Try.func21 rfl ?_
  have hr := Try.results21
  simp only [c_seq, RUNA, RUNB, Nat.reduceAdd, Nat.reduceMod, Nat.reduceDiv, Nat.reduceSub, Nat.reduceMul, Nat.reduceEqDiff, Nat.reduceBEq, Nat.reduceLeDiff, Int.reduceToNat, fillS, wantG, vBox, Value.cells, one, putAt, TYA, hr]
  refine d_go (ms := [0, 1, 0, 7, 0, 31, 63, 127]) (order := [0, 2, 4, 1, 3, 5, 6, 7]) (by kernel_rfl) (by kernel_rfl) (by kernel_rfl) ?_
  simp only [YRUNA, YRUNB, Nat.reduceShiftRight, bit, c_seq, RUNA, RUNB, Nat.reduceAdd, Nat.reduceMod, Nat.reduceDiv, Nat.reduceSub, Nat.reduceMul, Nat.reduceEqDiff, Nat.reduceBEq, Nat.reduceLeDiff, Int.reduceToNat, fillS, wantG, vBox, Value.cells, one, putAt, TYA]
  have ha' := ha
  have hb' := hb
  have hc' := hc
  obtain ⟨A, hA, oA, eA⟩ := ha'
  obtain ⟨B, hB, oB, eB⟩ := hb'
  obtain ⟨C, hC, oC, eC⟩ := hc'
  refine wpc_mono (safe_spec (hA.un ?_) (by first | omega | (simp only [next_more, next_put] at *; omega)) oA (by repeat first | assumption | refine Fr.more ?_ _ | refine Fr.put ?_ _ _)) ?_
  · repeat first | assumption | exact UN.refl _ _ _ | refine UN.more ?_ _ | refine UN.put ?_ (by omega) _ | refine UN.ex (by assumption) ?_ (by first | omega | (simp only [next_more, next_put]; omega)) | refine UN.exb (by assumption) ?_ (by first | omega | (simp only [next_more, next_put]; omega)) (by omega)
  rintro r σ1 ⟨rfl, hE1⟩
  have n1 := hE1.next
  simp only [next_more, next_put] at n1
  have a1 : σ1.row σ.next = some ([.slice o1 k1 c1, .int .i64 i1], boxMeta) := by rw [hE1.row _ (by first | omega | (simp only [next_more, next_put] at *; omega))]; simp only [c_seq, RUNA, RUNB, Nat.reduceAdd, Nat.reduceMod, Nat.reduceDiv, Nat.reduceSub, Nat.reduceMul, Nat.reduceEqDiff, Nat.reduceBEq, Nat.reduceLeDiff, Int.reduceToNat, fillS, wantG, vBox, Value.cells, one, putAt]
  have b1 : σ1.row (σ.next + 1) = some ([.slice o2 k2 c2, .int .i64 i2], boxMeta) := by rw [hE1.row _ (by first | omega | (simp only [next_more, next_put] at *; omega))]; simp only [c_seq, RUNA, RUNB, Nat.reduceAdd, Nat.reduceMod, Nat.reduceDiv, Nat.reduceSub, Nat.reduceMul, Nat.reduceEqDiff, Nat.reduceBEq, Nat.reduceLeDiff, Int.reduceToNat, fillS, wantG, vBox, Value.cells, one, putAt]
  have c1' : σ1.row (σ.next + 2) = some ([.slice o3 k3 c3, .int .i64 i3], boxMeta) := by rw [hE1.row _ (by first | omega | (simp only [next_more, next_put] at *; omega))]; simp only [c_seq, RUNA, RUNB, Nat.reduceAdd, Nat.reduceMod, Nat.reduceDiv, Nat.reduceSub, Nat.reduceMul, Nat.reduceEqDiff, Nat.reduceBEq, Nat.reduceLeDiff, Int.reduceToNat, fillS, wantG, vBox, Value.cells, one, putAt]
  have r1 : σ1.row (σ.next + 3) = some ([.slice none 0 0, .int .i64 0], boxMeta) := by rw [hE1.row _ (by first | omega | (simp only [next_more, next_put] at *; omega))]; simp only [c_seq, RUNA, RUNB, Nat.reduceAdd, Nat.reduceMod, Nat.reduceDiv, Nat.reduceSub, Nat.reduceMul, Nat.reduceEqDiff, Nat.reduceBEq, Nat.reduceLeDiff, Int.reduceToNat, fillS, wantG, vBox, Value.cells, one, putAt]
  have e1 : EX σ σ1 := by repeat first | assumption | exact EXn.refl _ _ | refine EXn.more ?_ _ | refine EXn.put ?_ (by omega) _ | refine EX.trans ?_ (by assumption)
  have f1 := e1.fr hF
  simp only [YRUNA, YRUNB, Nat.reduceShiftRight, bit, c_seq, RUNA, RUNB, Nat.reduceAdd, Nat.reduceMod, Nat.reduceDiv, Nat.reduceSub, Nat.reduceMul, Nat.reduceEqDiff, Nat.reduceBEq, Nat.reduceLeDiff, Int.reduceToNat, fillS, wantG, vBox, Value.cells, one, putAt, TYA, a1, b1, c1']
  refine wpc_mono (safe_spec (hB.un ?_) (by first | omega | (simp only [next_more, next_put] at *; omega)) oB (by repeat first | assumption | refine Fr.more ?_ _ | refine Fr.put ?_ _ _)) ?_
  · repeat first | assumption | exact UN.refl _ _ _ | refine UN.more ?_ _ | refine UN.put ?_ (by omega) _ | refine UN.ex (by assumption) ?_ (by first | omega | (simp only [next_more, next_put]; omega)) | refine UN.exb (by assumption) ?_ (by first | omega | (simp only [next_more, next_put]; omega)) (by omega)
  rintro r σ2 ⟨rfl, hE2⟩
  have n2 := hE2.next
  have a2 := (hE2.row σ.next (by omega)).trans a1
  have b2 := (hE2.row (σ.next + 1) (by omega)).trans b1
  have c2' := (hE2.row (σ.next + 2) (by omega)).trans c1'
  have r2 := (hE2.row (σ.next + 3) (by omega)).trans r1
  have e2 : EX σ σ2 := by repeat first | assumption | exact EXn.refl _ _ | refine EXn.more ?_ _ | refine EXn.put ?_ (by omega) _ | refine EX.trans ?_ (by assumption)
  have f2 := e2.fr hF
  simp only [YRUNA, YRUNB, Nat.reduceShiftRight, bit, c_seq, RUNA, RUNB, Nat.reduceAdd, Nat.reduceMod, Nat.reduceDiv, Nat.reduceSub, Nat.reduceMul, Nat.reduceEqDiff, Nat.reduceBEq, Nat.reduceLeDiff, Int.reduceToNat, fillS, wantG, vBox, Value.cells, one, putAt, TYA, a2, b2, c2']
  refine wpc_mono (safe_spec (hC.un ?_) (by first | omega | (simp only [next_more, next_put] at *; omega)) oC (by repeat first | assumption | refine Fr.more ?_ _ | refine Fr.put ?_ _ _)) ?_
  · repeat first | assumption | exact UN.refl _ _ _ | refine UN.more ?_ _ | refine UN.put ?_ (by omega) _ | refine UN.ex (by assumption) ?_ (by first | omega | (simp only [next_more, next_put]; omega)) | refine UN.exb (by assumption) ?_ (by first | omega | (simp only [next_more, next_put]; omega)) (by omega)
  rintro r σ3 ⟨rfl, hE3⟩
  have n3 := hE3.next
  have a3 := (hE3.row σ.next (by omega)).trans a2
  have b3 := (hE3.row (σ.next + 1) (by omega)).trans b2
  have c3' := (hE3.row (σ.next + 2) (by omega)).trans c2'
  have r3 := (hE3.row (σ.next + 3) (by omega)).trans r2
  have e3 : EX σ σ3 := by repeat first | assumption | exact EXn.refl _ _ | refine EXn.more ?_ _ | refine EXn.put ?_ (by omega) _ | refine EX.trans ?_ (by assumption)
  have f3 := e3.fr hF
  simp only [YRUNA, YRUNB, Nat.reduceShiftRight, bit, c_seq, RUNA, RUNB, Nat.reduceAdd, Nat.reduceMod, Nat.reduceDiv, Nat.reduceSub, Nat.reduceMul, Nat.reduceEqDiff, Nat.reduceBEq, Nat.reduceLeDiff, Int.reduceToNat, fillS, wantG, vBox, Value.cells, one, putAt, TYA, a3, b3, c3']
  refine wpc_mono (ite_spec (ha.mono e3) (hb.mono e3) (hc.mono e3) f3) ?_
  rintro r σ4 ⟨hD, hE4⟩
  have n4 := hE4.next
  have a4 := (hE4.row σ.next (by omega)).trans a3
  have b4 := (hE4.row (σ.next + 1) (by omega)).trans b3
  have c4' := (hE4.row (σ.next + 2) (by omega)).trans c3'
  have r4 := (hE4.row (σ.next + 3) (by omega)).trans r3
  have e4 : EX σ σ4 := by repeat first | assumption | exact EXn.refl _ _ | refine EXn.more ?_ _ | refine EXn.put ?_ (by omega) _ | refine EX.trans ?_ (by assumption)
  obtain ⟨o, k, c, i, rfl⟩ := hD.open
  have q1 : ¬ σ.next = σ.next + 3 := by omega
  simp only [YRUNA, YRUNB, Nat.reduceShiftRight, bit, c_seq, RUNA, RUNB, Nat.reduceAdd, Nat.reduceMod, Nat.reduceDiv, Nat.reduceSub, Nat.reduceMul, Nat.reduceEqDiff, Nat.reduceBEq, Nat.reduceLeDiff, Int.reduceToNat, fillS, wantG, vBox, Value.cells, one, putAt, TYA, a4, b4, c4', r4, hr]
  refine ⟨IsD.weak (hD.un ?_) (by omega), ?_⟩
  · repeat first | assumption | exact UN.refl _ _ _ | refine UN.more ?_ _ | refine UN.put ?_ (by omega) _ | refine UN.ex (by assumption) ?_ (by first | omega | (simp only [next_more, next_put]; omega)) | refine UN.exb (by assumption) ?_ (by first | omega | (simp only [next_more, next_put]; omega)) (by omega)
  · repeat first | assumption | exact EXn.refl _ _ | refine EXn.more ?_ _ | refine EXn.put ?_ (by omega) _ | refine EX.trans ?_ (by assumption)

theorem Not_spec {σ : St} {a : Value} {φ : As → Bool} (ha : IsD 0 σ.next σ a φ) (hF : Fr σ) :
    wpc Try.prog 22 #[a] σ fun r σ' => IsD σ.next σ'.next σ' r (fun f => !φ f) ∧ EX σ σ' := by
  obtain ⟨o1, k1, c1, i1, rfl⟩ := ha.open
  refine body_go Try.func22 rfl ?_
  have hr := Try.results22
  simp only [c_seq, RUNA, RUNB, Nat.reduceAdd, Nat.reduceMod, Nat.reduceDiv, Nat.reduceSub, Nat.reduceMul, Nat.reduceEqDiff, Nat.reduceBEq, Nat.reduceLeDiff, Int.reduceToNat, fillS, wantG, vBox, Value.cells, one, putAt, TYA, hr]
  refine d_go (ms := [0, 0, 2, 7, 15]) (order := [0, 1, 2, 3, 4]) (by kernel_rfl) (by kernel_rfl) (by kernel_rfl) ?_
  simp only [YRUNA, YRUNB, Nat.reduceShiftRight, bit, c_seq, RUNA, RUNB, Nat.reduceAdd, Nat.reduceMod, Nat.reduceDiv, Nat.reduceSub, Nat.reduceMul, Nat.reduceEqDiff, Nat.reduceBEq, Nat.reduceLeDiff, Int.reduceToNat, fillS, wantG, vBox, Value.cells, one, putAt, TYA]
  refine wpc_mono (Constant_is false _) ?_
  rintro r σ1 ⟨hD1, hE1⟩
  have n1 := hE1.next
  simp only [next_more, next_put] at n1 hD1
  have a1 : σ1.row σ.next = some ([.slice o1 k1 c1, .int .i64 i1], boxMeta) := by rw [hE1.row _ (by first | omega | (simp only [next_more, next_put] at *; omega))]; simp only [c_seq, RUNA, RUNB, Nat.reduceAdd, Nat.reduceMod, Nat.reduceDiv, Nat.reduceSub, Nat.reduceMul, Nat.reduceEqDiff, Nat.reduceBEq, Nat.reduceLeDiff, Int.reduceToNat, fillS, wantG, vBox, Value.cells, one, putAt]
  have r1 : σ1.row (σ.next + 1) = some ([.slice none 0 0, .int .i64 0], boxMeta) := by rw [hE1.row _ (by first | omega | (simp only [next_more, next_put] at *; omega))]; simp only [c_seq, RUNA, RUNB, Nat.reduceAdd, Nat.reduceMod, Nat.reduceDiv, Nat.reduceSub, Nat.reduceMul, Nat.reduceEqDiff, Nat.reduceBEq, Nat.reduceLeDiff, Int.reduceToNat, fillS, wantG, vBox, Value.cells, one, putAt]
  have e1 : EX σ σ1 := by repeat first | assumption | exact EXn.refl _ _ | refine EXn.more ?_ _ | refine EXn.put ?_ (by omega) _ | refine EX.trans ?_ (by assumption)
  simp only [YRUNA, YRUNB, Nat.reduceShiftRight, bit, c_seq, RUNA, RUNB, Nat.reduceAdd, Nat.reduceMod, Nat.reduceDiv, Nat.reduceSub, Nat.reduceMul, Nat.reduceEqDiff, Nat.reduceBEq, Nat.reduceLeDiff, Int.reduceToNat, fillS, wantG, vBox, Value.cells, one, putAt, TYA, a1]
  refine wpc_mono (Constant_is true _) ?_
  rintro r σ2 ⟨hD2, hE2⟩
  have n2 := hE2.next
  have a2 := (hE2.row σ.next (by omega)).trans a1
  have r2 := (hE2.row (σ.next + 1) (by omega)).trans r1
  have e2 : EX σ σ2 := by repeat first | assumption | exact EXn.refl _ _ | refine EXn.more ?_ _ | refine EXn.put ?_ (by omega) _ | refine EX.trans ?_ (by assumption)
  have f2 := e2.fr hF
  simp only [YRUNA, YRUNB, Nat.reduceShiftRight, bit, c_seq, RUNA, RUNB, Nat.reduceAdd, Nat.reduceMod, Nat.reduceDiv, Nat.reduceSub, Nat.reduceMul, Nat.reduceEqDiff, Nat.reduceBEq, Nat.reduceLeDiff, Int.reduceToNat, fillS, wantG, vBox, Value.cells, one, putAt, TYA, a2]
  refine wpc_mono (Ite_spec (ha.mono e2) ((hD1.zero (Nat.zero_le _) (Nat.le_refl _)).mono hE2) (hD2.zero (Nat.zero_le _) (Nat.le_refl _)) f2) ?_
  rintro r σ3 ⟨hD, hE3⟩
  have n3 := hE3.next
  have a3 := (hE3.row σ.next (by omega)).trans a2
  have r3 := (hE3.row (σ.next + 1) (by omega)).trans r2
  have e3 : EX σ σ3 := by repeat first | assumption | exact EXn.refl _ _ | refine EXn.more ?_ _ | refine EXn.put ?_ (by omega) _ | refine EX.trans ?_ (by assumption)
  obtain ⟨o, k, c, i, rfl⟩ := hD.open
  simp only [YRUNA, YRUNB, Nat.reduceShiftRight, bit, c_seq, RUNA, RUNB, Nat.reduceAdd, Nat.reduceMod, Nat.reduceDiv, Nat.reduceSub, Nat.reduceMul, Nat.reduceEqDiff, Nat.reduceBEq, Nat.reduceLeDiff, Int.reduceToNat, fillS, wantG, vBox, Value.cells, one, putAt, TYA, a3, r3, hr]
  refine ⟨IsD.congr (IsD.weak (hD.un ?_) (by omega)) (fun f => by cases φ f <;> rfl), ?_⟩
  · repeat first | assumption | exact UN.refl _ _ _ | refine UN.more ?_ _ | refine UN.put ?_ (by omega) _ | refine UN.ex (by assumption) ?_ (by first | omega | (simp only [next_more, next_put]; omega)) | refine UN.exb (by assumption) ?_ (by first | omega | (simp only [next_more, next_put]; omega)) (by omega)
  · repeat first | assumption | exact EXn.refl _ _ | refine EXn.more ?_ _ | refine EXn.put ?_ (by omega) _ | refine EX.trans ?_ (by assumption)

theorem Xor_spec {σ : St} {a b : Value} {φ ψ : As → Bool} (ha : IsD 0 σ.next σ a φ) (hb : IsD 0 σ.next σ b ψ) (hF : Fr σ) :
    wpc Try.prog 25 #[a, b] σ fun r σ' => IsD σ.next σ'.next σ' r (fun f => !(φ f == ψ f)) ∧ EX σ σ' := by
  obtain ⟨o1, k1, c1, i1, rfl⟩ := ha.open
  obtain ⟨o2, k2, c2, i2, rfl⟩ := hb.open
  refine body_go Try.func25 rfl ?_
  have hr := Try.results25
  simp only [c_seq, RUNA, RUNB, Nat.reduceAdd, Nat.reduceMod, Nat.reduceDiv, Nat.reduceSub, Nat.reduceMul, Nat.reduceEqDiff, Nat.reduceBEq, Nat.reduceLeDiff, Int.reduceToNat, fillS, wantG, vBox, Value.cells, one, putAt, TYA, hr]
  refine d_go (ms := [0, 0, 2, 0, 15, 31]) (order := [0, 1, 3, 2, 4, 5]) (by kernel_rfl) (by kernel_rfl) (by kernel_rfl) ?_
  simp only [YRUNA, YRUNB, Nat.reduceShiftRight, bit, c_seq, RUNA, RUNB, Nat.reduceAdd, Nat.reduceMod, Nat.reduceDiv, Nat.reduceSub, Nat.reduceMul, Nat.reduceEqDiff, Nat.reduceBEq, Nat.reduceLeDiff, Int.reduceToNat, fillS, wantG, vBox, Value.cells, one, putAt, TYA]
  refine wpc_mono (Not_spec (hb.mono ?_) (by repeat first | assumption | refine Fr.more ?_ _ | refine Fr.put ?_ _ _)) ?_
  · repeat first | assumption | exact EXn.refl _ _ | refine EXn.more ?_ _ | refine EXn.put ?_ (by omega) _ | refine EX.trans ?_ (by assumption)
  rintro r σ1 ⟨hD1, hE1⟩
  have n1 := hE1.next
  simp only [next_more, next_put] at n1 hD1
  have a1 : σ1.row σ.next = some ([.slice o1 k1 c1, .int .i64 i1], boxMeta) := by rw [hE1.row _ (by first | omega | (simp only [next_more, next_put] at *; omega))]; simp only [c_seq, RUNA, RUNB, Nat.reduceAdd, Nat.reduceMod, Nat.reduceDiv, Nat.reduceSub, Nat.reduceMul, Nat.reduceEqDiff, Nat.reduceBEq, Nat.reduceLeDiff, Int.reduceToNat, fillS, wantG, vBox, Value.cells, one, putAt]
  have b1 : σ1.row (σ.next + 1) = some ([.slice o2 k2 c2, .int .i64 i2], boxMeta) := by rw [hE1.row _ (by first | omega | (simp only [next_more, next_put] at *; omega))]; simp only [c_seq, RUNA, RUNB, Nat.reduceAdd, Nat.reduceMod, Nat.reduceDiv, Nat.reduceSub, Nat.reduceMul, Nat.reduceEqDiff, Nat.reduceBEq, Nat.reduceLeDiff, Int.reduceToNat, fillS, wantG, vBox, Value.cells, one, putAt]
  have r1 : σ1.row (σ.next + 2) = some ([.slice none 0 0, .int .i64 0], boxMeta) := by rw [hE1.row _ (by first | omega | (simp only [next_more, next_put] at *; omega))]; simp only [c_seq, RUNA, RUNB, Nat.reduceAdd, Nat.reduceMod, Nat.reduceDiv, Nat.reduceSub, Nat.reduceMul, Nat.reduceEqDiff, Nat.reduceBEq, Nat.reduceLeDiff, Int.reduceToNat, fillS, wantG, vBox, Value.cells, one, putAt]
  have e1 : EX σ σ1 := by repeat first | assumption | exact EXn.refl _ _ | refine EXn.more ?_ _ | refine EXn.put ?_ (by omega) _ | refine EX.trans ?_ (by assumption)
  have f1 := e1.fr hF
  simp only [YRUNA, YRUNB, Nat.reduceShiftRight, bit, c_seq, RUNA, RUNB, Nat.reduceAdd, Nat.reduceMod, Nat.reduceDiv, Nat.reduceSub, Nat.reduceMul, Nat.reduceEqDiff, Nat.reduceBEq, Nat.reduceLeDiff, Int.reduceToNat, fillS, wantG, vBox, Value.cells, one, putAt, TYA, a1, b1]
  refine wpc_mono (Ite_spec (ha.mono e1) (hD1.zero (Nat.zero_le _) (Nat.le_refl _)) (hb.mono e1) f1) ?_
  rintro r σ3 ⟨hD, hE3⟩
  have n3 := hE3.next
  have a3 := (hE3.row σ.next (by omega)).trans a1
  have b3 := (hE3.row (σ.next + 1) (by omega)).trans b1
  have r3 := (hE3.row (σ.next + 2) (by omega)).trans r1
  have e3 : EX σ σ3 := by repeat first | assumption | exact EXn.refl _ _ | refine EXn.more ?_ _ | refine EXn.put ?_ (by omega) _ | refine EX.trans ?_ (by assumption)
  obtain ⟨o, k, c, i, rfl⟩ := hD.open
  simp only [YRUNA, YRUNB, Nat.reduceShiftRight, bit, c_seq, RUNA, RUNB, Nat.reduceAdd, Nat.reduceMod, Nat.reduceDiv, Nat.reduceSub, Nat.reduceMul, Nat.reduceEqDiff, Nat.reduceBEq, Nat.reduceLeDiff, Int.reduceToNat, fillS, wantG, vBox, Value.cells, one, putAt, TYA, a3, b3, r3, hr]
  refine ⟨IsD.congr (IsD.weak (hD.un ?_) (by omega)) (fun f => by cases φ f <;> cases ψ f <;> rfl), ?_⟩
  · repeat first | assumption | exact UN.refl _ _ _ | refine UN.more ?_ _ | refine UN.put ?_ (by omega) _ | refine UN.ex (by assumption) ?_ (by first | omega | (simp only [next_more, next_put]; omega)) | refine UN.exb (by assumption) ?_ (by first | omega | (simp only [next_more, next_put]; omega)) (by omega)
  · repeat first | assumption | exact EXn.refl _ _ | refine EXn.more ?_ _ | refine EXn.put ?_ (by omega) _ | refine EX.trans ?_ (by assumption)
end Go.Proofs.Ytlealdhgajomhaa
namespace Go.Proofs.Ytlealdhgajomhaa
open Go.AI
set_option linter.unusedSimpArgs false

/-- what the loops of And and Or keep -/
def AOI (A : List (As → Bool) → Nat → As → Bool) (φs : List (As → Bool)) (n0 m : Nat) (S : Slots) (τ : St) : Prop := ∃ (i : Nat) (v w : Value), S.at 9 = .int .i64 i ∧ i ≤ φs.length ∧ m = φs.length - i ∧ τ.row (n0 + 2) = some ([v, w], boxMeta) ∧ IsD (n0 + 4) τ.next τ (.agg #[v, w]) (A φs i)
theorem And_spec {σ : St} {a : Value} {φs : List (As → Bool)} (ha : DL σ a φs) (hlen : φs.length < 1000) (hF : Fr σ) : wpc Try.prog 23 #[a] σ fun r σ' => IsD σ.next σ'.next σ' r (allOf φs φs.length) ∧ EX σ σ' := by
  obtain ⟨o, c, rfl, hA⟩ := ha
  refine body_go Try.func23 rfl ?_
  have hr := Try.results23
  simp only [c_seq, RUNA, RUNB, Nat.reduceAdd, Nat.reduceMod, Nat.reduceDiv, Nat.reduceSub, Nat.reduceMul, Nat.reduceEqDiff, Nat.reduceBEq, Nat.reduceLeDiff, Int.reduceToNat, fillS, wantG, vBox, Value.cells, one, putAt, TYA, hr]
  refine wpc_mono (Constant_is true _) ?_
  rintro r σ0 ⟨hD0, hE0⟩
  have n0 := hE0.next
  have f0 := hE0.fr (by repeat first | assumption | refine Fr.more ?_ _ | refine Fr.put ?_ _ _)
  simp only [next_more, next_put] at n0 hD0
  have b0 : σ0.row σ.next = some ([.slice none 0 0, .int .i64 0], boxMeta) := by rw [hE0.row _ (by first | omega | (simp only [next_more, next_put] at *; omega))]; simp only [c_seq, RUNA, RUNB, Nat.reduceAdd, Nat.reduceMod, Nat.reduceDiv, Nat.reduceSub, Nat.reduceMul, Nat.reduceEqDiff, Nat.reduceBEq, Nat.reduceLeDiff, Int.reduceToNat, fillS, wantG, vBox, Value.cells, one, putAt]
  have e0 : EX σ σ0 := by repeat first | assumption | exact EXn.refl _ _ | refine EXn.more ?_ _ | refine EXn.put ?_ (by omega) _ | refine EX.trans ?_ (by assumption)
  obtain ⟨o', k', c', i', rfl⟩ := hD0.open
  have q0 : ¬ σ.next = σ.next + 2 := by omega
  simp only [c_seq, RUNA, RUNB, Nat.reduceAdd, Nat.reduceMod, Nat.reduceDiv, Nat.reduceSub, Nat.reduceMul, Nat.reduceEqDiff, Nat.reduceBEq, Nat.reduceLeDiff, Int.reduceToNat, fillS, wantG, vBox, Value.cells, one, putAt, TYA]
  refine loop_go (fun m S τ => S.at 2 = .pointer (some ⟨σ.next, 0, none⟩) ∧ S.at 3 = .pointer (some ⟨σ.next + 2, 0, none⟩) ∧ S.at 7 = .slice o φs.length c ∧ S.at 8 = .int .i64 (φs.length : Nat) ∧ EX σ τ ∧ Fr τ ∧ σ.next + 4 ≤ τ.next ∧
    τ.row σ.next = some ([.slice none 0 0, .int .i64 0], boxMeta) ∧
    AOI allOf φs σ.next m S τ) φs.length ?_ ?_
  · simp only [c_seq, RUNA, RUNB, Nat.reduceAdd, Nat.reduceMod, Nat.reduceDiv, Nat.reduceSub, Nat.reduceMul, Nat.reduceEqDiff, Nat.reduceBEq, Nat.reduceLeDiff, Int.reduceToNat, fillS, wantG, vBox, Value.cells, one, putAt]
    refine ⟨?_, ?_, by omega, ?_, 0, .slice o' k' c',   .int .i64 i', by simp only [c_seq, RUNA, RUNB, Nat.reduceAdd, Nat.reduceMod, Nat.reduceDiv, Nat.reduceSub, Nat.reduceMul, Nat.reduceEqDiff, Nat.reduceBEq, Nat.reduceLeDiff, Int.reduceToNat, fillS, wantG, vBox, Value.cells, one, putAt]; rfl, by omega, by omega, by simp only [c_seq, RUNA, RUNB, Nat.reduceAdd, Nat.reduceMod, Nat.reduceDiv, Nat.reduceSub, Nat.reduceMul, Nat.reduceEqDiff, Nat.reduceBEq, Nat.reduceLeDiff, Int.reduceToNat, fillS, wantG, vBox, Value.cells, one, putAt], ?_⟩
    · repeat first | assumption | exact EXn.refl _ _ | refine EXn.more ?_ _ | refine EXn.put ?_ (by omega) _ | refine EX.trans ?_ (by assumption)
    · repeat first | assumption | refine Fr.more ?_ _ | refine Fr.put ?_ _ _
    · simp only [b0, q0, if_false]
    · refine IsD.congr (IsD.weak (IsD.hi (hD0.un ?_) (by first | omega | (simp only [next_more, next_put] at *; omega))) (by omega)) (fun f => rfl)
      repeat first | assumption | exact UN.refl _ _ _ | refine UN.more ?_ _ | refine UN.put ?_ (by omega) _ | refine UN.ex (by assumption) ?_ (by first | omega | (simp only [next_more, next_put]; omega)) | refine UN.exb (by assumption) ?_ (by first | omega | (simp only [next_more, next_put]; omega)) (by omega)
  rintro _ S τ ⟨s2, s3, s7, s8, hE, hF', hx, r0, i, v, w, s9, hi, rfl, rt, hD⟩
  have nn := hE.next
  by_cases hlt : i < φs.length
  · have hd : decide ((i : Int) < (φs.length : Int)) = true := by simp; omega
    have z2 : (0 : Int) ≤ (i : Int) := by omega
    have z3 : (i : Int) < (φs.length : Int) := by omega
    have hw : IntKind.i64.wrap ((i : Int) + 1) = ((i + 1 : Nat) : Int) := by rw [wrap64 (by omega) (by omega)]; rfl
    obtain ⟨id, off, row, m, rfl, h1, h2, h3⟩ := hA (by omega)
    obtain ⟨sv, rv', h4, h5⟩ := h3 i hlt
    have ra := (hE.row id h1).trans h2
    obtain ⟨o5, k5, c5, i5, e5⟩ := h5.open
    simp only [Value.agg.injEq, Array.mk.injEq, List.cons.injEq, and_true] at e5
    obtain ⟨rfl, rfl⟩ := e5
    simp only [c_seq, RUNA, RUNB, Nat.reduceAdd, Nat.reduceMod, Nat.reduceDiv, Nat.reduceSub, Nat.reduceMul, Nat.reduceEqDiff, Nat.reduceBEq, Nat.reduceLeDiff, Int.reduceToNat, fillS, wantG, vBox, Value.cells, one, putAt, TYA, s2, s3, s7, s8, s9, hd, ia68 z2 z3, ra, h4]
    have q1 : ¬ σ.next + 2 = τ.next + 3 := by omega
    have q1' : ¬ σ.next = τ.next + 3 := by omega
    refine d_go (ms := [0, 0, 0, 7, 15]) (order := [0, 1, 2, 3, 4]) (by kernel_rfl) (by kernel_rfl) (by kernel_rfl) ?_
    simp only [YRUNA, YRUNB, Nat.reduceShiftRight, bit, c_seq, RUNA, RUNB, Nat.reduceAdd, Nat.reduceMod, Nat.reduceDiv, Nat.reduceSub, Nat.reduceMul, Nat.reduceEqDiff, Nat.reduceBEq, Nat.reduceLeDiff, Int.reduceToNat, fillS, wantG, vBox, Value.cells, one, putAt, TYA, s2, s3, s7, s8, s9, rt, q1]
    refine wpc_mono (Constant_is false _) ?_
    rintro r σ1 ⟨hD1, hE1⟩
    have n1 := hE1.next
    simp only [next_more, next_put] at n1 hD1
    have rt1 : σ1.row (σ.next + 2) = some ([v, w], boxMeta) := by rw [hE1.row _ (by first | omega | (simp only [next_more, next_put] at *; omega))]; simp only [c_seq, RUNA, RUNB, Nat.reduceAdd, Nat.reduceMod, Nat.reduceDiv, Nat.reduceSub, Nat.reduceMul, Nat.reduceEqDiff, Nat.reduceBEq, Nat.reduceLeDiff, Int.reduceToNat, fillS, wantG, vBox, Value.cells, one, putAt, q1, rt]
    have r01 : σ1.row σ.next = some ([.slice none 0 0, .int .i64 0], boxMeta) := by rw [hE1.row _ (by first | omega | (simp only [next_more, next_put] at *; omega))]; simp only [c_seq, RUNA, RUNB, Nat.reduceAdd, Nat.reduceMod, Nat.reduceDiv, Nat.reduceSub, Nat.reduceMul, Nat.reduceEqDiff, Nat.reduceBEq, Nat.reduceLeDiff, Int.reduceToNat, fillS, wantG, vBox, Value.cells, one, putAt, q1', r0]
    have d1 : σ1.row (τ.next + 3) = some ([.slice o5 k5 c5, .int .i64 i5], boxMeta) := by rw [hE1.row _ (by first | omega | (simp only [next_more, next_put] at *; omega))]; simp only [c_seq, RUNA, RUNB, Nat.reduceAdd, Nat.reduceMod, Nat.reduceDiv, Nat.reduceSub, Nat.reduceMul, Nat.reduceEqDiff, Nat.reduceBEq, Nat.reduceLeDiff, Int.reduceToNat, fillS, wantG, vBox, Value.cells, one, putAt]
    have e1 : EX τ σ1 := by repeat first | assumption | exact EXn.refl _ _ | refine EXn.more ?_ _ | refine EXn.put ?_ (by omega) _ | refine EX.trans ?_ (by assumption)
    have f1 := e1.fr hF'
    have ex1 : EX σ σ1 := EX.trans hE e1
    have hDo := (hD.zero (lo' := 0) (Nat.zero_le _) (Nat.le_refl _)).mono e1
    obtain ⟨ow, kw, cw, iw, ew⟩ := hD.open
    simp only [Value.agg.injEq, Array.mk.injEq, List.cons.injEq, and_true] at ew
    obtain ⟨rfl, rfl⟩ := ew
    simp only [YRUNA, YRUNB, Nat.reduceShiftRight, bit, c_seq, RUNA, RUNB, Nat.reduceAdd, Nat.reduceMod, Nat.reduceDiv, Nat.reduceSub, Nat.reduceMul, Nat.reduceEqDiff, Nat.reduceBEq, Nat.reduceLeDiff, Int.reduceToNat, fillS, wantG, vBox, Value.cells, one, putAt, TYA, s2, s3, s7, s8, s9, rt1, d1]
    refine wpc_mono (Ite_spec hDo (h5.mono ex1) (hD1.zero (Nat.zero_le _) (Nat.le_refl _)) f1) ?_
    rintro r σ2 ⟨hD2, hE2⟩
    have n2 := hE2.next
    have rt2 := (hE2.row (σ.next + 2) (by omega)).trans rt1
    have r02 := (hE2.row σ.next (by omega)).trans r01
    have d2 := (hE2.row (τ.next + 3) (by omega)).trans d1
    have e2 : EX σ σ2 := EX.trans ex1 hE2
    have f2 := hE2.fr f1
    obtain ⟨o6, k6, c6, i6, rfl⟩ := hD2.open
    have q2 : ¬ τ.next + 3 = σ.next + 2 := by omega
    simp only [YRUNA, YRUNB, Nat.reduceShiftRight, bit, c_seq, RUNA, RUNB, Nat.reduceAdd, Nat.reduceMod, Nat.reduceDiv, Nat.reduceSub, Nat.reduceMul, Nat.reduceEqDiff, Nat.reduceBEq, Nat.reduceLeDiff, Int.reduceToNat, fillS, wantG, vBox, Value.cells, one, putAt, TYA, s2, s3, s7, s8, s9, rt2, d2, q2, hw]
    refine ⟨φs.length - (i + 1), by omega, ?_, by repeat first | assumption | refine Fr.more ?_ _ | refine Fr.put ?_ _ _, by omega, ?_, i + 1, .slice o6 k6 c6, .int .i64 i6, by simp only [c_seq, RUNA, RUNB, Nat.reduceAdd, Nat.reduceMod, Nat.reduceDiv, Nat.reduceSub, Nat.reduceMul, Nat.reduceEqDiff, Nat.reduceBEq, Nat.reduceLeDiff, Int.reduceToNat, fillS, wantG, vBox, Value.cells, one, putAt], by omega, rfl, by simp only [c_seq, RUNA, RUNB, Nat.reduceAdd, Nat.reduceMod, Nat.reduceDiv, Nat.reduceSub, Nat.reduceMul, Nat.reduceEqDiff, Nat.reduceBEq, Nat.reduceLeDiff, Int.reduceToNat, fillS, wantG, vBox, Value.cells, one, putAt], ?_⟩
    · repeat first | assumption | exact EXn.refl _ _ | refine EXn.more ?_ _ | refine EXn.put ?_ (by omega) _ | refine EX.trans ?_ (by assumption)
    · simp only [r02, q0, if_false]
    · refine IsD.congr (IsD.weak (IsD.hi (hD2.un ?_) (by first | omega | (simp only [next_more, next_put] at *; omega))) (by omega)) (fun f => by rw [allOf_s hlt f]; cases allOf φs i f <;> rfl)
      repeat first | assumption | exact UN.refl _ _ _ | refine UN.more ?_ _ | refine UN.put ?_ (by omega) _ | refine UN.ex (by assumption) ?_ (by first | omega | (simp only [next_more, next_put]; omega)) | refine UN.exb (by assumption) ?_ (by first | omega | (simp only [next_more, next_put]; omega)) (by omega)
  · have hd : decide ((i : Int) < (φs.length : Int)) = false := by simp; omega
    have hn1 : i = φs.length := by omega
    rw [hn1] at hD
    obtain ⟨ow, kw, cw, iw, ew⟩ := hD.open
    simp only [Value.agg.injEq, Array.mk.injEq, List.cons.injEq, and_true] at ew
    obtain ⟨rfl, rfl⟩ := ew
    simp only [c_seq, RUNA, RUNB, Nat.reduceAdd, Nat.reduceMod, Nat.reduceDiv, Nat.reduceSub, Nat.reduceMul, Nat.reduceEqDiff, Nat.reduceBEq, Nat.reduceLeDiff, Int.reduceToNat, fillS, wantG, vBox, Value.cells, one, putAt, TYA, s2, s3, s7, s8, s9, hd, rt, r0, hr]
    refine ⟨IsD.hi (IsD.weak (hD.un ?_) (by omega)) (by omega), ?_⟩
    · repeat first | assumption | exact UN.refl _ _ _ | refine UN.more ?_ _ | refine UN.put ?_ (by omega) _ | refine UN.ex (by assumption) ?_ (by first | omega | (simp only [next_more, next_put]; omega)) | refine UN.exb (by assumption) ?_ (by first | omega | (simp only [next_more, next_put]; omega)) (by omega)
    · repeat first | assumption | exact EXn.refl _ _ | refine EXn.more ?_ _ | refine EXn.put ?_ (by omega) _ | refine EX.trans ?_ (by assumption)
theorem Or_spec {σ : St} {a : Value} {φs : List (As → Bool)} (ha : DL σ a φs) (hlen : φs.length < 1000) (hF : Fr σ) : wpc Try.prog 24 #[a] σ fun r σ' => IsD σ.next σ'.next σ' r (anyOf φs φs.length) ∧ EX σ σ' := by
  obtain ⟨o, c, rfl, hA⟩ := ha
  refine body_go Try.func24 rfl ?_
  have hr := Try.results24
  simp only [c_seq, RUNA, RUNB, Nat.reduceAdd, Nat.reduceMod, Nat.reduceDiv, Nat.reduceSub, Nat.reduceMul, Nat.reduceEqDiff, Nat.reduceBEq, Nat.reduceLeDiff, Int.reduceToNat, fillS, wantG, vBox, Value.cells, one, putAt, TYA, hr]
  refine wpc_mono (Constant_is false _) ?_
  rintro r σ0 ⟨hD0, hE0⟩
  have n0 := hE0.next
  have f0 := hE0.fr (by repeat first | assumption | refine Fr.more ?_ _ | refine Fr.put ?_ _ _)
  simp only [next_more, next_put] at n0 hD0
  have b0 : σ0.row σ.next = some ([.slice none 0 0, .int .i64 0], boxMeta) := by rw [hE0.row _ (by first | omega | (simp only [next_more, next_put] at *; omega))]; simp only [c_seq, RUNA, RUNB, Nat.reduceAdd, Nat.reduceMod, Nat.reduceDiv, Nat.reduceSub, Nat.reduceMul, Nat.reduceEqDiff, Nat.reduceBEq, Nat.reduceLeDiff, Int.reduceToNat, fillS, wantG, vBox, Value.cells, one, putAt]
  have e0 : EX σ σ0 := by repeat first | assumption | exact EXn.refl _ _ | refine EXn.more ?_ _ | refine EXn.put ?_ (by omega) _ | refine EX.trans ?_ (by assumption)
  obtain ⟨o', k', c', i', rfl⟩ := hD0.open
  have q0 : ¬ σ.next = σ.next + 2 := by omega
  simp only [c_seq, RUNA, RUNB, Nat.reduceAdd, Nat.reduceMod, Nat.reduceDiv, Nat.reduceSub, Nat.reduceMul, Nat.reduceEqDiff, Nat.reduceBEq, Nat.reduceLeDiff, Int.reduceToNat, fillS, wantG, vBox, Value.cells, one, putAt, TYA]
  refine loop_go (fun m S τ => S.at 2 = .pointer (some ⟨σ.next, 0, none⟩) ∧ S.at 3 = .pointer (some ⟨σ.next + 2, 0, none⟩) ∧ S.at 7 = .slice o φs.length c ∧ S.at 8 = .int .i64 (φs.length : Nat) ∧ EX σ τ ∧ Fr τ ∧ σ.next + 4 ≤ τ.next ∧
    τ.row σ.next = some ([.slice none 0 0, .int .i64 0], boxMeta) ∧
    AOI anyOf φs σ.next m S τ) φs.length ?_ ?_
  · simp only [c_seq, RUNA, RUNB, Nat.reduceAdd, Nat.reduceMod, Nat.reduceDiv, Nat.reduceSub, Nat.reduceMul, Nat.reduceEqDiff, Nat.reduceBEq, Nat.reduceLeDiff, Int.reduceToNat, fillS, wantG, vBox, Value.cells, one, putAt]
    refine ⟨?_, ?_, by omega, ?_, 0, .slice o' k' c',   .int .i64 i', by simp only [c_seq, RUNA, RUNB, Nat.reduceAdd, Nat.reduceMod, Nat.reduceDiv, Nat.reduceSub, Nat.reduceMul, Nat.reduceEqDiff, Nat.reduceBEq, Nat.reduceLeDiff, Int.reduceToNat, fillS, wantG, vBox, Value.cells, one, putAt]; rfl, by omega, by omega, by simp only [c_seq, RUNA, RUNB, Nat.reduceAdd, Nat.reduceMod, Nat.reduceDiv, Nat.reduceSub, Nat.reduceMul, Nat.reduceEqDiff, Nat.reduceBEq, Nat.reduceLeDiff, Int.reduceToNat, fillS, wantG, vBox, Value.cells, one, putAt], ?_⟩
    · repeat first | assumption | exact EXn.refl _ _ | refine EXn.more ?_ _ | refine EXn.put ?_ (by omega) _ | refine EX.trans ?_ (by assumption)
    · repeat first | assumption | refine Fr.more ?_ _ | refine Fr.put ?_ _ _
    · simp only [b0, q0, if_false]
    · refine IsD.congr (IsD.weak (IsD.hi (hD0.un ?_) (by first | omega | (simp only [next_more, next_put] at *; omega))) (by omega)) (fun f => rfl)
      repeat first | assumption | exact UN.refl _ _ _ | refine UN.more ?_ _ | refine UN.put ?_ (by omega) _ | refine UN.ex (by assumption) ?_ (by first | omega | (simp only [next_more, next_put]; omega)) | refine UN.exb (by assumption) ?_ (by first | omega | (simp only [next_more, next_put]; omega)) (by omega)
  rintro _ S τ ⟨s2, s3, s7, s8, hE, hF', hx, r0, i, v, w, s9, hi, rfl, rt, hD⟩
  have nn := hE.next
  by_cases hlt : i < φs.length
  · have hd : decide ((i : Int) < (φs.length : Int)) = true := by simp; omega
    have z2 : (0 : Int) ≤ (i : Int) := by omega
    have z3 : (i : Int) < (φs.length : Int) := by omega
    have hw : IntKind.i64.wrap ((i : Int) + 1) = ((i + 1 : Nat) : Int) := by rw [wrap64 (by omega) (by omega)]; rfl
    obtain ⟨id, off, row, m, rfl, h1, h2, h3⟩ := hA (by omega)
    obtain ⟨sv, rv', h4, h5⟩ := h3 i hlt
    have ra := (hE.row id h1).trans h2
    obtain ⟨o5, k5, c5, i5, e5⟩ := h5.open
    simp only [Value.agg.injEq, Array.mk.injEq, List.cons.injEq, and_true] at e5
    obtain ⟨rfl, rfl⟩ := e5
    simp only [c_seq, RUNA, RUNB, Nat.reduceAdd, Nat.reduceMod, Nat.reduceDiv, Nat.reduceSub, Nat.reduceMul, Nat.reduceEqDiff, Nat.reduceBEq, Nat.reduceLeDiff, Int.reduceToNat, fillS, wantG, vBox, Value.cells, one, putAt, TYA, s2, s3, s7, s8, s9, hd, ia68 z2 z3, ra, h4]
    have q1 : ¬ σ.next + 2 = τ.next + 3 := by omega
    have q1' : ¬ σ.next = τ.next + 3 := by omega
    refine d_go (ms := [0, 0, 0, 7, 15]) (order := [0, 2, 1, 3, 4]) (by kernel_rfl) (by kernel_rfl) (by kernel_rfl) ?_
    simp only [YRUNA, YRUNB, Nat.reduceShiftRight, bit, c_seq, RUNA, RUNB, Nat.reduceAdd, Nat.reduceMod, Nat.reduceDiv, Nat.reduceSub, Nat.reduceMul, Nat.reduceEqDiff, Nat.reduceBEq, Nat.reduceLeDiff, Int.reduceToNat, fillS, wantG, vBox, Value.cells, one, putAt, TYA, s2, s3, s7, s8, s9, rt, q1]
    refine wpc_mono (Constant_is true _) ?_
    rintro r σ1 ⟨hD1, hE1⟩
    have n1 := hE1.next
    simp only [next_more, next_put] at n1 hD1
    have rt1 : σ1.row (σ.next + 2) = some ([v, w], boxMeta) := by rw [hE1.row _ (by first | omega | (simp only [next_more, next_put] at *; omega))]; simp only [c_seq, RUNA, RUNB, Nat.reduceAdd, Nat.reduceMod, Nat.reduceDiv, Nat.reduceSub, Nat.reduceMul, Nat.reduceEqDiff, Nat.reduceBEq, Nat.reduceLeDiff, Int.reduceToNat, fillS, wantG, vBox, Value.cells, one, putAt, q1, rt]
    have r01 : σ1.row σ.next = some ([.slice none 0 0, .int .i64 0], boxMeta) := by rw [hE1.row _ (by first | omega | (simp only [next_more, next_put] at *; omega))]; simp only [c_seq, RUNA, RUNB, Nat.reduceAdd, Nat.reduceMod, Nat.reduceDiv, Nat.reduceSub, Nat.reduceMul, Nat.reduceEqDiff, Nat.reduceBEq, Nat.reduceLeDiff, Int.reduceToNat, fillS, wantG, vBox, Value.cells, one, putAt, q1', r0]
    have d1 : σ1.row (τ.next + 3) = some ([.slice o5 k5 c5, .int .i64 i5], boxMeta) := by rw [hE1.row _ (by first | omega | (simp only [next_more, next_put] at *; omega))]; simp only [c_seq, RUNA, RUNB, Nat.reduceAdd, Nat.reduceMod, Nat.reduceDiv, Nat.reduceSub, Nat.reduceMul, Nat.reduceEqDiff, Nat.reduceBEq, Nat.reduceLeDiff, Int.reduceToNat, fillS, wantG, vBox, Value.cells, one, putAt]
    have e1 : EX τ σ1 := by repeat first | assumption | exact EXn.refl _ _ | refine EXn.more ?_ _ | refine EXn.put ?_ (by omega) _ | refine EX.trans ?_ (by assumption)
    have f1 := e1.fr hF'
    have ex1 : EX σ σ1 := EX.trans hE e1
    have hDo := (hD.zero (lo' := 0) (Nat.zero_le _) (Nat.le_refl _)).mono e1
    obtain ⟨ow, kw, cw, iw, ew⟩ := hD.open
    simp only [Value.agg.injEq, Array.mk.injEq, List.cons.injEq, and_true] at ew
    obtain ⟨rfl, rfl⟩ := ew
    simp only [YRUNA, YRUNB, Nat.reduceShiftRight, bit, c_seq, RUNA, RUNB, Nat.reduceAdd, Nat.reduceMod, Nat.reduceDiv, Nat.reduceSub, Nat.reduceMul, Nat.reduceEqDiff, Nat.reduceBEq, Nat.reduceLeDiff, Int.reduceToNat, fillS, wantG, vBox, Value.cells, one, putAt, TYA, s2, s3, s7, s8, s9, rt1, d1]
    refine wpc_mono (Ite_spec hDo (hD1.zero (Nat.zero_le _) (Nat.le_refl _)) (h5.mono ex1) f1) ?_
    rintro r σ2 ⟨hD2, hE2⟩
    have n2 := hE2.next
    have rt2 := (hE2.row (σ.next + 2) (by omega)).trans rt1
    have r02 := (hE2.row σ.next (by omega)).trans r01
    have d2 := (hE2.row (τ.next + 3) (by omega)).trans d1
    have e2 : EX σ σ2 := EX.trans ex1 hE2
    have f2 := hE2.fr f1
    obtain ⟨o6, k6, c6, i6, rfl⟩ := hD2.open
    have q2 : ¬ τ.next + 3 = σ.next + 2 := by omega
    simp only [YRUNA, YRUNB, Nat.reduceShiftRight, bit, c_seq, RUNA, RUNB, Nat.reduceAdd, Nat.reduceMod, Nat.reduceDiv, Nat.reduceSub, Nat.reduceMul, Nat.reduceEqDiff, Nat.reduceBEq, Nat.reduceLeDiff, Int.reduceToNat, fillS, wantG, vBox, Value.cells, one, putAt, TYA, s2, s3, s7, s8, s9, rt2, d2, q2, hw]
    refine ⟨φs.length - (i + 1), by omega, ?_, by repeat first | assumption | refine Fr.more ?_ _ | refine Fr.put ?_ _ _, by omega, ?_, i + 1, .slice o6 k6 c6, .int .i64 i6, by simp only [c_seq, RUNA, RUNB, Nat.reduceAdd, Nat.reduceMod, Nat.reduceDiv, Nat.reduceSub, Nat.reduceMul, Nat.reduceEqDiff, Nat.reduceBEq, Nat.reduceLeDiff, Int.reduceToNat, fillS, wantG, vBox, Value.cells, one, putAt], by omega, rfl, by simp only [c_seq, RUNA, RUNB, Nat.reduceAdd, Nat.reduceMod, Nat.reduceDiv, Nat.reduceSub, Nat.reduceMul, Nat.reduceEqDiff, Nat.reduceBEq, Nat.reduceLeDiff, Int.reduceToNat, fillS, wantG, vBox, Value.cells, one, putAt], ?_⟩
    · repeat first | assumption | exact EXn.refl _ _ | refine EXn.more ?_ _ | refine EXn.put ?_ (by omega) _ | refine EX.trans ?_ (by assumption)
    · simp only [r02, q0, if_false]
    · refine IsD.congr (IsD.weak (IsD.hi (hD2.un ?_) (by first | omega | (simp only [next_more, next_put] at *; omega))) (by omega)) (fun f => by rw [anyOf_s hlt f]; cases anyOf φs i f <;> rfl)
      repeat first | assumption | exact UN.refl _ _ _ | refine UN.more ?_ _ | refine UN.put ?_ (by omega) _ | refine UN.ex (by assumption) ?_ (by first | omega | (simp only [next_more, next_put]; omega)) | refine UN.exb (by assumption) ?_ (by first | omega | (simp only [next_more, next_put]; omega)) (by omega)
  · have hd : decide ((i : Int) < (φs.length : Int)) = false := by simp; omega
    have hn1 : i = φs.length := by omega
    rw [hn1] at hD
    obtain ⟨ow, kw, cw, iw, ew⟩ := hD.open
    simp only [Value.agg.injEq, Array.mk.injEq, List.cons.injEq, and_true] at ew
    obtain ⟨rfl, rfl⟩ := ew
    simp only [c_seq, RUNA, RUNB, Nat.reduceAdd, Nat.reduceMod, Nat.reduceDiv, Nat.reduceSub, Nat.reduceMul, Nat.reduceEqDiff, Nat.reduceBEq, Nat.reduceLeDiff, Int.reduceToNat, fillS, wantG, vBox, Value.cells, one, putAt, TYA, s2, s3, s7, s8, s9, hd, rt, r0, hr]
    refine ⟨IsD.hi (IsD.weak (hD.un ?_) (by omega)) (by omega), ?_⟩
    · repeat first | assumption | exact UN.refl _ _ _ | refine UN.more ?_ _ | refine UN.put ?_ (by omega) _ | refine UN.ex (by assumption) ?_ (by first | omega | (simp only [next_more, next_put]; omega)) | refine UN.exb (by assumption) ?_ (by first | omega | (simp only [next_more, next_put]; omega)) (by omega)
    · repeat first | assumption | exact EXn.refl _ _ | refine EXn.more ?_ _ | refine EXn.put ?_ (by omega) _ | refine EX.trans ?_ (by assumption)
end Go.Proofs.Ytlealdhgajomhaa
