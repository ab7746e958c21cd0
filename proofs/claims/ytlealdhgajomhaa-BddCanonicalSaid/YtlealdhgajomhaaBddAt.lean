/- The law BddCanonical: the walk (its last region is printed by a program). From the abstract machine to the model: the law BddCanonical. -/
import Derived.Test.YtlealdhgajomhaaBddAq
import Derived.Test.YtlealdhgajomhaaBddLw
import Derived.Test.YtlealdhgajomhaaBddY
namespace Go.Proofs.Ytlealdhgajomhaa
open Go.AI
set_option linter.unusedVariables false
set_option linter.unusedSimpArgs false

theorem Variable_is (i : Nat) (hi : i < 10) (σ : St) (hF : Fr σ) : wpc Try.prog 10 #[.int .i64 i] σ fun r σ' => ∃ d, r = .tuple #[d, .int .i64 0] ∧ IsD σ.next σ'.next σ' d (fun f => f i) ∧ EX σ σ' := by
  refine wpc_mono (Variable_in i (by omega) (by omega) σ hF) ?_
  rintro r σ' ⟨d, h1, h2, hE⟩
  rw [varD_cd] at h2
  refine ⟨d, h1, ⟨_, h2.i, ⟨by omega, hi, by simp, trivial, trivial⟩, fun f => ?_⟩, hE⟩
  simp only [Dt.ev]; cases f i <;> rfl
theorem upd_cases {φ : As → Bool} {k : Nat} (f : As) : (if f k = true then φ (updI f k true) else φ (updI f k false)) = φ f := by
  rw [updI_nat, updI_nat]
  cases h : f k with
  | true => rw [if_pos rfl, upd_id h]
  | false => rw [if_neg (by simp), upd_id h]
set_option maxRecDepth 20000 in
set_option maxHeartbeats 4000000 in
theorem canon_go (cs : List Nat) (hc : ∀ k ∈ cs, k < 256) (cv : Value) (hcv : ArgS 1 cs.length cv) (m : Nat) (hm : m < 256) :
    wpc Try.prog 6 #[cv, .int .u8 m] (stA [] (u8s cs)) fun r _ => r = .bool true := by
  refine body_go Try.func6 rfl ?_
  have hr := Try.results6
  simp only [c_seq, RUNA, RUNB, Nat.reduceAdd, Nat.reduceMod, Nat.reduceDiv, Nat.reduceSub, Nat.reduceMul, Nat.reduceEqDiff, Nat.reduceBEq, Nat.reduceLeDiff, Int.reduceToNat, fillS, wantG, vBox, Value.cells, one, putAt, hr]
  refine wpc_mono (awake_A [] (u8s cs)) ?_
  rintro r σ ⟨rfl, hF, hn5, r0, r1⟩
  obtain ⟨co, cc, rfl, hc1, hc2⟩ := id hcv
  simp only [c_seq, RUNA, RUNB, Nat.reduceAdd, Nat.reduceMod, Nat.reduceDiv, Nat.reduceSub, Nat.reduceMul, Nat.reduceEqDiff, Nat.reduceBEq, Nat.reduceLeDiff, Int.reduceToNat, fillS, wantG, vBox, Value.cells, one, putAt, TYA, hr]
  by_cases g2 : 40 < cs.length
  · have d2 : decide ((40 : Int) < (cs.length : Int)) = true := by simp; omega
    simp only [c_seq, RUNA, RUNB, Nat.reduceAdd, Nat.reduceMod, Nat.reduceDiv, Nat.reduceSub, Nat.reduceMul, Nat.reduceEqDiff, Nat.reduceBEq, Nat.reduceLeDiff, Int.reduceToNat, fillS, wantG, vBox, Value.cells, one, putAt, TYA, hr, d2]
  have d2 : decide ((40 : Int) < (cs.length : Int)) = false := by simp; omega
  simp only [c_seq, RUNA, RUNB, Nat.reduceAdd, Nat.reduceMod, Nat.reduceDiv, Nat.reduceSub, Nat.reduceMul, Nat.reduceEqDiff, Nat.reduceBEq, Nat.reduceLeDiff, Int.reduceToNat, fillS, wantG, vBox, Value.cells, one, putAt, TYA, hr, d2, bd38]
  have w1 : ¬ 1 = σ.next + 5 := by omega
  refine wpc_mono (diagram_spec hc (by omega) 2 (by omega) _ (Src.new (cc := cc) hc1 (by simp only [c_seq, RUNA, RUNB, Nat.reduceAdd, Nat.reduceMod, Nat.reduceDiv, Nat.reduceSub, Nat.reduceMul, Nat.reduceEqDiff, Nat.reduceBEq, Nat.reduceLeDiff, Int.reduceToNat, fillS, wantG, vBox, Value.cells, one, putAt, w1, r1]) (by omega) (by first | omega | (simp only [next_more, next_put] at *; omega)) (by simp only [c_seq, RUNA, RUNB, Nat.reduceAdd, Nat.reduceMod, Nat.reduceDiv, Nat.reduceSub, Nat.reduceMul, Nat.reduceEqDiff, Nat.reduceBEq, Nat.reduceLeDiff, Int.reduceToNat, fillS, wantG, vBox, Value.cells, one, putAt])) (by repeat first | assumption | refine Fr.more ?_ _ | refine Fr.put ?_ _ _)) ?_
  rintro r σ1 ⟨⟨φ, hD1⟩, hS1, hE1, hF1⟩
  have n1 := hE1.next
  simp only [next_more, next_put] at n1 hD1
  obtain ⟨o1, k1, c1, i1, rfl⟩ := hD1.open
  simp only [c_seq, RUNA, RUNB, Nat.reduceAdd, Nat.reduceMod, Nat.reduceDiv, Nat.reduceSub, Nat.reduceMul, Nat.reduceEqDiff, Nat.reduceBEq, Nat.reduceLeDiff, Int.reduceToNat, fillS, wantG, vBox, Value.cells, one, putAt, TYA]
  refine wpc_mono (diagram_spec hc (by omega) 2 (by omega) _ hS1 hF1) ?_
  rintro r σ2 ⟨⟨ψ, hD2⟩, hS2, hE2, hF2⟩
  have n2 := hE2.next
  obtain ⟨o2, k2, c2, i2, rfl⟩ := hD2.open
  simp only [RUNA, RUNB, Nat.reduceAdd, Nat.reduceMod, Nat.reduceDiv, Nat.reduceSub, Nat.reduceMul, Nat.reduceEqDiff, Nat.reduceBEq, Nat.reduceLeDiff, Int.reduceToNat, fillS, wantG, vBox, Value.cells, one, putAt, TYA]
  refine gen_go (fun S τ => S.at 1 = .int .u8 m ∧ S.at 6 = .pointer (some ⟨σ.next + 11, 0, none⟩) ∧ S.at 7 = .pointer (some ⟨σ.next + 12, 0, none⟩) ∧ Fr τ ∧
    BX (σ.next + 11) (.slice o1 k1 c1) (.int .i64 i1) φ τ ∧ BX (σ.next + 12) (.slice o2 k2 c2) (.int .i64 i2) ψ τ) ?_ ?_
  · simp only [c_seq, RUNA, RUNB, Nat.reduceAdd, Nat.reduceMod, Nat.reduceDiv, Nat.reduceSub, Nat.reduceMul, Nat.reduceEqDiff, Nat.reduceBEq, Nat.reduceLeDiff, Int.reduceToNat, fillS, wantG, vBox, Value.cells, one, putAt]
    refine ⟨by repeat first | assumption | refine Fr.more ?_ _ | refine Fr.put ?_ _ _, ⟨by simp only [c_seq, RUNA, RUNB, Nat.reduceAdd, Nat.reduceMod, Nat.reduceDiv, Nat.reduceSub, Nat.reduceMul, Nat.reduceEqDiff, Nat.reduceBEq, Nat.reduceLeDiff, Int.reduceToNat, fillS, wantG, vBox, Value.cells, one, putAt], by first | omega | (simp only [next_more, next_put] at *; omega), IsD.hi (IsD.weak (hD1.un ?_) (Nat.zero_le _)) (by first | omega | (simp only [next_more, next_put] at *; omega))⟩, ⟨by simp only [c_seq, RUNA, RUNB, Nat.reduceAdd, Nat.reduceMod, Nat.reduceDiv, Nat.reduceSub, Nat.reduceMul, Nat.reduceEqDiff, Nat.reduceBEq, Nat.reduceLeDiff, Int.reduceToNat, fillS, wantG, vBox, Value.cells, one, putAt], by first | omega | (simp only [next_more, next_put] at *; omega), IsD.hi (IsD.weak (hD2.un ?_) (Nat.zero_le _)) (by first | omega | (simp only [next_more, next_put] at *; omega))⟩⟩
    · repeat first | assumption | exact UN.refl _ _ _ | refine UN.more ?_ _ | refine UN.put ?_ (by omega) _ | refine UN.ex (by assumption) ?_ (by first | omega | (simp only [next_more, next_put]; omega)) | refine UN.exb (by assumption) ?_ (by first | omega | (simp only [next_more, next_put]; omega)) (by omega)
    · repeat first | assumption | exact UN.refl _ _ _ | refine UN.more ?_ _ | refine UN.put ?_ (by omega) _ | refine UN.ex (by assumption) ?_ (by first | omega | (simp only [next_more, next_put]; omega)) | refine UN.exb (by assumption) ?_ (by first | omega | (simp only [next_more, next_put]; omega)) (by omega)
  clear hD1 hD2 hS1 hS2 hE1 hE2 hF1 hF2
  rintro S τ ⟨s1, s6, s7, hFt, hA, hB⟩
  have hcv' : aconv Try.prog 5 3 (.int .u8 (m : Int)) = some (.int .i64 (m : Int)) := by
    rw [n_conv Try.underlying5 Try.underlying3, wrap64 (by omega) (by omega)]
  have hrm : Int.tmod (m : Int) 10 = ((m % 10 : Nat) : Int) := by rw [Int.natCast_emod]; rfl
  have h10 : (10 : Int) ≠ 0 := by decide
  obtain ⟨k, hkk⟩ : ∃ k, k = m % 10 := ⟨_, rfl⟩
  have hk : k < 10 := by omega
  rw [← hkk] at hrm
  refine wpx_seq ?_
  simp only [RUNA, RUNB, Nat.reduceAdd, Nat.reduceMod, Nat.reduceDiv, Nat.reduceSub, Nat.reduceMul, Nat.reduceEqDiff, Nat.reduceBEq, Nat.reduceLeDiff, Int.reduceToNat, fillS, wantG, vBox, Value.cells, one, putAt, TYA, s1, s6, s7, hcv', n_rem h10, hrm]
  refine wpx_seq ?_
  simp only [RUNA, RUNB, Nat.reduceAdd, Nat.reduceMod, Nat.reduceDiv, Nat.reduceSub, Nat.reduceMul, Nat.reduceEqDiff, Nat.reduceBEq, Nat.reduceLeDiff, Int.reduceToNat, fillS, wantG, vBox, Value.cells, one, putAt, TYA, s1, s6, s7]
  refine wpc_mono (Variable_is k hk _ (by repeat first | assumption | refine Fr.more ?_ _ | refine Fr.put ?_ _ _)) ?_
  rintro r σ3 ⟨dv, rfl, hD3, hE3⟩
  have n3 := hE3.next
  simp only [next_more] at n3 hD3
  obtain ⟨o3, k3, c3, i3, rfl⟩ := hD3.open
  have e3 : EX τ σ3 := by repeat first | assumption | exact EXn.refl _ _ | refine EXn.more ?_ _ | refine EXn.put ?_ (by omega) _ | refine EX.trans ?_ (by assumption)
  simp only [RUNA, RUNB, Nat.reduceAdd, Nat.reduceMod, Nat.reduceDiv, Nat.reduceSub, Nat.reduceMul, Nat.reduceEqDiff, Nat.reduceBEq, Nat.reduceLeDiff, Int.reduceToNat, fillS, wantG, vBox, Value.cells, one, putAt, TYA, s1, s6, s7]
  obtain ⟨B9, hB9⟩ : ∃ B9, B9 = τ.next + 9 := ⟨_, rfl⟩
  refine gen_go (fun S τ' => S.at 6 = .pointer (some ⟨σ.next + 11, 0, none⟩) ∧ S.at 7 = .pointer (some ⟨σ.next + 12, 0, none⟩) ∧ S.at 8 = .int .i64 k ∧ S.at 9 = .pointer (some ⟨B9, 0, none⟩) ∧ Fr τ' ∧ EX τ τ' ∧ BX B9 (.slice o3 k3 c3) (.int .i64 i3) (fun f => f k) τ') ?_ ?_
  · rw [hB9]
    simp only [c_seq, RUNA, RUNB, Nat.reduceAdd, Nat.reduceMod, Nat.reduceDiv, Nat.reduceSub, Nat.reduceMul, Nat.reduceEqDiff, Nat.reduceBEq, Nat.reduceLeDiff, Int.reduceToNat, fillS, wantG, vBox, Value.cells, one, putAt, s6, s7]
    refine ⟨e3.fr (by repeat first | assumption | refine Fr.more ?_ _ | refine Fr.put ?_ _ _), ?_, ⟨by simp only [c_seq, RUNA, RUNB, Nat.reduceAdd, Nat.reduceMod, Nat.reduceDiv, Nat.reduceSub, Nat.reduceMul, Nat.reduceEqDiff, Nat.reduceBEq, Nat.reduceLeDiff, Int.reduceToNat, fillS, wantG, vBox, Value.cells, one, putAt], by first | omega | (simp only [next_more, next_put] at *; omega), IsD.hi (IsD.weak (hD3.un ?_) (Nat.zero_le _)) (by first | omega | (simp only [next_more, next_put] at *; omega))⟩⟩
    · repeat first | assumption | exact EXn.refl _ _ | refine EXn.more ?_ _ | refine EXn.put ?_ (by omega) _ | refine EX.trans ?_ (by assumption)
    · repeat first | assumption | exact UN.refl _ _ _ | refine UN.more ?_ _ | refine UN.put ?_ (by omega) _ | refine UN.ex (by assumption) ?_ (by first | omega | (simp only [next_more, next_put]; omega)) | refine UN.exb (by assumption) ?_ (by first | omega | (simp only [next_more, next_put]; omega)) (by omega)
  clear s1 s6 s7 hD3 hE3 e3
  rintro S τ9 ⟨z6, z7, z8, z9, hF9, hE9, hC⟩
  replace hA := hA.mono hE9
  replace hB := hB.mono hE9
  have hA0 := hA.lt
  have hB0 := hB.lt
  have hC0 := hC.lt
  have qA : ∀ j, ¬ σ.next = τ9.next + j := fun j => by omega
  have qB : ∀ j, ¬ B9 = τ9.next + j := fun j => by omega
  refine wpx_seq ?_
  refine d_go (ms := [0, 0, 0, 6, 0, 0, 62, 127, 0, 511, 1023, 2047, 4095, 2047, 16383, 32767, 65535, 131071, 2047, 2047, 788479, 2097151, 4194303, 8388607, 16777215, 33554431, 33554431, 134217727, 33554431, 33554431, 805306367, 33554431, 4294967295, 8589934591, 17179869183, 34359738367, 68719476735, 137438953471, 274877906943, 68719476735, 1099511627775, 2199023255551, 4398046511103, 8796093022207, 8796093022207, 8796093022207, 70368744177663, 8796093022207, 281474976710655, 562949953421311, 1125899906842623]) (order := [0, 1, 2, 4, 5, 8, 3, 6, 7, 9, 10, 11, 13, 18, 19, 20, 12, 14, 15, 16, 17, 21, 22, 23, 24, 25, 26, 28, 29, 31, 27, 30, 32, 33, 34, 35, 36, 39, 37, 38, 40, 41, 42, 43, 44, 45, 47, 46, 48, 49, 50]) (by kernel_rfl) (by kernel_rfl) (by kernel_rfl) ?_
  simp only [YRUNA, YRUNB, Nat.reduceShiftRight, bit, c_seq, RUNA, RUNB, Nat.reduceAdd, Nat.reduceMod, Nat.reduceDiv, Nat.reduceSub, Nat.reduceMul, Nat.reduceEqDiff, Nat.reduceBEq, Nat.reduceLeDiff, Int.reduceToNat, fillS, wantG, vBox, Value.cells, one, putAt, TYA, z6, z7, z8, z9, n_eqb Try.underlying4, bs68_2, bs68_3, qA, qB, hA.row, hB.row, hC.row]
  refine wpc_dgen (fun S => S.at 6 = .pointer (some ⟨σ.next + 11, 0, none⟩) ∧ S.at 7 = .pointer (some ⟨σ.next + 12, 0, none⟩) ∧ S.at 8 = .int .i64 k ∧ S.at 9 = .pointer (some ⟨B9, 0, none⟩) ∧ S.at 31 = .agg #[.slice o3 k3 c3, .int .i64 i3] ∧ S.at 32 = .agg #[.slice o1 k1 c1, .int .i64 i1] ∧ S.at 33 = .int .i64 k ∧ S.at 35 = .agg #[.slice o1 k1 c1, .int .i64 i1] ∧ S.at 36 = .int .i64 k ∧ S.at 39 = .agg #[.slice o1 k1 c1, .int .i64 i1]) ?_ ?_
  · simp only [c_seq, RUNA, RUNB, Nat.reduceAdd, Nat.reduceMod, Nat.reduceDiv, Nat.reduceSub, Nat.reduceMul, Nat.reduceEqDiff, Nat.reduceBEq, Nat.reduceLeDiff, Int.reduceToNat, fillS, wantG, vBox, Value.cells, one, putAt, z6, z7, z8, z9]
  clear z6 z7 z8 z9
  rintro S ⟨z6, z7, z8, z9, z31, z32, z33, z35, z36, z39⟩
  have x1 : EX τ9 (τ9.more 51) := (EX.refl τ9).more 51
  refine wpc_mono (Restrict_spec (hA.mono x1).is (x1.fr hF9)) ?_
  rintro r σ1' ⟨hD1, hE1⟩
  obtain ⟨p1, q1, u1, w1, rfl⟩ := hD1.open
  have e1 : EX τ9 σ1' := EX.trans x1 hE1
  have g1 : τ9.next + 51 ≤ σ1'.next := Nat.le_trans (Nat.le_refl (τ9.next + 51)) hE1.next
  have d34 := hD1.weak (Nat.le_refl (τ9.next + 51))
  simp only [YRUNA, YRUNB, Nat.reduceShiftRight, bit, c_seq, RUNA, RUNB, Nat.reduceAdd, Nat.reduceMod, Nat.reduceDiv, Nat.reduceSub, Nat.reduceMul, Nat.reduceEqDiff, Nat.reduceBEq, Nat.reduceLeDiff, Int.reduceToNat, fillS, wantG, vBox, Value.cells, one, putAt, TYA, z6, z7, z8, z9, z31, z32, z33, z35, z36, z39, n_eqb Try.underlying4, bs68_2, bs68_3, qA, qB, (hA.mono e1).row, (hB.mono e1).row, (hC.mono e1).row]
  refine wpc_dgen (fun S => S.at 6 = .pointer (some ⟨σ.next + 11, 0, none⟩) ∧ S.at 7 = .pointer (some ⟨σ.next + 12, 0, none⟩) ∧ S.at 8 = .int .i64 k ∧ S.at 9 = .pointer (some ⟨B9, 0, none⟩) ∧ S.at 31 = .agg #[.slice o3 k3 c3, .int .i64 i3] ∧ S.at 34 = .agg #[.slice p1 q1 u1, .int .i64 w1] ∧ S.at 35 = .agg #[.slice o1 k1 c1, .int .i64 i1] ∧ S.at 36 = .int .i64 k ∧ S.at 39 = .agg #[.slice o1 k1 c1, .int .i64 i1]) ?_ ?_
  · simp only [c_seq, RUNA, RUNB, Nat.reduceAdd, Nat.reduceMod, Nat.reduceDiv, Nat.reduceSub, Nat.reduceMul, Nat.reduceEqDiff, Nat.reduceBEq, Nat.reduceLeDiff, Int.reduceToNat, fillS, wantG, vBox, Value.cells, one, putAt, z6, z7, z8, z9, z31, z32, z33, z35, z36, z39]
  clear z6 z7 z8 z9 z31 z32 z33 z35 z36 z39
  rintro S ⟨z6, z7, z8, z9, z31, z34, z35, z36, z39⟩
  have x2 : EX τ9 σ1' := e1
  refine wpc_mono (Restrict_spec (hA.mono x2).is (x2.fr hF9)) ?_
  rintro r σ2' ⟨hD2, hE2⟩
  obtain ⟨p2, q2, u2, w2, rfl⟩ := hD2.open
  have e2 : EX τ9 σ2' := EX.trans x2 hE2
  have g2 : τ9.next + 51 ≤ σ2'.next := Nat.le_trans g1 hE2.next
  have d34 := d34.ex hE2
  have d37 := hD2.weak g1
  simp only [YRUNA, YRUNB, Nat.reduceShiftRight, bit, c_seq, RUNA, RUNB, Nat.reduceAdd, Nat.reduceMod, Nat.reduceDiv, Nat.reduceSub, Nat.reduceMul, Nat.reduceEqDiff, Nat.reduceBEq, Nat.reduceLeDiff, Int.reduceToNat, fillS, wantG, vBox, Value.cells, one, putAt, TYA, z6, z7, z8, z9, z31, z34, z35, z36, z39, n_eqb Try.underlying4, bs68_2, bs68_3, qA, qB, (hA.mono e2).row, (hB.mono e2).row, (hC.mono e2).row]
  refine wpc_dgen (fun S => S.at 6 = .pointer (some ⟨σ.next + 11, 0, none⟩) ∧ S.at 7 = .pointer (some ⟨σ.next + 12, 0, none⟩) ∧ S.at 8 = .int .i64 k ∧ S.at 9 = .pointer (some ⟨B9, 0, none⟩) ∧ S.at 31 = .agg #[.slice o3 k3 c3, .int .i64 i3] ∧ S.at 34 = .agg #[.slice p1 q1 u1, .int .i64 w1] ∧ S.at 37 = .agg #[.slice p2 q2 u2, .int .i64 w2] ∧ S.at 39 = .agg #[.slice o1 k1 c1, .int .i64 i1]) ?_ ?_
  · simp only [c_seq, RUNA, RUNB, Nat.reduceAdd, Nat.reduceMod, Nat.reduceDiv, Nat.reduceSub, Nat.reduceMul, Nat.reduceEqDiff, Nat.reduceBEq, Nat.reduceLeDiff, Int.reduceToNat, fillS, wantG, vBox, Value.cells, one, putAt, z6, z7, z8, z9, z31, z34, z35, z36, z39]
  clear z6 z7 z8 z9 z31 z34 z35 z36 z39
  rintro S ⟨z6, z7, z8, z9, z31, z34, z37, z39⟩
  have x3 : EX τ9 σ2' := e2
  refine wpc_mono (Ite_spec (hC.mono x3).is (d34.weak (Nat.zero_le _)) (d37.weak (Nat.zero_le _)) (x3.fr hF9)) ?_
  rintro r σ3' ⟨hD3, hE3⟩
  obtain ⟨p3, q3, u3, w3, rfl⟩ := hD3.open
  have e3 : EX τ9 σ3' := EX.trans x3 hE3
  have g3 : τ9.next + 51 ≤ σ3'.next := Nat.le_trans g2 hE3.next
  have d34 := d34.ex hE3
  have d37 := d37.ex hE3
  have d38 := hD3.weak g2
  simp only [YRUNA, YRUNB, Nat.reduceShiftRight, bit, c_seq, RUNA, RUNB, Nat.reduceAdd, Nat.reduceMod, Nat.reduceDiv, Nat.reduceSub, Nat.reduceMul, Nat.reduceEqDiff, Nat.reduceBEq, Nat.reduceLeDiff, Int.reduceToNat, fillS, wantG, vBox, Value.cells, one, putAt, TYA, z6, z7, z8, z9, z31, z34, z37, z39, n_eqb Try.underlying4, bs68_2, bs68_3, qA, qB, (hA.mono e3).row, (hB.mono e3).row, (hC.mono e3).row]
  refine wpc_dgen (fun S => S.at 6 = .pointer (some ⟨σ.next + 11, 0, none⟩) ∧ S.at 7 = .pointer (some ⟨σ.next + 12, 0, none⟩) ∧ S.at 8 = .int .i64 k ∧ S.at 9 = .pointer (some ⟨B9, 0, none⟩) ∧ S.at 38 = .agg #[.slice p3 q3 u3, .int .i64 w3] ∧ S.at 39 = .agg #[.slice o1 k1 c1, .int .i64 i1]) ?_ ?_
  · simp only [c_seq, RUNA, RUNB, Nat.reduceAdd, Nat.reduceMod, Nat.reduceDiv, Nat.reduceSub, Nat.reduceMul, Nat.reduceEqDiff, Nat.reduceBEq, Nat.reduceLeDiff, Int.reduceToNat, fillS, wantG, vBox, Value.cells, one, putAt, z6, z7, z8, z9, z31, z34, z37, z39]
  clear z6 z7 z8 z9 z31 z34 z37 z39
  rintro S ⟨z6, z7, z8, z9, z38, z39⟩
  have x4 : EX τ9 σ3' := e3
  refine wpc_mono (Same_is (d38.weak (Nat.zero_le _)) (hA.mono x4).is (upd_cases)) ?_
  rintro r σ4' ⟨rfl, hE4⟩
  have e4 : EX τ9 σ4' := EX.trans x4 hE4
  have g4 : τ9.next + 51 ≤ σ4'.next := Nat.le_trans g3 hE4.next
  have d38 := d38.ex hE4
  simp only [YRUNA, YRUNB, Nat.reduceShiftRight, bit, c_seq, RUNA, RUNB, Nat.reduceAdd, Nat.reduceMod, Nat.reduceDiv, Nat.reduceSub, Nat.reduceMul, Nat.reduceEqDiff, Nat.reduceBEq, Nat.reduceLeDiff, Int.reduceToNat, fillS, wantG, vBox, Value.cells, one, putAt, TYA, z6, z7, z8, z9, z38, z39, n_eqb Try.underlying4, bs68_2, bs68_3, qA, qB, (hA.mono e4).row, (hB.mono e4).row, (hC.mono e4).row]
  refine wpc_dgen (fun S => S.at 6 = .pointer (some ⟨σ.next + 11, 0, none⟩) ∧ S.at 7 = .pointer (some ⟨σ.next + 12, 0, none⟩) ∧ S.at 8 = .int .i64 k ∧ S.at 9 = .pointer (some ⟨B9, 0, none⟩) ∧ S.at 41 = .bool true ∧ S.at 42 = .agg #[.slice o1 k1 c1, .int .i64 i1] ∧ S.at 44 = .agg #[.slice o2 k2 c2, .int .i64 i2] ∧ S.at 51 = .slice (some ⟨τ9.next + 20, 0, none⟩) 2 2) ?_ ?_
  · simp only [c_seq, RUNA, RUNB, Nat.reduceAdd, Nat.reduceMod, Nat.reduceDiv, Nat.reduceSub, Nat.reduceMul, Nat.reduceEqDiff, Nat.reduceBEq, Nat.reduceLeDiff, Int.reduceToNat, fillS, wantG, vBox, Value.cells, one, putAt, z6, z7, z8, z9, z38, z39]
  clear z6 z7 z8 z9 z38 z39
  rintro S ⟨z6, z7, z8, z9, z41, z42, z44, z51⟩
  have x5 : EX τ9 (σ4'.put (τ9.next + 20) (.cells [.slice o2 k2 c2, .int .i64 i2, .slice o1 k1 c1, .int .i64 i1] (rowMeta 2))) := (EXn.put e4 (by omega) _)
  refine wpc_mono (Not_spec (hA.mono x5).is (x5.fr hF9)) ?_
  rintro r σ5' ⟨hD5, hE5⟩
  obtain ⟨p5, q5, u5, w5, rfl⟩ := hD5.open
  have e5 : EX τ9 σ5' := EX.trans x5 hE5
  have g5 : τ9.next + 51 ≤ σ5'.next := Nat.le_trans g4 hE5.next
  have G20 : σ5'.get (τ9.next + 20) = some (.cells [.slice o2 k2 c2, .int .i64 i2, .slice o1 k1 c1, .int .i64 i1] (rowMeta 2)) := (hE5.get _ (by first | omega | (simp only [next_put]; omega))).trans (by rw [St.get_put, if_pos rfl])
  have d43 := hD5.weak g4
  simp only [YRUNA, YRUNB, Nat.reduceShiftRight, bit, c_seq, RUNA, RUNB, Nat.reduceAdd, Nat.reduceMod, Nat.reduceDiv, Nat.reduceSub, Nat.reduceMul, Nat.reduceEqDiff, Nat.reduceBEq, Nat.reduceLeDiff, Int.reduceToNat, fillS, wantG, vBox, Value.cells, one, putAt, TYA, z6, z7, z8, z9, z41, z42, z44, z51, n_eqb Try.underlying4, bs68_2, bs68_3, qA, qB, (hA.mono e5).row, (hB.mono e5).row, (hC.mono e5).row, G20]
  refine wpc_dgen (fun S => S.at 6 = .pointer (some ⟨σ.next + 11, 0, none⟩) ∧ S.at 7 = .pointer (some ⟨σ.next + 12, 0, none⟩) ∧ S.at 8 = .int .i64 k ∧ S.at 9 = .pointer (some ⟨B9, 0, none⟩) ∧ S.at 41 = .bool true ∧ S.at 43 = .agg #[.slice p5 q5 u5, .int .i64 w5] ∧ S.at 44 = .agg #[.slice o2 k2 c2, .int .i64 i2] ∧ S.at 51 = .slice (some ⟨τ9.next + 20, 0, none⟩) 2 2) ?_ ?_
  · simp only [c_seq, RUNA, RUNB, Nat.reduceAdd, Nat.reduceMod, Nat.reduceDiv, Nat.reduceSub, Nat.reduceMul, Nat.reduceEqDiff, Nat.reduceBEq, Nat.reduceLeDiff, Int.reduceToNat, fillS, wantG, vBox, Value.cells, one, putAt, z6, z7, z8, z9, z41, z42, z44, z51]
  clear z6 z7 z8 z9 z41 z42 z44 z51
  rintro S ⟨z6, z7, z8, z9, z41, z43, z44, z51⟩
  have x6 : EX τ9 σ5' := e5
  refine wpc_mono (Not_spec (hB.mono x6).is (x6.fr hF9)) ?_
  rintro r σ6' ⟨hD6, hE6⟩
  obtain ⟨p6, q6, u6, w6, rfl⟩ := hD6.open
  have e6 : EX τ9 σ6' := EX.trans x6 hE6
  have g6 : τ9.next + 51 ≤ σ6'.next := Nat.le_trans g5 hE6.next
  have d43 := d43.ex hE6
  have G20 : σ6'.get (τ9.next + 20) = some (.cells [.slice o2 k2 c2, .int .i64 i2, .slice o1 k1 c1, .int .i64 i1] (rowMeta 2)) := (hE6.get _ (by first | omega | (simp only [next_put]; omega))).trans G20
  have d45 := hD6.weak g5
  simp only [YRUNA, YRUNB, Nat.reduceShiftRight, bit, c_seq, RUNA, RUNB, Nat.reduceAdd, Nat.reduceMod, Nat.reduceDiv, Nat.reduceSub, Nat.reduceMul, Nat.reduceEqDiff, Nat.reduceBEq, Nat.reduceLeDiff, Int.reduceToNat, fillS, wantG, vBox, Value.cells, one, putAt, TYA, z6, z7, z8, z9, z41, z43, z44, z51, n_eqb Try.underlying4, bs68_2, bs68_3, qA, qB, (hA.mono e6).row, (hB.mono e6).row, (hC.mono e6).row, G20]
  refine wpc_dgen (fun S => S.at 6 = .pointer (some ⟨σ.next + 11, 0, none⟩) ∧ S.at 7 = .pointer (some ⟨σ.next + 12, 0, none⟩) ∧ S.at 8 = .int .i64 k ∧ S.at 9 = .pointer (some ⟨B9, 0, none⟩) ∧ S.at 41 = .bool true ∧ S.at 46 = .slice (some ⟨τ9.next + 15, 0, none⟩) 2 2 ∧ S.at 51 = .slice (some ⟨τ9.next + 20, 0, none⟩) 2 2) ?_ ?_
  · simp only [c_seq, RUNA, RUNB, Nat.reduceAdd, Nat.reduceMod, Nat.reduceDiv, Nat.reduceSub, Nat.reduceMul, Nat.reduceEqDiff, Nat.reduceBEq, Nat.reduceLeDiff, Int.reduceToNat, fillS, wantG, vBox, Value.cells, one, putAt, z6, z7, z8, z9, z41, z43, z44, z51]
  clear z6 z7 z8 z9 z41 z43 z44 z51
  rintro S ⟨z6, z7, z8, z9, z41, z46, z51⟩
  have d43 := d43.putlo (k := τ9.next + 15) (ob := .cells [.slice p5 q5 u5, .int .i64 w5, .slice p6 q6 u6, .int .i64 w6] (rowMeta 2)) (by omega)
  have d45 := d45.putlo (k := τ9.next + 15) (ob := .cells [.slice p5 q5 u5, .int .i64 w5, .slice p6 q6 u6, .int .i64 w6] (rowMeta 2)) (by omega)
  have x7 : EX τ9 (σ6'.put (τ9.next + 15) (.cells [.slice p5 q5 u5, .int .i64 w5, .slice p6 q6 u6, .int .i64 w6] (rowMeta 2))) := (EXn.put e6 (by omega) _)
  refine wpc_mono (And_spec (DL2 (id := τ9.next + 15) (m := rowMeta 2) (by first | omega | (simp only [next_put]; omega)) (by simp only [c_seq, RUNA, RUNB, Nat.reduceAdd, Nat.reduceMod, Nat.reduceDiv, Nat.reduceSub, Nat.reduceMul, Nat.reduceEqDiff, Nat.reduceBEq, Nat.reduceLeDiff, Int.reduceToNat, fillS, wantG, vBox, Value.cells, one, putAt]) (d43.weak (Nat.zero_le _)) (d45.weak (Nat.zero_le _))) (by simp) (x7.fr hF9)) ?_
  rintro r σ7' ⟨hD7, hE7⟩
  obtain ⟨p7, q7, u7, w7, rfl⟩ := hD7.open
  have e7 : EX τ9 σ7' := EX.trans x7 hE7
  have g7 : τ9.next + 51 ≤ σ7'.next := Nat.le_trans g6 hE7.next
  have d43 := d43.ex hE7
  have d45 := d45.ex hE7
  have G20 : σ7'.get (τ9.next + 20) = some (.cells [.slice o2 k2 c2, .int .i64 i2, .slice o1 k1 c1, .int .i64 i1] (rowMeta 2)) := (hE7.get _ (by first | omega | (simp only [next_put]; omega))).trans (by rw [St.get_put, if_neg (by omega), G20])
  have G15 : σ7'.get (τ9.next + 15) = some (.cells [.slice p5 q5 u5, .int .i64 w5, .slice p6 q6 u6, .int .i64 w6] (rowMeta 2)) := (hE7.get _ (by first | omega | (simp only [next_put]; omega))).trans (by rw [St.get_put, if_pos rfl])
  have d47 := hD7.weak g6
  simp only [YRUNA, YRUNB, Nat.reduceShiftRight, bit, c_seq, RUNA, RUNB, Nat.reduceAdd, Nat.reduceMod, Nat.reduceDiv, Nat.reduceSub, Nat.reduceMul, Nat.reduceEqDiff, Nat.reduceBEq, Nat.reduceLeDiff, Int.reduceToNat, fillS, wantG, vBox, Value.cells, one, putAt, TYA, z6, z7, z8, z9, z41, z46, z51, n_eqb Try.underlying4, bs68_2, bs68_3, qA, qB, (hA.mono e7).row, (hB.mono e7).row, (hC.mono e7).row, G20, G15]
  refine wpc_dgen (fun S => S.at 6 = .pointer (some ⟨σ.next + 11, 0, none⟩) ∧ S.at 7 = .pointer (some ⟨σ.next + 12, 0, none⟩) ∧ S.at 8 = .int .i64 k ∧ S.at 9 = .pointer (some ⟨B9, 0, none⟩) ∧ S.at 41 = .bool true ∧ S.at 47 = .agg #[.slice p7 q7 u7, .int .i64 w7] ∧ S.at 51 = .slice (some ⟨τ9.next + 20, 0, none⟩) 2 2) ?_ ?_
  · simp only [c_seq, RUNA, RUNB, Nat.reduceAdd, Nat.reduceMod, Nat.reduceDiv, Nat.reduceSub, Nat.reduceMul, Nat.reduceEqDiff, Nat.reduceBEq, Nat.reduceLeDiff, Int.reduceToNat, fillS, wantG, vBox, Value.cells, one, putAt, z6, z7, z8, z9, z41, z46, z51]
  clear z6 z7 z8 z9 z41 z46 z51
  rintro S ⟨z6, z7, z8, z9, z41, z47, z51⟩
  have x8 : EX τ9 σ7' := e7
  refine wpc_mono (Not_spec (d47.weak (Nat.zero_le _)) (x8.fr hF9)) ?_
  rintro r σ8' ⟨hD8, hE8⟩
  obtain ⟨p8, q8, u8, w8, rfl⟩ := hD8.open
  have e8 : EX τ9 σ8' := EX.trans x8 hE8
  have g8 : τ9.next + 51 ≤ σ8'.next := Nat.le_trans g7 hE8.next
  have d47 := d47.ex hE8
  have G20 : σ8'.get (τ9.next + 20) = some (.cells [.slice o2 k2 c2, .int .i64 i2, .slice o1 k1 c1, .int .i64 i1] (rowMeta 2)) := (hE8.get _ (by first | omega | (simp only [next_put]; omega))).trans G20
  have d48 := hD8.weak g7
  simp only [YRUNA, YRUNB, Nat.reduceShiftRight, bit, c_seq, RUNA, RUNB, Nat.reduceAdd, Nat.reduceMod, Nat.reduceDiv, Nat.reduceSub, Nat.reduceMul, Nat.reduceEqDiff, Nat.reduceBEq, Nat.reduceLeDiff, Int.reduceToNat, fillS, wantG, vBox, Value.cells, one, putAt, TYA, z6, z7, z8, z9, z41, z47, z51, n_eqb Try.underlying4, bs68_2, bs68_3, qA, qB, (hA.mono e8).row, (hB.mono e8).row, (hC.mono e8).row, G20]
  refine wpc_dgen (fun S => S.at 6 = .pointer (some ⟨σ.next + 11, 0, none⟩) ∧ S.at 7 = .pointer (some ⟨σ.next + 12, 0, none⟩) ∧ S.at 8 = .int .i64 k ∧ S.at 9 = .pointer (some ⟨B9, 0, none⟩) ∧ S.at 41 = .bool true ∧ S.at 48 = .agg #[.slice p8 q8 u8, .int .i64 w8] ∧ S.at 51 = .slice (some ⟨τ9.next + 20, 0, none⟩) 2 2) ?_ ?_
  · simp only [c_seq, RUNA, RUNB, Nat.reduceAdd, Nat.reduceMod, Nat.reduceDiv, Nat.reduceSub, Nat.reduceMul, Nat.reduceEqDiff, Nat.reduceBEq, Nat.reduceLeDiff, Int.reduceToNat, fillS, wantG, vBox, Value.cells, one, putAt, z6, z7, z8, z9, z41, z47, z51]
  clear z6 z7 z8 z9 z41 z47 z51
  rintro S ⟨z6, z7, z8, z9, z41, z48, z51⟩
  have x9 : EX τ9 σ8' := e8
  refine wpc_mono (Or_spec (DL2 (id := τ9.next + 20) (m := rowMeta 2) (by first | omega | (simp only [next_put]; omega)) (by rw [row_of_g G20]) (hB.mono x9).is (hA.mono x9).is) (by simp) (x9.fr hF9)) ?_
  rintro r σ9' ⟨hD9, hE9⟩
  obtain ⟨p9, q9, u9, w9, rfl⟩ := hD9.open
  have e9 : EX τ9 σ9' := EX.trans x9 hE9
  have g9 : τ9.next + 51 ≤ σ9'.next := Nat.le_trans g8 hE9.next
  have d48 := d48.ex hE9
  have G20 : σ9'.get (τ9.next + 20) = some (.cells [.slice o2 k2 c2, .int .i64 i2, .slice o1 k1 c1, .int .i64 i1] (rowMeta 2)) := (hE9.get _ (by first | omega | (simp only [next_put]; omega))).trans G20
  have d52 := hD9.weak g8
  simp only [YRUNA, YRUNB, Nat.reduceShiftRight, bit, c_seq, RUNA, RUNB, Nat.reduceAdd, Nat.reduceMod, Nat.reduceDiv, Nat.reduceSub, Nat.reduceMul, Nat.reduceEqDiff, Nat.reduceBEq, Nat.reduceLeDiff, Int.reduceToNat, fillS, wantG, vBox, Value.cells, one, putAt, TYA, z6, z7, z8, z9, z41, z48, z51, n_eqb Try.underlying4, bs68_2, bs68_3, qA, qB, (hA.mono e9).row, (hB.mono e9).row, (hC.mono e9).row, G20]
  refine wpc_dgen (fun S => S.at 6 = .pointer (some ⟨σ.next + 11, 0, none⟩) ∧ S.at 7 = .pointer (some ⟨σ.next + 12, 0, none⟩) ∧ S.at 8 = .int .i64 k ∧ S.at 9 = .pointer (some ⟨B9, 0, none⟩) ∧ S.at 41 = .bool true ∧ S.at 48 = .agg #[.slice p8 q8 u8, .int .i64 w8] ∧ S.at 52 = .agg #[.slice p9 q9 u9, .int .i64 w9]) ?_ ?_
  · simp only [c_seq, RUNA, RUNB, Nat.reduceAdd, Nat.reduceMod, Nat.reduceDiv, Nat.reduceSub, Nat.reduceMul, Nat.reduceEqDiff, Nat.reduceBEq, Nat.reduceLeDiff, Int.reduceToNat, fillS, wantG, vBox, Value.cells, one, putAt, z6, z7, z8, z9, z41, z48, z51]
  clear z6 z7 z8 z9 z41 z48 z51
  rintro S ⟨z6, z7, z8, z9, z41, z48, z52⟩
  have x10 : EX τ9 σ9' := e9
  refine wpc_mono (Same_is (d48.weak (Nat.zero_le _)) (d52.weak (Nat.zero_le _)) (fun f => by simp [allOf, anyOf, Bool.or_comm])) ?_
  rintro r σ10' ⟨rfl, hE10⟩
  have e10 : EX τ9 σ10' := EX.trans x10 hE10
  have g10 : τ9.next + 51 ≤ σ10'.next := Nat.le_trans g9 hE10.next
  have d48 := d48.ex hE10
  have d52 := d52.ex hE10
  simp only [YRUNA, YRUNB, Nat.reduceShiftRight, bit, c_seq, RUNA, RUNB, Nat.reduceAdd, Nat.reduceMod, Nat.reduceDiv, Nat.reduceSub, Nat.reduceMul, Nat.reduceEqDiff, Nat.reduceBEq, Nat.reduceLeDiff, Int.reduceToNat, fillS, wantG, vBox, Value.cells, one, putAt, TYA, z6, z7, z8, z9, z41, z48, z52, n_eqb Try.underlying4, bs68_2, bs68_3, qA, qB, (hA.mono e10).row, (hB.mono e10).row, (hC.mono e10).row]
  refine wpc_dgen (fun S => S.at 6 = .pointer (some ⟨σ.next + 11, 0, none⟩) ∧ S.at 8 = .int .i64 k ∧ S.at 9 = .pointer (some ⟨B9, 0, none⟩) ∧ S.at 55 = .bool true ∧ S.at 56 = .agg #[.slice o1 k1 c1, .int .i64 i1] ∧ S.at 57 = .agg #[.slice o2 k2 c2, .int .i64 i2] ∧ S.at 59 = .agg #[.slice o2 k2 c2, .int .i64 i2] ∧ S.at 60 = .agg #[.slice o1 k1 c1, .int .i64 i1] ∧ S.at 62 = .agg #[.slice o1 k1 c1, .int .i64 i1]) ?_ ?_
  · simp only [c_seq, RUNA, RUNB, Nat.reduceAdd, Nat.reduceMod, Nat.reduceDiv, Nat.reduceSub, Nat.reduceMul, Nat.reduceEqDiff, Nat.reduceBEq, Nat.reduceLeDiff, Int.reduceToNat, fillS, wantG, vBox, Value.cells, one, putAt, z6, z7, z8, z9, z41, z48, z52]
  clear z6 z7 z8 z9 z41 z48 z52
  rintro S ⟨z6, z8, z9, z55, z56, z57, z59, z60, z62⟩
  have x11 : EX τ9 σ10' := e10
  refine wpc_mono (Xor_spec (hA.mono x11).is (hB.mono x11).is (x11.fr hF9)) ?_
  rintro r σ11' ⟨hD11, hE11⟩
  obtain ⟨p11, q11, u11, w11, rfl⟩ := hD11.open
  have e11 : EX τ9 σ11' := EX.trans x11 hE11
  have g11 : τ9.next + 51 ≤ σ11'.next := Nat.le_trans g10 hE11.next
  have d58 := hD11.weak g10
  simp only [YRUNA, YRUNB, Nat.reduceShiftRight, bit, c_seq, RUNA, RUNB, Nat.reduceAdd, Nat.reduceMod, Nat.reduceDiv, Nat.reduceSub, Nat.reduceMul, Nat.reduceEqDiff, Nat.reduceBEq, Nat.reduceLeDiff, Int.reduceToNat, fillS, wantG, vBox, Value.cells, one, putAt, TYA, z6, z8, z9, z55, z56, z57, z59, z60, z62, n_eqb Try.underlying4, bs68_2, bs68_3, qA, qB, (hA.mono e11).row, (hB.mono e11).row, (hC.mono e11).row]
  refine wpc_dgen (fun S => S.at 6 = .pointer (some ⟨σ.next + 11, 0, none⟩) ∧ S.at 8 = .int .i64 k ∧ S.at 9 = .pointer (some ⟨B9, 0, none⟩) ∧ S.at 55 = .bool true ∧ S.at 58 = .agg #[.slice p11 q11 u11, .int .i64 w11] ∧ S.at 59 = .agg #[.slice o2 k2 c2, .int .i64 i2] ∧ S.at 60 = .agg #[.slice o1 k1 c1, .int .i64 i1] ∧ S.at 62 = .agg #[.slice o1 k1 c1, .int .i64 i1]) ?_ ?_
  · simp only [c_seq, RUNA, RUNB, Nat.reduceAdd, Nat.reduceMod, Nat.reduceDiv, Nat.reduceSub, Nat.reduceMul, Nat.reduceEqDiff, Nat.reduceBEq, Nat.reduceLeDiff, Int.reduceToNat, fillS, wantG, vBox, Value.cells, one, putAt, z6, z8, z9, z55, z56, z57, z59, z60, z62]
  clear z6 z8 z9 z55 z56 z57 z59 z60 z62
  rintro S ⟨z6, z8, z9, z55, z58, z59, z60, z62⟩
  have x12 : EX τ9 σ11' := e11
  refine wpc_mono (Not_spec (hA.mono x12).is (x12.fr hF9)) ?_
  rintro r σ12' ⟨hD12, hE12⟩
  obtain ⟨p12, q12, u12, w12, rfl⟩ := hD12.open
  have e12 : EX τ9 σ12' := EX.trans x12 hE12
  have g12 : τ9.next + 51 ≤ σ12'.next := Nat.le_trans g11 hE12.next
  have d58 := d58.ex hE12
  have d61 := hD12.weak g11
  simp only [YRUNA, YRUNB, Nat.reduceShiftRight, bit, c_seq, RUNA, RUNB, Nat.reduceAdd, Nat.reduceMod, Nat.reduceDiv, Nat.reduceSub, Nat.reduceMul, Nat.reduceEqDiff, Nat.reduceBEq, Nat.reduceLeDiff, Int.reduceToNat, fillS, wantG, vBox, Value.cells, one, putAt, TYA, z6, z8, z9, z55, z58, z59, z60, z62, n_eqb Try.underlying4, bs68_2, bs68_3, qA, qB, (hA.mono e12).row, (hB.mono e12).row, (hC.mono e12).row]
  refine wpc_dgen (fun S => S.at 6 = .pointer (some ⟨σ.next + 11, 0, none⟩) ∧ S.at 8 = .int .i64 k ∧ S.at 9 = .pointer (some ⟨B9, 0, none⟩) ∧ S.at 55 = .bool true ∧ S.at 58 = .agg #[.slice p11 q11 u11, .int .i64 w11] ∧ S.at 59 = .agg #[.slice o2 k2 c2, .int .i64 i2] ∧ S.at 61 = .agg #[.slice p12 q12 u12, .int .i64 w12] ∧ S.at 62 = .agg #[.slice o1 k1 c1, .int .i64 i1]) ?_ ?_
  · simp only [c_seq, RUNA, RUNB, Nat.reduceAdd, Nat.reduceMod, Nat.reduceDiv, Nat.reduceSub, Nat.reduceMul, Nat.reduceEqDiff, Nat.reduceBEq, Nat.reduceLeDiff, Int.reduceToNat, fillS, wantG, vBox, Value.cells, one, putAt, z6, z8, z9, z55, z58, z59, z60, z62]
  clear z6 z8 z9 z55 z58 z59 z60 z62
  rintro S ⟨z6, z8, z9, z55, z58, z59, z61, z62⟩
  have x13 : EX τ9 σ12' := e12
  refine wpc_mono (Ite_spec (hB.mono x13).is (d61.weak (Nat.zero_le _)) (hA.mono x13).is (x13.fr hF9)) ?_
  rintro r σ13' ⟨hD13, hE13⟩
  obtain ⟨p13, q13, u13, w13, rfl⟩ := hD13.open
  have e13 : EX τ9 σ13' := EX.trans x13 hE13
  have g13 : τ9.next + 51 ≤ σ13'.next := Nat.le_trans g12 hE13.next
  have d58 := d58.ex hE13
  have d61 := d61.ex hE13
  have d63 := hD13.weak g12
  simp only [YRUNA, YRUNB, Nat.reduceShiftRight, bit, c_seq, RUNA, RUNB, Nat.reduceAdd, Nat.reduceMod, Nat.reduceDiv, Nat.reduceSub, Nat.reduceMul, Nat.reduceEqDiff, Nat.reduceBEq, Nat.reduceLeDiff, Int.reduceToNat, fillS, wantG, vBox, Value.cells, one, putAt, TYA, z6, z8, z9, z55, z58, z59, z61, z62, n_eqb Try.underlying4, bs68_2, bs68_3, qA, qB, (hA.mono e13).row, (hB.mono e13).row, (hC.mono e13).row]
  refine wpc_dgen (fun S => S.at 6 = .pointer (some ⟨σ.next + 11, 0, none⟩) ∧ S.at 8 = .int .i64 k ∧ S.at 9 = .pointer (some ⟨B9, 0, none⟩) ∧ S.at 55 = .bool true ∧ S.at 58 = .agg #[.slice p11 q11 u11, .int .i64 w11] ∧ S.at 63 = .agg #[.slice p13 q13 u13, .int .i64 w13]) ?_ ?_
  · simp only [c_seq, RUNA, RUNB, Nat.reduceAdd, Nat.reduceMod, Nat.reduceDiv, Nat.reduceSub, Nat.reduceMul, Nat.reduceEqDiff, Nat.reduceBEq, Nat.reduceLeDiff, Int.reduceToNat, fillS, wantG, vBox, Value.cells, one, putAt, z6, z8, z9, z55, z58, z59, z61, z62]
  clear z6 z8 z9 z55 z58 z59 z61 z62
  rintro S ⟨z6, z8, z9, z55, z58, z63⟩
  have x14 : EX τ9 σ13' := e13
  refine wpc_mono (Same_is (d58.weak (Nat.zero_le _)) (d63.weak (Nat.zero_le _)) (fun f => by cases φ f <;> cases ψ f <;> rfl)) ?_
  rintro r σ14' ⟨rfl, hE14⟩
  have e14 : EX τ9 σ14' := EX.trans x14 hE14
  have g14 : τ9.next + 51 ≤ σ14'.next := Nat.le_trans g13 hE14.next
  have d58 := d58.ex hE14
  have d63 := d63.ex hE14
  simp only [YRUNA, YRUNB, Nat.reduceShiftRight, bit, c_seq, RUNA, RUNB, Nat.reduceAdd, Nat.reduceMod, Nat.reduceDiv, Nat.reduceSub, Nat.reduceMul, Nat.reduceEqDiff, Nat.reduceBEq, Nat.reduceLeDiff, Int.reduceToNat, fillS, wantG, vBox, Value.cells, one, putAt, TYA, z6, z8, z9, z55, z58, z63, n_eqb Try.underlying4, bs68_2, bs68_3, qA, qB, (hA.mono e14).row, (hB.mono e14).row, (hC.mono e14).row]
  refine wpc_dgen (fun S => S.at 6 = .pointer (some ⟨σ.next + 11, 0, none⟩) ∧ S.at 8 = .int .i64 k ∧ S.at 9 = .pointer (some ⟨B9, 0, none⟩) ∧ S.at 66 = .bool true ∧ S.at 67 = .agg #[.slice o1 k1 c1, .int .i64 i1] ∧ S.at 70 = .agg #[.slice o1 k1 c1, .int .i64 i1]) ?_ ?_
  · simp only [c_seq, RUNA, RUNB, Nat.reduceAdd, Nat.reduceMod, Nat.reduceDiv, Nat.reduceSub, Nat.reduceMul, Nat.reduceEqDiff, Nat.reduceBEq, Nat.reduceLeDiff, Int.reduceToNat, fillS, wantG, vBox, Value.cells, one, putAt, z6, z8, z9, z55, z58, z63]
  clear z6 z8 z9 z55 z58 z63
  rintro S ⟨z6, z8, z9, z66, z67, z70⟩
  have x15 : EX τ9 σ14' := e14
  refine wpc_mono (Not_spec (hA.mono x15).is (x15.fr hF9)) ?_
  rintro r σ15' ⟨hD15, hE15⟩
  obtain ⟨p15, q15, u15, w15, rfl⟩ := hD15.open
  have e15 : EX τ9 σ15' := EX.trans x15 hE15
  have g15 : τ9.next + 51 ≤ σ15'.next := Nat.le_trans g14 hE15.next
  have d68 := hD15.weak g14
  simp only [YRUNA, YRUNB, Nat.reduceShiftRight, bit, c_seq, RUNA, RUNB, Nat.reduceAdd, Nat.reduceMod, Nat.reduceDiv, Nat.reduceSub, Nat.reduceMul, Nat.reduceEqDiff, Nat.reduceBEq, Nat.reduceLeDiff, Int.reduceToNat, fillS, wantG, vBox, Value.cells, one, putAt, TYA, z6, z8, z9, z66, z67, z70, n_eqb Try.underlying4, bs68_2, bs68_3, qA, qB, (hA.mono e15).row, (hB.mono e15).row, (hC.mono e15).row]
  refine wpc_dgen (fun S => S.at 6 = .pointer (some ⟨σ.next + 11, 0, none⟩) ∧ S.at 8 = .int .i64 k ∧ S.at 9 = .pointer (some ⟨B9, 0, none⟩) ∧ S.at 66 = .bool true ∧ S.at 68 = .agg #[.slice p15 q15 u15, .int .i64 w15] ∧ S.at 70 = .agg #[.slice o1 k1 c1, .int .i64 i1]) ?_ ?_
  · simp only [c_seq, RUNA, RUNB, Nat.reduceAdd, Nat.reduceMod, Nat.reduceDiv, Nat.reduceSub, Nat.reduceMul, Nat.reduceEqDiff, Nat.reduceBEq, Nat.reduceLeDiff, Int.reduceToNat, fillS, wantG, vBox, Value.cells, one, putAt, z6, z8, z9, z66, z67, z70]
  clear z6 z8 z9 z66 z67 z70
  rintro S ⟨z6, z8, z9, z66, z68, z70⟩
  have x16 : EX τ9 σ15' := e15
  refine wpc_mono (Not_spec (d68.weak (Nat.zero_le _)) (x16.fr hF9)) ?_
  rintro r σ16' ⟨hD16, hE16⟩
  obtain ⟨p16, q16, u16, w16, rfl⟩ := hD16.open
  have e16 : EX τ9 σ16' := EX.trans x16 hE16
  have g16 : τ9.next + 51 ≤ σ16'.next := Nat.le_trans g15 hE16.next
  have d68 := d68.ex hE16
  have d69 := hD16.weak g15
  simp only [YRUNA, YRUNB, Nat.reduceShiftRight, bit, c_seq, RUNA, RUNB, Nat.reduceAdd, Nat.reduceMod, Nat.reduceDiv, Nat.reduceSub, Nat.reduceMul, Nat.reduceEqDiff, Nat.reduceBEq, Nat.reduceLeDiff, Int.reduceToNat, fillS, wantG, vBox, Value.cells, one, putAt, TYA, z6, z8, z9, z66, z68, z70, n_eqb Try.underlying4, bs68_2, bs68_3, qA, qB, (hA.mono e16).row, (hB.mono e16).row, (hC.mono e16).row]
  refine wpc_dgen (fun S => S.at 6 = .pointer (some ⟨σ.next + 11, 0, none⟩) ∧ S.at 8 = .int .i64 k ∧ S.at 9 = .pointer (some ⟨B9, 0, none⟩) ∧ S.at 66 = .bool true ∧ S.at 69 = .agg #[.slice p16 q16 u16, .int .i64 w16] ∧ S.at 70 = .agg #[.slice o1 k1 c1, .int .i64 i1]) ?_ ?_
  · simp only [c_seq, RUNA, RUNB, Nat.reduceAdd, Nat.reduceMod, Nat.reduceDiv, Nat.reduceSub, Nat.reduceMul, Nat.reduceEqDiff, Nat.reduceBEq, Nat.reduceLeDiff, Int.reduceToNat, fillS, wantG, vBox, Value.cells, one, putAt, z6, z8, z9, z66, z68, z70]
  clear z6 z8 z9 z66 z68 z70
  rintro S ⟨z6, z8, z9, z66, z69, z70⟩
  have x17 : EX τ9 σ16' := e16
  refine wpc_mono (Same_is (d69.weak (Nat.zero_le _)) (hA.mono x17).is (fun f => by simp)) ?_
  rintro r σ17' ⟨rfl, hE17⟩
  have e17 : EX τ9 σ17' := EX.trans x17 hE17
  have g17 : τ9.next + 51 ≤ σ17'.next := Nat.le_trans g16 hE17.next
  have d69 := d69.ex hE17
  simp only [YRUNA, YRUNB, Nat.reduceShiftRight, bit, c_seq, RUNA, RUNB, Nat.reduceAdd, Nat.reduceMod, Nat.reduceDiv, Nat.reduceSub, Nat.reduceMul, Nat.reduceEqDiff, Nat.reduceBEq, Nat.reduceLeDiff, Int.reduceToNat, fillS, wantG, vBox, Value.cells, one, putAt, TYA, z6, z8, z9, z66, z69, z70, n_eqb Try.underlying4, bs68_2, bs68_3, qA, qB, (hA.mono e17).row, (hB.mono e17).row, (hC.mono e17).row]
  refine wpc_dgen (fun S => S.at 73 = .bool true ∧ S.at 74 = .agg #[.slice o1 k1 c1, .int .i64 i1] ∧ S.at 75 = .int .i64 k ∧ S.at 76 = .agg #[.slice o3 k3 c3, .int .i64 i3] ∧ S.at 78 = .agg #[.slice o1 k1 c1, .int .i64 i1]) ?_ ?_
  · simp only [c_seq, RUNA, RUNB, Nat.reduceAdd, Nat.reduceMod, Nat.reduceDiv, Nat.reduceSub, Nat.reduceMul, Nat.reduceEqDiff, Nat.reduceBEq, Nat.reduceLeDiff, Int.reduceToNat, fillS, wantG, vBox, Value.cells, one, putAt, z6, z8, z9, z66, z69, z70]
  clear z6 z8 z9 z66 z69 z70
  rintro S ⟨z73, z74, z75, z76, z78⟩
  have x18 : EX τ9 σ17' := e17
  refine wpc_mono (Compose_spec (hA.mono x18).is (hC.mono x18).is (x18.fr hF9)) ?_
  rintro r σ18' ⟨hD18, hE18⟩
  obtain ⟨p18, q18, u18, w18, rfl⟩ := hD18.open
  have e18 : EX τ9 σ18' := EX.trans x18 hE18
  have g18 : τ9.next + 51 ≤ σ18'.next := Nat.le_trans g17 hE18.next
  have d77 := hD18.weak g17
  simp only [YRUNA, YRUNB, Nat.reduceShiftRight, bit, c_seq, RUNA, RUNB, Nat.reduceAdd, Nat.reduceMod, Nat.reduceDiv, Nat.reduceSub, Nat.reduceMul, Nat.reduceEqDiff, Nat.reduceBEq, Nat.reduceLeDiff, Int.reduceToNat, fillS, wantG, vBox, Value.cells, one, putAt, TYA, z73, z74, z75, z76, z78, n_eqb Try.underlying4, bs68_2, bs68_3, qA, qB, (hA.mono e18).row, (hB.mono e18).row, (hC.mono e18).row]
  refine wpc_dgen (fun S => S.at 73 = .bool true ∧ S.at 77 = .agg #[.slice p18 q18 u18, .int .i64 w18] ∧ S.at 78 = .agg #[.slice o1 k1 c1, .int .i64 i1]) ?_ ?_
  · simp only [c_seq, RUNA, RUNB, Nat.reduceAdd, Nat.reduceMod, Nat.reduceDiv, Nat.reduceSub, Nat.reduceMul, Nat.reduceEqDiff, Nat.reduceBEq, Nat.reduceLeDiff, Int.reduceToNat, fillS, wantG, vBox, Value.cells, one, putAt, z73, z74, z75, z76, z78]
  clear z73 z74 z75 z76 z78
  rintro S ⟨z73, z77, z78⟩
  have x19 : EX τ9 σ18' := e18
  refine wpc_mono (Same_is (d77.weak (Nat.zero_le _)) (hA.mono x19).is (upd_cases)) ?_
  rintro r σ19' ⟨rfl, hE19⟩
  have e19 : EX τ9 σ19' := EX.trans x19 hE19
  have g19 : τ9.next + 51 ≤ σ19'.next := Nat.le_trans g18 hE19.next
  have d77 := d77.ex hE19
  simp only [YRUNA, YRUNB, Nat.reduceShiftRight, bit, c_seq, RUNA, RUNB, Nat.reduceAdd, Nat.reduceMod, Nat.reduceDiv, Nat.reduceSub, Nat.reduceMul, Nat.reduceEqDiff, Nat.reduceBEq, Nat.reduceLeDiff, Int.reduceToNat, fillS, wantG, vBox, Value.cells, one, putAt, TYA, z73, z77, z78, n_eqb Try.underlying4, bs68_2, bs68_3, qA, qB, (hA.mono e19).row, (hB.mono e19).row, (hC.mono e19).row, hr]
end Go.Proofs.Ytlealdhgajomhaa
namespace Go.Proofs.Ytlealdhgajomhaa
set_option linter.unusedVariables false
open Go.AI
set_option linter.unusedSimpArgs false

theorem canon_walk {b0 : Nat} {H : Type} {enc : TypeId × Value → H} {W : World} {v0 : Value} {d0 : DataW H} {ps0 : List MemPlace} (hv0 : Value.okWide Try.prog W .any b0 32 v0) (h0 : DataW.Trod enc Try.prog W 0 (fun _ => true) true 32 v0 d0 ps0)
    (a : Int) (wa : (Lit.int .u8 a).wf = true) :
    Calls Try.prog 6 #[v0, .int .u8 a] W fun e w' => e = .returned (.bool true) ∧ Kept W w' := by
  obtain ⟨cs, hc, hcs⟩ := open_u8s hv0 h0
  obtain ⟨p1, u1, k1, g1, r1⟩ := arg_vr (z := 1) (id := 1) (μ := fun _ => none) (u8s_plain cs) hcs
  have ba := bounds_u8 wa
  obtain ⟨a, rfl⟩ : ∃ n : Nat, a = n := ⟨_, (Int.toNat_of_nonneg ba.1).symm⟩
  have hgo := canon_go cs hc u1 g1 a (by omega)
  have hargs : VRL (muA none p1) [u1, .int .u8 a] [v0, .int .u8 a] := .cons (r1 _ rfl) (.cons (.same _ rfl) .nil)
  refine (wpc_calls okTry hgo (sim_args (p0 := none) (fun p h => by cases h) k1) (args' := #[v0, .int .u8 a]) hargs).mono ?_
  rintro e w' ⟨μ', r, σ', r', rfl, he, hr, hZ⟩
  rw [he, hr.eq0 rfl]
  exact ⟨rfl, hZ.kept⟩
end Go.Proofs.Ytlealdhgajomhaa
