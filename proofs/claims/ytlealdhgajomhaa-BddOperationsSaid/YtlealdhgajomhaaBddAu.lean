/- The law BddOperations: the walk (its last region is printed by a program). From the abstract machine to the model: the law BddOperations. -/
import Derived.Test.YtlealdhgajomhaaBddAq
import Derived.Test.YtlealdhgajomhaaBddLw
import Derived.Test.YtlealdhgajomhaaBddY
namespace Go.Proofs.Ytlealdhgajomhaa
open Go.AI
set_option linter.unusedVariables false
set_option linter.unusedSimpArgs false

/-- what stands ahead of the last region -/
def opI (n0 : Nat) (v1 w1 v2 w2 v3 w3 : Value) (φ ψ χ : As → Bool) (S : Slots) (τ : St) : Prop := ∃ i : Int, S.at 1 = .int .i64 i ∧ S.at 6 = .pointer (some ⟨n0 + 13, 0, none⟩) ∧ S.at 7 = .pointer (some ⟨n0 + 14, 0, none⟩) ∧ S.at 8 = .pointer (some ⟨n0 + 15, 0, none⟩) ∧ Fr τ ∧ BX (n0 + 13) v1 w1 φ τ ∧ BX (n0 + 14) v2 w2 ψ τ ∧ BX (n0 + 15) v3 w3 χ τ
set_option maxRecDepth 20000 in
set_option maxHeartbeats 4000000 in
theorem oper_go (cs : List Nat) (hc : ∀ k ∈ cs, k < 256) (cv : Value) (hcv : ArgS 1 cs.length cv) (i : Int) :
    wpc Try.prog 7 #[cv, .int .i64 i] (stA [] (u8s cs)) fun r _ => r = .bool true := by
  refine body_go Try.func7 rfl ?_
  have hr := Try.results7
  simp only [c_seq, RUNA, RUNB, Nat.reduceAdd, Nat.reduceMod, Nat.reduceDiv, Nat.reduceSub, Nat.reduceMul, Nat.reduceEqDiff, Nat.reduceBEq, Nat.reduceLeDiff, Int.reduceToNat, fillS, wantG, vBox, Value.cells, one, putAt, hr]
  refine wpc_mono (awake_A [] (u8s cs)) ?_
  rintro r σ ⟨rfl, hF, hn5, r0, r1⟩
  obtain ⟨co, cc, rfl, hc1, hc2⟩ := id hcv
  simp only [c_seq, RUNA, RUNB, Nat.reduceAdd, Nat.reduceMod, Nat.reduceDiv, Nat.reduceSub, Nat.reduceMul, Nat.reduceEqDiff, Nat.reduceBEq, Nat.reduceLeDiff, Int.reduceToNat, fillS, wantG, vBox, Value.cells, one, putAt, TYA, hr]
  by_cases g2 : 40 < cs.length
  · have d2 : decide ((40 : Int) < (cs.length : Int)) = true := by simp; omega
    simp only [c_seq, RUNA, RUNB, Nat.reduceAdd, Nat.reduceMod, Nat.reduceDiv, Nat.reduceSub, Nat.reduceMul, Nat.reduceEqDiff, Nat.reduceBEq, Nat.reduceLeDiff, Int.reduceToNat, fillS, wantG, vBox, Value.cells, one, putAt, TYA, hr, d2]
  have d2 : decide ((40 : Int) < (cs.length : Int)) = false := by simp; omega
  simp only [c_seq, RUNA, RUNB, Nat.reduceAdd, Nat.reduceMod, Nat.reduceDiv, Nat.reduceSub, Nat.reduceMul, Nat.reduceEqDiff, Nat.reduceBEq, Nat.reduceLeDiff, Int.reduceToNat, fillS, wantG, vBox, Value.cells, one, putAt, TYA, hr, d2, bd38]
  have w1 : ¬ 1 = σ.next + 5 := by omega
  refine wpc_mono (diagram_spec hc (by omega) 2 (by omega) _ (Src.new (cc := cc) hc1 (by simp only [c_seq, RUNA, RUNB, Nat.reduceAdd, Nat.reduceMod, Nat.reduceDiv, Nat.reduceSub, Nat.reduceMul, Nat.reduceEqDiff, Nat.reduceBEq, Nat.reduceLeDiff, Int.reduceToNat, fillS, wantG, vBox, Value.cells, one, putAt, w1, r1]) (by omega) (by first | omega | (simp only [next_more, next_put] at *; omega)) (by simp only [c_seq, RUNA, RUNB, Nat.reduceAdd, Nat.reduceMod, Nat.reduceDiv, Nat.reduceSub, Nat.reduceMul, Nat.reduceEqDiff, Nat.reduceBEq, Nat.reduceLeDiff, Int.reduceToNat, fillS, wantG, vBox, Value.cells, one, putAt])) (by repeat first | assumption | refine Fr.more ?_ _ | refine Fr.put ?_ _ _)) ?_
  rintro r σ1 ⟨⟨φ, hD1⟩, hS1, hE1, hF1⟩
  have n1 := hE1.next
  simp only [next_more, next_put] at n1 hD1
  obtain ⟨o1, k1, c1, i1, rfl⟩ := hD1.open
  simp only [c_seq, RUNA, RUNB, Nat.reduceAdd, Nat.reduceMod, Nat.reduceDiv, Nat.reduceSub, Nat.reduceMul, Nat.reduceEqDiff, Nat.reduceBEq, Nat.reduceLeDiff, Int.reduceToNat, fillS, wantG, vBox, Value.cells, one, putAt, TYA]
  refine wpc_mono (diagram_spec hc (by omega) 2 (by omega) _ hS1 hF1) ?_
  rintro r σ2 ⟨⟨ψ, hD2⟩, hS2, hE2, hF2⟩
  have n2 := hE2.next
  obtain ⟨o2, k2, c2, i2, rfl⟩ := hD2.open
  simp only [c_seq, RUNA, RUNB, Nat.reduceAdd, Nat.reduceMod, Nat.reduceDiv, Nat.reduceSub, Nat.reduceMul, Nat.reduceEqDiff, Nat.reduceBEq, Nat.reduceLeDiff, Int.reduceToNat, fillS, wantG, vBox, Value.cells, one, putAt, TYA]
  refine wpc_mono (diagram_spec hc (by omega) 1 (by omega) _ hS2 hF2) ?_
  rintro r σ3 ⟨⟨χ, hD3⟩, hS3, hE3, hF3⟩
  have n3 := hE3.next
  obtain ⟨o3, k3, c3, i3, rfl⟩ := hD3.open
  simp only [RUNA, RUNB, Nat.reduceAdd, Nat.reduceMod, Nat.reduceDiv, Nat.reduceSub, Nat.reduceMul, Nat.reduceEqDiff, Nat.reduceBEq, Nat.reduceLeDiff, Int.reduceToNat, fillS, wantG, vBox, Value.cells, one, putAt, TYA]
  refine seq_cut (opI σ.next (.slice o1 k1 c1) (.int .i64 i1) (.slice o2 k2 c2) (.int .i64 i2) (.slice o3 k3 c3) (.int .i64 i3) φ ψ χ) ?_ ?_
  · by_cases hi : 20 < i ∨ i < -2
    · have g : decide (20 < i) = true ∨ decide (20 < i) = false ∧ decide (i < -2) = true := by simp; omega
      have hgo : ∀ (K : Value → St → Prop) (τ : St), σ3.next ≤ τ.next → Src (σ.next + 5) τ cs → (∀ (q : Nat) (σ4 : St), EXb (σ.next + 5) τ σ4 → K (.int .i64 q) σ4) → wpc Try.prog 28 #[.pointer (some ⟨σ.next + 5, 0, none⟩), .int .i64 10] τ K := by
        intro K τ _ hS hK
        refine wpc_mono (Next_spec (n := 10) hS hc (by omega) (by omega) (by omega)) ?_
        rintro r σ4 ⟨⟨q, rfl, -⟩, -, hE4⟩
        exact hK q σ4 hE4
      rcases g with g | ⟨g, g'⟩
      · simp only [c_seq, RUNA, RUNB, Nat.reduceAdd, Nat.reduceMod, Nat.reduceDiv, Nat.reduceSub, Nat.reduceMul, Nat.reduceEqDiff, Nat.reduceBEq, Nat.reduceLeDiff, Int.reduceToNat, fillS, wantG, vBox, Value.cells, one, putAt, TYA, g]
        refine hgo _ _ (by first | omega | (simp only [next_more, next_put] at *; omega)) ?_ ?_
        · repeat first | exact hS3 | refine Src.mono (σ := _) ?_ ((EX.refl _).more _) | refine Src.put ?_ (by omega)
        intro q σ4 hE4
        have n4 := hE4.next
        simp only [next_more, next_put] at n4
        simp only [c_seq, RUNA, RUNB, Nat.reduceAdd, Nat.reduceMod, Nat.reduceDiv, Nat.reduceSub, Nat.reduceMul, Nat.reduceEqDiff, Nat.reduceBEq, Nat.reduceLeDiff, Int.reduceToNat, fillS, wantG, vBox, Value.cells, one, putAt, TYA]
        refine ⟨q, by simp only [c_seq, RUNA, RUNB, Nat.reduceAdd, Nat.reduceMod, Nat.reduceDiv, Nat.reduceSub, Nat.reduceMul, Nat.reduceEqDiff, Nat.reduceBEq, Nat.reduceLeDiff, Int.reduceToNat, fillS, wantG, vBox, Value.cells, one, putAt], by simp only [c_seq, RUNA, RUNB, Nat.reduceAdd, Nat.reduceMod, Nat.reduceDiv, Nat.reduceSub, Nat.reduceMul, Nat.reduceEqDiff, Nat.reduceBEq, Nat.reduceLeDiff, Int.reduceToNat, fillS, wantG, vBox, Value.cells, one, putAt], by simp only [c_seq, RUNA, RUNB, Nat.reduceAdd, Nat.reduceMod, Nat.reduceDiv, Nat.reduceSub, Nat.reduceMul, Nat.reduceEqDiff, Nat.reduceBEq, Nat.reduceLeDiff, Int.reduceToNat, fillS, wantG, vBox, Value.cells, one, putAt], by simp only [c_seq, RUNA, RUNB, Nat.reduceAdd, Nat.reduceMod, Nat.reduceDiv, Nat.reduceSub, Nat.reduceMul, Nat.reduceEqDiff, Nat.reduceBEq, Nat.reduceLeDiff, Int.reduceToNat, fillS, wantG, vBox, Value.cells, one, putAt], hE4.fr (by repeat first | assumption | refine Fr.more ?_ _ | refine Fr.put ?_ _ _), ⟨?_, by omega, IsD.hi (IsD.weak (hD1.un ?_) (Nat.zero_le _)) (by omega)⟩, ⟨?_, by omega, IsD.hi (IsD.weak (hD2.un ?_) (Nat.zero_le _)) (by omega)⟩, ⟨?_, by omega, IsD.hi (IsD.weak (hD3.un ?_) (Nat.zero_le _)) (by omega)⟩⟩
        · rw [hE4.row _ (by first | omega | (simp only [next_more, next_put] at *; omega)) (by omega)]; simp only [c_seq, RUNA, RUNB, Nat.reduceAdd, Nat.reduceMod, Nat.reduceDiv, Nat.reduceSub, Nat.reduceMul, Nat.reduceEqDiff, Nat.reduceBEq, Nat.reduceLeDiff, Int.reduceToNat, fillS, wantG, vBox, Value.cells, one, putAt]
        · repeat first | assumption | exact UN.refl _ _ _ | refine UN.more ?_ _ | refine UN.put ?_ (by omega) _ | refine UN.ex (by assumption) ?_ (by first | omega | (simp only [next_more, next_put]; omega)) | refine UN.exb (by assumption) ?_ (by first | omega | (simp only [next_more, next_put]; omega)) (by omega)
        · rw [hE4.row _ (by first | omega | (simp only [next_more, next_put] at *; omega)) (by omega)]; simp only [c_seq, RUNA, RUNB, Nat.reduceAdd, Nat.reduceMod, Nat.reduceDiv, Nat.reduceSub, Nat.reduceMul, Nat.reduceEqDiff, Nat.reduceBEq, Nat.reduceLeDiff, Int.reduceToNat, fillS, wantG, vBox, Value.cells, one, putAt]
        · repeat first | assumption | exact UN.refl _ _ _ | refine UN.more ?_ _ | refine UN.put ?_ (by omega) _ | refine UN.ex (by assumption) ?_ (by first | omega | (simp only [next_more, next_put]; omega)) | refine UN.exb (by assumption) ?_ (by first | omega | (simp only [next_more, next_put]; omega)) (by omega)
        · rw [hE4.row _ (by first | omega | (simp only [next_more, next_put] at *; omega)) (by omega)]; simp only [c_seq, RUNA, RUNB, Nat.reduceAdd, Nat.reduceMod, Nat.reduceDiv, Nat.reduceSub, Nat.reduceMul, Nat.reduceEqDiff, Nat.reduceBEq, Nat.reduceLeDiff, Int.reduceToNat, fillS, wantG, vBox, Value.cells, one, putAt]
        · repeat first | assumption | exact UN.refl _ _ _ | refine UN.more ?_ _ | refine UN.put ?_ (by omega) _ | refine UN.ex (by assumption) ?_ (by first | omega | (simp only [next_more, next_put]; omega)) | refine UN.exb (by assumption) ?_ (by first | omega | (simp only [next_more, next_put]; omega)) (by omega)
      · simp only [c_seq, RUNA, RUNB, Nat.reduceAdd, Nat.reduceMod, Nat.reduceDiv, Nat.reduceSub, Nat.reduceMul, Nat.reduceEqDiff, Nat.reduceBEq, Nat.reduceLeDiff, Int.reduceToNat, fillS, wantG, vBox, Value.cells, one, putAt, TYA, g, g']
        refine hgo _ _ (by first | omega | (simp only [next_more, next_put] at *; omega)) ?_ ?_
        · repeat first | exact hS3 | refine Src.mono (σ := _) ?_ ((EX.refl _).more _) | refine Src.put ?_ (by omega)
        intro q σ4 hE4
        have n4 := hE4.next
        simp only [next_more, next_put] at n4
        simp only [c_seq, RUNA, RUNB, Nat.reduceAdd, Nat.reduceMod, Nat.reduceDiv, Nat.reduceSub, Nat.reduceMul, Nat.reduceEqDiff, Nat.reduceBEq, Nat.reduceLeDiff, Int.reduceToNat, fillS, wantG, vBox, Value.cells, one, putAt, TYA]
        refine ⟨q, by simp only [c_seq, RUNA, RUNB, Nat.reduceAdd, Nat.reduceMod, Nat.reduceDiv, Nat.reduceSub, Nat.reduceMul, Nat.reduceEqDiff, Nat.reduceBEq, Nat.reduceLeDiff, Int.reduceToNat, fillS, wantG, vBox, Value.cells, one, putAt], by simp only [c_seq, RUNA, RUNB, Nat.reduceAdd, Nat.reduceMod, Nat.reduceDiv, Nat.reduceSub, Nat.reduceMul, Nat.reduceEqDiff, Nat.reduceBEq, Nat.reduceLeDiff, Int.reduceToNat, fillS, wantG, vBox, Value.cells, one, putAt], by simp only [c_seq, RUNA, RUNB, Nat.reduceAdd, Nat.reduceMod, Nat.reduceDiv, Nat.reduceSub, Nat.reduceMul, Nat.reduceEqDiff, Nat.reduceBEq, Nat.reduceLeDiff, Int.reduceToNat, fillS, wantG, vBox, Value.cells, one, putAt], by simp only [c_seq, RUNA, RUNB, Nat.reduceAdd, Nat.reduceMod, Nat.reduceDiv, Nat.reduceSub, Nat.reduceMul, Nat.reduceEqDiff, Nat.reduceBEq, Nat.reduceLeDiff, Int.reduceToNat, fillS, wantG, vBox, Value.cells, one, putAt], hE4.fr (by repeat first | assumption | refine Fr.more ?_ _ | refine Fr.put ?_ _ _), ⟨?_, by omega, IsD.hi (IsD.weak (hD1.un ?_) (Nat.zero_le _)) (by omega)⟩, ⟨?_, by omega, IsD.hi (IsD.weak (hD2.un ?_) (Nat.zero_le _)) (by omega)⟩, ⟨?_, by omega, IsD.hi (IsD.weak (hD3.un ?_) (Nat.zero_le _)) (by omega)⟩⟩
        · rw [hE4.row _ (by first | omega | (simp only [next_more, next_put] at *; omega)) (by omega)]; simp only [c_seq, RUNA, RUNB, Nat.reduceAdd, Nat.reduceMod, Nat.reduceDiv, Nat.reduceSub, Nat.reduceMul, Nat.reduceEqDiff, Nat.reduceBEq, Nat.reduceLeDiff, Int.reduceToNat, fillS, wantG, vBox, Value.cells, one, putAt]
        · repeat first | assumption | exact UN.refl _ _ _ | refine UN.more ?_ _ | refine UN.put ?_ (by omega) _ | refine UN.ex (by assumption) ?_ (by first | omega | (simp only [next_more, next_put]; omega)) | refine UN.exb (by assumption) ?_ (by first | omega | (simp only [next_more, next_put]; omega)) (by omega)
        · rw [hE4.row _ (by first | omega | (simp only [next_more, next_put] at *; omega)) (by omega)]; simp only [c_seq, RUNA, RUNB, Nat.reduceAdd, Nat.reduceMod, Nat.reduceDiv, Nat.reduceSub, Nat.reduceMul, Nat.reduceEqDiff, Nat.reduceBEq, Nat.reduceLeDiff, Int.reduceToNat, fillS, wantG, vBox, Value.cells, one, putAt]
        · repeat first | assumption | exact UN.refl _ _ _ | refine UN.more ?_ _ | refine UN.put ?_ (by omega) _ | refine UN.ex (by assumption) ?_ (by first | omega | (simp only [next_more, next_put]; omega)) | refine UN.exb (by assumption) ?_ (by first | omega | (simp only [next_more, next_put]; omega)) (by omega)
        · rw [hE4.row _ (by first | omega | (simp only [next_more, next_put] at *; omega)) (by omega)]; simp only [c_seq, RUNA, RUNB, Nat.reduceAdd, Nat.reduceMod, Nat.reduceDiv, Nat.reduceSub, Nat.reduceMul, Nat.reduceEqDiff, Nat.reduceBEq, Nat.reduceLeDiff, Int.reduceToNat, fillS, wantG, vBox, Value.cells, one, putAt]
        · repeat first | assumption | exact UN.refl _ _ _ | refine UN.more ?_ _ | refine UN.put ?_ (by omega) _ | refine UN.ex (by assumption) ?_ (by first | omega | (simp only [next_more, next_put]; omega)) | refine UN.exb (by assumption) ?_ (by first | omega | (simp only [next_more, next_put]; omega)) (by omega)
    · have g : decide (20 < i) = false := by simp; omega
      have g' : decide (i < -2) = false := by simp; omega
      simp only [c_seq, RUNA, RUNB, Nat.reduceAdd, Nat.reduceMod, Nat.reduceDiv, Nat.reduceSub, Nat.reduceMul, Nat.reduceEqDiff, Nat.reduceBEq, Nat.reduceLeDiff, Int.reduceToNat, fillS, wantG, vBox, Value.cells, one, putAt, TYA, g, g']
      refine ⟨i, by simp only [c_seq, RUNA, RUNB, Nat.reduceAdd, Nat.reduceMod, Nat.reduceDiv, Nat.reduceSub, Nat.reduceMul, Nat.reduceEqDiff, Nat.reduceBEq, Nat.reduceLeDiff, Int.reduceToNat, fillS, wantG, vBox, Value.cells, one, putAt], by simp only [c_seq, RUNA, RUNB, Nat.reduceAdd, Nat.reduceMod, Nat.reduceDiv, Nat.reduceSub, Nat.reduceMul, Nat.reduceEqDiff, Nat.reduceBEq, Nat.reduceLeDiff, Int.reduceToNat, fillS, wantG, vBox, Value.cells, one, putAt], by simp only [c_seq, RUNA, RUNB, Nat.reduceAdd, Nat.reduceMod, Nat.reduceDiv, Nat.reduceSub, Nat.reduceMul, Nat.reduceEqDiff, Nat.reduceBEq, Nat.reduceLeDiff, Int.reduceToNat, fillS, wantG, vBox, Value.cells, one, putAt], by simp only [c_seq, RUNA, RUNB, Nat.reduceAdd, Nat.reduceMod, Nat.reduceDiv, Nat.reduceSub, Nat.reduceMul, Nat.reduceEqDiff, Nat.reduceBEq, Nat.reduceLeDiff, Int.reduceToNat, fillS, wantG, vBox, Value.cells, one, putAt], by repeat first | assumption | refine Fr.more ?_ _ | refine Fr.put ?_ _ _, ⟨by simp only [c_seq, RUNA, RUNB, Nat.reduceAdd, Nat.reduceMod, Nat.reduceDiv, Nat.reduceSub, Nat.reduceMul, Nat.reduceEqDiff, Nat.reduceBEq, Nat.reduceLeDiff, Int.reduceToNat, fillS, wantG, vBox, Value.cells, one, putAt], by first | omega | (simp only [next_more, next_put] at *; omega), IsD.hi (IsD.weak (hD1.un ?_) (Nat.zero_le _)) (by first | omega | (simp only [next_more, next_put] at *; omega))⟩, ⟨by simp only [c_seq, RUNA, RUNB, Nat.reduceAdd, Nat.reduceMod, Nat.reduceDiv, Nat.reduceSub, Nat.reduceMul, Nat.reduceEqDiff, Nat.reduceBEq, Nat.reduceLeDiff, Int.reduceToNat, fillS, wantG, vBox, Value.cells, one, putAt], by first | omega | (simp only [next_more, next_put] at *; omega), IsD.hi (IsD.weak (hD2.un ?_) (Nat.zero_le _)) (by first | omega | (simp only [next_more, next_put] at *; omega))⟩, ⟨by simp only [c_seq, RUNA, RUNB, Nat.reduceAdd, Nat.reduceMod, Nat.reduceDiv, Nat.reduceSub, Nat.reduceMul, Nat.reduceEqDiff, Nat.reduceBEq, Nat.reduceLeDiff, Int.reduceToNat, fillS, wantG, vBox, Value.cells, one, putAt], by first | omega | (simp only [next_more, next_put] at *; omega), IsD.hi (IsD.weak (hD3.un ?_) (Nat.zero_le _)) (by first | omega | (simp only [next_more, next_put] at *; omega))⟩⟩
      · repeat first | assumption | exact UN.refl _ _ _ | refine UN.more ?_ _ | refine UN.put ?_ (by omega) _ | refine UN.ex (by assumption) ?_ (by first | omega | (simp only [next_more, next_put]; omega)) | refine UN.exb (by assumption) ?_ (by first | omega | (simp only [next_more, next_put]; omega)) (by omega)
      · repeat first | assumption | exact UN.refl _ _ _ | refine UN.more ?_ _ | refine UN.put ?_ (by omega) _ | refine UN.ex (by assumption) ?_ (by first | omega | (simp only [next_more, next_put]; omega)) | refine UN.exb (by assumption) ?_ (by first | omega | (simp only [next_more, next_put]; omega)) (by omega)
      · repeat first | assumption | exact UN.refl _ _ _ | refine UN.more ?_ _ | refine UN.put ?_ (by omega) _ | refine UN.ex (by assumption) ?_ (by first | omega | (simp only [next_more, next_put]; omega)) | refine UN.exb (by assumption) ?_ (by first | omega | (simp only [next_more, next_put]; omega)) (by omega)
  clear hD1 hD2 hD3 hS1 hS2 hS3 hE1 hE2 hE3 hF1 hF2 hF3
  rintro S τ9 ⟨j, z1, z6, z7, z8, hF9, hA, hB, hC⟩
  have hA0 := hA.lt
  have hB0 := hB.lt
  have hC0 := hC.lt
  have qA : ∀ j, ¬ σ.next = τ9.next + j := fun j => by omega
  refine wpx_seq ?_
  simp only [List.append_eq, List.cons_append, List.nil_append]
  refine d_go (ms := [0, 0, 0, 7, 0, 0, 0, 127, 255, 511, 1023, 2047, 1023, 8191, 16383, 32767, 65535, 131071, 131071, 131071, 1048575, 2097151, 131071, 131071, 131071, 29491199, 67108863, 134217727, 268435455, 536870911, 1073741823, 1073741823, 1073741823, 8589934591, 17179869183, 1073741823, 1073741823, 1073741823, 241591910399, 549755813887, 1099511627775, 2199023255551, 4398046511103, 8796093022207, 8796093022207, 35184372088831, 8796093022207, 8796093022207, 281474976710655, 562949953421311, 1125899906842623, 2251799813685247, 4503599627370495, 4503599627370495, 18014398509481983, 4503599627370495, 4503599627370495, 144115188075855871, 288230376151711743, 576460752303423487, 1152921504606846975, 2305843009213693951, 2305843009213693951, 9223372036854775807, 2305843009213693951, 2305843009213693951, 73786976294838206463, 147573952589676412927, 295147905179352825855, 590295810358705651711, 1180591620717411303423, 1180591620717411303423, 4722366482869645213695, 1180591620717411303423, 1180591620717411303423, 37778931862957161709567, 75557863725914323419135, 151115727451828646838271, 302231454903657293676543, 604462909807314587353087, 604462909807314587353087, 604462909807314587353087, 4835703278458516698824703, 604462909807314587353087, 604462909807314587353087, 604462909807314587353087, 77371252455336267181195263, 154742504910672534362390527, 309485009821345068724781055, 618970019642690137449562111]) (order := [0, 1, 2, 4, 5, 6, 3, 7, 8, 9, 10, 12, 11, 13, 14, 15, 16, 17, 18, 19, 20, 22, 23, 24, 25, 21, 26, 27, 28, 29, 30, 31, 32, 33, 35, 36, 37, 38, 34, 39, 40, 41, 42, 43, 44, 46, 47, 45, 48, 49, 50, 51, 52, 53, 55, 56, 54, 57, 58, 59, 60, 61, 62, 64, 65, 63, 66, 67, 68, 69, 70, 71, 73, 74, 72, 75, 76, 77, 78, 79, 80, 81, 83, 84, 85, 82, 86, 87, 88, 89]) (by kernel_rfl) (by kernel_rfl) (by kernel_rfl) ?_
  simp only [YRUNA, YRUNB, Nat.reduceShiftRight, bit, c_seq, RUNA, RUNB, Nat.reduceAdd, Nat.reduceMod, Nat.reduceDiv, Nat.reduceSub, Nat.reduceMul, Nat.reduceEqDiff, Nat.reduceBEq, Nat.reduceLeDiff, Int.reduceToNat, fillS, wantG, vBox, Value.cells, one, putAt, TYA, z1, z6, z7, z8, n_eqb Try.underlying4, bs68_2, bs68_3, qA, hA.row, hB.row, hC.row]
  refine wpc_dgen (fun S => S.at 1 = .int .i64 j ∧ S.at 6 = .pointer (some ⟨σ.next + 13, 0, none⟩) ∧ S.at 7 = .pointer (some ⟨σ.next + 14, 0, none⟩) ∧ S.at 8 = .pointer (some ⟨σ.next + 15, 0, none⟩) ∧ S.at 31 = .agg #[.slice o1 k1 c1, .int .i64 i1] ∧ S.at 32 = .agg #[.slice o2 k2 c2, .int .i64 i2] ∧ S.at 33 = .agg #[.slice o3 k3 c3, .int .i64 i3] ∧ S.at 35 = .agg #[.slice o1 k1 c1, .int .i64 i1] ∧ S.at 36 = .agg #[.slice o2 k2 c2, .int .i64 i2] ∧ S.at 37 = .agg #[.slice o3 k3 c3, .int .i64 i3]) ?_ ?_
  · simp only [c_seq, RUNA, RUNB, Nat.reduceAdd, Nat.reduceMod, Nat.reduceDiv, Nat.reduceSub, Nat.reduceMul, Nat.reduceEqDiff, Nat.reduceBEq, Nat.reduceLeDiff, Int.reduceToNat, fillS, wantG, vBox, Value.cells, one, putAt, z1, z6, z7, z8]
  clear z1 z6 z7 z8
  rintro S ⟨z1, z6, z7, z8, z31, z32, z33, z35, z36, z37⟩
  have x1 : EX τ9 (τ9.more 90) := (EX.refl τ9).more 90
  refine wpc_mono (Ite_spec (hA.mono x1).is (hB.mono x1).is (hC.mono x1).is (x1.fr hF9)) ?_
  rintro r σ1' ⟨hD1, hE1⟩
  obtain ⟨p1, q1, u1, w1, rfl⟩ := hD1.open
  have e1 : EX τ9 σ1' := EX.trans x1 hE1
  have g1 : τ9.next + 90 ≤ σ1'.next := Nat.le_trans (Nat.le_refl (τ9.next + 90)) hE1.next
  have d34 := hD1.weak (Nat.le_refl (τ9.next + 90))
  simp only [YRUNA, YRUNB, Nat.reduceShiftRight, bit, c_seq, RUNA, RUNB, Nat.reduceAdd, Nat.reduceMod, Nat.reduceDiv, Nat.reduceSub, Nat.reduceMul, Nat.reduceEqDiff, Nat.reduceBEq, Nat.reduceLeDiff, Int.reduceToNat, fillS, wantG, vBox, Value.cells, one, putAt, TYA, z1, z6, z7, z8, z31, z32, z33, z35, z36, z37, n_eqb Try.underlying4, bs68_2, bs68_3, qA, (hA.mono e1).row, (hB.mono e1).row, (hC.mono e1).row]
  refine wpc_dgen (fun S => S.at 1 = .int .i64 j ∧ S.at 6 = .pointer (some ⟨σ.next + 13, 0, none⟩) ∧ S.at 7 = .pointer (some ⟨σ.next + 14, 0, none⟩) ∧ S.at 8 = .pointer (some ⟨σ.next + 15, 0, none⟩) ∧ S.at 34 = .agg #[.slice p1 q1 u1, .int .i64 w1] ∧ S.at 35 = .agg #[.slice o1 k1 c1, .int .i64 i1] ∧ S.at 36 = .agg #[.slice o2 k2 c2, .int .i64 i2] ∧ S.at 37 = .agg #[.slice o3 k3 c3, .int .i64 i3]) ?_ ?_
  · simp only [c_seq, RUNA, RUNB, Nat.reduceAdd, Nat.reduceMod, Nat.reduceDiv, Nat.reduceSub, Nat.reduceMul, Nat.reduceEqDiff, Nat.reduceBEq, Nat.reduceLeDiff, Int.reduceToNat, fillS, wantG, vBox, Value.cells, one, putAt, z1, z6, z7, z8, z31, z32, z33, z35, z36, z37]
  clear z1 z6 z7 z8 z31 z32 z33 z35 z36 z37
  rintro S ⟨z1, z6, z7, z8, z34, z35, z36, z37⟩
  have x2 : EX τ9 σ1' := e1
  refine wpc_mono (refIte_spec (hA.mono x2).is (hB.mono x2).is (hC.mono x2).is (x2.fr hF9)) ?_
  rintro r σ2' ⟨hD2, hE2⟩
  obtain ⟨p2, q2, u2, w2, rfl⟩ := hD2.open
  have e2 : EX τ9 σ2' := EX.trans x2 hE2
  have g2 : τ9.next + 90 ≤ σ2'.next := Nat.le_trans g1 hE2.next
  have d34 := d34.ex hE2
  have d38 := hD2.weak g1
  simp only [YRUNA, YRUNB, Nat.reduceShiftRight, bit, c_seq, RUNA, RUNB, Nat.reduceAdd, Nat.reduceMod, Nat.reduceDiv, Nat.reduceSub, Nat.reduceMul, Nat.reduceEqDiff, Nat.reduceBEq, Nat.reduceLeDiff, Int.reduceToNat, fillS, wantG, vBox, Value.cells, one, putAt, TYA, z1, z6, z7, z8, z34, z35, z36, z37, n_eqb Try.underlying4, bs68_2, bs68_3, qA, (hA.mono e2).row, (hB.mono e2).row, (hC.mono e2).row]
  refine wpc_dgen (fun S => S.at 1 = .int .i64 j ∧ S.at 6 = .pointer (some ⟨σ.next + 13, 0, none⟩) ∧ S.at 7 = .pointer (some ⟨σ.next + 14, 0, none⟩) ∧ S.at 8 = .pointer (some ⟨σ.next + 15, 0, none⟩) ∧ S.at 34 = .agg #[.slice p1 q1 u1, .int .i64 w1] ∧ S.at 38 = .agg #[.slice p2 q2 u2, .int .i64 w2]) ?_ ?_
  · simp only [c_seq, RUNA, RUNB, Nat.reduceAdd, Nat.reduceMod, Nat.reduceDiv, Nat.reduceSub, Nat.reduceMul, Nat.reduceEqDiff, Nat.reduceBEq, Nat.reduceLeDiff, Int.reduceToNat, fillS, wantG, vBox, Value.cells, one, putAt, z1, z6, z7, z8, z34, z35, z36, z37]
  clear z1 z6 z7 z8 z34 z35 z36 z37
  rintro S ⟨z1, z6, z7, z8, z34, z38⟩
  have x3 : EX τ9 σ2' := e2
  refine wpc_mono (Same_is (d34.weak (Nat.zero_le _)) (d38.weak (Nat.zero_le _)) (fun f => rfl)) ?_
  rintro r σ3' ⟨rfl, hE3⟩
  have e3 : EX τ9 σ3' := EX.trans x3 hE3
  have g3 : τ9.next + 90 ≤ σ3'.next := Nat.le_trans g2 hE3.next
  have d34 := d34.ex hE3
  have d38 := d38.ex hE3
  simp only [YRUNA, YRUNB, Nat.reduceShiftRight, bit, c_seq, RUNA, RUNB, Nat.reduceAdd, Nat.reduceMod, Nat.reduceDiv, Nat.reduceSub, Nat.reduceMul, Nat.reduceEqDiff, Nat.reduceBEq, Nat.reduceLeDiff, Int.reduceToNat, fillS, wantG, vBox, Value.cells, one, putAt, TYA, z1, z6, z7, z8, z34, z38, n_eqb Try.underlying4, bs68_2, bs68_3, qA, (hA.mono e3).row, (hB.mono e3).row, (hC.mono e3).row]
  refine wpc_dgen (fun S => S.at 1 = .int .i64 j ∧ S.at 6 = .pointer (some ⟨σ.next + 13, 0, none⟩) ∧ S.at 7 = .pointer (some ⟨σ.next + 14, 0, none⟩) ∧ S.at 8 = .pointer (some ⟨σ.next + 15, 0, none⟩) ∧ S.at 40 = .bool true ∧ S.at 41 = .agg #[.slice o1 k1 c1, .int .i64 i1] ∧ S.at 43 = .agg #[.slice o1 k1 c1, .int .i64 i1]) ?_ ?_
  · simp only [c_seq, RUNA, RUNB, Nat.reduceAdd, Nat.reduceMod, Nat.reduceDiv, Nat.reduceSub, Nat.reduceMul, Nat.reduceEqDiff, Nat.reduceBEq, Nat.reduceLeDiff, Int.reduceToNat, fillS, wantG, vBox, Value.cells, one, putAt, z1, z6, z7, z8, z34, z38]
  clear z1 z6 z7 z8 z34 z38
  rintro S ⟨z1, z6, z7, z8, z40, z41, z43⟩
  have x4 : EX τ9 σ3' := e3
  refine wpc_mono (Not_spec (hA.mono x4).is (x4.fr hF9)) ?_
  rintro r σ4' ⟨hD4, hE4⟩
  obtain ⟨p4, q4, u4, w4, rfl⟩ := hD4.open
  have e4 : EX τ9 σ4' := EX.trans x4 hE4
  have g4 : τ9.next + 90 ≤ σ4'.next := Nat.le_trans g3 hE4.next
  have d42 := hD4.weak g3
  simp only [YRUNA, YRUNB, Nat.reduceShiftRight, bit, c_seq, RUNA, RUNB, Nat.reduceAdd, Nat.reduceMod, Nat.reduceDiv, Nat.reduceSub, Nat.reduceMul, Nat.reduceEqDiff, Nat.reduceBEq, Nat.reduceLeDiff, Int.reduceToNat, fillS, wantG, vBox, Value.cells, one, putAt, TYA, z1, z6, z7, z8, z40, z41, z43, n_eqb Try.underlying4, bs68_2, bs68_3, qA, (hA.mono e4).row, (hB.mono e4).row, (hC.mono e4).row]
  refine wpc_dgen (fun S => S.at 1 = .int .i64 j ∧ S.at 6 = .pointer (some ⟨σ.next + 13, 0, none⟩) ∧ S.at 7 = .pointer (some ⟨σ.next + 14, 0, none⟩) ∧ S.at 8 = .pointer (some ⟨σ.next + 15, 0, none⟩) ∧ S.at 40 = .bool true ∧ S.at 42 = .agg #[.slice p4 q4 u4, .int .i64 w4] ∧ S.at 43 = .agg #[.slice o1 k1 c1, .int .i64 i1]) ?_ ?_
  · simp only [c_seq, RUNA, RUNB, Nat.reduceAdd, Nat.reduceMod, Nat.reduceDiv, Nat.reduceSub, Nat.reduceMul, Nat.reduceEqDiff, Nat.reduceBEq, Nat.reduceLeDiff, Int.reduceToNat, fillS, wantG, vBox, Value.cells, one, putAt, z1, z6, z7, z8, z40, z41, z43]
  clear z1 z6 z7 z8 z40 z41 z43
  rintro S ⟨z1, z6, z7, z8, z40, z42, z43⟩
  have x5 : EX τ9 σ4' := e4
  refine wpc_mono (refNot_spec (hA.mono x5).is (Nat.le_refl _) (x5.fr hF9)) ?_
  rintro r σ5' ⟨hD5, hE5⟩
  obtain ⟨p5, q5, u5, w5, rfl⟩ := hD5.open
  have e5 : EX τ9 σ5' := EX.trans x5 hE5
  have g5 : τ9.next + 90 ≤ σ5'.next := Nat.le_trans g4 hE5.next
  have d42 := d42.ex hE5
  have d44 := hD5.weak g4
  simp only [YRUNA, YRUNB, Nat.reduceShiftRight, bit, c_seq, RUNA, RUNB, Nat.reduceAdd, Nat.reduceMod, Nat.reduceDiv, Nat.reduceSub, Nat.reduceMul, Nat.reduceEqDiff, Nat.reduceBEq, Nat.reduceLeDiff, Int.reduceToNat, fillS, wantG, vBox, Value.cells, one, putAt, TYA, z1, z6, z7, z8, z40, z42, z43, n_eqb Try.underlying4, bs68_2, bs68_3, qA, (hA.mono e5).row, (hB.mono e5).row, (hC.mono e5).row]
  refine wpc_dgen (fun S => S.at 1 = .int .i64 j ∧ S.at 6 = .pointer (some ⟨σ.next + 13, 0, none⟩) ∧ S.at 7 = .pointer (some ⟨σ.next + 14, 0, none⟩) ∧ S.at 8 = .pointer (some ⟨σ.next + 15, 0, none⟩) ∧ S.at 40 = .bool true ∧ S.at 42 = .agg #[.slice p4 q4 u4, .int .i64 w4] ∧ S.at 44 = .agg #[.slice p5 q5 u5, .int .i64 w5]) ?_ ?_
  · simp only [c_seq, RUNA, RUNB, Nat.reduceAdd, Nat.reduceMod, Nat.reduceDiv, Nat.reduceSub, Nat.reduceMul, Nat.reduceEqDiff, Nat.reduceBEq, Nat.reduceLeDiff, Int.reduceToNat, fillS, wantG, vBox, Value.cells, one, putAt, z1, z6, z7, z8, z40, z42, z43]
  clear z1 z6 z7 z8 z40 z42 z43
  rintro S ⟨z1, z6, z7, z8, z40, z42, z44⟩
  have x6 : EX τ9 σ5' := e5
  refine wpc_mono (Same_is (d42.weak (Nat.zero_le _)) (d44.weak (Nat.zero_le _)) (fun f => rfl)) ?_
  rintro r σ6' ⟨rfl, hE6⟩
  have e6 : EX τ9 σ6' := EX.trans x6 hE6
  have g6 : τ9.next + 90 ≤ σ6'.next := Nat.le_trans g5 hE6.next
  have d42 := d42.ex hE6
  have d44 := d44.ex hE6
  simp only [YRUNA, YRUNB, Nat.reduceShiftRight, bit, c_seq, RUNA, RUNB, Nat.reduceAdd, Nat.reduceMod, Nat.reduceDiv, Nat.reduceSub, Nat.reduceMul, Nat.reduceEqDiff, Nat.reduceBEq, Nat.reduceLeDiff, Int.reduceToNat, fillS, wantG, vBox, Value.cells, one, putAt, TYA, z1, z6, z7, z8, z40, z42, z44, n_eqb Try.underlying4, bs68_2, bs68_3, qA, (hA.mono e6).row, (hB.mono e6).row, (hC.mono e6).row]
  refine wpc_dgen (fun S => S.at 1 = .int .i64 j ∧ S.at 6 = .pointer (some ⟨σ.next + 13, 0, none⟩) ∧ S.at 7 = .pointer (some ⟨σ.next + 14, 0, none⟩) ∧ S.at 8 = .pointer (some ⟨σ.next + 15, 0, none⟩) ∧ S.at 47 = .bool true ∧ S.at 51 = .slice (some ⟨τ9.next + 20, 0, none⟩) 3 3 ∧ S.at 56 = .slice (some ⟨τ9.next + 25, 0, none⟩) 3 3) ?_ ?_
  · simp only [c_seq, RUNA, RUNB, Nat.reduceAdd, Nat.reduceMod, Nat.reduceDiv, Nat.reduceSub, Nat.reduceMul, Nat.reduceEqDiff, Nat.reduceBEq, Nat.reduceLeDiff, Int.reduceToNat, fillS, wantG, vBox, Value.cells, one, putAt, z1, z6, z7, z8, z40, z42, z44]
  clear z1 z6 z7 z8 z40 z42 z44
  rintro S ⟨z1, z6, z7, z8, z47, z51, z56⟩
  have x7 : EX τ9 ((σ6'.put (τ9.next + 20) (.cells [.slice o1 k1 c1, .int .i64 i1, .slice o2 k2 c2, .int .i64 i2, .slice o3 k3 c3, .int .i64 i3] (rowMeta 2))).put (τ9.next + 25) (.cells [.slice o1 k1 c1, .int .i64 i1, .slice o2 k2 c2, .int .i64 i2, .slice o3 k3 c3, .int .i64 i3] (rowMeta 2))) := (EXn.put (EXn.put e6 (by omega) _) (by omega) _)
  refine wpc_mono (And_spec (DL3 (id := τ9.next + 20) (m := rowMeta 2) (by first | omega | (simp only [next_put]; omega)) (by simp only [c_seq, RUNA, RUNB, Nat.reduceAdd, Nat.reduceMod, Nat.reduceDiv, Nat.reduceSub, Nat.reduceMul, Nat.reduceEqDiff, Nat.reduceBEq, Nat.reduceLeDiff, Int.reduceToNat, fillS, wantG, vBox, Value.cells, one, putAt]) (hA.mono x7).is (hB.mono x7).is (hC.mono x7).is) (by simp) (x7.fr hF9)) ?_
  rintro r σ7' ⟨hD7, hE7⟩
  obtain ⟨p7, q7, u7, w7, rfl⟩ := hD7.open
  have e7 : EX τ9 σ7' := EX.trans x7 hE7
  have g7 : τ9.next + 90 ≤ σ7'.next := Nat.le_trans g6 hE7.next
  have G20 : σ7'.get (τ9.next + 20) = some (.cells [.slice o1 k1 c1, .int .i64 i1, .slice o2 k2 c2, .int .i64 i2, .slice o3 k3 c3, .int .i64 i3] (rowMeta 2)) := (hE7.get _ (by first | omega | (simp only [next_put]; omega))).trans (by rw [St.get_put, if_neg (by omega), St.get_put, if_pos rfl])
  have G25 : σ7'.get (τ9.next + 25) = some (.cells [.slice o1 k1 c1, .int .i64 i1, .slice o2 k2 c2, .int .i64 i2, .slice o3 k3 c3, .int .i64 i3] (rowMeta 2)) := (hE7.get _ (by first | omega | (simp only [next_put]; omega))).trans (by rw [St.get_put, if_pos rfl])
  have d52 := hD7.weak g6
  simp only [YRUNA, YRUNB, Nat.reduceShiftRight, bit, c_seq, RUNA, RUNB, Nat.reduceAdd, Nat.reduceMod, Nat.reduceDiv, Nat.reduceSub, Nat.reduceMul, Nat.reduceEqDiff, Nat.reduceBEq, Nat.reduceLeDiff, Int.reduceToNat, fillS, wantG, vBox, Value.cells, one, putAt, TYA, z1, z6, z7, z8, z47, z51, z56, n_eqb Try.underlying4, bs68_2, bs68_3, qA, (hA.mono e7).row, (hB.mono e7).row, (hC.mono e7).row, G20, G25]
  refine wpc_dgen (fun S => S.at 1 = .int .i64 j ∧ S.at 6 = .pointer (some ⟨σ.next + 13, 0, none⟩) ∧ S.at 7 = .pointer (some ⟨σ.next + 14, 0, none⟩) ∧ S.at 8 = .pointer (some ⟨σ.next + 15, 0, none⟩) ∧ S.at 47 = .bool true ∧ S.at 52 = .agg #[.slice p7 q7 u7, .int .i64 w7] ∧ S.at 56 = .slice (some ⟨τ9.next + 25, 0, none⟩) 3 3) ?_ ?_
  · simp only [c_seq, RUNA, RUNB, Nat.reduceAdd, Nat.reduceMod, Nat.reduceDiv, Nat.reduceSub, Nat.reduceMul, Nat.reduceEqDiff, Nat.reduceBEq, Nat.reduceLeDiff, Int.reduceToNat, fillS, wantG, vBox, Value.cells, one, putAt, z1, z6, z7, z8, z47, z51, z56]
  clear z1 z6 z7 z8 z47 z51 z56
  rintro S ⟨z1, z6, z7, z8, z47, z52, z56⟩
  have x8 : EX τ9 σ7' := e7
  refine wpc_mono (refAnd_spec (DL3 (id := τ9.next + 25) (m := rowMeta 2) (by first | omega | (simp only [next_put]; omega)) (by rw [row_of_g G25]) (hA.mono x8).is (hB.mono x8).is (hC.mono x8).is) (by simp) (x8.fr hF9)) ?_
  rintro r σ8' ⟨hD8, hE8⟩
  obtain ⟨p8, q8, u8, w8, rfl⟩ := hD8.open
  have e8 : EX τ9 σ8' := EX.trans x8 hE8
  have g8 : τ9.next + 90 ≤ σ8'.next := Nat.le_trans g7 hE8.next
  have d52 := d52.ex hE8
  have G25 : σ8'.get (τ9.next + 25) = some (.cells [.slice o1 k1 c1, .int .i64 i1, .slice o2 k2 c2, .int .i64 i2, .slice o3 k3 c3, .int .i64 i3] (rowMeta 2)) := (hE8.get _ (by first | omega | (simp only [next_put]; omega))).trans G25
  have d57 := hD8.weak g7
  simp only [YRUNA, YRUNB, Nat.reduceShiftRight, bit, c_seq, RUNA, RUNB, Nat.reduceAdd, Nat.reduceMod, Nat.reduceDiv, Nat.reduceSub, Nat.reduceMul, Nat.reduceEqDiff, Nat.reduceBEq, Nat.reduceLeDiff, Int.reduceToNat, fillS, wantG, vBox, Value.cells, one, putAt, TYA, z1, z6, z7, z8, z47, z52, z56, n_eqb Try.underlying4, bs68_2, bs68_3, qA, (hA.mono e8).row, (hB.mono e8).row, (hC.mono e8).row, G25]
  refine wpc_dgen (fun S => S.at 1 = .int .i64 j ∧ S.at 6 = .pointer (some ⟨σ.next + 13, 0, none⟩) ∧ S.at 7 = .pointer (some ⟨σ.next + 14, 0, none⟩) ∧ S.at 8 = .pointer (some ⟨σ.next + 15, 0, none⟩) ∧ S.at 47 = .bool true ∧ S.at 52 = .agg #[.slice p7 q7 u7, .int .i64 w7] ∧ S.at 57 = .agg #[.slice p8 q8 u8, .int .i64 w8]) ?_ ?_
  · simp only [c_seq, RUNA, RUNB, Nat.reduceAdd, Nat.reduceMod, Nat.reduceDiv, Nat.reduceSub, Nat.reduceMul, Nat.reduceEqDiff, Nat.reduceBEq, Nat.reduceLeDiff, Int.reduceToNat, fillS, wantG, vBox, Value.cells, one, putAt, z1, z6, z7, z8, z47, z52, z56]
  clear z1 z6 z7 z8 z47 z52 z56
  rintro S ⟨z1, z6, z7, z8, z47, z52, z57⟩
  have x9 : EX τ9 σ8' := e8
  refine wpc_mono (Same_is (d52.weak (Nat.zero_le _)) (d57.weak (Nat.zero_le _)) (fun f => rfl)) ?_
  rintro r σ9' ⟨rfl, hE9⟩
  have e9 : EX τ9 σ9' := EX.trans x9 hE9
  have g9 : τ9.next + 90 ≤ σ9'.next := Nat.le_trans g8 hE9.next
  have d52 := d52.ex hE9
  have d57 := d57.ex hE9
  simp only [YRUNA, YRUNB, Nat.reduceShiftRight, bit, c_seq, RUNA, RUNB, Nat.reduceAdd, Nat.reduceMod, Nat.reduceDiv, Nat.reduceSub, Nat.reduceMul, Nat.reduceEqDiff, Nat.reduceBEq, Nat.reduceLeDiff, Int.reduceToNat, fillS, wantG, vBox, Value.cells, one, putAt, TYA, z1, z6, z7, z8, z47, z52, z57, n_eqb Try.underlying4, bs68_2, bs68_3, qA, (hA.mono e9).row, (hB.mono e9).row, (hC.mono e9).row]
  refine wpc_dgen (fun S => S.at 1 = .int .i64 j ∧ S.at 6 = .pointer (some ⟨σ.next + 13, 0, none⟩) ∧ S.at 7 = .pointer (some ⟨σ.next + 14, 0, none⟩) ∧ S.at 60 = .bool true ∧ S.at 64 = .slice (some ⟨τ9.next + 33, 0, none⟩) 3 3 ∧ S.at 69 = .slice (some ⟨τ9.next + 38, 0, none⟩) 3 3) ?_ ?_
  · simp only [c_seq, RUNA, RUNB, Nat.reduceAdd, Nat.reduceMod, Nat.reduceDiv, Nat.reduceSub, Nat.reduceMul, Nat.reduceEqDiff, Nat.reduceBEq, Nat.reduceLeDiff, Int.reduceToNat, fillS, wantG, vBox, Value.cells, one, putAt, z1, z6, z7, z8, z47, z52, z57]
  clear z1 z6 z7 z8 z47 z52 z57
  rintro S ⟨z1, z6, z7, z60, z64, z69⟩
  have x10 : EX τ9 ((σ9'.put (τ9.next + 33) (.cells [.slice o1 k1 c1, .int .i64 i1, .slice o2 k2 c2, .int .i64 i2, .slice o3 k3 c3, .int .i64 i3] (rowMeta 2))).put (τ9.next + 38) (.cells [.slice o1 k1 c1, .int .i64 i1, .slice o2 k2 c2, .int .i64 i2, .slice o3 k3 c3, .int .i64 i3] (rowMeta 2))) := (EXn.put (EXn.put e9 (by omega) _) (by omega) _)
  refine wpc_mono (Or_spec (DL3 (id := τ9.next + 33) (m := rowMeta 2) (by first | omega | (simp only [next_put]; omega)) (by simp only [c_seq, RUNA, RUNB, Nat.reduceAdd, Nat.reduceMod, Nat.reduceDiv, Nat.reduceSub, Nat.reduceMul, Nat.reduceEqDiff, Nat.reduceBEq, Nat.reduceLeDiff, Int.reduceToNat, fillS, wantG, vBox, Value.cells, one, putAt]) (hA.mono x10).is (hB.mono x10).is (hC.mono x10).is) (by simp) (x10.fr hF9)) ?_
  rintro r σ10' ⟨hD10, hE10⟩
  obtain ⟨p10, q10, u10, w10, rfl⟩ := hD10.open
  have e10 : EX τ9 σ10' := EX.trans x10 hE10
  have g10 : τ9.next + 90 ≤ σ10'.next := Nat.le_trans g9 hE10.next
  have G33 : σ10'.get (τ9.next + 33) = some (.cells [.slice o1 k1 c1, .int .i64 i1, .slice o2 k2 c2, .int .i64 i2, .slice o3 k3 c3, .int .i64 i3] (rowMeta 2)) := (hE10.get _ (by first | omega | (simp only [next_put]; omega))).trans (by rw [St.get_put, if_neg (by omega), St.get_put, if_pos rfl])
  have G38 : σ10'.get (τ9.next + 38) = some (.cells [.slice o1 k1 c1, .int .i64 i1, .slice o2 k2 c2, .int .i64 i2, .slice o3 k3 c3, .int .i64 i3] (rowMeta 2)) := (hE10.get _ (by first | omega | (simp only [next_put]; omega))).trans (by rw [St.get_put, if_pos rfl])
  have d65 := hD10.weak g9
  simp only [YRUNA, YRUNB, Nat.reduceShiftRight, bit, c_seq, RUNA, RUNB, Nat.reduceAdd, Nat.reduceMod, Nat.reduceDiv, Nat.reduceSub, Nat.reduceMul, Nat.reduceEqDiff, Nat.reduceBEq, Nat.reduceLeDiff, Int.reduceToNat, fillS, wantG, vBox, Value.cells, one, putAt, TYA, z1, z6, z7, z60, z64, z69, n_eqb Try.underlying4, bs68_2, bs68_3, qA, (hA.mono e10).row, (hB.mono e10).row, (hC.mono e10).row, G33, G38]
  refine wpc_dgen (fun S => S.at 1 = .int .i64 j ∧ S.at 6 = .pointer (some ⟨σ.next + 13, 0, none⟩) ∧ S.at 7 = .pointer (some ⟨σ.next + 14, 0, none⟩) ∧ S.at 60 = .bool true ∧ S.at 65 = .agg #[.slice p10 q10 u10, .int .i64 w10] ∧ S.at 69 = .slice (some ⟨τ9.next + 38, 0, none⟩) 3 3) ?_ ?_
  · simp only [c_seq, RUNA, RUNB, Nat.reduceAdd, Nat.reduceMod, Nat.reduceDiv, Nat.reduceSub, Nat.reduceMul, Nat.reduceEqDiff, Nat.reduceBEq, Nat.reduceLeDiff, Int.reduceToNat, fillS, wantG, vBox, Value.cells, one, putAt, z1, z6, z7, z60, z64, z69]
  clear z1 z6 z7 z60 z64 z69
  rintro S ⟨z1, z6, z7, z60, z65, z69⟩
  have x11 : EX τ9 σ10' := e10
  refine wpc_mono (refOr_spec (DL3 (id := τ9.next + 38) (m := rowMeta 2) (by first | omega | (simp only [next_put]; omega)) (by rw [row_of_g G38]) (hA.mono x11).is (hB.mono x11).is (hC.mono x11).is) (by simp) (x11.fr hF9)) ?_
  rintro r σ11' ⟨hD11, hE11⟩
  obtain ⟨p11, q11, u11, w11, rfl⟩ := hD11.open
  have e11 : EX τ9 σ11' := EX.trans x11 hE11
  have g11 : τ9.next + 90 ≤ σ11'.next := Nat.le_trans g10 hE11.next
  have d65 := d65.ex hE11
  have G38 : σ11'.get (τ9.next + 38) = some (.cells [.slice o1 k1 c1, .int .i64 i1, .slice o2 k2 c2, .int .i64 i2, .slice o3 k3 c3, .int .i64 i3] (rowMeta 2)) := (hE11.get _ (by first | omega | (simp only [next_put]; omega))).trans G38
  have d70 := hD11.weak g10
  simp only [YRUNA, YRUNB, Nat.reduceShiftRight, bit, c_seq, RUNA, RUNB, Nat.reduceAdd, Nat.reduceMod, Nat.reduceDiv, Nat.reduceSub, Nat.reduceMul, Nat.reduceEqDiff, Nat.reduceBEq, Nat.reduceLeDiff, Int.reduceToNat, fillS, wantG, vBox, Value.cells, one, putAt, TYA, z1, z6, z7, z60, z65, z69, n_eqb Try.underlying4, bs68_2, bs68_3, qA, (hA.mono e11).row, (hB.mono e11).row, (hC.mono e11).row, G38]
  refine wpc_dgen (fun S => S.at 1 = .int .i64 j ∧ S.at 6 = .pointer (some ⟨σ.next + 13, 0, none⟩) ∧ S.at 7 = .pointer (some ⟨σ.next + 14, 0, none⟩) ∧ S.at 60 = .bool true ∧ S.at 65 = .agg #[.slice p10 q10 u10, .int .i64 w10] ∧ S.at 70 = .agg #[.slice p11 q11 u11, .int .i64 w11]) ?_ ?_
  · simp only [c_seq, RUNA, RUNB, Nat.reduceAdd, Nat.reduceMod, Nat.reduceDiv, Nat.reduceSub, Nat.reduceMul, Nat.reduceEqDiff, Nat.reduceBEq, Nat.reduceLeDiff, Int.reduceToNat, fillS, wantG, vBox, Value.cells, one, putAt, z1, z6, z7, z60, z65, z69]
  clear z1 z6 z7 z60 z65 z69
  rintro S ⟨z1, z6, z7, z60, z65, z70⟩
  have x12 : EX τ9 σ11' := e11
  refine wpc_mono (Same_is (d65.weak (Nat.zero_le _)) (d70.weak (Nat.zero_le _)) (fun f => rfl)) ?_
  rintro r σ12' ⟨rfl, hE12⟩
  have e12 : EX τ9 σ12' := EX.trans x12 hE12
  have g12 : τ9.next + 90 ≤ σ12'.next := Nat.le_trans g11 hE12.next
  have d65 := d65.ex hE12
  have d70 := d70.ex hE12
  simp only [YRUNA, YRUNB, Nat.reduceShiftRight, bit, c_seq, RUNA, RUNB, Nat.reduceAdd, Nat.reduceMod, Nat.reduceDiv, Nat.reduceSub, Nat.reduceMul, Nat.reduceEqDiff, Nat.reduceBEq, Nat.reduceLeDiff, Int.reduceToNat, fillS, wantG, vBox, Value.cells, one, putAt, TYA, z1, z6, z7, z60, z65, z70, n_eqb Try.underlying4, bs68_2, bs68_3, qA, (hA.mono e12).row, (hB.mono e12).row, (hC.mono e12).row]
  refine wpc_dgen (fun S => S.at 1 = .int .i64 j ∧ S.at 6 = .pointer (some ⟨σ.next + 13, 0, none⟩) ∧ S.at 7 = .pointer (some ⟨σ.next + 14, 0, none⟩) ∧ S.at 73 = .bool true ∧ S.at 74 = .agg #[.slice o1 k1 c1, .int .i64 i1] ∧ S.at 75 = .agg #[.slice o2 k2 c2, .int .i64 i2] ∧ S.at 77 = .agg #[.slice o1 k1 c1, .int .i64 i1] ∧ S.at 78 = .agg #[.slice o2 k2 c2, .int .i64 i2]) ?_ ?_
  · simp only [c_seq, RUNA, RUNB, Nat.reduceAdd, Nat.reduceMod, Nat.reduceDiv, Nat.reduceSub, Nat.reduceMul, Nat.reduceEqDiff, Nat.reduceBEq, Nat.reduceLeDiff, Int.reduceToNat, fillS, wantG, vBox, Value.cells, one, putAt, z1, z6, z7, z60, z65, z70]
  clear z1 z6 z7 z60 z65 z70
  rintro S ⟨z1, z6, z7, z73, z74, z75, z77, z78⟩
  have x13 : EX τ9 σ12' := e12
  refine wpc_mono (Xor_spec (hA.mono x13).is (hB.mono x13).is (x13.fr hF9)) ?_
  rintro r σ13' ⟨hD13, hE13⟩
  obtain ⟨p13, q13, u13, w13, rfl⟩ := hD13.open
  have e13 : EX τ9 σ13' := EX.trans x13 hE13
  have g13 : τ9.next + 90 ≤ σ13'.next := Nat.le_trans g12 hE13.next
  have d76 := hD13.weak g12
  simp only [YRUNA, YRUNB, Nat.reduceShiftRight, bit, c_seq, RUNA, RUNB, Nat.reduceAdd, Nat.reduceMod, Nat.reduceDiv, Nat.reduceSub, Nat.reduceMul, Nat.reduceEqDiff, Nat.reduceBEq, Nat.reduceLeDiff, Int.reduceToNat, fillS, wantG, vBox, Value.cells, one, putAt, TYA, z1, z6, z7, z73, z74, z75, z77, z78, n_eqb Try.underlying4, bs68_2, bs68_3, qA, (hA.mono e13).row, (hB.mono e13).row, (hC.mono e13).row]
  refine wpc_dgen (fun S => S.at 1 = .int .i64 j ∧ S.at 6 = .pointer (some ⟨σ.next + 13, 0, none⟩) ∧ S.at 7 = .pointer (some ⟨σ.next + 14, 0, none⟩) ∧ S.at 73 = .bool true ∧ S.at 76 = .agg #[.slice p13 q13 u13, .int .i64 w13] ∧ S.at 77 = .agg #[.slice o1 k1 c1, .int .i64 i1] ∧ S.at 78 = .agg #[.slice o2 k2 c2, .int .i64 i2]) ?_ ?_
  · simp only [c_seq, RUNA, RUNB, Nat.reduceAdd, Nat.reduceMod, Nat.reduceDiv, Nat.reduceSub, Nat.reduceMul, Nat.reduceEqDiff, Nat.reduceBEq, Nat.reduceLeDiff, Int.reduceToNat, fillS, wantG, vBox, Value.cells, one, putAt, z1, z6, z7, z73, z74, z75, z77, z78]
  clear z1 z6 z7 z73 z74 z75 z77 z78
  rintro S ⟨z1, z6, z7, z73, z76, z77, z78⟩
  have x14 : EX τ9 σ13' := e13
  refine wpc_mono (refXor_spec (hA.mono x14).is (hB.mono x14).is (x14.fr hF9)) ?_
  rintro r σ14' ⟨hD14, hE14⟩
  obtain ⟨p14, q14, u14, w14, rfl⟩ := hD14.open
  have e14 : EX τ9 σ14' := EX.trans x14 hE14
  have g14 : τ9.next + 90 ≤ σ14'.next := Nat.le_trans g13 hE14.next
  have d76 := d76.ex hE14
  have d79 := hD14.weak g13
  simp only [YRUNA, YRUNB, Nat.reduceShiftRight, bit, c_seq, RUNA, RUNB, Nat.reduceAdd, Nat.reduceMod, Nat.reduceDiv, Nat.reduceSub, Nat.reduceMul, Nat.reduceEqDiff, Nat.reduceBEq, Nat.reduceLeDiff, Int.reduceToNat, fillS, wantG, vBox, Value.cells, one, putAt, TYA, z1, z6, z7, z73, z76, z77, z78, n_eqb Try.underlying4, bs68_2, bs68_3, qA, (hA.mono e14).row, (hB.mono e14).row, (hC.mono e14).row]
  refine wpc_dgen (fun S => S.at 1 = .int .i64 j ∧ S.at 6 = .pointer (some ⟨σ.next + 13, 0, none⟩) ∧ S.at 7 = .pointer (some ⟨σ.next + 14, 0, none⟩) ∧ S.at 73 = .bool true ∧ S.at 76 = .agg #[.slice p13 q13 u13, .int .i64 w13] ∧ S.at 79 = .agg #[.slice p14 q14 u14, .int .i64 w14]) ?_ ?_
  · simp only [c_seq, RUNA, RUNB, Nat.reduceAdd, Nat.reduceMod, Nat.reduceDiv, Nat.reduceSub, Nat.reduceMul, Nat.reduceEqDiff, Nat.reduceBEq, Nat.reduceLeDiff, Int.reduceToNat, fillS, wantG, vBox, Value.cells, one, putAt, z1, z6, z7, z73, z76, z77, z78]
  clear z1 z6 z7 z73 z76 z77 z78
  rintro S ⟨z1, z6, z7, z73, z76, z79⟩
  have x15 : EX τ9 σ14' := e14
  refine wpc_mono (Same_is (d76.weak (Nat.zero_le _)) (d79.weak (Nat.zero_le _)) (fun f => rfl)) ?_
  rintro r σ15' ⟨rfl, hE15⟩
  have e15 : EX τ9 σ15' := EX.trans x15 hE15
  have g15 : τ9.next + 90 ≤ σ15'.next := Nat.le_trans g14 hE15.next
  have d76 := d76.ex hE15
  have d79 := d79.ex hE15
  simp only [YRUNA, YRUNB, Nat.reduceShiftRight, bit, c_seq, RUNA, RUNB, Nat.reduceAdd, Nat.reduceMod, Nat.reduceDiv, Nat.reduceSub, Nat.reduceMul, Nat.reduceEqDiff, Nat.reduceBEq, Nat.reduceLeDiff, Int.reduceToNat, fillS, wantG, vBox, Value.cells, one, putAt, TYA, z1, z6, z7, z73, z76, z79, n_eqb Try.underlying4, bs68_2, bs68_3, qA, (hA.mono e15).row, (hB.mono e15).row, (hC.mono e15).row]
  refine wpc_dgen (fun S => S.at 1 = .int .i64 j ∧ S.at 6 = .pointer (some ⟨σ.next + 13, 0, none⟩) ∧ S.at 7 = .pointer (some ⟨σ.next + 14, 0, none⟩) ∧ S.at 82 = .bool true ∧ S.at 83 = .agg #[.slice o1 k1 c1, .int .i64 i1] ∧ S.at 84 = .int .i64 j ∧ S.at 86 = .agg #[.slice o1 k1 c1, .int .i64 i1] ∧ S.at 87 = .int .i64 j) ?_ ?_
  · simp only [c_seq, RUNA, RUNB, Nat.reduceAdd, Nat.reduceMod, Nat.reduceDiv, Nat.reduceSub, Nat.reduceMul, Nat.reduceEqDiff, Nat.reduceBEq, Nat.reduceLeDiff, Int.reduceToNat, fillS, wantG, vBox, Value.cells, one, putAt, z1, z6, z7, z73, z76, z79]
  clear z1 z6 z7 z73 z76 z79
  rintro S ⟨z1, z6, z7, z82, z83, z84, z86, z87⟩
  have x16 : EX τ9 σ15' := e15
  refine wpc_mono (Restrict_spec (hA.mono x16).is (x16.fr hF9)) ?_
  rintro r σ16' ⟨hD16, hE16⟩
  obtain ⟨p16, q16, u16, w16, rfl⟩ := hD16.open
  have e16 : EX τ9 σ16' := EX.trans x16 hE16
  have g16 : τ9.next + 90 ≤ σ16'.next := Nat.le_trans g15 hE16.next
  have d85 := hD16.weak g15
  simp only [YRUNA, YRUNB, Nat.reduceShiftRight, bit, c_seq, RUNA, RUNB, Nat.reduceAdd, Nat.reduceMod, Nat.reduceDiv, Nat.reduceSub, Nat.reduceMul, Nat.reduceEqDiff, Nat.reduceBEq, Nat.reduceLeDiff, Int.reduceToNat, fillS, wantG, vBox, Value.cells, one, putAt, TYA, z1, z6, z7, z82, z83, z84, z86, z87, n_eqb Try.underlying4, bs68_2, bs68_3, qA, (hA.mono e16).row, (hB.mono e16).row, (hC.mono e16).row]
  refine wpc_dgen (fun S => S.at 1 = .int .i64 j ∧ S.at 6 = .pointer (some ⟨σ.next + 13, 0, none⟩) ∧ S.at 7 = .pointer (some ⟨σ.next + 14, 0, none⟩) ∧ S.at 82 = .bool true ∧ S.at 85 = .agg #[.slice p16 q16 u16, .int .i64 w16] ∧ S.at 86 = .agg #[.slice o1 k1 c1, .int .i64 i1] ∧ S.at 87 = .int .i64 j) ?_ ?_
  · simp only [c_seq, RUNA, RUNB, Nat.reduceAdd, Nat.reduceMod, Nat.reduceDiv, Nat.reduceSub, Nat.reduceMul, Nat.reduceEqDiff, Nat.reduceBEq, Nat.reduceLeDiff, Int.reduceToNat, fillS, wantG, vBox, Value.cells, one, putAt, z1, z6, z7, z82, z83, z84, z86, z87]
  clear z1 z6 z7 z82 z83 z84 z86 z87
  rintro S ⟨z1, z6, z7, z82, z85, z86, z87⟩
  have x17 : EX τ9 σ16' := e16
  refine wpc_mono (refRestrict_spec (hA.mono x17).is (x17.fr hF9)) ?_
  rintro r σ17' ⟨hD17, hE17⟩
  obtain ⟨p17, q17, u17, w17, rfl⟩ := hD17.open
  have e17 : EX τ9 σ17' := EX.trans x17 hE17
  have g17 : τ9.next + 90 ≤ σ17'.next := Nat.le_trans g16 hE17.next
  have d85 := d85.ex hE17
  have d88 := hD17
  simp only [YRUNA, YRUNB, Nat.reduceShiftRight, bit, c_seq, RUNA, RUNB, Nat.reduceAdd, Nat.reduceMod, Nat.reduceDiv, Nat.reduceSub, Nat.reduceMul, Nat.reduceEqDiff, Nat.reduceBEq, Nat.reduceLeDiff, Int.reduceToNat, fillS, wantG, vBox, Value.cells, one, putAt, TYA, z1, z6, z7, z82, z85, z86, z87, n_eqb Try.underlying4, bs68_2, bs68_3, qA, (hA.mono e17).row, (hB.mono e17).row, (hC.mono e17).row]
  refine wpc_dgen (fun S => S.at 1 = .int .i64 j ∧ S.at 6 = .pointer (some ⟨σ.next + 13, 0, none⟩) ∧ S.at 7 = .pointer (some ⟨σ.next + 14, 0, none⟩) ∧ S.at 82 = .bool true ∧ S.at 85 = .agg #[.slice p16 q16 u16, .int .i64 w16] ∧ S.at 88 = .agg #[.slice p17 q17 u17, .int .i64 w17]) ?_ ?_
  · simp only [c_seq, RUNA, RUNB, Nat.reduceAdd, Nat.reduceMod, Nat.reduceDiv, Nat.reduceSub, Nat.reduceMul, Nat.reduceEqDiff, Nat.reduceBEq, Nat.reduceLeDiff, Int.reduceToNat, fillS, wantG, vBox, Value.cells, one, putAt, z1, z6, z7, z82, z85, z86, z87]
  clear z1 z6 z7 z82 z85 z86 z87
  rintro S ⟨z1, z6, z7, z82, z85, z88⟩
  have x18 : EX τ9 σ17' := e17
  refine wpc_mono (Same_is (d85.weak (Nat.zero_le _)) (d88.weak (Nat.zero_le _)) (fun f => rfl)) ?_
  rintro r σ18' ⟨rfl, hE18⟩
  have e18 : EX τ9 σ18' := EX.trans x18 hE18
  have g18 : τ9.next + 90 ≤ σ18'.next := Nat.le_trans g17 hE18.next
  have d85 := d85.ex hE18
  have d88 := d88.ex hE18
  simp only [YRUNA, YRUNB, Nat.reduceShiftRight, bit, c_seq, RUNA, RUNB, Nat.reduceAdd, Nat.reduceMod, Nat.reduceDiv, Nat.reduceSub, Nat.reduceMul, Nat.reduceEqDiff, Nat.reduceBEq, Nat.reduceLeDiff, Int.reduceToNat, fillS, wantG, vBox, Value.cells, one, putAt, TYA, z1, z6, z7, z82, z85, z88, n_eqb Try.underlying4, bs68_2, bs68_3, qA, (hA.mono e18).row, (hB.mono e18).row, (hC.mono e18).row]
  refine wpc_dgen (fun S => S.at 1 = .int .i64 j ∧ S.at 6 = .pointer (some ⟨σ.next + 13, 0, none⟩) ∧ S.at 7 = .pointer (some ⟨σ.next + 14, 0, none⟩) ∧ S.at 91 = .bool true ∧ S.at 92 = .agg #[.slice o2 k2 c2, .int .i64 i2] ∧ S.at 93 = .int .i64 j ∧ S.at 95 = .agg #[.slice o2 k2 c2, .int .i64 i2] ∧ S.at 96 = .int .i64 j) ?_ ?_
  · simp only [c_seq, RUNA, RUNB, Nat.reduceAdd, Nat.reduceMod, Nat.reduceDiv, Nat.reduceSub, Nat.reduceMul, Nat.reduceEqDiff, Nat.reduceBEq, Nat.reduceLeDiff, Int.reduceToNat, fillS, wantG, vBox, Value.cells, one, putAt, z1, z6, z7, z82, z85, z88]
  clear z1 z6 z7 z82 z85 z88
  rintro S ⟨z1, z6, z7, z91, z92, z93, z95, z96⟩
  have x19 : EX τ9 σ18' := e18
  refine wpc_mono (Restrict_spec (hB.mono x19).is (x19.fr hF9)) ?_
  rintro r σ19' ⟨hD19, hE19⟩
  obtain ⟨p19, q19, u19, w19, rfl⟩ := hD19.open
  have e19 : EX τ9 σ19' := EX.trans x19 hE19
  have g19 : τ9.next + 90 ≤ σ19'.next := Nat.le_trans g18 hE19.next
  have d94 := hD19.weak g18
  simp only [YRUNA, YRUNB, Nat.reduceShiftRight, bit, c_seq, RUNA, RUNB, Nat.reduceAdd, Nat.reduceMod, Nat.reduceDiv, Nat.reduceSub, Nat.reduceMul, Nat.reduceEqDiff, Nat.reduceBEq, Nat.reduceLeDiff, Int.reduceToNat, fillS, wantG, vBox, Value.cells, one, putAt, TYA, z1, z6, z7, z91, z92, z93, z95, z96, n_eqb Try.underlying4, bs68_2, bs68_3, qA, (hA.mono e19).row, (hB.mono e19).row, (hC.mono e19).row]
  refine wpc_dgen (fun S => S.at 1 = .int .i64 j ∧ S.at 6 = .pointer (some ⟨σ.next + 13, 0, none⟩) ∧ S.at 7 = .pointer (some ⟨σ.next + 14, 0, none⟩) ∧ S.at 91 = .bool true ∧ S.at 94 = .agg #[.slice p19 q19 u19, .int .i64 w19] ∧ S.at 95 = .agg #[.slice o2 k2 c2, .int .i64 i2] ∧ S.at 96 = .int .i64 j) ?_ ?_
  · simp only [c_seq, RUNA, RUNB, Nat.reduceAdd, Nat.reduceMod, Nat.reduceDiv, Nat.reduceSub, Nat.reduceMul, Nat.reduceEqDiff, Nat.reduceBEq, Nat.reduceLeDiff, Int.reduceToNat, fillS, wantG, vBox, Value.cells, one, putAt, z1, z6, z7, z91, z92, z93, z95, z96]
  clear z1 z6 z7 z91 z92 z93 z95 z96
  rintro S ⟨z1, z6, z7, z91, z94, z95, z96⟩
  have x20 : EX τ9 σ19' := e19
  refine wpc_mono (refRestrict_spec (hB.mono x20).is (x20.fr hF9)) ?_
  rintro r σ20' ⟨hD20, hE20⟩
  obtain ⟨p20, q20, u20, w20, rfl⟩ := hD20.open
  have e20 : EX τ9 σ20' := EX.trans x20 hE20
  have g20 : τ9.next + 90 ≤ σ20'.next := Nat.le_trans g19 hE20.next
  have d94 := d94.ex hE20
  have d97 := hD20
  simp only [YRUNA, YRUNB, Nat.reduceShiftRight, bit, c_seq, RUNA, RUNB, Nat.reduceAdd, Nat.reduceMod, Nat.reduceDiv, Nat.reduceSub, Nat.reduceMul, Nat.reduceEqDiff, Nat.reduceBEq, Nat.reduceLeDiff, Int.reduceToNat, fillS, wantG, vBox, Value.cells, one, putAt, TYA, z1, z6, z7, z91, z94, z95, z96, n_eqb Try.underlying4, bs68_2, bs68_3, qA, (hA.mono e20).row, (hB.mono e20).row, (hC.mono e20).row]
  refine wpc_dgen (fun S => S.at 1 = .int .i64 j ∧ S.at 6 = .pointer (some ⟨σ.next + 13, 0, none⟩) ∧ S.at 7 = .pointer (some ⟨σ.next + 14, 0, none⟩) ∧ S.at 91 = .bool true ∧ S.at 94 = .agg #[.slice p19 q19 u19, .int .i64 w19] ∧ S.at 97 = .agg #[.slice p20 q20 u20, .int .i64 w20]) ?_ ?_
  · simp only [c_seq, RUNA, RUNB, Nat.reduceAdd, Nat.reduceMod, Nat.reduceDiv, Nat.reduceSub, Nat.reduceMul, Nat.reduceEqDiff, Nat.reduceBEq, Nat.reduceLeDiff, Int.reduceToNat, fillS, wantG, vBox, Value.cells, one, putAt, z1, z6, z7, z91, z94, z95, z96]
  clear z1 z6 z7 z91 z94 z95 z96
  rintro S ⟨z1, z6, z7, z91, z94, z97⟩
  have x21 : EX τ9 σ20' := e20
  refine wpc_mono (Same_is (d94.weak (Nat.zero_le _)) (d97.weak (Nat.zero_le _)) (fun f => rfl)) ?_
  rintro r σ21' ⟨rfl, hE21⟩
  have e21 : EX τ9 σ21' := EX.trans x21 hE21
  have g21 : τ9.next + 90 ≤ σ21'.next := Nat.le_trans g20 hE21.next
  have d94 := d94.ex hE21
  have d97 := d97.ex hE21
  simp only [YRUNA, YRUNB, Nat.reduceShiftRight, bit, c_seq, RUNA, RUNB, Nat.reduceAdd, Nat.reduceMod, Nat.reduceDiv, Nat.reduceSub, Nat.reduceMul, Nat.reduceEqDiff, Nat.reduceBEq, Nat.reduceLeDiff, Int.reduceToNat, fillS, wantG, vBox, Value.cells, one, putAt, TYA, z1, z6, z7, z91, z94, z97, n_eqb Try.underlying4, bs68_2, bs68_3, qA, (hA.mono e21).row, (hB.mono e21).row, (hC.mono e21).row]
  refine wpc_dgen (fun S => S.at 1 = .int .i64 j ∧ S.at 6 = .pointer (some ⟨σ.next + 13, 0, none⟩) ∧ S.at 7 = .pointer (some ⟨σ.next + 14, 0, none⟩) ∧ S.at 100 = .bool true ∧ S.at 101 = .agg #[.slice o1 k1 c1, .int .i64 i1] ∧ S.at 102 = .int .i64 j ∧ S.at 104 = .agg #[.slice o1 k1 c1, .int .i64 i1] ∧ S.at 105 = .int .i64 j) ?_ ?_
  · simp only [c_seq, RUNA, RUNB, Nat.reduceAdd, Nat.reduceMod, Nat.reduceDiv, Nat.reduceSub, Nat.reduceMul, Nat.reduceEqDiff, Nat.reduceBEq, Nat.reduceLeDiff, Int.reduceToNat, fillS, wantG, vBox, Value.cells, one, putAt, z1, z6, z7, z91, z94, z97]
  clear z1 z6 z7 z91 z94 z97
  rintro S ⟨z1, z6, z7, z100, z101, z102, z104, z105⟩
  have x22 : EX τ9 σ21' := e21
  refine wpc_mono (Exists_spec (hA.mono x22).is (x22.fr hF9)) ?_
  rintro r σ22' ⟨hD22, hE22⟩
  obtain ⟨p22, q22, u22, w22, rfl⟩ := hD22.open
  have e22 : EX τ9 σ22' := EX.trans x22 hE22
  have g22 : τ9.next + 90 ≤ σ22'.next := Nat.le_trans g21 hE22.next
  have d103 := hD22.weak g21
  simp only [YRUNA, YRUNB, Nat.reduceShiftRight, bit, c_seq, RUNA, RUNB, Nat.reduceAdd, Nat.reduceMod, Nat.reduceDiv, Nat.reduceSub, Nat.reduceMul, Nat.reduceEqDiff, Nat.reduceBEq, Nat.reduceLeDiff, Int.reduceToNat, fillS, wantG, vBox, Value.cells, one, putAt, TYA, z1, z6, z7, z100, z101, z102, z104, z105, n_eqb Try.underlying4, bs68_2, bs68_3, qA, (hA.mono e22).row, (hB.mono e22).row, (hC.mono e22).row]
  refine wpc_dgen (fun S => S.at 1 = .int .i64 j ∧ S.at 6 = .pointer (some ⟨σ.next + 13, 0, none⟩) ∧ S.at 7 = .pointer (some ⟨σ.next + 14, 0, none⟩) ∧ S.at 100 = .bool true ∧ S.at 103 = .agg #[.slice p22 q22 u22, .int .i64 w22] ∧ S.at 104 = .agg #[.slice o1 k1 c1, .int .i64 i1] ∧ S.at 105 = .int .i64 j) ?_ ?_
  · simp only [c_seq, RUNA, RUNB, Nat.reduceAdd, Nat.reduceMod, Nat.reduceDiv, Nat.reduceSub, Nat.reduceMul, Nat.reduceEqDiff, Nat.reduceBEq, Nat.reduceLeDiff, Int.reduceToNat, fillS, wantG, vBox, Value.cells, one, putAt, z1, z6, z7, z100, z101, z102, z104, z105]
  clear z1 z6 z7 z100 z101 z102 z104 z105
  rintro S ⟨z1, z6, z7, z100, z103, z104, z105⟩
  have x23 : EX τ9 σ22' := e22
  refine wpc_mono (refExists_spec (hA.mono x23).is (x23.fr hF9)) ?_
  rintro r σ23' ⟨hD23, hE23⟩
  obtain ⟨p23, q23, u23, w23, rfl⟩ := hD23.open
  have e23 : EX τ9 σ23' := EX.trans x23 hE23
  have g23 : τ9.next + 90 ≤ σ23'.next := Nat.le_trans g22 hE23.next
  have d103 := d103.ex hE23
  have d106 := hD23
  simp only [YRUNA, YRUNB, Nat.reduceShiftRight, bit, c_seq, RUNA, RUNB, Nat.reduceAdd, Nat.reduceMod, Nat.reduceDiv, Nat.reduceSub, Nat.reduceMul, Nat.reduceEqDiff, Nat.reduceBEq, Nat.reduceLeDiff, Int.reduceToNat, fillS, wantG, vBox, Value.cells, one, putAt, TYA, z1, z6, z7, z100, z103, z104, z105, n_eqb Try.underlying4, bs68_2, bs68_3, qA, (hA.mono e23).row, (hB.mono e23).row, (hC.mono e23).row]
  refine wpc_dgen (fun S => S.at 1 = .int .i64 j ∧ S.at 6 = .pointer (some ⟨σ.next + 13, 0, none⟩) ∧ S.at 7 = .pointer (some ⟨σ.next + 14, 0, none⟩) ∧ S.at 100 = .bool true ∧ S.at 103 = .agg #[.slice p22 q22 u22, .int .i64 w22] ∧ S.at 106 = .agg #[.slice p23 q23 u23, .int .i64 w23]) ?_ ?_
  · simp only [c_seq, RUNA, RUNB, Nat.reduceAdd, Nat.reduceMod, Nat.reduceDiv, Nat.reduceSub, Nat.reduceMul, Nat.reduceEqDiff, Nat.reduceBEq, Nat.reduceLeDiff, Int.reduceToNat, fillS, wantG, vBox, Value.cells, one, putAt, z1, z6, z7, z100, z103, z104, z105]
  clear z1 z6 z7 z100 z103 z104 z105
  rintro S ⟨z1, z6, z7, z100, z103, z106⟩
  have x24 : EX τ9 σ23' := e23
  refine wpc_mono (Same_is (d103.weak (Nat.zero_le _)) (d106.weak (Nat.zero_le _)) (fun f => rfl)) ?_
  rintro r σ24' ⟨rfl, hE24⟩
  have e24 : EX τ9 σ24' := EX.trans x24 hE24
  have g24 : τ9.next + 90 ≤ σ24'.next := Nat.le_trans g23 hE24.next
  have d103 := d103.ex hE24
  have d106 := d106.ex hE24
  simp only [YRUNA, YRUNB, Nat.reduceShiftRight, bit, c_seq, RUNA, RUNB, Nat.reduceAdd, Nat.reduceMod, Nat.reduceDiv, Nat.reduceSub, Nat.reduceMul, Nat.reduceEqDiff, Nat.reduceBEq, Nat.reduceLeDiff, Int.reduceToNat, fillS, wantG, vBox, Value.cells, one, putAt, TYA, z1, z6, z7, z100, z103, z106, n_eqb Try.underlying4, bs68_2, bs68_3, qA, (hA.mono e24).row, (hB.mono e24).row, (hC.mono e24).row]
  refine wpc_dgen (fun S => S.at 109 = .bool true ∧ S.at 110 = .agg #[.slice o1 k1 c1, .int .i64 i1] ∧ S.at 111 = .int .i64 j ∧ S.at 112 = .agg #[.slice o2 k2 c2, .int .i64 i2] ∧ S.at 114 = .agg #[.slice o1 k1 c1, .int .i64 i1] ∧ S.at 115 = .int .i64 j ∧ S.at 116 = .agg #[.slice o2 k2 c2, .int .i64 i2]) ?_ ?_
  · simp only [c_seq, RUNA, RUNB, Nat.reduceAdd, Nat.reduceMod, Nat.reduceDiv, Nat.reduceSub, Nat.reduceMul, Nat.reduceEqDiff, Nat.reduceBEq, Nat.reduceLeDiff, Int.reduceToNat, fillS, wantG, vBox, Value.cells, one, putAt, z1, z6, z7, z100, z103, z106]
  clear z1 z6 z7 z100 z103 z106
  rintro S ⟨z109, z110, z111, z112, z114, z115, z116⟩
  have x25 : EX τ9 σ24' := e24
  refine wpc_mono (Compose_spec (hA.mono x25).is (hB.mono x25).is (x25.fr hF9)) ?_
  rintro r σ25' ⟨hD25, hE25⟩
  obtain ⟨p25, q25, u25, w25, rfl⟩ := hD25.open
  have e25 : EX τ9 σ25' := EX.trans x25 hE25
  have g25 : τ9.next + 90 ≤ σ25'.next := Nat.le_trans g24 hE25.next
  have d113 := hD25.weak g24
  simp only [YRUNA, YRUNB, Nat.reduceShiftRight, bit, c_seq, RUNA, RUNB, Nat.reduceAdd, Nat.reduceMod, Nat.reduceDiv, Nat.reduceSub, Nat.reduceMul, Nat.reduceEqDiff, Nat.reduceBEq, Nat.reduceLeDiff, Int.reduceToNat, fillS, wantG, vBox, Value.cells, one, putAt, TYA, z109, z110, z111, z112, z114, z115, z116, n_eqb Try.underlying4, bs68_2, bs68_3, qA, (hA.mono e25).row, (hB.mono e25).row, (hC.mono e25).row]
  refine wpc_dgen (fun S => S.at 109 = .bool true ∧ S.at 113 = .agg #[.slice p25 q25 u25, .int .i64 w25] ∧ S.at 114 = .agg #[.slice o1 k1 c1, .int .i64 i1] ∧ S.at 115 = .int .i64 j ∧ S.at 116 = .agg #[.slice o2 k2 c2, .int .i64 i2]) ?_ ?_
  · simp only [c_seq, RUNA, RUNB, Nat.reduceAdd, Nat.reduceMod, Nat.reduceDiv, Nat.reduceSub, Nat.reduceMul, Nat.reduceEqDiff, Nat.reduceBEq, Nat.reduceLeDiff, Int.reduceToNat, fillS, wantG, vBox, Value.cells, one, putAt, z109, z110, z111, z112, z114, z115, z116]
  clear z109 z110 z111 z112 z114 z115 z116
  rintro S ⟨z109, z113, z114, z115, z116⟩
  have x26 : EX τ9 σ25' := e25
  refine wpc_mono (refCompose_spec (hA.mono x26).is (hB.mono x26).is (x26.fr hF9)) ?_
  rintro r σ26' ⟨hD26, hE26⟩
  obtain ⟨p26, q26, u26, w26, rfl⟩ := hD26.open
  have e26 : EX τ9 σ26' := EX.trans x26 hE26
  have g26 : τ9.next + 90 ≤ σ26'.next := Nat.le_trans g25 hE26.next
  have d113 := d113.ex hE26
  have d117 := hD26
  simp only [YRUNA, YRUNB, Nat.reduceShiftRight, bit, c_seq, RUNA, RUNB, Nat.reduceAdd, Nat.reduceMod, Nat.reduceDiv, Nat.reduceSub, Nat.reduceMul, Nat.reduceEqDiff, Nat.reduceBEq, Nat.reduceLeDiff, Int.reduceToNat, fillS, wantG, vBox, Value.cells, one, putAt, TYA, z109, z113, z114, z115, z116, n_eqb Try.underlying4, bs68_2, bs68_3, qA, (hA.mono e26).row, (hB.mono e26).row, (hC.mono e26).row]
  refine wpc_dgen (fun S => S.at 109 = .bool true ∧ S.at 113 = .agg #[.slice p25 q25 u25, .int .i64 w25] ∧ S.at 117 = .agg #[.slice p26 q26 u26, .int .i64 w26]) ?_ ?_
  · simp only [c_seq, RUNA, RUNB, Nat.reduceAdd, Nat.reduceMod, Nat.reduceDiv, Nat.reduceSub, Nat.reduceMul, Nat.reduceEqDiff, Nat.reduceBEq, Nat.reduceLeDiff, Int.reduceToNat, fillS, wantG, vBox, Value.cells, one, putAt, z109, z113, z114, z115, z116]
  clear z109 z113 z114 z115 z116
  rintro S ⟨z109, z113, z117⟩
  have x27 : EX τ9 σ26' := e26
  refine wpc_mono (Same_is (d113.weak (Nat.zero_le _)) (d117.weak (Nat.zero_le _)) (fun f => rfl)) ?_
  rintro r σ27' ⟨rfl, hE27⟩
  have e27 : EX τ9 σ27' := EX.trans x27 hE27
  have g27 : τ9.next + 90 ≤ σ27'.next := Nat.le_trans g26 hE27.next
  have d113 := d113.ex hE27
  have d117 := d117.ex hE27
  simp only [YRUNA, YRUNB, Nat.reduceShiftRight, bit, c_seq, RUNA, RUNB, Nat.reduceAdd, Nat.reduceMod, Nat.reduceDiv, Nat.reduceSub, Nat.reduceMul, Nat.reduceEqDiff, Nat.reduceBEq, Nat.reduceLeDiff, Int.reduceToNat, fillS, wantG, vBox, Value.cells, one, putAt, TYA, z109, z113, z117, n_eqb Try.underlying4, bs68_2, bs68_3, qA, (hA.mono e27).row, (hB.mono e27).row, (hC.mono e27).row, hr]
end Go.Proofs.Ytlealdhgajomhaa
namespace Go.Proofs.Ytlealdhgajomhaa
set_option linter.unusedVariables false
open Go.AI
set_option linter.unusedSimpArgs false

theorem oper_walk {b0 : Nat} {H : Type} {enc : TypeId × Value → H} {W : World} {v0 : Value} {d0 : DataW H} {ps0 : List MemPlace} (hv0 : Value.okWide Try.prog W .any b0 32 v0) (h0 : DataW.Trod enc Try.prog W 0 (fun _ => true) true 32 v0 d0 ps0)
    (a : Int) (wa : (Lit.int .i64 a).wf = true) :
    Calls Try.prog 7 #[v0, .int .i64 a] W fun e w' => e = .returned (.bool true) ∧ Kept W w' := by
  obtain ⟨cs, hc, hcs⟩ := open_u8s hv0 h0
  obtain ⟨p1, u1, k1, g1, r1⟩ := arg_vr (z := 1) (id := 1) (μ := fun _ => none) (u8s_plain cs) hcs
  have hgo := oper_go cs hc u1 g1 a
  have hargs : VRL (muA none p1) [u1, .int .i64 a] [v0, .int .i64 a] := .cons (r1 _ rfl) (.cons (.same _ rfl) .nil)
  refine (wpc_calls okTry hgo (sim_args (p0 := none) (fun p h => by cases h) k1) (args' := #[v0, .int .i64 a]) hargs).mono ?_
  rintro e w' ⟨μ', r, σ', r', rfl, he, hr, hZ⟩
  rw [he, hr.eq0 rfl]
  exact ⟨rfl, hZ.kept⟩
end Go.Proofs.Ytlealdhgajomhaa
