import Derived.Test.YtmjddjjcnhckgaaGreatDoorKn
import Derived.Test.YtmjddjjcnhckgaaGreatDoorKp
import Derived.Test.YtmjddjjcnhckgaaGreatDoorKm
import Derived.Test.YtmjddjjcnhckgaaGreatDoorKo
set_option linter.unusedVariables false
set_option linter.unusedSimpArgs false
set_option linter.constructorNameAsVariable false
open Nat renaming reduceAdd → zAd, reduceMod → zMo, reduceDiv → zDi, reduceSub → zSu, reduceMul → zMu, reduceEqDiff → zEq, reduceBEq → zBe, reduceLeDiff → zLe, reduceShiftRight → zSh
open Int renaming reduceToNat → zTo
namespace Go.Proofs.Q
open Go.AI
set_option maxRecDepth 4000
def okO (o : Ob) : Prop := nilB o = obB o obNil
abbrev obV (o : Ob) : Value := .agg #[.int .i64 o.k, .string o.n, .string o.d, .string o.p, .string o.s, .string o.t, .slice none 0 0]
def Dro (b : Nat) (cs : List Nat) (σ : St) (r : Value) (σ' : St) : Prop := (∃ o, okO o ∧ r = obV o) ∧ Src b σ' cs ∧ EXb b σ σ'
theorem okO_num (p : List UInt8 × List UInt8) : okO ⟨1, ⟨p.1.toArray⟩, ⟨p.2.toArray⟩, es, es, es⟩ := rfl
theorem bdO3 (s : ByteArray) : abuild Tryz.prog 31 #[(0, .int .i64 3), (4, .string s)] = some (.agg #[.int .i64 3, .string ⟨#[]⟩, .string ⟨#[]⟩, .string ⟨#[]⟩, .string ⟨#[]⟩, .string s, .slice none 0 0]) := by kernel_rfl
theorem refText_spec (σ : St) (s : ByteArray) : wpc Tryz.prog 53 #[.string s] σ fun r σ' => r = .agg #[.int .i64 3, .string ⟨#[]⟩, .string ⟨#[]⟩, .string ⟨#[]⟩, .string ⟨#[]⟩, .string s, .slice none 0 0] ∧ EX σ σ' := by
 refine body_go Tryz.func53 rfl ?_
 have hr := Tryz.results53
 simp only [c_seq, RUNA, RUNB, zAd, zMo, zDi, zSu, zMu, zEq, zBe, zLe, zTo, fillS, wantG, vBox, Value.cells, one, putAt, TYA, hr, bdO3]
 first
 | exact ⟨rfl, by repeat first | assumption | exact EXn.refl _ _ | refine EXn.more ?_ _ | refine EXn.put ?_ (by omega) _ | refine EX.trans ?_ (by assumption)⟩
 | (repeat first | assumption | exact EXn.refl _ _ | refine EXn.more ?_ _ | refine EXn.put ?_ (by omega) _ | refine EX.trans ?_ (by assumption))
theorem knw_int {q : Nat} (h : q < 7) : ∃ p, knwL 50 [.int .i64 ((q : Int) - 3)] = some p := by
 obtain rfl | rfl | rfl | rfl | rfl | rfl | rfl : q = 0 ∨ q = 1 ∨ q = 2 ∨ q = 3 ∨ q = 4 ∨ q = 5 ∨ q = 6 := by omega
 ·exact ⟨([45, 51], [49]), by kernel_rfl⟩
 ·exact ⟨([45, 50], [49]), by kernel_rfl⟩
 ·exact ⟨([45, 49], [49]), by kernel_rfl⟩
 ·exact ⟨([48], [49]), by kernel_rfl⟩
 ·exact ⟨([49], [49]), by kernel_rfl⟩
 ·exact ⟨([50], [49]), by kernel_rfl⟩
 ·exact ⟨([51], [49]), by kernel_rfl⟩
def ltr (l : List UInt8) (i : Nat) : ByteArray := ⟨((l.drop i).take 1).toArray⟩
theorem sl_abc (σ : St) {q : Nat} (h : q < 3) : ∃ s, aslice Tryz.prog σ 9 (.string ⟨#[97, 98, 99]⟩) (some (.int .i64 q)) none none = some (.string s) ∧ aslice Tryz.prog σ 9 (.string s) none (some (.int .i64 1)) none = some (.string (ltr [97, 98, 99] q)) := by
 obtain rfl | rfl | rfl : q = 0 ∨ q = 1 ∨ q = 2 := by omega
 ·exact ⟨⟨#[97, 98, 99]⟩, by kernel_rfl, by kernel_rfl⟩
 ·exact ⟨⟨#[98, 99]⟩, by kernel_rfl, by kernel_rfl⟩
 ·exact ⟨⟨#[99]⟩, by kernel_rfl, by kernel_rfl⟩
theorem sl_pq (σ : St) {q : Nat} (h : q < 3) : ∃ s, aslice Tryz.prog σ 9 (.string ⟨#[112, 113]⟩) none (some (.int .i64 q)) none = some (.string s) := by
 obtain rfl | rfl | rfl : q = 0 ∨ q = 1 ∨ q = 2 := by omega
 ·exact ⟨⟨#[]⟩, by kernel_rfl⟩
 ·exact ⟨⟨#[112]⟩, by kernel_rfl⟩
 ·exact ⟨⟨#[112, 113]⟩, by kernel_rfl⟩
theorem okO_abc {q : Nat} (h : q < 3) : okO ⟨2, es, es, usr, ltr [97, 98, 99] q, es⟩ := by
 obtain rfl | rfl | rfl : q = 0 ∨ q = 1 ∨ q = 2 := by omega
 all_goals rfl
set_option maxHeartbeats 4000000 in
theorem Object_spec {b : Nat} {cs : List Nat} (hc : ∀ k ∈ cs, k < 256) (hl : cs.length ≤ 1000) {σ : St} (hS : Src b σ cs) : wpc Tryz.prog 19 #[.pointer (some ⟨b, 0, none⟩), .int .i64 0] σ (Dro b cs σ) := by
 refine body_go Tryz.func19 rfl ?_
 have hr := Tryz.results19
 have hb : b < σ.next := by obtain ⟨_, _, _, _, h, _⟩ := hS; exact h
 simp only [c_seq, RUNA, RUNB, zAd, zMo, zDi, zSu, zMu, zEq, zBe, zLe, zTo, fillS, wantG, vBox, Value.cells, one, putAt, TYA, hr]
 refine wpc_mono (Next_spec (n := 14) (hS.mono ?_) hc hl (by omega) (by omega)) ?_
 ·repeat first | assumption | exact EXn.refl _ _ | refine EXn.more ?_ _ | refine EXn.put ?_ (by omega) _ | refine EX.trans ?_ (by assumption)
 rintro r σ1 ⟨⟨k, rfl, hk⟩, hS1, hE1⟩
 have n1 := hE1.next
 simp only [next_more, next_put] at n1
 have b1 : σ1.row σ.next = some ([.int .i64 0, .string ⟨#[]⟩, .string ⟨#[]⟩, .string ⟨#[]⟩, .string ⟨#[]⟩, .string ⟨#[]⟩, .slice none 0 0], boxMeta) := by rw [hE1.row _ (by first | omega | (simp only [next_more, next_put] at *; omega)) (by omega)]; simp only [c_seq, RUNA, RUNB, zAd, zMo, zDi, zSu, zMu, zEq, zBe, zLe, zTo, fillS, wantG, vBox, Value.cells, one, putAt]
 have e1 : EXb b σ σ1 := by repeat first | assumption | exact EXb.refl _ _ | refine EXb.more ?_ _ | refine EXb.put ?_ (by omega) _ | refine EXb.trans ?_ (by assumption) | refine EXb.thn ?_ (by assumption)
 simp only [RUNA, RUNB, zAd, zMo, zDi, zSu, zMu, zEq, zBe, zLe, zTo, fillS, wantG, vBox, Value.cells, one, putAt, TYA]
 refine seq_cut (fun S τ => S.at 0 = .pointer (some ⟨b, 0, none⟩) ∧ S.at 4 = .pointer (some ⟨σ.next, 0, none⟩) ∧ (∃ k : Nat, S.at 5 = .int .i64 k ∧ k < 10) ∧ EXb b σ τ ∧ Src b τ cs ∧ σ.next < τ.next ∧ τ.row σ.next = some ([.int .i64 0, .string ⟨#[]⟩, .string ⟨#[]⟩, .string ⟨#[]⟩, .string ⟨#[]⟩, .string ⟨#[]⟩, .slice none 0 0], boxMeta)) ?_ ?_
 ·have g1 : decide ((0 : Int) < 1) = true := by decide
  by_cases h3 : 9 < k
  ·have g2 : decide ((9 : Int) < (k : Int)) = true := by simp; omega
   have hw : IntKind.i64.wrap ((k : Int) - 8) = ((k - 8 : Nat) : Int) := by rw [wrap64 (by omega) (by omega)]; omega
   simp only [c_seq, RUNA, RUNB, zAd, zMo, zDi, zSu, zMu, zEq, zBe, zLe, zTo, fillS, wantG, vBox, Value.cells, one, putAt, TYA, g1, g2, hw]
   refine ⟨⟨k - 8, rfl, by omega⟩, ?_, Src.mono hS1 ?_, by omega, b1⟩
   ·repeat first | assumption | exact EXb.refl _ _ | refine EXb.more ?_ _ | refine EXb.put ?_ (by omega) _ | refine EXb.trans ?_ (by assumption) | refine EXb.thn ?_ (by assumption)
   ·repeat first | assumption | exact EXn.refl _ _ | refine EXn.more ?_ _ | refine EXn.put ?_ (by omega) _ | refine EX.trans ?_ (by assumption)
  ·have g2 : decide ((9 : Int) < (k : Int)) = false := by simp; omega
   simp only [c_seq, RUNA, RUNB, zAd, zMo, zDi, zSu, zMu, zEq, zBe, zLe, zTo, fillS, wantG, vBox, Value.cells, one, putAt, TYA, g1, g2]
   refine ⟨⟨k, rfl, by omega⟩, ?_, Src.mono hS1 ?_, by omega, b1⟩
   ·repeat first | assumption | exact EXb.refl _ _ | refine EXb.more ?_ _ | refine EXb.put ?_ (by omega) _ | refine EXb.trans ?_ (by assumption) | refine EXb.thn ?_ (by assumption)
   ·repeat first | assumption | exact EXn.refl _ _ | refine EXn.more ?_ _ | refine EXn.put ?_ (by omega) _ | refine EX.trans ?_ (by assumption)
 clear b1 e1 hE1 hS1 n1 hk
 rintro S τ ⟨s0, s4, ⟨k, s5, hk⟩, hE, hSt, hx, rb⟩
 have fin : ∀ (σ2 : St) (o : Ob), okO o → Src b σ2 cs → EXb b σ σ2 → ∀ ob, Dro b cs σ (obV o) (σ2.put σ.next ob) := by
  intro σ2 o h1 h3 h4 ob
  exact ⟨⟨o, h1, rfl⟩, h3.put (by omega), h4.put (by omega) _⟩
 obtain hk1 | hk1 | hk1 | hk1 | hk1 | hk1 | hk1 | hk1 | hk1 | hk1 : k = 0 ∨ k = 1 ∨ k = 2 ∨ k = 3 ∨ k = 4 ∨ k = 5 ∨ k = 6 ∨ k = 7 ∨ k = 8 ∨ k = 9 := by omega
 ·skip
  have g0 : ((k : Int) == 0) = true := by simp; omega
  simp only [c_seq, RUNA, RUNB, zAd, zMo, zDi, zSu, zMu, zEq, zBe, zLe, zTo, fillS, wantG, vBox, Value.cells, one, putAt, TYA, s0, s4, s5, hr, g0]
  refine wpc_mono (refNil_spec _) ?_
  rintro r σ2 ⟨rfl, hE2⟩
  have n2 := hE2.next
  try simp only [next_more, next_put] at n2
  have r2 := (hE2.row σ.next (by first | omega | (simp only [next_more, next_put] at *; omega))).trans rb
  simp only [c_seq, RUNA, RUNB, zAd, zMo, zDi, zSu, zMu, zEq, zBe, zLe, zTo, fillS, wantG, vBox, Value.cells, one, putAt, TYA, s0, s4, s5, r2, hr]
  refine fin _ obNil rfl (Src.mono hSt ?_) ?_ _
  ·refine EX.trans ?_ hE2; repeat first | assumption | exact EXn.refl _ _ | refine EXn.more ?_ _ | refine EXn.put ?_ (by omega) _ | refine EX.trans ?_ (by assumption)
  ·repeat first | assumption | exact EXb.refl _ _ | refine EXb.more ?_ _ | refine EXb.put ?_ (by omega) _ | refine EXb.trans ?_ (by assumption) | refine EXb.thn ?_ (by assumption)
 ·skip
  have g0 : ((k : Int) == 0) = false := by simp; omega
  have g1 : ((k : Int) == 1) = true := by simp; omega
  simp only [c_seq, RUNA, RUNB, zAd, zMo, zDi, zSu, zMu, zEq, zBe, zLe, zTo, fillS, wantG, vBox, Value.cells, one, putAt, TYA, s0, s4, s5, hr, g0, g1]
  refine wpc_mono (refT_spec _) ?_
  rintro r σ2 ⟨rfl, hE2⟩
  have n2 := hE2.next
  try simp only [next_more, next_put] at n2
  have r2 := (hE2.row σ.next (by first | omega | (simp only [next_more, next_put] at *; omega))).trans rb
  simp only [c_seq, RUNA, RUNB, zAd, zMo, zDi, zSu, zMu, zEq, zBe, zLe, zTo, fillS, wantG, vBox, Value.cells, one, putAt, TYA, s0, s4, s5, r2, hr]
  refine fin _ obT rfl (Src.mono hSt ?_) ?_ _
  ·refine EX.trans ?_ hE2; repeat first | assumption | exact EXn.refl _ _ | refine EXn.more ?_ _ | refine EXn.put ?_ (by omega) _ | refine EX.trans ?_ (by assumption)
  ·repeat first | assumption | exact EXb.refl _ _ | refine EXb.more ?_ _ | refine EXb.put ?_ (by omega) _ | refine EXb.trans ?_ (by assumption) | refine EXb.thn ?_ (by assumption)
 ·skip
  have g0 : ((k : Int) == 0) = false := by simp; omega
  have g1 : ((k : Int) == 1) = false := by simp; omega
  have g2 : ((k : Int) == 2) = true := by simp; omega
  simp only [c_seq, RUNA, RUNB, zAd, zMo, zDi, zSu, zMu, zEq, zBe, zLe, zTo, fillS, wantG, vBox, Value.cells, one, putAt, TYA, s0, s4, s5, hr, g0, g1, g2]
  refine wpc_mono (Next_spec (n := 7) (hSt.mono ?_) hc hl (by omega) (by omega)) ?_
  ·repeat first | assumption | exact EXn.refl _ _ | refine EXn.more ?_ _ | refine EXn.put ?_ (by omega) _ | refine EX.trans ?_ (by assumption)
  rintro r σ1 ⟨⟨q, rfl, hq⟩, hS1, hE1⟩
  have n1 := hE1.next
  simp only [next_more, next_put] at n1
  have r1 : σ1.row σ.next = some ([.int .i64 0, .string ⟨#[]⟩, .string ⟨#[]⟩, .string ⟨#[]⟩, .string ⟨#[]⟩, .string ⟨#[]⟩, .slice none 0 0], boxMeta) := by rw [hE1.row _ (by first | omega | (simp only [next_more, next_put] at *; omega)) (by omega)]; exact rb
  have hw3 : IntKind.i64.wrap ((q : Int) - 3) = (q : Int) - 3 := by rw [wrap64 (by omega) (by omega)]
  obtain ⟨p, hp⟩ := knw_int hq
  simp only [c_seq, RUNA, RUNB, zAd, zMo, zDi, zSu, zMu, zEq, zBe, zLe, zTo, fillS, wantG, vBox, Value.cells, one, putAt, TYA, s0, s4, s5, hr, hw3]
  refine wpc_mono (wpc_knw hp (by kernel_rfl)) ?_
  rintro r σ2 ⟨rfl, rfl⟩
  simp only [c_seq, RUNA, RUNB, zAd, zMo, zDi, zSu, zMu, zEq, zBe, zLe, zTo, fillS, wantG, vBox, Value.cells, one, putAt, TYA, s0, s4, s5, r1, hr, numV]
  refine fin _ ⟨1, ⟨p.1.toArray⟩, ⟨p.2.toArray⟩, es, es, es⟩ (okO_num p) (Src.mono hS1 ?_) ?_ _
  ·repeat first | assumption | exact EXn.refl _ _ | refine EXn.more ?_ _ | refine EXn.put ?_ (by omega) _ | refine EX.trans ?_ (by assumption)
  ·repeat first | assumption | exact EXb.refl _ _ | refine EXb.more ?_ _ | refine EXb.put ?_ (by omega) _ | refine EXb.trans ?_ (by assumption) | refine EXb.thn ?_ (by assumption)
 ·skip
  have g0 : ((k : Int) == 0) = false := by simp; omega
  have g1 : ((k : Int) == 1) = false := by simp; omega
  have g2 : ((k : Int) == 2) = false := by simp; omega
  have g3 : ((k : Int) == 3) = true := by simp; omega
  simp only [c_seq, RUNA, RUNB, zAd, zMo, zDi, zSu, zMu, zEq, zBe, zLe, zTo, fillS, wantG, vBox, Value.cells, one, putAt, TYA, s0, s4, s5, hr, g0, g1, g2, g3]
  refine wpc_mono (Next_spec (n := 7) (hSt.mono ?_) hc hl (by omega) (by omega)) ?_
  ·repeat first | assumption | exact EXn.refl _ _ | refine EXn.more ?_ _ | refine EXn.put ?_ (by omega) _ | refine EX.trans ?_ (by assumption)
  rintro r σ1 ⟨⟨q, rfl, hq⟩, hS1, hE1⟩
  have n1 := hE1.next
  simp only [next_more, next_put] at n1
  have r1 : σ1.row σ.next = some ([.int .i64 0, .string ⟨#[]⟩, .string ⟨#[]⟩, .string ⟨#[]⟩, .string ⟨#[]⟩, .string ⟨#[]⟩, .slice none 0 0], boxMeta) := by rw [hE1.row _ (by first | omega | (simp only [next_more, next_put] at *; omega)) (by omega)]; exact rb
  have hw3 : IntKind.i64.wrap ((q : Int) - 3) = (q : Int) - 3 := by rw [wrap64 (by omega) (by omega)]
  obtain ⟨p, hp⟩ := knw_int hq
  simp only [c_seq, RUNA, RUNB, zAd, zMo, zDi, zSu, zMu, zEq, zBe, zLe, zTo, fillS, wantG, vBox, Value.cells, one, putAt, TYA, s0, s4, s5, hr, hw3]
  refine wpc_mono (wpc_knw hp (by kernel_rfl)) ?_
  rintro r σ2 ⟨rfl, rfl⟩
  simp only [c_seq, RUNA, RUNB, zAd, zMo, zDi, zSu, zMu, zEq, zBe, zLe, zTo, fillS, wantG, vBox, Value.cells, one, putAt, TYA, s0, s4, s5, r1, hr, numV]
  refine fin _ ⟨1, ⟨p.1.toArray⟩, ⟨p.2.toArray⟩, es, es, es⟩ (okO_num p) (Src.mono hS1 ?_) ?_ _
  ·repeat first | assumption | exact EXn.refl _ _ | refine EXn.more ?_ _ | refine EXn.put ?_ (by omega) _ | refine EX.trans ?_ (by assumption)
  ·repeat first | assumption | exact EXb.refl _ _ | refine EXb.more ?_ _ | refine EXb.put ?_ (by omega) _ | refine EXb.trans ?_ (by assumption) | refine EXb.thn ?_ (by assumption)
 ·skip
  have g0 : ((k : Int) == 0) = false := by simp; omega
  have g1 : ((k : Int) == 1) = false := by simp; omega
  have g2 : ((k : Int) == 2) = false := by simp; omega
  have g3 : ((k : Int) == 3) = false := by simp; omega
  have g4 : ((k : Int) == 4) = true := by simp; omega
  simp only [c_seq, RUNA, RUNB, zAd, zMo, zDi, zSu, zMu, zEq, zBe, zLe, zTo, fillS, wantG, vBox, Value.cells, one, putAt, TYA, s0, s4, s5, hr, g0, g1, g2, g3, g4]
  obtain ⟨p, hp⟩ : ∃ p, knwL 51 [.string ⟨#[49]⟩, .string ⟨#[50]⟩] = some p := ⟨([49], [50]), by kernel_rfl⟩
  refine wpc_mono (wpc_knw hp (by kernel_rfl)) ?_
  rintro r σ2 ⟨rfl, rfl⟩
  simp only [c_seq, RUNA, RUNB, zAd, zMo, zDi, zSu, zMu, zEq, zBe, zLe, zTo, fillS, wantG, vBox, Value.cells, one, putAt, TYA, s0, s4, s5, rb, hr, numV]
  refine fin _ ⟨1, ⟨p.1.toArray⟩, ⟨p.2.toArray⟩, es, es, es⟩ (okO_num p) (Src.mono hSt ?_) ?_ _
  ·repeat first | assumption | exact EXn.refl _ _ | refine EXn.more ?_ _ | refine EXn.put ?_ (by omega) _ | refine EX.trans ?_ (by assumption)
  ·repeat first | assumption | exact EXb.refl _ _ | refine EXb.more ?_ _ | refine EXb.put ?_ (by omega) _ | refine EXb.trans ?_ (by assumption) | refine EXb.thn ?_ (by assumption)
 ·skip
  have g0 : ((k : Int) == 0) = false := by simp; omega
  have g1 : ((k : Int) == 1) = false := by simp; omega
  have g2 : ((k : Int) == 2) = false := by simp; omega
  have g3 : ((k : Int) == 3) = false := by simp; omega
  have g4 : ((k : Int) == 4) = false := by simp; omega
  have g5 : ((k : Int) == 5) = true := by simp; omega
  simp only [c_seq, RUNA, RUNB, zAd, zMo, zDi, zSu, zMu, zEq, zBe, zLe, zTo, fillS, wantG, vBox, Value.cells, one, putAt, TYA, s0, s4, s5, hr, g0, g1, g2, g3, g4, g5]
  obtain ⟨p, hp⟩ : ∃ p, knwL 51 [.string ⟨#[45, 53]⟩, .string ⟨#[51]⟩] = some p := ⟨([45, 53], [51]), by kernel_rfl⟩
  refine wpc_mono (wpc_knw hp (by kernel_rfl)) ?_
  rintro r σ2 ⟨rfl, rfl⟩
  simp only [c_seq, RUNA, RUNB, zAd, zMo, zDi, zSu, zMu, zEq, zBe, zLe, zTo, fillS, wantG, vBox, Value.cells, one, putAt, TYA, s0, s4, s5, rb, hr, numV]
  refine fin _ ⟨1, ⟨p.1.toArray⟩, ⟨p.2.toArray⟩, es, es, es⟩ (okO_num p) (Src.mono hSt ?_) ?_ _
  ·repeat first | assumption | exact EXn.refl _ _ | refine EXn.more ?_ _ | refine EXn.put ?_ (by omega) _ | refine EX.trans ?_ (by assumption)
  ·repeat first | assumption | exact EXb.refl _ _ | refine EXb.more ?_ _ | refine EXb.put ?_ (by omega) _ | refine EXb.trans ?_ (by assumption) | refine EXb.thn ?_ (by assumption)
 ·skip
  have g0 : ((k : Int) == 0) = false := by simp; omega
  have g1 : ((k : Int) == 1) = false := by simp; omega
  have g2 : ((k : Int) == 2) = false := by simp; omega
  have g3 : ((k : Int) == 3) = false := by simp; omega
  have g4 : ((k : Int) == 4) = false := by simp; omega
  have g5 : ((k : Int) == 5) = false := by simp; omega
  have g6 : ((k : Int) == 6) = true := by simp; omega
  simp only [c_seq, RUNA, RUNB, zAd, zMo, zDi, zSu, zMu, zEq, zBe, zLe, zTo, fillS, wantG, vBox, Value.cells, one, putAt, TYA, s0, s4, s5, hr, g0, g1, g2, g3, g4, g5, g6]
  refine wpc_mono (Next_spec (n := 3) (hSt.mono ?_) hc hl (by omega) (by omega)) ?_
  ·repeat first | assumption | exact EXn.refl _ _ | refine EXn.more ?_ _ | refine EXn.put ?_ (by omega) _ | refine EX.trans ?_ (by assumption)
  rintro r σ1 ⟨⟨q, rfl, hq⟩, hS1, hE1⟩
  have n1 := hE1.next
  simp only [next_more, next_put] at n1
  have r1 : σ1.row σ.next = some ([.int .i64 0, .string ⟨#[]⟩, .string ⟨#[]⟩, .string ⟨#[]⟩, .string ⟨#[]⟩, .string ⟨#[]⟩, .slice none 0 0], boxMeta) := by rw [hE1.row _ (by first | omega | (simp only [next_more, next_put] at *; omega)) (by omega)]; exact rb
  obtain ⟨s, hs1, hs2⟩ := sl_abc ((σ1.more 1).more 1) hq
  have hs3 := fun (σ : St) => (show aslice Tryz.prog σ 9 (.string ⟨#[97, 98, 99]⟩) (some (.int .i64 q)) none none = some (.string s) from hs1)
  have hs4 := fun (σ : St) => (show aslice Tryz.prog σ 9 (.string s) none (some (.int .i64 1)) none = some (.string (ltr [97, 98, 99] q)) from hs2)
  simp only [c_seq, RUNA, RUNB, zAd, zMo, zDi, zSu, zMu, zEq, zBe, zLe, zTo, fillS, wantG, vBox, Value.cells, one, putAt, TYA, s0, s4, s5, hr, hs3, hs4]
  refine wpc_mono (User_spec _ _) ?_
  rintro r σ2 ⟨rfl, hE2⟩
  have n2 := hE2.next
  try simp only [next_more, next_put] at n2
  have r2 := (hE2.row σ.next (by first | omega | (simp only [next_more, next_put] at *; omega))).trans r1
  simp only [c_seq, RUNA, RUNB, zAd, zMo, zDi, zSu, zMu, zEq, zBe, zLe, zTo, fillS, wantG, vBox, Value.cells, one, putAt, TYA, s0, s4, s5, r2, hr]
  refine wpc_mono (refSym_spec _ _ _) ?_
  rintro r σ3 ⟨rfl, hE3⟩
  have n3 := hE3.next
  try simp only [next_more, next_put] at n3
  have r3 := (hE3.row σ.next (by first | omega | (simp only [next_more, next_put] at *; omega))).trans r2
  simp only [c_seq, RUNA, RUNB, zAd, zMo, zDi, zSu, zMu, zEq, zBe, zLe, zTo, fillS, wantG, vBox, Value.cells, one, putAt, TYA, s0, s4, s5, r3, hr]
  refine fin _ ⟨2, es, es, usr, ltr [97, 98, 99] q, es⟩ (okO_abc hq) (Src.mono hS1 ?_) ?_ _
  ·refine EX.trans ?_ hE3; refine EX.trans ?_ hE2; repeat first | assumption | exact EXn.refl _ _ | refine EXn.more ?_ _ | refine EXn.put ?_ (by omega) _ | refine EX.trans ?_ (by assumption)
  ·repeat first | assumption | exact EXb.refl _ _ | refine EXb.more ?_ _ | refine EXb.put ?_ (by omega) _ | refine EXb.trans ?_ (by assumption) | refine EXb.thn ?_ (by assumption)
 ·skip
  have g0 : ((k : Int) == 0) = false := by simp; omega
  have g1 : ((k : Int) == 1) = false := by simp; omega
  have g2 : ((k : Int) == 2) = false := by simp; omega
  have g3 : ((k : Int) == 3) = false := by simp; omega
  have g4 : ((k : Int) == 4) = false := by simp; omega
  have g5 : ((k : Int) == 5) = false := by simp; omega
  have g6 : ((k : Int) == 6) = false := by simp; omega
  have g7 : ((k : Int) == 7) = true := by simp; omega
  simp only [c_seq, RUNA, RUNB, zAd, zMo, zDi, zSu, zMu, zEq, zBe, zLe, zTo, fillS, wantG, vBox, Value.cells, one, putAt, TYA, s0, s4, s5, hr, g0, g1, g2, g3, g4, g5, g6, g7]
  refine wpc_mono (Next_spec (n := 3) (hSt.mono ?_) hc hl (by omega) (by omega)) ?_
  ·repeat first | assumption | exact EXn.refl _ _ | refine EXn.more ?_ _ | refine EXn.put ?_ (by omega) _ | refine EX.trans ?_ (by assumption)
  rintro r σ1 ⟨⟨q, rfl, hq⟩, hS1, hE1⟩
  have n1 := hE1.next
  simp only [next_more, next_put] at n1
  have r1 : σ1.row σ.next = some ([.int .i64 0, .string ⟨#[]⟩, .string ⟨#[]⟩, .string ⟨#[]⟩, .string ⟨#[]⟩, .string ⟨#[]⟩, .slice none 0 0], boxMeta) := by rw [hE1.row _ (by first | omega | (simp only [next_more, next_put] at *; omega)) (by omega)]; exact rb
  obtain ⟨s, hs1⟩ := sl_pq ((σ1.more 1).more 1) hq
  have hs3 := fun (σ : St) => (show aslice Tryz.prog σ 9 (.string ⟨#[112, 113]⟩) none (some (.int .i64 q)) none = some (.string s) from hs1)
  simp only [c_seq, RUNA, RUNB, zAd, zMo, zDi, zSu, zMu, zEq, zBe, zLe, zTo, fillS, wantG, vBox, Value.cells, one, putAt, TYA, s0, s4, s5, hr, hs3]
  refine wpc_mono (refText_spec _ _) ?_
  rintro r σ2 ⟨rfl, hE2⟩
  have n2 := hE2.next
  try simp only [next_more, next_put] at n2
  have r2 := (hE2.row σ.next (by first | omega | (simp only [next_more, next_put] at *; omega))).trans r1
  simp only [c_seq, RUNA, RUNB, zAd, zMo, zDi, zSu, zMu, zEq, zBe, zLe, zTo, fillS, wantG, vBox, Value.cells, one, putAt, TYA, s0, s4, s5, r2, hr]
  refine fin _ ⟨3, es, es, es, es, s⟩ rfl (Src.mono hS1 ?_) ?_ _
  ·refine EX.trans ?_ hE2; repeat first | assumption | exact EXn.refl _ _ | refine EXn.more ?_ _ | refine EXn.put ?_ (by omega) _ | refine EX.trans ?_ (by assumption)
  ·repeat first | assumption | exact EXb.refl _ _ | refine EXb.more ?_ _ | refine EXb.put ?_ (by omega) _ | refine EXb.trans ?_ (by assumption) | refine EXb.thn ?_ (by assumption)
 ·skip
  have g0 : ((k : Int) == 0) = false := by simp; omega
  have g1 : ((k : Int) == 1) = false := by simp; omega
  have g2 : ((k : Int) == 2) = false := by simp; omega
  have g3 : ((k : Int) == 3) = false := by simp; omega
  have g4 : ((k : Int) == 4) = false := by simp; omega
  have g5 : ((k : Int) == 5) = false := by simp; omega
  have g6 : ((k : Int) == 6) = false := by simp; omega
  have g7 : ((k : Int) == 7) = false := by simp; omega
  have g8 : ((k : Int) == 8) = true := by simp; omega
  simp only [c_seq, RUNA, RUNB, zAd, zMo, zDi, zSu, zMu, zEq, zBe, zLe, zTo, fillS, wantG, vBox, Value.cells, one, putAt, TYA, s0, s4, s5, hr, g0, g1, g2, g3, g4, g5, g6, g7, g8]
  obtain ⟨p, hp⟩ : ∃ p, knwL 50 [.int .i64 0] = some p := ⟨([48], [49]), by kernel_rfl⟩
  refine wpc_mono (wpc_knw hp (by kernel_rfl)) ?_
  rintro r σ2 ⟨rfl, rfl⟩
  simp only [c_seq, RUNA, RUNB, zAd, zMo, zDi, zSu, zMu, zEq, zBe, zLe, zTo, fillS, wantG, vBox, Value.cells, one, putAt, TYA, s0, s4, s5, rb, hr, numV]
  refine fin _ ⟨1, ⟨p.1.toArray⟩, ⟨p.2.toArray⟩, es, es, es⟩ (okO_num p) (Src.mono hSt ?_) ?_ _
  ·repeat first | assumption | exact EXn.refl _ _ | refine EXn.more ?_ _ | refine EXn.put ?_ (by omega) _ | refine EX.trans ?_ (by assumption)
  ·repeat first | assumption | exact EXb.refl _ _ | refine EXb.more ?_ _ | refine EXb.put ?_ (by omega) _ | refine EXb.trans ?_ (by assumption) | refine EXb.thn ?_ (by assumption)
 ·skip
  have g0 : ((k : Int) == 0) = false := by simp; omega
  have g1 : ((k : Int) == 1) = false := by simp; omega
  have g2 : ((k : Int) == 2) = false := by simp; omega
  have g3 : ((k : Int) == 3) = false := by simp; omega
  have g4 : ((k : Int) == 4) = false := by simp; omega
  have g5 : ((k : Int) == 5) = false := by simp; omega
  have g6 : ((k : Int) == 6) = false := by simp; omega
  have g7 : ((k : Int) == 7) = false := by simp; omega
  have g8 : ((k : Int) == 8) = false := by simp; omega
  have g9 : ((k : Int) == 9) = true := by simp; omega
  simp only [c_seq, RUNA, RUNB, zAd, zMo, zDi, zSu, zMu, zEq, zBe, zLe, zTo, fillS, wantG, vBox, Value.cells, one, putAt, TYA, s0, s4, s5, hr, g0, g1, g2, g3, g4, g5, g6, g7, g8, g9]
  obtain ⟨p, hp⟩ : ∃ p, knwL 50 [.int .i64 1] = some p := ⟨([49], [49]), by kernel_rfl⟩
  refine wpc_mono (wpc_knw hp (by kernel_rfl)) ?_
  rintro r σ2 ⟨rfl, rfl⟩
  simp only [c_seq, RUNA, RUNB, zAd, zMo, zDi, zSu, zMu, zEq, zBe, zLe, zTo, fillS, wantG, vBox, Value.cells, one, putAt, TYA, s0, s4, s5, rb, hr, numV]
  refine fin _ ⟨1, ⟨p.1.toArray⟩, ⟨p.2.toArray⟩, es, es, es⟩ (okO_num p) (Src.mono hSt ?_) ?_ _
  ·repeat first | assumption | exact EXn.refl _ _ | refine EXn.more ?_ _ | refine EXn.put ?_ (by omega) _ | refine EX.trans ?_ (by assumption)
  ·repeat first | assumption | exact EXb.refl _ _ | refine EXb.more ?_ _ | refine EXb.put ?_ (by omega) _ | refine EXb.trans ?_ (by assumption) | refine EXb.thn ?_ (by assumption)
end Go.Proofs.Q
namespace Go.Proofs.Q
open Go.AI
def goT : PT → Prop
 | .mk k _ _ o l => (k = 1 ∨ k = 2 ∨ k = 3) ∧ okO o ∧ l.length ≤ 3 ∧ goL l
where goL : List PT → Prop
 | [] => True
 | t :: l => goT t ∧ goL l
theorem goL_mem : ∀ {l : List PT} {t : PT}, goT.goL l → t ∈ l → goT t
 | _ :: _, _, h, .head _ => h.1
 | _ :: _, _, h, .tail _ k => goL_mem h.2 k
mutual
theorem goT.k : ∀ t : PT, goT t → kT t
 | .mk k _ _ o l, h => ⟨h.1, goL.k l h.2.2.2⟩
theorem goL.k : ∀ l : List PT, goT.goL l → kT.kL l
 | [], _ => trivial
 | t :: l, h => ⟨goT.k t h.1, goL.k l h.2⟩
end
mutual
theorem goT.ok : ∀ t : PT, goT t → okP t
 | .mk k _ _ o l, h => ⟨h.2.2.1, goL.ok l h.2.2.2⟩
theorem goL.ok : ∀ l : List PT, goT.goL l → okP.okL l
 | [], _ => trivial
 | t :: l, h => ⟨goT.ok t h.1, goL.ok l h.2⟩
end
theorem goT.at {t : PT} (h : goT t) : (t.k = 1 ∨ t.k = 2 ∨ t.k = 3) ∧ okO t.o ∧ t.l.length ≤ 3 ∧ goT.goL t.l := by cases t; exact h
mutual
def TCb (lo : Nat) (σ : St) : PT → List Value → Prop
 | .mk k p s o l, xs => ∃ a c, xs = tcell (.mk k p s o l) a c ∧ (l ≠ [] → ∃ id off row m, a = some ⟨id, off, none⟩ ∧ lo ≤ id ∧ id < σ.next ∧ σ.row id = some (row, m11 m) ∧ TLb lo σ l ((row.drop off).take (l.length * 11)))
def TLb (lo : Nat) (σ : St) : List PT → List Value → Prop
 | [], xs => xs = []
 | t :: l, xs => ∃ a b, xs = a ++ b ∧ TCb lo σ t a ∧ TLb lo σ l b
end
mutual
theorem TCb.tc {lo : Nat} {σ : St} : ∀ (t : PT) {xs : List Value}, TCb lo σ t xs → TC σ t xs
 | .mk k p s o l, xs, h => by
  simp only [TCb] at h
  simp only [TC]
  obtain ⟨a, c, h1, h2⟩ := h
  refine ⟨a, c, h1, fun hl => ?_⟩
  obtain ⟨id, off, row, m, g1, _, g2, g3, g4⟩ := h2 hl
  exact ⟨id, off, row, m, g1, g2, g3, TLb.tl l g4⟩
theorem TLb.tl {lo : Nat} {σ : St} : ∀ (l : List PT) {xs : List Value}, TLb lo σ l xs → TL σ l xs
 | [], xs, h => by simp only [TLb] at h; simp only [TL]; exact h
 | t :: l, xs, h => by
  simp only [TLb] at h
  simp only [TL]
  obtain ⟨a, b, h1, h2, h3⟩ := h
  exact ⟨a, b, h1, TCb.tc t h2, TLb.tl l h3⟩
end
mutual
theorem TCb.un {lo lo' : Nat} {σ σ' : St} (hl : lo' ≤ lo) (hn : σ.next ≤ σ'.next) (e : UN lo σ.next σ σ') : ∀ (t : PT) {xs : List Value}, TCb lo σ t xs → TCb lo' σ' t xs
 | .mk k p s o l, xs, h => by
  simp only [TCb] at h ⊢
  obtain ⟨a, c, h1, h2⟩ := h
  refine ⟨a, c, h1, fun hl' => ?_⟩
  obtain ⟨id, off, row, m, g1, g0, g2, g3, g4⟩ := h2 hl'
  exact ⟨id, off, row, m, g1, by omega, by omega, (e.row id g0 g2).trans g3, TLb.un hl hn e l g4⟩
theorem TLb.un {lo lo' : Nat} {σ σ' : St} (hl : lo' ≤ lo) (hn : σ.next ≤ σ'.next) (e : UN lo σ.next σ σ') : ∀ (l : List PT) {xs : List Value}, TLb lo σ l xs → TLb lo' σ' l xs
 | [], xs, h => by simp only [TLb] at h ⊢; exact h
 | t :: l, xs, h => by
  simp only [TLb] at h ⊢
  obtain ⟨a, b, h1, h2, h3⟩ := h
  exact ⟨a, b, h1, TCb.un hl hn e t h2, TLb.un hl hn e l h3⟩
end
def TVb (lo : Nat) (σ : St) (v : Value) (t : PT) : Prop := ∃ xs, v = .agg xs.toArray ∧ TCb lo σ t xs
theorem TVb.tv {lo : Nat} {σ : St} {v : Value} {t : PT} (h : TVb lo σ v t) : TV σ v t := by
 obtain ⟨xs, h1, h2⟩ := h; exact ⟨xs, h1, TCb.tc t h2⟩
theorem TVb.un {lo : Nat} {σ σ' : St} {v : Value} {t : PT} (h : TVb lo σ v t) (hn : σ.next ≤ σ'.next) (e : UN lo σ.next σ σ') : TVb lo σ' v t := by
 obtain ⟨xs, h1, h2⟩ := h; exact ⟨xs, h1, TCb.un (Nat.le_refl _) hn e t h2⟩
theorem TVb.weak {lo lo' : Nat} {σ : St} {v : Value} {t : PT} (h : TVb lo σ v t) (hl : lo' ≤ lo) : TVb lo' σ v t := by
 obtain ⟨xs, h1, h2⟩ := h; exact ⟨xs, h1, TCb.un hl (Nat.le_refl _) (UN.refl _ _ _) t h2⟩
theorem TVb.ex {lo : Nat} {σ σ' : St} {v : Value} {t : PT} (h : TVb lo σ v t) (e : EX σ σ') : TVb lo σ' v t := h.un e.next ⟨fun id _ hi => e.row id hi⟩
theorem TVb.con (lo : Nat) (σ : St) (o : Ob) : TVb lo σ (conV o) (.mk 2 es es o []) := ⟨_, rfl, by simp only [TCb]; exact ⟨none, 0, rfl, fun h => absurd rfl h⟩⟩
theorem TVb.var (lo : Nat) (σ : St) (p s : ByteArray) : TVb lo σ (varV p s) (.mk 1 p s ob0 []) := ⟨_, rfl, by simp only [TCb]; exact ⟨none, 0, rfl, fun h => absurd rfl h⟩⟩
theorem TVb.app {lo : Nat} {σ : St} {l : List PT} {id c : Nat} {xs : List Value} (p s : ByteArray) (h0 : lo ≤ id) (h1 : id < σ.next) (h2 : σ.row id = some (xs, rowMeta 11)) (h3 : TLb lo σ l (xs.take (l.length * 11))) : TVb lo σ (appV p s (some ⟨id, 0, none⟩) l.length c) (.mk 3 p s ob0 l) :=
 ⟨_, rfl, by simp only [TCb]; exact ⟨some ⟨id, 0, none⟩, c, rfl, fun _ => ⟨id, 0, xs, rowMeta 11, rfl, h0, h1, h2, h3⟩⟩⟩
theorem TVb.tc {lo : Nat} {σ : St} {t : PT} {xs : List Value} (h : TVb lo σ (.agg xs.toArray) t) : TCb lo σ t xs := by
 obtain ⟨ys, h1, h2⟩ := h
 have : xs = ys := by simpa using h1
 subst this; exact h2
theorem TLb.one {lo : Nat} {σ : St} {t : PT} {xs : List Value} (h : TCb lo σ t xs) : TLb lo σ [t] xs := by
 simp only [TLb]; exact ⟨xs, [], by simp, h, rfl⟩
theorem TLb.cons {lo : Nat} {σ : St} {t : PT} {l : List PT} {xs ys : List Value} (h : TCb lo σ t xs) (k : TLb lo σ l ys) : TLb lo σ (t :: l) (xs ++ ys) := by
 simp only [TLb]; exact ⟨xs, ys, rfl, h, k⟩
theorem mkT_1 {σ σ' : St} {id c lo : Nat} (p s : ByteArray) {t : PT} {At : Option Addr} {ct lt : Nat} (ht : TVb lt σ (.agg #[.int .i64 t.k, .string t.p, .string t.s, .int .i64 t.o.k, .string t.o.n, .string t.o.d, .string t.o.p, .string t.o.s, .string t.o.t, .slice none 0 0, .slice At t.l.length ct]) t) (bt : id < lt) (h0 : lo ≤ id) (h1 : id < σ.next) (e : EX (σ.put id (.cells [.int .i64 t.k, .string t.p, .string t.s, .int .i64 t.o.k, .string t.o.n, .string t.o.d, .string t.o.p, .string t.o.s, .string t.o.t, .slice none 0 0, .slice At t.l.length ct] (rowMeta 11))) σ') : TVb lo σ' (appV p s (some ⟨id, 0, none⟩) 1 c) (.mk 3 p s ob0 [t]) := by
 have hn : σ.next ≤ σ'.next := e.next
 have uf : ∀ lx, id < lx → UN lx σ.next σ σ' := fun lx hx => UN.ex e ((UN.refl _ _ _).put (Or.inl hx) _) (Nat.le_refl _)
 refine TVb.app (l := [t]) (xs := [.int .i64 t.k, .string t.p, .string t.s, .int .i64 t.o.k, .string t.o.n, .string t.o.d, .string t.o.p, .string t.o.s, .string t.o.t, .slice none 0 0, .slice At t.l.length ct]) p s h0 (Nat.lt_of_lt_of_le h1 hn) (by rw [e.row id h1, row_put, if_pos rfl]; rfl) ?_
 exact TLb.one (TVb.tc ((ht.un hn (uf _ bt)).weak (by omega)))
theorem mkT_2 {σ σ' : St} {id c lo : Nat} (p s : ByteArray) {t : PT} {At : Option Addr} {ct lt : Nat} (ht : TVb lt σ (.agg #[.int .i64 t.k, .string t.p, .string t.s, .int .i64 t.o.k, .string t.o.n, .string t.o.d, .string t.o.p, .string t.o.s, .string t.o.t, .slice none 0 0, .slice At t.l.length ct]) t) (bt : id < lt) {u : PT} {Au : Option Addr} {cu lu : Nat} (hu : TVb lu σ (.agg #[.int .i64 u.k, .string u.p, .string u.s, .int .i64 u.o.k, .string u.o.n, .string u.o.d, .string u.o.p, .string u.o.s, .string u.o.t, .slice none 0 0, .slice Au u.l.length cu]) u) (bu : id < lu) (h0 : lo ≤ id) (h1 : id < σ.next) (e : EX (σ.put id (.cells [.int .i64 t.k, .string t.p, .string t.s, .int .i64 t.o.k, .string t.o.n, .string t.o.d, .string t.o.p, .string t.o.s, .string t.o.t, .slice none 0 0, .slice At t.l.length ct, .int .i64 u.k, .string u.p, .string u.s, .int .i64 u.o.k, .string u.o.n, .string u.o.d, .string u.o.p, .string u.o.s, .string u.o.t, .slice none 0 0, .slice Au u.l.length cu] (rowMeta 11))) σ') : TVb lo σ' (appV p s (some ⟨id, 0, none⟩) 2 c) (.mk 3 p s ob0 [t, u]) := by
 have hn : σ.next ≤ σ'.next := e.next
 have uf : ∀ lx, id < lx → UN lx σ.next σ σ' := fun lx hx => UN.ex e ((UN.refl _ _ _).put (Or.inl hx) _) (Nat.le_refl _)
 refine TVb.app (l := [t, u]) (xs := [.int .i64 t.k, .string t.p, .string t.s, .int .i64 t.o.k, .string t.o.n, .string t.o.d, .string t.o.p, .string t.o.s, .string t.o.t, .slice none 0 0, .slice At t.l.length ct, .int .i64 u.k, .string u.p, .string u.s, .int .i64 u.o.k, .string u.o.n, .string u.o.d, .string u.o.p, .string u.o.s, .string u.o.t, .slice none 0 0, .slice Au u.l.length cu]) p s h0 (Nat.lt_of_lt_of_le h1 hn) (by rw [e.row id h1, row_put, if_pos rfl]; rfl) ?_
 exact TLb.cons (TVb.tc ((ht.un hn (uf _ bt)).weak (by omega))) (TLb.one (TVb.tc ((hu.un hn (uf _ bu)).weak (by omega))))
theorem mkT_3 {σ σ' : St} {id c lo : Nat} (p s : ByteArray) {t : PT} {At : Option Addr} {ct lt : Nat} (ht : TVb lt σ (.agg #[.int .i64 t.k, .string t.p, .string t.s, .int .i64 t.o.k, .string t.o.n, .string t.o.d, .string t.o.p, .string t.o.s, .string t.o.t, .slice none 0 0, .slice At t.l.length ct]) t) (bt : id < lt) {u : PT} {Au : Option Addr} {cu lu : Nat} (hu : TVb lu σ (.agg #[.int .i64 u.k, .string u.p, .string u.s, .int .i64 u.o.k, .string u.o.n, .string u.o.d, .string u.o.p, .string u.o.s, .string u.o.t, .slice none 0 0, .slice Au u.l.length cu]) u) (bu : id < lu) {w : PT} {Aw : Option Addr} {cw lw : Nat} (hw : TVb lw σ (.agg #[.int .i64 w.k, .string w.p, .string w.s, .int .i64 w.o.k, .string w.o.n, .string w.o.d, .string w.o.p, .string w.o.s, .string w.o.t, .slice none 0 0, .slice Aw w.l.length cw]) w) (bw : id < lw) (h0 : lo ≤ id) (h1 : id < σ.next) (e : EX (σ.put id (.cells [.int .i64 t.k, .string t.p, .string t.s, .int .i64 t.o.k, .string t.o.n, .string t.o.d, .string t.o.p, .string t.o.s, .string t.o.t, .slice none 0 0, .slice At t.l.length ct, .int .i64 u.k, .string u.p, .string u.s, .int .i64 u.o.k, .string u.o.n, .string u.o.d, .string u.o.p, .string u.o.s, .string u.o.t, .slice none 0 0, .slice Au u.l.length cu, .int .i64 w.k, .string w.p, .string w.s, .int .i64 w.o.k, .string w.o.n, .string w.o.d, .string w.o.p, .string w.o.s, .string w.o.t, .slice none 0 0, .slice Aw w.l.length cw] (rowMeta 11))) σ') : TVb lo σ' (appV p s (some ⟨id, 0, none⟩) 3 c) (.mk 3 p s ob0 [t, u, w]) := by
 have hn : σ.next ≤ σ'.next := e.next
 have uf : ∀ lx, id < lx → UN lx σ.next σ σ' := fun lx hx => UN.ex e ((UN.refl _ _ _).put (Or.inl hx) _) (Nat.le_refl _)
 refine TVb.app (l := [t, u, w]) (xs := [.int .i64 t.k, .string t.p, .string t.s, .int .i64 t.o.k, .string t.o.n, .string t.o.d, .string t.o.p, .string t.o.s, .string t.o.t, .slice none 0 0, .slice At t.l.length ct, .int .i64 u.k, .string u.p, .string u.s, .int .i64 u.o.k, .string u.o.n, .string u.o.d, .string u.o.p, .string u.o.s, .string u.o.t, .slice none 0 0, .slice Au u.l.length cu, .int .i64 w.k, .string w.p, .string w.s, .int .i64 w.o.k, .string w.o.n, .string w.o.d, .string w.o.p, .string w.o.s, .string w.o.t, .slice none 0 0, .slice Aw w.l.length cw]) p s h0 (Nat.lt_of_lt_of_le h1 hn) (by rw [e.row id h1, row_put, if_pos rfl]; rfl) ?_
 exact TLb.cons (TVb.tc ((ht.un hn (uf _ bt)).weak (by omega))) (TLb.cons (TVb.tc ((hu.un hn (uf _ bu)).weak (by omega))) (TLb.one (TVb.tc ((hw.un hn (uf _ bw)).weak (by omega)))))
end Go.Proofs.Q
namespace Go.Proofs.Q
open Go.AI
set_option maxRecDepth 4000
def trC (s : ByteArray) : List Bool → Bool
 | [a] => !a
 | [a, b] => if s = nIff then a == b else !a || b
 | [a, b, c] => if a then b else c
 | _ => false
mutual
def trT (vs : List Sy) (f : As) : PT → Bool
 | .mk k p s o l => if k = 1 then f (idxY (p, s) vs 0).toNat else if k = 2 then !nilB o else trC s (trL vs f l)
def trL (vs : List Sy) (f : As) : List PT → List Bool
 | [] => []
 | t :: l => trT vs f t :: trL vs f l
end
theorem trT_eq (vs : List Sy) (f : As) (t : PT) : trT vs f t = if t.k = 1 then f (idxY (t.p, t.s) vs 0).toNat else if t.k = 2 then !nilB t.o else trC t.s (trL vs f t.l) := by cases t; simp only [trT, PT.k, PT.p, PT.s, PT.o, PT.l]; rfl
theorem idxY_lt (y : Sy) : ∀ (l : List Sy) (k : Int), idxY y l k < k + l.length ∨ idxY y l k = -1
 | [], k => Or.inr rfl
 | x :: l, k => by
  simp only [idxY]
  split
  ·left; simp; omega
  ·rcases idxY_lt y l (k + 1) with h | h
   ·left; simp only [List.length_cons]; omega
   ·right; exact h
theorem fm_mem {vs : List Sy} : ∀ {l : List PT} {x : PT}, fmL vs l = 0 → x ∈ l → fmT vs x = 0
 | _ :: _, _, h, .head _ => by
  simp only [fmL] at h
  split at h
  ·assumption
  ·exact h
 | _ :: _, _, h, .tail _ k => by
  simp only [fmL] at h
  split at h
  ·exact fm_mem h k
  ·rename_i e; exact absurd h e
theorem fm_call {vs : List Sy} {t : PT} (h : fmT vs t = 0) (h3 : t.k = 3) : fmL vs t.l = 0 ∧ propB t = true ∧ (t.l.length = 1 ∧ t.s = nNot ∨ t.l.length = 2 ∧ (t.s = nImp ∨ t.s = nIff) ∨ t.l.length = 3 ∧ t.s = nIf) := by
 rw [fmT_eq, if_neg (by omega), if_neg (by omega)] at h
 cases hp : propB t with
 | false => rw [hp] at h; simp at h
 | true =>
  rw [hp, if_pos rfl] at h
  refine ⟨h, rfl, ?_⟩
  simp only [propB, isB, Bool.or_eq_true, Bool.and_eq_true, decide_eq_true_eq] at hp
  rcases hp with ⟨⟨_, _, e⟩, n⟩ | ⟨⟨_, _, e⟩, n⟩ | ⟨⟨_, _, e⟩, n⟩ | ⟨⟨_, _, e⟩, n⟩
  ·exact Or.inr (Or.inr ⟨by omega, e⟩)
  ·exact Or.inl ⟨by omega, e⟩
  ·exact Or.inr (Or.inl ⟨by omega, Or.inl e⟩)
  ·exact Or.inr (Or.inl ⟨by omega, Or.inr e⟩)
mutual
theorem trT_congr {vs : List Sy} (hvs : vs.length ≤ 10) {f g : As} (e : ∀ i, i < 10 → f i = g i) : ∀ t : PT, fmT vs t = 0 → trT vs f t = trT vs g t
 | .mk k p s o l, h => by
  simp only [trT]
  by_cases h1 : k = 1
  ·rw [if_pos h1, if_pos h1]
   simp only [fmT, if_pos h1] at h
   split at h
   ·omega
   ·have := idxY_lt (p, s) vs 0
    exact e _ (by omega)
  ·rw [if_neg h1, if_neg h1]
   by_cases h2 : k = 2
   ·rw [if_pos h2, if_pos h2]
   ·rw [if_neg h2, if_neg h2]
    simp only [fmT, if_neg h1, if_neg h2] at h
    split at h
    ·rw [trL_congr hvs e l h]
    ·omega
theorem trL_congr {vs : List Sy} (hvs : vs.length ≤ 10) {f g : As} (e : ∀ i, i < 10 → f i = g i) : ∀ l : List PT, fmL vs l = 0 → trL vs f l = trL vs g l
 | [], h => rfl
 | t :: l, h => by
  simp only [trL]
  rw [trT_congr hvs e t (fm_mem h (List.mem_cons_self ..)), trL_congr hvs e l (by
   have h1 := fm_mem h (List.mem_cons_self (a := t) (l := l))
   simpa only [fmL, if_pos h1] using h)]
end
def TrS (vs : List Sy) (t : PT) : Prop := goT t → fmT vs t = 0 → ∀ (σ : St) (v w u : Value) (bs : List Bool), TV σ v t → YL σ w vs → SB σ u bs → bs.length = 10 → wpc Tryz.prog 28 #[v, w, u] σ fun r σ' => r = .bool (trT vs (bt bs) t) ∧ EX σ σ'
set_option maxHeartbeats 2000000 in
theorem tr_step {vs : List Sy} (hvs : vs.length ≤ 10) (t : PT) (ih : ∀ x ∈ t.l, TrS vs x) : TrS vs t := by
 intro hg hf σ v w u bs hv hw hu hb
 have hv0 := hv
 have hw0 := hw
 have hu0 := hu
 obtain ⟨hk, ho, h3, hgl⟩ := hg.at
 obtain ⟨a, c, rfl, hA⟩ := hv.al
 obtain ⟨b, d, rfl, -⟩ := hw
 obtain ⟨ou, cu, rfl, hU⟩ := hu
 refine body_go Tryz.func28 rfl ?_
 have hr := Tryz.results28
 rcases hk with h1 | h1 | h1
 ·have g1 : (t.k == (1 : Int)) = true := by simp [h1]
  have g2 : (t.k == (2 : Int)) = false := by simp [h1]
  simp only [c_seq, RUNA, RUNB, zAd, zMo, zDi, zSu, zMu, zEq, zBe, zLe, zTo, fillS, wantG, vBox, Value.cells, one, putAt, TYA, hr, g1, g2]
  refine wpc_mono (index_spec (t.p, t.s) (hw0.mono ?_) (by omega)) ?_
  ·repeat first | assumption | exact EXn.refl _ _ | refine EXn.more ?_ _ | refine EXn.put ?_ (by omega) _ | refine EX.trans ?_ (by assumption)
  rintro r σ1 ⟨rfl, hE1⟩
  have n1 := hE1.next
  try simp only [next_more, next_put] at n1
  have hi := idxY_lt (t.p, t.s) vs 0
  rw [fmT_eq, if_pos h1] at hf
  have hi2 : 0 ≤ idxY (t.p, t.s) vs 0 := by
   split at hf
   ·omega
   ·omega
  have z2 : (0 : Int) ≤ idxY (t.p, t.s) vs 0 := hi2
  have z3 : idxY (t.p, t.s) vs 0 < (bs.length : Int) := by omega
  have hT : trT vs (bt bs) t = bt bs (idxY (t.p, t.s) vs 0).toNat := by rw [trT_eq, if_pos h1]
  obtain ⟨bid, boff, brow, bm, rfl, b1, b2, b3⟩ := hU (by omega)
  have e1 : EX σ σ1 := by refine EX.trans ?_ hE1; repeat first | assumption | exact EXn.refl _ _ | refine EXn.more ?_ _ | refine EXn.put ?_ (by omega) _ | refine EX.trans ?_ (by assumption)
  have rb : σ1.row bid = some (brow, bm) := (e1.row bid b1).trans b2
  have hat := tb_at b3 (i := (idxY (t.p, t.s) vs 0).toNat) (by omega)
  simp only [c_seq, RUNA, RUNB, zAd, zMo, zDi, zSu, zMu, zEq, zBe, zLe, zTo, fillS, wantG, vBox, Value.cells, one, putAt, TYA, hr, ia63 z2 z3, rb, Nat.mul_one, hat]
  exact ⟨by rw [hT], by repeat first | assumption | exact EXn.refl _ _ | refine EXn.more ?_ _ | refine EXn.put ?_ (by omega) _ | refine EX.trans ?_ (by assumption)⟩
 ·have g1 : (t.k == (1 : Int)) = false := by simp [h1]
  have g2 : (t.k == (2 : Int)) = true := by simp [h1]
  have hT : trT vs (bt bs) t = !obB t.o obNil := by rw [trT_eq, if_neg (by omega), if_pos h1, ho]
  simp only [c_seq, RUNA, RUNB, zAd, zMo, zDi, zSu, zMu, zEq, zBe, zLe, zTo, fillS, wantG, vBox, Value.cells, one, putAt, TYA, hr, g1, g2]
  refine d_go (ms := [0, 1, 0, 7, 15, 31]) (order := [0, 1, 2, 3, 4, 5]) (by kernel_rfl) (by kernel_rfl) (by kernel_rfl) (by kernel_rfl) ?_
  simp only [YRUNA, YRUNB, zSh, bit, c_seq, RUNA, RUNB, zAd, zMo, zDi, zSu, zMu, zEq, zBe, zLe, zTo, fillS, wantG, vBox, Value.cells, one, putAt, TYA]
  refine wpc_mono (refNil_spec _) ?_
  rintro r σ1 ⟨rfl, hE1⟩
  have n1 := hE1.next
  try simp only [next_more, next_put] at n1
  have r1 : σ1.row σ.next = some (tcell t a c, boxMeta) := by rw [hE1.row _ (by first | omega | (simp only [next_more, next_put] at *; omega))]; simp only [c_seq, RUNA, RUNB, zAd, zMo, zDi, zSu, zMu, zEq, zBe, zLe, zTo, fillS, wantG, vBox, Value.cells, one, putAt, tcell]
  simp only [tcell] at r1
  simp only [YRUNA, YRUNB, zSh, bit, c_seq, RUNA, RUNB, zAd, zMo, zDi, zSu, zMu, zEq, zBe, zLe, zTo, fillS, wantG, vBox, Value.cells, one, putAt, TYA, r1]
  refine wpc_mono (refEqO_spec _ t.o obNil) ?_
  rintro r σ2 ⟨rfl, hE2⟩
  have n2 := hE2.next
  try simp only [next_more, next_put] at n2
  simp only [YRUNA, YRUNB, zSh, bit, c_seq, RUNA, RUNB, zAd, zMo, zDi, zSu, zMu, zEq, zBe, zLe, zTo, fillS, wantG, vBox, Value.cells, one, putAt, TYA, hr]
  refine ⟨by rw [hT], ?_⟩
  refine EX.trans ?_ hE2
  repeat first | assumption | exact EXn.refl _ _ | refine EXn.more ?_ _ | refine EXn.put ?_ (by omega) _ | refine EX.trans ?_ (by assumption)
 ·have g1 : (t.k == (1 : Int)) = false := by simp [h1]
  have g2 : (t.k == (2 : Int)) = false := by simp [h1]
  obtain ⟨hfl, hpb, hsh⟩ := fm_call hf h1
  have hT : trT vs (bt bs) t = trC t.s (trL vs (bt bs) t.l) := by rw [trT_eq, if_neg (by omega), if_neg (by omega)]
  have hn0 : 0 < t.l.length := by omega
  have ne : t.l ≠ [] := by intro e; rw [e] at hn0; simp at hn0
  obtain ⟨a0, c0, e', k2⟩ := hA
  cases e'
  obtain ⟨id, off, row, m, rfl, q2, q3, q4⟩ := k2 ne
  have hx0 : t.l[0]? = some (t.l[0]'hn0) := List.getElem?_eq_getElem hn0
  generalize t.l[0]'hn0 = x0 at hx0
  obtain ⟨a0, c0, hc0, hT0⟩ := row_cutT q4 hx0
  have m0 := List.mem_of_getElem? hx0
  have y0 : (0 : Int) ≤ 0 := by omega
  have z0 : (0 : Int) < (t.l.length : Int) := by omega
  have d0 : ∀ k, ¬ id = σ.next + k := fun k => by omega
  have d00 : ¬ id = σ.next := by omega
  simp only [zMu, Nat.add_zero] at hc0
  simp only [c_seq, RUNA, RUNB, zAd, zMo, zDi, zSu, zMu, zEq, zBe, zLe, zTo, fillS, wantG, vBox, Value.cells, one, putAt, TYA, hr, g1, g2, ia32 y0 z0, q3, hc0, d0, d00, Nat.add_zero]
  refine wpc_mono (ih x0 m0 (goL_mem hgl m0) (fm_mem hfl m0) _ _ _ _ bs (hT0.mono ?_) (hw0.mono ?_) (hu0.mono ?_) hb) ?_
  ·repeat first | assumption | exact EXn.refl _ _ | refine EXn.more ?_ _ | refine EXn.put ?_ (by omega) _ | refine EX.trans ?_ (by assumption)
  ·repeat first | assumption | exact EXn.refl _ _ | refine EXn.more ?_ _ | refine EXn.put ?_ (by omega) _ | refine EX.trans ?_ (by assumption)
  ·repeat first | assumption | exact EXn.refl _ _ | refine EXn.more ?_ _ | refine EXn.put ?_ (by omega) _ | refine EX.trans ?_ (by assumption)
  rintro r σ1 ⟨rfl, hE1⟩
  have n1 := hE1.next
  try simp only [next_more, next_put] at n1
  have r1 : σ1.row σ.next = some (tcell t (some ⟨id, off, none⟩) c, boxMeta) := by rw [hE1.row _ (by first | omega | (simp only [next_more, next_put] at *; omega))]; simp only [c_seq, RUNA, RUNB, zAd, zMo, zDi, zSu, zMu, zEq, zBe, zLe, zTo, fillS, wantG, vBox, Value.cells, one, putAt, tcell]
  simp only [tcell] at r1
  have e1 : EX σ σ1 := by refine EX.trans ?_ hE1; repeat first | assumption | exact EXn.refl _ _ | refine EXn.more ?_ _ | refine EXn.put ?_ (by omega) _ | refine EX.trans ?_ (by assumption)
  have w1 : σ1.row id = some (row, m11 m) := (e1.row id q2).trans q3
  clear hT0 hc0
  have lst : ∀ (l : List PT), t.l = l → trT vs (bt bs) t = trC t.s (trL vs (bt bs) l) := fun l e => by rw [hT, e]
  rcases hsh with ⟨hl, hs⟩ | ⟨hl, hs⟩ | ⟨hl, hs⟩
  ·have v1 : (((t.l.length : Nat) : Int) == (1 : Int)) = true := by rw [hl]; rfl
   have hL : t.l = [x0] := by
    obtain ⟨z, hz⟩ := List.length_eq_one_iff.1 hl
    rw [hz] at hx0 ⊢; simpa using hx0
   simp only [c_seq, RUNA, RUNB, zAd, zMo, zDi, zSu, zMu, zEq, zBe, zLe, zTo, fillS, wantG, vBox, Value.cells, one, putAt, TYA, hr, r1, v1]
   refine ⟨?_, by repeat first | assumption | exact EXn.refl _ _ | refine EXn.more ?_ _ | refine EXn.put ?_ (by omega) _ | refine EX.trans ?_ (by assumption)⟩
   rw [lst _ hL]; rfl
  ·have v1 : (((t.l.length : Nat) : Int) == (1 : Int)) = false := by rw [hl]; rfl
   have v3 : (((t.l.length : Nat) : Int) == (3 : Int)) = false := by rw [hl]; rfl
   have hx1 : t.l[1]? = some (t.l[1]'(by omega)) := List.getElem?_eq_getElem (by omega)
   generalize t.l[1]'(by omega) = x1 at hx1
   obtain ⟨a1, c1, hc1, hT1⟩ := row_cutT q4 hx1
   have m1 := List.mem_of_getElem? hx1
   have y1 : (0 : Int) ≤ 1 := by omega
   have z1 : (1 : Int) < (t.l.length : Int) := by omega
   simp only [zMu, Nat.add_zero] at hc1
   have hL : t.l = [x0, x1] := by
    obtain ⟨z, z', hz⟩ : ∃ z z', t.l = [z, z'] := by
     match t.l, hl with
     | [z, z'], _ => exact ⟨z, z', rfl⟩
    rw [hz] at hx0 hx1 ⊢
    simp at hx0 hx1
    rw [hx0, hx1]
   simp only [c_seq, RUNA, RUNB, zAd, zMo, zDi, zSu, zMu, zEq, zBe, zLe, zTo, fillS, wantG, vBox, Value.cells, one, putAt, TYA, hr, r1, v1, v3, ia32 y1 z1, w1, hc1]
   refine wpc_mono (ih x1 m1 (goL_mem hgl m1) (fm_mem hfl m1) _ _ _ _ bs (hT1.mono ?_) (hw0.mono ?_) (hu0.mono ?_) hb) ?_
   ·repeat first | assumption | exact EXn.refl _ _ | refine EXn.more ?_ _ | refine EXn.put ?_ (by omega) _ | refine EX.trans ?_ (by assumption)
   ·repeat first | assumption | exact EXn.refl _ _ | refine EXn.more ?_ _ | refine EXn.put ?_ (by omega) _ | refine EX.trans ?_ (by assumption)
   ·repeat first | assumption | exact EXn.refl _ _ | refine EXn.more ?_ _ | refine EXn.put ?_ (by omega) _ | refine EX.trans ?_ (by assumption)
   rintro r σ2 ⟨rfl, hE2⟩
   have n2 := hE2.next
   try simp only [next_more, next_put] at n2
   have e2 : EX σ σ2 := by refine EX.trans ?_ hE2; repeat first | assumption | exact EXn.refl _ _ | refine EXn.more ?_ _ | refine EXn.put ?_ (by omega) _ | refine EX.trans ?_ (by assumption)
   have r2 := (hE2.row σ.next (by first | omega | (simp only [next_more, next_put] at *; omega))).trans r1
   by_cases hq : t.s = nIff
   ·have v4 : decide (t.s = ⟨#[105, 102, 102]⟩) = true := decide_eq_true hq
    simp only [c_seq, RUNA, RUNB, zAd, zMo, zDi, zSu, zMu, zEq, zBe, zLe, zTo, fillS, wantG, vBox, Value.cells, one, putAt, TYA, hr, r2, eqS, v4, n_eqb Tryz.underlying4]
    refine ⟨?_, by repeat first | assumption | exact EXn.refl _ _ | refine EXn.more ?_ _ | refine EXn.put ?_ (by omega) _ | refine EX.trans ?_ (by assumption)⟩
    rw [lst _ hL]; simp only [trL, trC, if_pos hq]
   ·have v4 : decide (t.s = ⟨#[105, 102, 102]⟩) = false := decide_eq_false hq
    have hres : trT vs (bt bs) t = (!trT vs (bt bs) x0 || trT vs (bt bs) x1) := by
     rw [lst _ hL]; simp only [trL, trC, if_neg hq]
    rw [hres]
    cases hb0 : trT vs (bt bs) x0 <;> cases hb1 : trT vs (bt bs) x1 <;>
     simp only [c_seq, RUNA, RUNB, zAd, zMo, zDi, zSu, zMu, zEq, zBe, zLe, zTo, fillS, wantG, vBox, Value.cells, one, putAt, TYA, hr, r2, eqS, v4, hb0, hb1, undef, Bool.not_true, Bool.not_false] <;>
     first
     | exact ⟨rfl, by repeat first | assumption | exact EXn.refl _ _ | refine EXn.more ?_ _ | refine EXn.put ?_ (by omega) _ | refine EX.trans ?_ (by assumption)⟩
     | (repeat first | assumption | exact EXn.refl _ _ | refine EXn.more ?_ _ | refine EXn.put ?_ (by omega) _ | refine EX.trans ?_ (by assumption))
  ·have v1 : (((t.l.length : Nat) : Int) == (1 : Int)) = false := by rw [hl]; rfl
   have v3 : (((t.l.length : Nat) : Int) == (3 : Int)) = true := by rw [hl]; rfl
   have hx1 : t.l[1]? = some (t.l[1]'(by omega)) := List.getElem?_eq_getElem (by omega)
   generalize t.l[1]'(by omega) = x1 at hx1
   obtain ⟨a1, c1, hc1, hT1⟩ := row_cutT q4 hx1
   have m1 := List.mem_of_getElem? hx1
   have y1 : (0 : Int) ≤ 1 := by omega
   have z1 : (1 : Int) < (t.l.length : Int) := by omega
   simp only [zMu, Nat.add_zero] at hc1
   have hx2 : t.l[2]? = some (t.l[2]'(by omega)) := List.getElem?_eq_getElem (by omega)
   generalize t.l[2]'(by omega) = x2 at hx2
   obtain ⟨a2, c2, hc2, hT2⟩ := row_cutT q4 hx2
   have m2 := List.mem_of_getElem? hx2
   have y2 : (0 : Int) ≤ 2 := by omega
   have z2 : (2 : Int) < (t.l.length : Int) := by omega
   simp only [zMu, Nat.add_zero] at hc2
   have hL : t.l = [x0, x1, x2] := by
    obtain ⟨z, z', z'', hz⟩ : ∃ z z' z'', t.l = [z, z', z''] := by
     match t.l, hl with
     | [z, z', z''], _ => exact ⟨z, z', z'', rfl⟩
    rw [hz] at hx0 hx1 hx2 ⊢
    simp at hx0 hx1 hx2
    rw [hx0, hx1, hx2]
   have hres : trT vs (bt bs) t = if trT vs (bt bs) x0 then trT vs (bt bs) x1 else trT vs (bt bs) x2 := by
    rw [lst _ hL]; rfl
   rw [hres]
   cases hb0 : trT vs (bt bs) x0 with
   | true =>
    simp only [c_seq, RUNA, RUNB, zAd, zMo, zDi, zSu, zMu, zEq, zBe, zLe, zTo, fillS, wantG, vBox, Value.cells, one, putAt, TYA, hr, r1, v1, v3, hb0, ia32 y1 z1, w1, hc1]
    refine wpc_mono (ih x1 m1 (goL_mem hgl m1) (fm_mem hfl m1) _ _ _ _ bs (hT1.mono ?_) (hw0.mono ?_) (hu0.mono ?_) hb) ?_
    ·repeat first | assumption | exact EXn.refl _ _ | refine EXn.more ?_ _ | refine EXn.put ?_ (by omega) _ | refine EX.trans ?_ (by assumption)
    ·repeat first | assumption | exact EXn.refl _ _ | refine EXn.more ?_ _ | refine EXn.put ?_ (by omega) _ | refine EX.trans ?_ (by assumption)
    ·repeat first | assumption | exact EXn.refl _ _ | refine EXn.more ?_ _ | refine EXn.put ?_ (by omega) _ | refine EX.trans ?_ (by assumption)
    rintro r σ2 ⟨rfl, hE2⟩
    have n2 := hE2.next
    try simp only [next_more, next_put] at n2
    have e2 : EX σ σ2 := by refine EX.trans ?_ hE2; repeat first | assumption | exact EXn.refl _ _ | refine EXn.more ?_ _ | refine EXn.put ?_ (by omega) _ | refine EX.trans ?_ (by assumption)
    simp only [c_seq, RUNA, RUNB, zAd, zMo, zDi, zSu, zMu, zEq, zBe, zLe, zTo, fillS, wantG, vBox, Value.cells, one, putAt, TYA, hr]
    first
    | exact ⟨by simp, by repeat first | assumption | exact EXn.refl _ _ | refine EXn.more ?_ _ | refine EXn.put ?_ (by omega) _ | refine EX.trans ?_ (by assumption)⟩
    | (repeat first | assumption | exact EXn.refl _ _ | refine EXn.more ?_ _ | refine EXn.put ?_ (by omega) _ | refine EX.trans ?_ (by assumption))
   | false =>
    simp only [c_seq, RUNA, RUNB, zAd, zMo, zDi, zSu, zMu, zEq, zBe, zLe, zTo, fillS, wantG, vBox, Value.cells, one, putAt, TYA, hr, r1, v1, v3, hb0, ia32 y2 z2, w1, hc2]
    refine wpc_mono (ih x2 m2 (goL_mem hgl m2) (fm_mem hfl m2) _ _ _ _ bs (hT2.mono ?_) (hw0.mono ?_) (hu0.mono ?_) hb) ?_
    ·repeat first | assumption | exact EXn.refl _ _ | refine EXn.more ?_ _ | refine EXn.put ?_ (by omega) _ | refine EX.trans ?_ (by assumption)
    ·repeat first | assumption | exact EXn.refl _ _ | refine EXn.more ?_ _ | refine EXn.put ?_ (by omega) _ | refine EX.trans ?_ (by assumption)
    ·repeat first | assumption | exact EXn.refl _ _ | refine EXn.more ?_ _ | refine EXn.put ?_ (by omega) _ | refine EX.trans ?_ (by assumption)
    rintro r σ2 ⟨rfl, hE2⟩
    have n2 := hE2.next
    try simp only [next_more, next_put] at n2
    have e2 : EX σ σ2 := by refine EX.trans ?_ hE2; repeat first | assumption | exact EXn.refl _ _ | refine EXn.more ?_ _ | refine EXn.put ?_ (by omega) _ | refine EX.trans ?_ (by assumption)
    simp only [c_seq, RUNA, RUNB, zAd, zMo, zDi, zSu, zMu, zEq, zBe, zLe, zTo, fillS, wantG, vBox, Value.cells, one, putAt, TYA, hr]
    first
    | exact ⟨by simp, by repeat first | assumption | exact EXn.refl _ _ | refine EXn.more ?_ _ | refine EXn.put ?_ (by omega) _ | refine EX.trans ?_ (by assumption)⟩
    | (repeat first | assumption | exact EXn.refl _ _ | refine EXn.more ?_ _ | refine EXn.put ?_ (by omega) _ | refine EX.trans ?_ (by assumption))
mutual
theorem trT_spec {vs : List Sy} (hvs : vs.length ≤ 10) : ∀ t : PT, TrS vs t
 | .mk k p s o l => tr_step hvs (.mk k p s o l) (trL_spec hvs l)
theorem trL_spec {vs : List Sy} (hvs : vs.length ≤ 10) : ∀ (l : List PT) (x : PT), x ∈ l → TrS vs x
 | t :: l, x, h => by
  rcases List.mem_cons.1 h with e | e
  ·rw [e]; exact trT_spec hvs t
  ·exact trL_spec hvs l x e
end
end Go.Proofs.Q
namespace Go.Proofs.Q
open Go.AI
set_option maxRecDepth 4000
theorem ckY_len {vs : List Sy} (h : ckY vs = 0) : vs.length ≤ 10 := by
 unfold ckY at h
 split at h
 ·omega
 ·omega
def eOf (vs : List Sy) (t : PT) : Int := if ckY vs = 0 then fmT vs t else ckY vs
abbrev noD : Value := .agg #[.slice none 0 0, .int .i64 0]
def OfR (vs : List Sy) (t : PT) (σ : St) (r : Value) (σ' : St) : Prop := ∃ d, r = .tuple #[d, .int .i64 (eOf vs t)] ∧ (eOf vs t = 0 → IsD σ.next σ'.next σ' d (fun f => trT vs f t)) ∧ (eOf vs t ≠ 0 → d = noD) ∧ EX σ σ'
theorem bdD0 : abuild Tryz.prog 41 #[] = some (.agg #[.slice none 0 0, .int .i64 0]) := by kernel_rfl
def OfI (vs : List Sy) (t : PT) (lo m : Nat) (S : Slots) (τ : St) : Prop := ∃ id n : Nat, S.at 8 = .slice (some ⟨id, 0, none⟩) 1024 1024 ∧ S.at 9 = .int .i64 n ∧ lo ≤ id ∧ id < τ.next ∧ n ≤ 1024 ∧ m = 1024 - n ∧ τ.row id = some ((tab 1024 (half n (fun n => trT vs (bits n) t) fun _ => false)).map Value.bool, rowMeta 1)
set_option maxHeartbeats 2000000 in
theorem refOf_spec {σ : St} {v w : Value} {vs : List Sy} {t : PT} (hg : goT t) (hv : TV σ v t) (hw : YL σ w vs) (hvs : vs.length < 1000) (hF : Fr σ) : wpc Tryz.prog 9 #[v, w] σ (OfR vs t σ) := by
 have hv0 := hv
 have hw0 := hw
 obtain ⟨a, c, rfl, -⟩ := hv.al
 obtain ⟨b, d, rfl, -⟩ := hw
 refine body_go Tryz.func9 rfl ?_
 have hr := Tryz.results9
 simp only [c_seq, RUNA, RUNB, zAd, zMo, zDi, zSu, zMu, zEq, zBe, zLe, zTo, fillS, wantG, vBox, Value.cells, one, putAt, TYA, hr]
 refine wpc_mono (checked_spec (hw0.mono ?_) hvs) ?_
 ·repeat first | assumption | exact EXn.refl _ _ | refine EXn.more ?_ _ | refine EXn.put ?_ (by omega) _ | refine EX.trans ?_ (by assumption)
 rintro r σ1 ⟨rfl, hE1⟩
 have n1 := hE1.next
 try simp only [next_more, next_put] at n1
 have r1 : σ1.row σ.next = some (tcell t a c, boxMeta) := by rw [hE1.row _ (by first | omega | (simp only [next_more, next_put] at *; omega))]; simp only [c_seq, RUNA, RUNB, zAd, zMo, zDi, zSu, zMu, zEq, zBe, zLe, zTo, fillS, wantG, vBox, Value.cells, one, putAt, tcell]
 simp only [tcell] at r1
 have x1 : σ1.row (σ.next + 1) = some ([.slice none 0 0, .int .i64 0], boxMeta) := by rw [hE1.row _ (by first | omega | (simp only [next_more, next_put] at *; omega))]; simp only [c_seq, RUNA, RUNB, zAd, zMo, zDi, zSu, zMu, zEq, zBe, zLe, zTo, fillS, wantG, vBox, Value.cells, one, putAt]
 have e1 : EX σ σ1 := by refine EX.trans ?_ hE1; repeat first | assumption | exact EXn.refl _ _ | refine EXn.more ?_ _ | refine EXn.put ?_ (by omega) _ | refine EX.trans ?_ (by assumption)
 by_cases h1 : ckY vs = 0
 ·have g1 : (ckY vs != (0 : Int)) = false := by simp [h1]
  have h10 := ckY_len h1
  have hev : eOf vs t = fmT vs t := by simp [eOf, h1]
  simp only [c_seq, RUNA, RUNB, zAd, zMo, zDi, zSu, zMu, zEq, zBe, zLe, zTo, fillS, wantG, vBox, Value.cells, one, putAt, TYA, hr, g1, r1]
  refine wpc_mono (foT hvs t hg.k hg.ok _ _ _ (hv0.mono ?_) (hw0.mono ?_)) ?_
  ·repeat first | assumption | exact EXn.refl _ _ | refine EXn.more ?_ _ | refine EXn.put ?_ (by omega) _ | refine EX.trans ?_ (by assumption)
  ·repeat first | assumption | exact EXn.refl _ _ | refine EXn.more ?_ _ | refine EXn.put ?_ (by omega) _ | refine EX.trans ?_ (by assumption)
  rintro r σ2 ⟨rfl, hE2⟩
  have n2 := hE2.next
  try simp only [next_more, next_put] at n2
  have r2 := (hE2.row σ.next (by first | omega | (simp only [next_more, next_put] at *; omega))).trans r1
  have x2 := (hE2.row (σ.next + 1) (by first | omega | (simp only [next_more, next_put] at *; omega))).trans x1
  have e2 : EX σ σ2 := by refine EX.trans ?_ hE2; repeat first | assumption | exact EXn.refl _ _ | refine EXn.more ?_ _ | refine EXn.put ?_ (by omega) _ | refine EX.trans ?_ (by assumption)
  by_cases h2 : fmT vs t = 0
  ·have g2 : (fmT vs t != (0 : Int)) = false := by simp [h2]
   have hmk := mkB 1024 (fun n => trT vs (bits n) t) (by omega)
   rw [show (((1024 : Nat) : Int)) = 1024 from rfl] at hmk
   have f2 := e2.fr hF
   simp only [c_seq, RUNA, RUNB, zAd, zMo, zDi, zSu, zMu, zEq, zBe, zLe, zTo, fillS, wantG, vBox, Value.cells, one, putAt, TYA, hr, g2, hmk]
   refine loop_go (fun m S τ => S.at 1 = .slice b vs.length d ∧ S.at 2 = .pointer (some ⟨σ.next, 0, none⟩) ∧ S.at 4 = .pointer (some ⟨σ.next + 1, 0, none⟩) ∧ EX σ τ ∧ Fr τ ∧ σ2.next ≤ τ.next ∧
    τ.row σ.next = some ([.int .i64 t.k, .string t.p, .string t.s, .int .i64 t.o.k, .string t.o.n, .string t.o.d, .string t.o.p, .string t.o.s, .string t.o.t, .slice none 0 0, .slice a t.l.length c], boxMeta) ∧ τ.row (σ.next + 1) = some ([.slice none 0 0, .int .i64 0], boxMeta) ∧
    OfI vs t σ2.next m S τ) 1024 ?_ ?_
   ·simp only [c_seq, RUNA, RUNB, zAd, zMo, zDi, zSu, zMu, zEq, zBe, zLe, zTo, fillS, wantG, vBox, Value.cells, one, putAt]
    have q1 : ∀ k, ¬ σ.next = σ2.next + k := fun k => by omega
    have q2 : ∀ k, ¬ σ.next + 1 = σ2.next + k := fun k => by omega
    refine ⟨?_, by repeat first | assumption | refine Fr.more ?_ _ | refine Fr.put ?_ _ _, by first | omega | (simp only [next_more, next_put] at *; omega), ?_, ?_, σ2.next + 2, 0, ?_, ?_, by omega, by first | omega | (simp only [next_more, next_put] at *; omega), by omega, by omega, ?_⟩
    ·repeat first | assumption | exact EXn.refl _ _ | refine EXn.more ?_ _ | refine EXn.put ?_ (by omega) _ | refine EX.trans ?_ (by assumption)
    ·simp only [c_seq, RUNA, RUNB, zAd, zMo, zDi, zSu, zMu, zEq, zBe, zLe, zTo, fillS, wantG, vBox, Value.cells, one, putAt, q1, r2]
    ·simp only [c_seq, RUNA, RUNB, zAd, zMo, zDi, zSu, zMu, zEq, zBe, zLe, zTo, fillS, wantG, vBox, Value.cells, one, putAt, q1, q2, x2]
    ·simp only [c_seq, RUNA, RUNB, zAd, zMo, zDi, zSu, zMu, zEq, zBe, zLe, zTo, fillS, wantG, vBox, Value.cells, one, putAt]
    ·simp only [c_seq, RUNA, RUNB, zAd, zMo, zDi, zSu, zMu, zEq, zBe, zLe, zTo, fillS, wantG, vBox, Value.cells, one, putAt]; rfl
    ·simp only [c_seq, RUNA, RUNB, zAd, zMo, zDi, zSu, zMu, zEq, zBe, zLe, zTo, fillS, wantG, vBox, Value.cells, one, putAt]
   rintro _ S τ ⟨s1, s2, s4, hE, hF', hx, r0, x0, id, n, s8, s9, hid1, hid2, hn, rfl, rt⟩
   have nn := hE.next
   by_cases hlt : n < 1024
   ·have hd : decide ((n : Int) < ((1024 : Nat) : Int)) = true := by simp; omega
    have z2 : (0 : Int) ≤ (n : Int) := by omega
    have z3 : (n : Int) < ((1024 : Nat) : Int) := by omega
    have hw : IntKind.i64.wrap ((n : Int) + 1) = ((n + 1 : Nat) : Int) := by rw [wrap64 (by omega) (by omega)]; rfl
    simp only [c_seq, RUNA, RUNB, zAd, zMo, zDi, zSu, zMu, zEq, zBe, zLe, zTo, fillS, wantG, vBox, Value.cells, one, putAt, TYA, s1, s2, s8, s9, hd]
    refine d_go (ms := [0, 0, 0, 0, 0, 16, 60, 127, 255]) (order := [0, 1, 2, 3, 4, 5, 6, 7, 8]) (by kernel_rfl) (by kernel_rfl) (by kernel_rfl) (by kernel_rfl) ?_
    simp only [YRUNA, YRUNB, zSh, bit, c_seq, RUNA, RUNB, zAd, zMo, zDi, zSu, zMu, zEq, zBe, zLe, zTo, fillS, wantG, vBox, Value.cells, one, putAt, TYA, s1, s2, s8, s9, r0]
    refine wpc_mono (Bits_spec n (by omega) _) ?_
    rintro r σ3 ⟨hb, hE3⟩
    have n3 := hE3.next
    try simp only [next_more, next_put] at n3
    try simp only [next_more, next_put] at hb
    have r3 := (hE3.row σ.next (by first | omega | (simp only [next_more, next_put] at *; omega))).trans r0
    have x3 := (hE3.row (σ.next + 1) (by first | omega | (simp only [next_more, next_put] at *; omega))).trans x0
    have rt3 := (hE3.row id (by first | omega | (simp only [next_more, next_put] at *; omega))).trans rt
    have e3 : EX σ σ3 := by refine EX.trans ?_ hE3; repeat first | assumption | exact EXn.refl _ _ | refine EXn.more ?_ _ | refine EXn.put ?_ (by omega) _ | refine EX.trans ?_ (by assumption)
    have f3 := e3.fr hF
    have hb' := hb
    obtain ⟨bid, rfl, hb1, hb2, hb3⟩ := hb'
    simp only [YRUNA, YRUNB, zSh, bit, c_seq, RUNA, RUNB, zAd, zMo, zDi, zSu, zMu, zEq, zBe, zLe, zTo, fillS, wantG, vBox, Value.cells, one, putAt, TYA, s1, s2, s8, s9, r3]
    refine wpc_mono (trT_spec h10 t hg h2 _ _ _ _ (tab 10 (bits n)) (hv0.mono e3) (hw0.mono e3) (hb.sb (by omega)) (tab_len _ _)) ?_
    rintro r σ4 ⟨rfl, hE4⟩
    have n4 := hE4.next
    have hev' : trT vs (bt (tab 10 (bits n))) t = trT vs (bits n) t := trT_congr h10 (fun i hi => bt_tab hi) t h2
    have r4 := (hE4.row σ.next (by omega)).trans r3
    have x4 := (hE4.row (σ.next + 1) (by omega)).trans x3
    have rt4 := (hE4.row id (by omega)).trans rt3
    have e4 : EX σ σ4 := EX.trans e3 hE4
    have f4 := e4.fr hF
    have hle : n + 1 ≤ ((tab 1024 (half n (fun n => trT vs (bits n) t) fun _ => false)).map Value.bool).length := by rw [List.length_map, tab_len]; omega
    have q1 : ¬ σ.next = id := by omega
    have q2 : ¬ σ.next + 1 = id := by omega
    simp only [YRUNA, YRUNB, zSh, bit, c_seq, RUNA, RUNB, zAd, zMo, zDi, zSu, zMu, zEq, zBe, zLe, zTo, fillS, wantG, vBox, Value.cells, one, putAt, TYA, s1, s2, s4, s8, s9, r4, x4, rt4, ia63 z2 z3, hle, hw, hev', q1, q2]
    refine ⟨1024 - (n + 1), by omega, ?_, by repeat first | assumption | refine Fr.more ?_ _ | refine Fr.put ?_ _ _, by first | omega | (simp only [next_more, next_put] at *; omega), id, n + 1, ?_, ?_, hid1, by first | omega | (simp only [next_more, next_put] at *; omega), by omega, rfl, ?_⟩
    ·repeat first | assumption | exact EXn.refl _ _ | refine EXn.more ?_ _ | refine EXn.put ?_ (by omega) _ | refine EX.trans ?_ (by assumption)
    ·simp only [c_seq, RUNA, RUNB, zAd, zMo, zDi, zSu, zMu, zEq, zBe, zLe, zTo, fillS, wantG, vBox, Value.cells, one, putAt, s8]
    ·simp only [c_seq, RUNA, RUNB, zAd, zMo, zDi, zSu, zMu, zEq, zBe, zLe, zTo, fillS, wantG, vBox, Value.cells, one, putAt]
    ·simp only [c_seq, RUNA, RUNB, zAd, zMo, zDi, zSu, zMu, zEq, zBe, zLe, zTo, fillS, wantG, vBox, Value.cells, one, putAt]
     rw [← half_set, List.map_set]
   ·have hd : decide ((n : Int) < ((1024 : Nat) : Int)) = false := by simp; omega
    have hn1 : n = 1024 := by omega
    rw [hn1, half_N] at rt
    simp only [c_seq, RUNA, RUNB, zAd, zMo, zDi, zSu, zMu, zEq, zBe, zLe, zTo, fillS, wantG, vBox, Value.cells, one, putAt, TYA, s1, s2, s4, s8, s9, hd]
    refine wpc_mono (Diagram_is (lo := 0) (hi := τ.next) ⟨id, rfl, by omega, by omega, rt⟩ (by first | omega | (simp only [next_more, next_put] at *; omega)) (by repeat first | assumption | refine Fr.more ?_ _ | refine Fr.put ?_ _ _)) ?_
    rintro r σ3 ⟨hD, hE3⟩
    have n3 := hE3.next
    try simp only [next_more, next_put] at n3
    try simp only [next_more, next_put] at hD
    obtain ⟨o, k, c', i, rfl⟩ := hD.open
    have x3 := (hE3.row (σ.next + 1) (by first | omega | (simp only [next_more, next_put] at *; omega))).trans x0
    simp only [c_seq, RUNA, RUNB, zAd, zMo, zDi, zSu, zMu, zEq, zBe, zLe, zTo, fillS, wantG, vBox, Value.cells, one, putAt, TYA, s4, x3, hr]
    refine ⟨_, by rw [hev, h2], fun _ => ?_, fun hne => absurd (hev.trans h2) hne, ?_⟩
    ·refine IsD.congr (IsD.weak (IsD.hi (IsD.un hD ?_) ?_) (by first | omega | (simp only [next_more, next_put] at *; omega))) (fun f => trT_congr h10 (fun i hi => bits_code f hi) t h2)
     ·repeat first | assumption | exact UN.refl _ _ _ | refine UN.more ?_ _ | refine UN.put ?_ (by omega) _ | refine UN.ex (by assumption) ?_ (by first | omega | (simp only [next_more, next_put]; omega)) | refine UN.exb (by assumption) ?_ (by first | omega | (simp only [next_more, next_put]; omega)) (by omega)
     ·first | omega | (simp only [next_more, next_put] at *; omega)
    ·repeat first | assumption | exact EXn.refl _ _ | refine EXn.more ?_ _ | refine EXn.put ?_ (by omega) _ | refine EX.trans ?_ (by assumption)
  ·have g2 : (fmT vs t != (0 : Int)) = true := by simp [h2]
   simp only [c_seq, RUNA, RUNB, zAd, zMo, zDi, zSu, zMu, zEq, zBe, zLe, zTo, fillS, wantG, vBox, Value.cells, one, putAt, TYA, hr, g2, bdD0, x2]
   refine ⟨_, by rw [hev], fun h0 => absurd (hev.symm.trans h0) h2, fun _ => rfl, ?_⟩
   repeat first | assumption | exact EXn.refl _ _ | refine EXn.more ?_ _ | refine EXn.put ?_ (by omega) _ | refine EX.trans ?_ (by assumption)
 ·have g1 : (ckY vs != (0 : Int)) = true := by simp [h1]
  have hev : eOf vs t = ckY vs := by simp [eOf, h1]
  simp only [c_seq, RUNA, RUNB, zAd, zMo, zDi, zSu, zMu, zEq, zBe, zLe, zTo, fillS, wantG, vBox, Value.cells, one, putAt, TYA, hr, g1, bdD0, x1]
  refine ⟨_, by rw [hev], fun h0 => absurd (hev.symm.trans h0) h1, fun _ => rfl, ?_⟩
  repeat first | assumption | exact EXn.refl _ _ | refine EXn.more ?_ _ | refine EXn.put ?_ (by omega) _ | refine EX.trans ?_ (by assumption)
end Go.Proofs.Q
