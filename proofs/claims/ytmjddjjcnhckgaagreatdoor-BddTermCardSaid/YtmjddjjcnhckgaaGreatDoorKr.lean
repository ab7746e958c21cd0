import Derived.Test.YtmjddjjcnhckgaaGreatDoorKq
import Derived.Test.YtmjddjjcnhckgaaGreatDoorKp
import Derived.Test.YtmjddjjcnhckgaaGreatDoorKk
set_option linter.unusedVariables false
set_option linter.unusedSimpArgs false
set_option linter.constructorNameAsVariable false
open Nat renaming reduceAdd → zAd, reduceMod → zMo, reduceDiv → zDi, reduceSub → zSu, reduceMul → zMu, reduceEqDiff → zEq, reduceBEq → zBe, reduceLeDiff → zLe, reduceShiftRight → zSh
open Int renaming reduceToNat → zTo
namespace Go.Proofs.Q
open Go.AI
set_option maxRecDepth 4000
theorem ok_ob0 : okO ob0 := rfl
def Drt (b : Nat) (cs : List Nat) (σ : St) (r : Value) (σ' : St) : Prop := (∃ t, goT t ∧ TVb σ.next σ' r t) ∧ Src b σ' cs ∧ EXb b σ σ'
def TSpec (b : Nat) (cs : List Nat) (n : Nat) : Prop := ∀ σ, Src b σ cs → wpc Tryz.prog 5 #[.pointer (some ⟨b, 0, none⟩), .int .i64 n] σ (Drt b cs σ)
theorem sl_uv (σ : St) {q : Nat} (h : q < 6) : ∃ s, aslice Tryz.prog σ 9 (.string ⟨#[117, 118, 119, 120, 121, 122]⟩) (some (.int .i64 q)) none none = some (.string s) ∧ aslice Tryz.prog σ 9 (.string s) none (some (.int .i64 1)) none = some (.string (ltr [117, 118, 119, 120, 121, 122] q)) := by
 obtain rfl | rfl | rfl | rfl | rfl | rfl : q = 0 ∨ q = 1 ∨ q = 2 ∨ q = 3 ∨ q = 4 ∨ q = 5 := by omega
 ·exact ⟨⟨#[117, 118, 119, 120, 121, 122]⟩, by kernel_rfl, by kernel_rfl⟩
 ·exact ⟨⟨#[118, 119, 120, 121, 122]⟩, by kernel_rfl, by kernel_rfl⟩
 ·exact ⟨⟨#[119, 120, 121, 122]⟩, by kernel_rfl, by kernel_rfl⟩
 ·exact ⟨⟨#[120, 121, 122]⟩, by kernel_rfl, by kernel_rfl⟩
 ·exact ⟨⟨#[121, 122]⟩, by kernel_rfl, by kernel_rfl⟩
 ·exact ⟨⟨#[122]⟩, by kernel_rfl, by kernel_rfl⟩
set_option maxHeartbeats 4000000 in
theorem term_step {b : Nat} {cs : List Nat} (hc : ∀ k ∈ cs, k < 256) (hl : cs.length ≤ 1000) (n : Nat) (hn : n ≤ 100) (ih : ∀ m, n = m + 1 → TSpec b cs m) : TSpec b cs n := by
 intro σ hS
 refine body_go Tryz.func5 rfl ?_
 have hr := Tryz.results5
 have hb : b < σ.next := by obtain ⟨_, _, _, _, h, _⟩ := hS; exact h
 simp only [c_seq, RUNA, RUNB, zAd, zMo, zDi, zSu, zMu, zEq, zBe, zLe, zTo, fillS, wantG, vBox, Value.cells, one, putAt, TYA, hr]
 refine wpc_mono (Next_spec (n := 9) (hS.mono ?_) hc hl (by omega) (by omega)) ?_
 ·repeat first | assumption | exact EXn.refl _ _ | refine EXn.more ?_ _ | refine EXn.put ?_ (by omega) _ | refine EX.trans ?_ (by assumption)
 rintro r σ1 ⟨⟨k, rfl, hk⟩, hS1, hE1⟩
 have n1 := hE1.next
 try simp only [next_more, next_put] at n1
 have b1 : σ1.row σ.next = some ([.int .i64 0, .string ⟨#[]⟩, .string ⟨#[]⟩, .int .i64 0, .string ⟨#[]⟩, .string ⟨#[]⟩, .string ⟨#[]⟩, .string ⟨#[]⟩, .string ⟨#[]⟩, .slice none 0 0, .slice none 0 0], boxMeta) := by rw [hE1.row _ (by first | omega | (simp only [next_more, next_put] at *; omega)) (by omega)]; simp only [c_seq, RUNA, RUNB, zAd, zMo, zDi, zSu, zMu, zEq, zBe, zLe, zTo, fillS, wantG, vBox, Value.cells, one, putAt]
 have e1 : EXb b σ σ1 := by repeat first | assumption | exact EXb.refl _ _ | refine EXb.more ?_ _ | refine EXb.put ?_ (by omega) _ | refine EXb.trans ?_ (by assumption) | refine EXb.thn ?_ (by assumption)
 simp only [RUNA, RUNB, zAd, zMo, zDi, zSu, zMu, zEq, zBe, zLe, zTo, fillS, wantG, vBox, Value.cells, one, putAt, TYA]
 refine seq_cut (fun S τ => S.at 0 = .pointer (some ⟨b, 0, none⟩) ∧ S.at 1 = .int .i64 n ∧ S.at 4 = .pointer (some ⟨σ.next, 0, none⟩) ∧ (∃ k : Nat, S.at 5 = .int .i64 k ∧ k < 9 ∧ (3 < k → n ≠ 0)) ∧ EXb b σ τ ∧ Src b τ cs ∧ σ.next < τ.next ∧ τ.row σ.next = some ([.int .i64 0, .string ⟨#[]⟩, .string ⟨#[]⟩, .int .i64 0, .string ⟨#[]⟩, .string ⟨#[]⟩, .string ⟨#[]⟩, .string ⟨#[]⟩, .string ⟨#[]⟩, .slice none 0 0, .slice none 0 0], boxMeta)) ?_ ?_
 ·by_cases h0 : n = 0
  ·have g1 : decide ((n : Int) < 1) = true := by simp; omega
   by_cases h3 : 3 < k
   ·have g2 : decide ((3 : Int) < (k : Int)) = true := by simp; omega
    have four0 : (4 : Int) ≠ 0 := by decide
    simp only [c_seq, RUNA, RUNB, zAd, zMo, zDi, zSu, zMu, zEq, zBe, zLe, zTo, fillS, wantG, vBox, Value.cells, one, putAt, TYA, g1, g2, n_rem four0]
    refine ⟨⟨k % 4, by rw [Int.natCast_emod]; rfl, by omega, by omega⟩, ?_, Src.mono hS1 ?_, by omega, b1⟩
    ·repeat first | assumption | exact EXb.refl _ _ | refine EXb.more ?_ _ | refine EXb.put ?_ (by omega) _ | refine EXb.trans ?_ (by assumption) | refine EXb.thn ?_ (by assumption)
    ·repeat first | assumption | exact EXn.refl _ _ | refine EXn.more ?_ _ | refine EXn.put ?_ (by omega) _ | refine EX.trans ?_ (by assumption)
   ·have g2 : decide ((3 : Int) < (k : Int)) = false := by simp; omega
    simp only [c_seq, RUNA, RUNB, zAd, zMo, zDi, zSu, zMu, zEq, zBe, zLe, zTo, fillS, wantG, vBox, Value.cells, one, putAt, TYA, g1, g2]
    refine ⟨⟨k, rfl, hk, by omega⟩, ?_, Src.mono hS1 ?_, by omega, b1⟩
    ·repeat first | assumption | exact EXb.refl _ _ | refine EXb.more ?_ _ | refine EXb.put ?_ (by omega) _ | refine EXb.trans ?_ (by assumption) | refine EXb.thn ?_ (by assumption)
    ·repeat first | assumption | exact EXn.refl _ _ | refine EXn.more ?_ _ | refine EXn.put ?_ (by omega) _ | refine EX.trans ?_ (by assumption)
  ·have g1 : decide ((n : Int) < 1) = false := by simp; omega
   simp only [c_seq, RUNA, RUNB, zAd, zMo, zDi, zSu, zMu, zEq, zBe, zLe, zTo, fillS, wantG, vBox, Value.cells, one, putAt, TYA, g1]
   refine ⟨⟨k, rfl, hk, fun _ => h0⟩, ?_, Src.mono hS1 ?_, by omega, b1⟩
   ·repeat first | assumption | exact EXb.refl _ _ | refine EXb.more ?_ _ | refine EXb.put ?_ (by omega) _ | refine EXb.trans ?_ (by assumption) | refine EXb.thn ?_ (by assumption)
   ·repeat first | assumption | exact EXn.refl _ _ | refine EXn.more ?_ _ | refine EXn.put ?_ (by omega) _ | refine EX.trans ?_ (by assumption)
 clear b1 e1 hE1 hS1 n1 hk
 rintro S τ ⟨s0, s1, s4, ⟨k, s5, hk, hk3⟩, hE, hSt, hx, rb⟩
 have fin : ∀ (σ2 : St) (v : Value) (t : PT), goT t → TVb (σ.next + 1) σ2 v t → Src b σ2 cs → EXb b σ σ2 → ∀ ob, Drt b cs σ v (σ2.put σ.next ob) := by
  intro σ2 v t h1 h2 h3 h4 ob
  exact ⟨⟨t, h1, (h2.un (σ' := σ2.put σ.next ob) (Nat.le_refl σ2.next) ((UN.refl (σ.next + 1) σ2.next σ2).put (Or.inl (Nat.lt_succ_self _)) _)).weak (Nat.le_succ _)⟩, h3.put (by omega), h4.put (by omega) _⟩
 obtain hk0 | hk0 | hk0 | hk0 | hk0 : k = 0 ∨ k = 1 ∨ k = 2 ∨ k = 3 ∨ 4 ≤ k := by omega
 ·skip
  have g0 : ((k : Int) == 0) = true := by simp; omega
  simp only [c_seq, RUNA, RUNB, zAd, zMo, zDi, zSu, zMu, zEq, zBe, zLe, zTo, fillS, wantG, vBox, Value.cells, one, putAt, TYA, s0, s1, s4, s5, hr, g0]
  refine wpc_mono (Object_spec hc hl (hSt.mono ?_)) ?_
  ·repeat first | assumption | exact EXn.refl _ _ | refine EXn.more ?_ _ | refine EXn.put ?_ (by omega) _ | refine EX.trans ?_ (by assumption)
  rintro r σ1 ⟨⟨o, ho, rfl⟩, hS1, hE1⟩
  have n1 := hE1.next
  try simp only [next_more, next_put] at n1
  have r1 : σ1.row σ.next = some ([.int .i64 0, .string ⟨#[]⟩, .string ⟨#[]⟩, .int .i64 0, .string ⟨#[]⟩, .string ⟨#[]⟩, .string ⟨#[]⟩, .string ⟨#[]⟩, .string ⟨#[]⟩, .slice none 0 0, .slice none 0 0], boxMeta) := by rw [hE1.row _ (by first | omega | (simp only [next_more, next_put] at *; omega)) (by omega)]; exact rb
  simp only [c_seq, RUNA, RUNB, zAd, zMo, zDi, zSu, zMu, zEq, zBe, zLe, zTo, fillS, wantG, vBox, Value.cells, one, putAt, TYA, s0, s1, s4, s5, hr]
  refine wpc_mono (refConst_spec _ o) ?_
  rintro r σ2 ⟨rfl, hE2⟩
  have n2 := hE2.next
  try simp only [next_more, next_put] at n2
  have r2 := (hE2.row σ.next (by first | omega | (simp only [next_more, next_put] at *; omega))).trans r1
  simp only [c_seq, RUNA, RUNB, zAd, zMo, zDi, zSu, zMu, zEq, zBe, zLe, zTo, fillS, wantG, vBox, Value.cells, one, putAt, TYA, s0, s1, s4, s5, hr, r2]
  refine fin _ _ (.mk 2 es es o []) ⟨.inr (.inl rfl), ho, by decide, trivial⟩ (TVb.con _ _ o) (hS1.mono ?_) ?_ _
  ·refine EX.trans ?_ hE2; repeat first | assumption | exact EXn.refl _ _ | refine EXn.more ?_ _ | refine EXn.put ?_ (by omega) _ | refine EX.trans ?_ (by assumption)
  ·repeat first | assumption | exact EXb.refl _ _ | refine EXb.more ?_ _ | refine EXb.put ?_ (by omega) _ | refine EXb.trans ?_ (by assumption) | refine EXb.thn ?_ (by assumption)
 ·skip
  have g0 : ((k : Int) == 0) = false := by simp; omega
  have g1 : ((k : Int) == 1) = true := by simp; omega
  simp only [c_seq, RUNA, RUNB, zAd, zMo, zDi, zSu, zMu, zEq, zBe, zLe, zTo, fillS, wantG, vBox, Value.cells, one, putAt, TYA, s0, s1, s4, s5, hr, g0, g1]
  refine wpc_mono (Next_spec (n := 6) (hSt.mono ?_) hc hl (by omega) (by omega)) ?_
  ·repeat first | assumption | exact EXn.refl _ _ | refine EXn.more ?_ _ | refine EXn.put ?_ (by omega) _ | refine EX.trans ?_ (by assumption)
  rintro r σ1 ⟨⟨q, rfl, hq⟩, hS1, hE1⟩
  have n1 := hE1.next
  try simp only [next_more, next_put] at n1
  have r1 : σ1.row σ.next = some ([.int .i64 0, .string ⟨#[]⟩, .string ⟨#[]⟩, .int .i64 0, .string ⟨#[]⟩, .string ⟨#[]⟩, .string ⟨#[]⟩, .string ⟨#[]⟩, .string ⟨#[]⟩, .slice none 0 0, .slice none 0 0], boxMeta) := by rw [hE1.row _ (by first | omega | (simp only [next_more, next_put] at *; omega)) (by omega)]; exact rb
  obtain ⟨s, hs1, hs2⟩ := sl_uv σ1 hq
  have hs3 := fun (σ : St) => (show aslice Tryz.prog σ 9 (.string ⟨#[117, 118, 119, 120, 121, 122]⟩) (some (.int .i64 q)) none none = some (.string s) from hs1)
  have hs4 := fun (σ : St) => (show aslice Tryz.prog σ 9 (.string s) none (some (.int .i64 1)) none = some (.string (ltr [117, 118, 119, 120, 121, 122] q)) from hs2)
  simp only [c_seq, RUNA, RUNB, zAd, zMo, zDi, zSu, zMu, zEq, zBe, zLe, zTo, fillS, wantG, vBox, Value.cells, one, putAt, TYA, s0, s1, s4, s5, hr, hs3, hs4]
  refine wpc_mono (V_spec _ _) ?_
  rintro r σ2 ⟨rfl, hE2⟩
  have n2 := hE2.next
  try simp only [next_more, next_put] at n2
  have r2 := (hE2.row σ.next (by first | omega | (simp only [next_more, next_put] at *; omega))).trans r1
  simp only [c_seq, RUNA, RUNB, zAd, zMo, zDi, zSu, zMu, zEq, zBe, zLe, zTo, fillS, wantG, vBox, Value.cells, one, putAt, TYA, s0, s1, s4, s5, hr, r2]
  refine fin _ _ (.mk 1 usr (ltr [117, 118, 119, 120, 121, 122] q) ob0 []) ⟨.inl rfl, ok_ob0, by decide, trivial⟩ (TVb.var _ _ usr _) (hS1.mono ?_) ?_ _
  ·refine EX.trans ?_ hE2; repeat first | assumption | exact EXn.refl _ _ | refine EXn.more ?_ _ | refine EXn.put ?_ (by omega) _ | refine EX.trans ?_ (by assumption)
  ·repeat first | assumption | exact EXb.refl _ _ | refine EXb.more ?_ _ | refine EXb.put ?_ (by omega) _ | refine EXb.trans ?_ (by assumption) | refine EXb.thn ?_ (by assumption)
 ·skip
  have g0 : ((k : Int) == 0) = false := by simp; omega
  have g1 : ((k : Int) == 1) = false := by simp; omega
  have g2 : ((k : Int) == 2) = true := by simp; omega
  simp only [c_seq, RUNA, RUNB, zAd, zMo, zDi, zSu, zMu, zEq, zBe, zLe, zTo, fillS, wantG, vBox, Value.cells, one, putAt, TYA, s0, s1, s4, s5, hr, g0, g1, g2]
  refine wpc_mono (Next_spec (n := 6) (hSt.mono ?_) hc hl (by omega) (by omega)) ?_
  ·repeat first | assumption | exact EXn.refl _ _ | refine EXn.more ?_ _ | refine EXn.put ?_ (by omega) _ | refine EX.trans ?_ (by assumption)
  rintro r σ1 ⟨⟨q, rfl, hq⟩, hS1, hE1⟩
  have n1 := hE1.next
  try simp only [next_more, next_put] at n1
  have r1 : σ1.row σ.next = some ([.int .i64 0, .string ⟨#[]⟩, .string ⟨#[]⟩, .int .i64 0, .string ⟨#[]⟩, .string ⟨#[]⟩, .string ⟨#[]⟩, .string ⟨#[]⟩, .string ⟨#[]⟩, .slice none 0 0, .slice none 0 0], boxMeta) := by rw [hE1.row _ (by first | omega | (simp only [next_more, next_put] at *; omega)) (by omega)]; exact rb
  obtain ⟨s, hs1, hs2⟩ := sl_uv σ1 hq
  have hs3 := fun (σ : St) => (show aslice Tryz.prog σ 9 (.string ⟨#[117, 118, 119, 120, 121, 122]⟩) (some (.int .i64 q)) none none = some (.string s) from hs1)
  have hs4 := fun (σ : St) => (show aslice Tryz.prog σ 9 (.string s) none (some (.int .i64 1)) none = some (.string (ltr [117, 118, 119, 120, 121, 122] q)) from hs2)
  simp only [c_seq, RUNA, RUNB, zAd, zMo, zDi, zSu, zMu, zEq, zBe, zLe, zTo, fillS, wantG, vBox, Value.cells, one, putAt, TYA, s0, s1, s4, s5, hr, hs3, hs4]
  refine wpc_mono (V_spec _ _) ?_
  rintro r σ2 ⟨rfl, hE2⟩
  have n2 := hE2.next
  try simp only [next_more, next_put] at n2
  have r2 := (hE2.row σ.next (by first | omega | (simp only [next_more, next_put] at *; omega))).trans r1
  simp only [c_seq, RUNA, RUNB, zAd, zMo, zDi, zSu, zMu, zEq, zBe, zLe, zTo, fillS, wantG, vBox, Value.cells, one, putAt, TYA, s0, s1, s4, s5, hr, r2]
  refine fin _ _ (.mk 1 usr (ltr [117, 118, 119, 120, 121, 122] q) ob0 []) ⟨.inl rfl, ok_ob0, by decide, trivial⟩ (TVb.var _ _ usr _) (hS1.mono ?_) ?_ _
  ·refine EX.trans ?_ hE2; repeat first | assumption | exact EXn.refl _ _ | refine EXn.more ?_ _ | refine EXn.put ?_ (by omega) _ | refine EX.trans ?_ (by assumption)
  ·repeat first | assumption | exact EXb.refl _ _ | refine EXb.more ?_ _ | refine EXb.put ?_ (by omega) _ | refine EXb.trans ?_ (by assumption) | refine EXb.thn ?_ (by assumption)
 ·skip
  have g0 : ((k : Int) == 0) = false := by simp; omega
  have g1 : ((k : Int) == 1) = false := by simp; omega
  have g2 : ((k : Int) == 2) = false := by simp; omega
  have g3 : ((k : Int) == 3) = true := by simp; omega
  simp only [c_seq, RUNA, RUNB, zAd, zMo, zDi, zSu, zMu, zEq, zBe, zLe, zTo, fillS, wantG, vBox, Value.cells, one, putAt, TYA, s0, s1, s4, s5, hr, g0, g1, g2, g3]
  refine wpc_mono (Next_spec (n := 6) (hSt.mono ?_) hc hl (by omega) (by omega)) ?_
  ·repeat first | assumption | exact EXn.refl _ _ | refine EXn.more ?_ _ | refine EXn.put ?_ (by omega) _ | refine EX.trans ?_ (by assumption)
  rintro r σ1 ⟨⟨q, rfl, hq⟩, hS1, hE1⟩
  have n1 := hE1.next
  try simp only [next_more, next_put] at n1
  have r1 : σ1.row σ.next = some ([.int .i64 0, .string ⟨#[]⟩, .string ⟨#[]⟩, .int .i64 0, .string ⟨#[]⟩, .string ⟨#[]⟩, .string ⟨#[]⟩, .string ⟨#[]⟩, .string ⟨#[]⟩, .slice none 0 0, .slice none 0 0], boxMeta) := by rw [hE1.row _ (by first | omega | (simp only [next_more, next_put] at *; omega)) (by omega)]; exact rb
  obtain ⟨s, hs1, hs2⟩ := sl_uv σ1 hq
  have hs3 := fun (σ : St) => (show aslice Tryz.prog σ 9 (.string ⟨#[117, 118, 119, 120, 121, 122]⟩) (some (.int .i64 q)) none none = some (.string s) from hs1)
  have hs4 := fun (σ : St) => (show aslice Tryz.prog σ 9 (.string s) none (some (.int .i64 1)) none = some (.string (ltr [117, 118, 119, 120, 121, 122] q)) from hs2)
  simp only [c_seq, RUNA, RUNB, zAd, zMo, zDi, zSu, zMu, zEq, zBe, zLe, zTo, fillS, wantG, vBox, Value.cells, one, putAt, TYA, s0, s1, s4, s5, hr, hs3, hs4]
  refine wpc_mono (V_spec _ _) ?_
  rintro r σ2 ⟨rfl, hE2⟩
  have n2 := hE2.next
  try simp only [next_more, next_put] at n2
  have r2 := (hE2.row σ.next (by first | omega | (simp only [next_more, next_put] at *; omega))).trans r1
  simp only [c_seq, RUNA, RUNB, zAd, zMo, zDi, zSu, zMu, zEq, zBe, zLe, zTo, fillS, wantG, vBox, Value.cells, one, putAt, TYA, s0, s1, s4, s5, hr, r2]
  refine fin _ _ (.mk 1 usr (ltr [117, 118, 119, 120, 121, 122] q) ob0 []) ⟨.inl rfl, ok_ob0, by decide, trivial⟩ (TVb.var _ _ usr _) (hS1.mono ?_) ?_ _
  ·refine EX.trans ?_ hE2; repeat first | assumption | exact EXn.refl _ _ | refine EXn.more ?_ _ | refine EXn.put ?_ (by omega) _ | refine EX.trans ?_ (by assumption)
  ·repeat first | assumption | exact EXb.refl _ _ | refine EXb.more ?_ _ | refine EXb.put ?_ (by omega) _ | refine EXb.trans ?_ (by assumption) | refine EXb.thn ?_ (by assumption)
 have hw : IntKind.i64.wrap ((n : Int) - 1) = ((n - 1 : Nat) : Int) := by rw [wrap64 (by omega) (by omega)]; omega
 have ih' := ih (n - 1) (by omega)
 have g0 : ((k : Int) == 0) = false := by simp; omega
 have g1 : ((k : Int) == 1) = false := by simp; omega
 have g2 : ((k : Int) == 2) = false := by simp; omega
 have g3 : ((k : Int) == 3) = false := by simp; omega
 obtain hk1 | hk1 | hk1 | hk1 : k = 4 ∨ k = 5 ∨ k = 6 ∨ 6 < k := by omega
 ·skip
  have g4 : ((k : Int) == 4) = true := by simp; omega
  simp only [c_seq, RUNA, RUNB, zAd, zMo, zDi, zSu, zMu, zEq, zBe, zLe, zTo, fillS, wantG, vBox, Value.cells, one, putAt, TYA, s0, s1, s4, s5, hr, g0, g1, g2, g3, g4, hw]
  refine wpc_mono (ih' _ (Src.mono hSt ?_)) ?_
  ·repeat first | assumption | exact EXn.refl _ _ | refine EXn.more ?_ _ | refine EXn.put ?_ (by omega) _ | refine EX.trans ?_ (by assumption)
  rintro r σ1 ⟨⟨t1, ht1, hT1⟩, hS1, hE1⟩
  have n1 := hE1.next
  try simp only [next_more, next_put] at n1
  try simp only [next_more, next_put] at hT1
  obtain ⟨a1, c1, rfl, _⟩ := hT1.tv.open
  have r1 : σ1.row σ.next = some ([.int .i64 0, .string ⟨#[]⟩, .string ⟨#[]⟩, .int .i64 0, .string ⟨#[]⟩, .string ⟨#[]⟩, .string ⟨#[]⟩, .string ⟨#[]⟩, .string ⟨#[]⟩, .slice none 0 0, .slice none 0 0], boxMeta) := by rw [hE1.row _ (by first | omega | (simp only [next_more, next_put] at *; omega)) (by omega)]; exact rb
  simp only [c_seq, RUNA, RUNB, zAd, zMo, zDi, zSu, zMu, zEq, zBe, zLe, zTo, fillS, wantG, vBox, Value.cells, one, putAt, TYA, s0, s1, s4, s5, hr, hw, bsT1]
  refine wpc_mono (L_spec _ nNot _ _ _) ?_
  rintro r σ4 ⟨rfl, hE4⟩
  have n4 := hE4.next
  try simp only [next_more, next_put] at n4
  have r4 : σ4.row σ.next = some ([.int .i64 0, .string ⟨#[]⟩, .string ⟨#[]⟩, .int .i64 0, .string ⟨#[]⟩, .string ⟨#[]⟩, .string ⟨#[]⟩, .string ⟨#[]⟩, .string ⟨#[]⟩, .slice none 0 0, .slice none 0 0], boxMeta) := by rw [hE4.row σ.next (by first | omega | (simp only [next_more, next_put] at *; omega)), row_put_ne (by omega)]; exact r1
  simp only [c_seq, RUNA, RUNB, zAd, zMo, zDi, zSu, zMu, zEq, zBe, zLe, zTo, fillS, wantG, vBox, Value.cells, one, putAt, TYA, s0, s1, s4, s5, hr, r4]
  refine fin _ _ (.mk 3 lsp nNot ob0 [t1]) ⟨.inr (.inr rfl), ok_ob0, by simp, ht1, trivial⟩ (mkT_1 lsp nNot hT1 (by first | omega | (simp only [next_more, next_put] at *; omega)) (by first | omega | (simp only [next_more, next_put] at *; omega)) (by first | omega | (simp only [next_more, next_put] at *; omega)) hE4) (Src.mono (hS1.put (by first | omega | (simp only [next_more, next_put] at *; omega))) hE4) ?_ _
  ·repeat first | assumption | exact EXb.refl _ _ | refine EXb.more ?_ _ | refine EXb.put ?_ (by omega) _ | refine EXb.trans ?_ (by assumption) | refine EXb.thn ?_ (by assumption)
 ·skip
  have g4 : ((k : Int) == 4) = false := by simp; omega
  have g5 : ((k : Int) == 5) = true := by simp; omega
  simp only [c_seq, RUNA, RUNB, zAd, zMo, zDi, zSu, zMu, zEq, zBe, zLe, zTo, fillS, wantG, vBox, Value.cells, one, putAt, TYA, s0, s1, s4, s5, hr, g0, g1, g2, g3, g4, g5, hw]
  refine wpc_mono (ih' _ (Src.mono hSt ?_)) ?_
  ·repeat first | assumption | exact EXn.refl _ _ | refine EXn.more ?_ _ | refine EXn.put ?_ (by omega) _ | refine EX.trans ?_ (by assumption)
  rintro r σ1 ⟨⟨t1, ht1, hT1⟩, hS1, hE1⟩
  have n1 := hE1.next
  try simp only [next_more, next_put] at n1
  try simp only [next_more, next_put] at hT1
  obtain ⟨a1, c1, rfl, _⟩ := hT1.tv.open
  have r1 : σ1.row σ.next = some ([.int .i64 0, .string ⟨#[]⟩, .string ⟨#[]⟩, .int .i64 0, .string ⟨#[]⟩, .string ⟨#[]⟩, .string ⟨#[]⟩, .string ⟨#[]⟩, .string ⟨#[]⟩, .slice none 0 0, .slice none 0 0], boxMeta) := by rw [hE1.row _ (by first | omega | (simp only [next_more, next_put] at *; omega)) (by omega)]; exact rb
  simp only [c_seq, RUNA, RUNB, zAd, zMo, zDi, zSu, zMu, zEq, zBe, zLe, zTo, fillS, wantG, vBox, Value.cells, one, putAt, TYA, s0, s1, s4, s5, hr, hw]
  refine wpc_mono (ih' _ (Src.mono hS1 ?_)) ?_
  ·repeat first | assumption | exact EXn.refl _ _ | refine EXn.more ?_ _ | refine EXn.put ?_ (by omega) _ | refine EX.trans ?_ (by assumption)
  rintro r σ2 ⟨⟨t2, ht2, hT2⟩, hS2, hE2⟩
  have n2 := hE2.next
  try simp only [next_more, next_put] at n2
  try simp only [next_more, next_put] at hT2
  obtain ⟨a2, c2, rfl, _⟩ := hT2.tv.open
  have r2 : σ2.row σ.next = some ([.int .i64 0, .string ⟨#[]⟩, .string ⟨#[]⟩, .int .i64 0, .string ⟨#[]⟩, .string ⟨#[]⟩, .string ⟨#[]⟩, .string ⟨#[]⟩, .string ⟨#[]⟩, .slice none 0 0, .slice none 0 0], boxMeta) := by rw [hE2.row _ (by first | omega | (simp only [next_more, next_put] at *; omega)) (by omega)]; exact r1
  replace hT1 := hT1.un (σ' := σ2) (by first | omega | (simp only [next_more, next_put] at *; omega)) (by repeat first | assumption | exact UN.refl _ _ _ | refine UN.more ?_ _ | refine UN.put ?_ (by omega) _ | refine UN.ex (by assumption) ?_ (by first | omega | (simp only [next_more, next_put]; omega)) | refine UN.exb (by assumption) ?_ (by first | omega | (simp only [next_more, next_put]; omega)) (by omega))
  simp only [c_seq, RUNA, RUNB, zAd, zMo, zDi, zSu, zMu, zEq, zBe, zLe, zTo, fillS, wantG, vBox, Value.cells, one, putAt, TYA, s0, s1, s4, s5, hr, hw, bsT2]
  refine wpc_mono (L_spec _ nImp _ _ _) ?_
  rintro r σ4 ⟨rfl, hE4⟩
  have n4 := hE4.next
  try simp only [next_more, next_put] at n4
  have r4 : σ4.row σ.next = some ([.int .i64 0, .string ⟨#[]⟩, .string ⟨#[]⟩, .int .i64 0, .string ⟨#[]⟩, .string ⟨#[]⟩, .string ⟨#[]⟩, .string ⟨#[]⟩, .string ⟨#[]⟩, .slice none 0 0, .slice none 0 0], boxMeta) := by rw [hE4.row σ.next (by first | omega | (simp only [next_more, next_put] at *; omega)), row_put_ne (by omega)]; exact r2
  simp only [c_seq, RUNA, RUNB, zAd, zMo, zDi, zSu, zMu, zEq, zBe, zLe, zTo, fillS, wantG, vBox, Value.cells, one, putAt, TYA, s0, s1, s4, s5, hr, r4]
  refine fin _ _ (.mk 3 lsp nImp ob0 [t1, t2]) ⟨.inr (.inr rfl), ok_ob0, by simp, ht1, ht2, trivial⟩ (mkT_2 lsp nImp hT1 (by first | omega | (simp only [next_more, next_put] at *; omega)) hT2 (by first | omega | (simp only [next_more, next_put] at *; omega)) (by first | omega | (simp only [next_more, next_put] at *; omega)) (by first | omega | (simp only [next_more, next_put] at *; omega)) hE4) (Src.mono (hS2.put (by first | omega | (simp only [next_more, next_put] at *; omega))) hE4) ?_ _
  ·repeat first | assumption | exact EXb.refl _ _ | refine EXb.more ?_ _ | refine EXb.put ?_ (by omega) _ | refine EXb.trans ?_ (by assumption) | refine EXb.thn ?_ (by assumption)
 ·skip
  have g4 : ((k : Int) == 4) = false := by simp; omega
  have g5 : ((k : Int) == 5) = false := by simp; omega
  have g6 : ((k : Int) == 6) = true := by simp; omega
  simp only [c_seq, RUNA, RUNB, zAd, zMo, zDi, zSu, zMu, zEq, zBe, zLe, zTo, fillS, wantG, vBox, Value.cells, one, putAt, TYA, s0, s1, s4, s5, hr, g0, g1, g2, g3, g4, g5, g6, hw]
  refine wpc_mono (ih' _ (Src.mono hSt ?_)) ?_
  ·repeat first | assumption | exact EXn.refl _ _ | refine EXn.more ?_ _ | refine EXn.put ?_ (by omega) _ | refine EX.trans ?_ (by assumption)
  rintro r σ1 ⟨⟨t1, ht1, hT1⟩, hS1, hE1⟩
  have n1 := hE1.next
  try simp only [next_more, next_put] at n1
  try simp only [next_more, next_put] at hT1
  obtain ⟨a1, c1, rfl, _⟩ := hT1.tv.open
  have r1 : σ1.row σ.next = some ([.int .i64 0, .string ⟨#[]⟩, .string ⟨#[]⟩, .int .i64 0, .string ⟨#[]⟩, .string ⟨#[]⟩, .string ⟨#[]⟩, .string ⟨#[]⟩, .string ⟨#[]⟩, .slice none 0 0, .slice none 0 0], boxMeta) := by rw [hE1.row _ (by first | omega | (simp only [next_more, next_put] at *; omega)) (by omega)]; exact rb
  simp only [c_seq, RUNA, RUNB, zAd, zMo, zDi, zSu, zMu, zEq, zBe, zLe, zTo, fillS, wantG, vBox, Value.cells, one, putAt, TYA, s0, s1, s4, s5, hr, hw]
  refine wpc_mono (ih' _ (Src.mono hS1 ?_)) ?_
  ·repeat first | assumption | exact EXn.refl _ _ | refine EXn.more ?_ _ | refine EXn.put ?_ (by omega) _ | refine EX.trans ?_ (by assumption)
  rintro r σ2 ⟨⟨t2, ht2, hT2⟩, hS2, hE2⟩
  have n2 := hE2.next
  try simp only [next_more, next_put] at n2
  try simp only [next_more, next_put] at hT2
  obtain ⟨a2, c2, rfl, _⟩ := hT2.tv.open
  have r2 : σ2.row σ.next = some ([.int .i64 0, .string ⟨#[]⟩, .string ⟨#[]⟩, .int .i64 0, .string ⟨#[]⟩, .string ⟨#[]⟩, .string ⟨#[]⟩, .string ⟨#[]⟩, .string ⟨#[]⟩, .slice none 0 0, .slice none 0 0], boxMeta) := by rw [hE2.row _ (by first | omega | (simp only [next_more, next_put] at *; omega)) (by omega)]; exact r1
  replace hT1 := hT1.un (σ' := σ2) (by first | omega | (simp only [next_more, next_put] at *; omega)) (by repeat first | assumption | exact UN.refl _ _ _ | refine UN.more ?_ _ | refine UN.put ?_ (by omega) _ | refine UN.ex (by assumption) ?_ (by first | omega | (simp only [next_more, next_put]; omega)) | refine UN.exb (by assumption) ?_ (by first | omega | (simp only [next_more, next_put]; omega)) (by omega))
  simp only [c_seq, RUNA, RUNB, zAd, zMo, zDi, zSu, zMu, zEq, zBe, zLe, zTo, fillS, wantG, vBox, Value.cells, one, putAt, TYA, s0, s1, s4, s5, hr, hw, bsT2]
  refine wpc_mono (L_spec _ nIff _ _ _) ?_
  rintro r σ4 ⟨rfl, hE4⟩
  have n4 := hE4.next
  try simp only [next_more, next_put] at n4
  have r4 : σ4.row σ.next = some ([.int .i64 0, .string ⟨#[]⟩, .string ⟨#[]⟩, .int .i64 0, .string ⟨#[]⟩, .string ⟨#[]⟩, .string ⟨#[]⟩, .string ⟨#[]⟩, .string ⟨#[]⟩, .slice none 0 0, .slice none 0 0], boxMeta) := by rw [hE4.row σ.next (by first | omega | (simp only [next_more, next_put] at *; omega)), row_put_ne (by omega)]; exact r2
  simp only [c_seq, RUNA, RUNB, zAd, zMo, zDi, zSu, zMu, zEq, zBe, zLe, zTo, fillS, wantG, vBox, Value.cells, one, putAt, TYA, s0, s1, s4, s5, hr, r4]
  refine fin _ _ (.mk 3 lsp nIff ob0 [t1, t2]) ⟨.inr (.inr rfl), ok_ob0, by simp, ht1, ht2, trivial⟩ (mkT_2 lsp nIff hT1 (by first | omega | (simp only [next_more, next_put] at *; omega)) hT2 (by first | omega | (simp only [next_more, next_put] at *; omega)) (by first | omega | (simp only [next_more, next_put] at *; omega)) (by first | omega | (simp only [next_more, next_put] at *; omega)) hE4) (Src.mono (hS2.put (by first | omega | (simp only [next_more, next_put] at *; omega))) hE4) ?_ _
  ·repeat first | assumption | exact EXb.refl _ _ | refine EXb.more ?_ _ | refine EXb.put ?_ (by omega) _ | refine EXb.trans ?_ (by assumption) | refine EXb.thn ?_ (by assumption)
 ·skip
  have g4 : ((k : Int) == 4) = false := by simp; omega
  have g5 : ((k : Int) == 5) = false := by simp; omega
  have g6 : ((k : Int) == 6) = false := by simp; omega
  simp only [c_seq, RUNA, RUNB, zAd, zMo, zDi, zSu, zMu, zEq, zBe, zLe, zTo, fillS, wantG, vBox, Value.cells, one, putAt, TYA, s0, s1, s4, s5, hr, g0, g1, g2, g3, g4, g5, g6, hw]
  refine wpc_mono (ih' _ (Src.mono hSt ?_)) ?_
  ·repeat first | assumption | exact EXn.refl _ _ | refine EXn.more ?_ _ | refine EXn.put ?_ (by omega) _ | refine EX.trans ?_ (by assumption)
  rintro r σ1 ⟨⟨t1, ht1, hT1⟩, hS1, hE1⟩
  have n1 := hE1.next
  try simp only [next_more, next_put] at n1
  try simp only [next_more, next_put] at hT1
  obtain ⟨a1, c1, rfl, _⟩ := hT1.tv.open
  have r1 : σ1.row σ.next = some ([.int .i64 0, .string ⟨#[]⟩, .string ⟨#[]⟩, .int .i64 0, .string ⟨#[]⟩, .string ⟨#[]⟩, .string ⟨#[]⟩, .string ⟨#[]⟩, .string ⟨#[]⟩, .slice none 0 0, .slice none 0 0], boxMeta) := by rw [hE1.row _ (by first | omega | (simp only [next_more, next_put] at *; omega)) (by omega)]; exact rb
  simp only [c_seq, RUNA, RUNB, zAd, zMo, zDi, zSu, zMu, zEq, zBe, zLe, zTo, fillS, wantG, vBox, Value.cells, one, putAt, TYA, s0, s1, s4, s5, hr, hw]
  refine wpc_mono (ih' _ (Src.mono hS1 ?_)) ?_
  ·repeat first | assumption | exact EXn.refl _ _ | refine EXn.more ?_ _ | refine EXn.put ?_ (by omega) _ | refine EX.trans ?_ (by assumption)
  rintro r σ2 ⟨⟨t2, ht2, hT2⟩, hS2, hE2⟩
  have n2 := hE2.next
  try simp only [next_more, next_put] at n2
  try simp only [next_more, next_put] at hT2
  obtain ⟨a2, c2, rfl, _⟩ := hT2.tv.open
  have r2 : σ2.row σ.next = some ([.int .i64 0, .string ⟨#[]⟩, .string ⟨#[]⟩, .int .i64 0, .string ⟨#[]⟩, .string ⟨#[]⟩, .string ⟨#[]⟩, .string ⟨#[]⟩, .string ⟨#[]⟩, .slice none 0 0, .slice none 0 0], boxMeta) := by rw [hE2.row _ (by first | omega | (simp only [next_more, next_put] at *; omega)) (by omega)]; exact r1
  replace hT1 := hT1.un (σ' := σ2) (by first | omega | (simp only [next_more, next_put] at *; omega)) (by repeat first | assumption | exact UN.refl _ _ _ | refine UN.more ?_ _ | refine UN.put ?_ (by omega) _ | refine UN.ex (by assumption) ?_ (by first | omega | (simp only [next_more, next_put]; omega)) | refine UN.exb (by assumption) ?_ (by first | omega | (simp only [next_more, next_put]; omega)) (by omega))
  simp only [c_seq, RUNA, RUNB, zAd, zMo, zDi, zSu, zMu, zEq, zBe, zLe, zTo, fillS, wantG, vBox, Value.cells, one, putAt, TYA, s0, s1, s4, s5, hr, hw]
  refine wpc_mono (ih' _ (Src.mono hS2 ?_)) ?_
  ·repeat first | assumption | exact EXn.refl _ _ | refine EXn.more ?_ _ | refine EXn.put ?_ (by omega) _ | refine EX.trans ?_ (by assumption)
  rintro r σ3 ⟨⟨t3, ht3, hT3⟩, hS3, hE3⟩
  have n3 := hE3.next
  try simp only [next_more, next_put] at n3
  try simp only [next_more, next_put] at hT3
  obtain ⟨a3, c3, rfl, _⟩ := hT3.tv.open
  have r3 : σ3.row σ.next = some ([.int .i64 0, .string ⟨#[]⟩, .string ⟨#[]⟩, .int .i64 0, .string ⟨#[]⟩, .string ⟨#[]⟩, .string ⟨#[]⟩, .string ⟨#[]⟩, .string ⟨#[]⟩, .slice none 0 0, .slice none 0 0], boxMeta) := by rw [hE3.row _ (by first | omega | (simp only [next_more, next_put] at *; omega)) (by omega)]; exact r2
  replace hT1 := hT1.un (σ' := σ3) (by first | omega | (simp only [next_more, next_put] at *; omega)) (by repeat first | assumption | exact UN.refl _ _ _ | refine UN.more ?_ _ | refine UN.put ?_ (by omega) _ | refine UN.ex (by assumption) ?_ (by first | omega | (simp only [next_more, next_put]; omega)) | refine UN.exb (by assumption) ?_ (by first | omega | (simp only [next_more, next_put]; omega)) (by omega))
  replace hT2 := hT2.un (σ' := σ3) (by first | omega | (simp only [next_more, next_put] at *; omega)) (by repeat first | assumption | exact UN.refl _ _ _ | refine UN.more ?_ _ | refine UN.put ?_ (by omega) _ | refine UN.ex (by assumption) ?_ (by first | omega | (simp only [next_more, next_put]; omega)) | refine UN.exb (by assumption) ?_ (by first | omega | (simp only [next_more, next_put]; omega)) (by omega))
  simp only [c_seq, RUNA, RUNB, zAd, zMo, zDi, zSu, zMu, zEq, zBe, zLe, zTo, fillS, wantG, vBox, Value.cells, one, putAt, TYA, s0, s1, s4, s5, hr, hw, bsT3]
  refine wpc_mono (L_spec _ nIf _ _ _) ?_
  rintro r σ4 ⟨rfl, hE4⟩
  have n4 := hE4.next
  try simp only [next_more, next_put] at n4
  have r4 : σ4.row σ.next = some ([.int .i64 0, .string ⟨#[]⟩, .string ⟨#[]⟩, .int .i64 0, .string ⟨#[]⟩, .string ⟨#[]⟩, .string ⟨#[]⟩, .string ⟨#[]⟩, .string ⟨#[]⟩, .slice none 0 0, .slice none 0 0], boxMeta) := by rw [hE4.row σ.next (by first | omega | (simp only [next_more, next_put] at *; omega)), row_put_ne (by omega)]; exact r3
  simp only [c_seq, RUNA, RUNB, zAd, zMo, zDi, zSu, zMu, zEq, zBe, zLe, zTo, fillS, wantG, vBox, Value.cells, one, putAt, TYA, s0, s1, s4, s5, hr, r4]
  refine fin _ _ (.mk 3 lsp nIf ob0 [t1, t2, t3]) ⟨.inr (.inr rfl), ok_ob0, by simp, ht1, ht2, ht3, trivial⟩ (mkT_3 lsp nIf hT1 (by first | omega | (simp only [next_more, next_put] at *; omega)) hT2 (by first | omega | (simp only [next_more, next_put] at *; omega)) hT3 (by first | omega | (simp only [next_more, next_put] at *; omega)) (by first | omega | (simp only [next_more, next_put] at *; omega)) (by first | omega | (simp only [next_more, next_put] at *; omega)) hE4) (Src.mono (hS3.put (by first | omega | (simp only [next_more, next_put] at *; omega))) hE4) ?_ _
  ·repeat first | assumption | exact EXb.refl _ _ | refine EXb.more ?_ _ | refine EXb.put ?_ (by omega) _ | refine EXb.trans ?_ (by assumption) | refine EXb.thn ?_ (by assumption)
theorem term_spec {b : Nat} {cs : List Nat} (hc : ∀ k ∈ cs, k < 256) (hl : cs.length ≤ 1000) : ∀ n, n ≤ 100 → TSpec b cs n := by
 intro n
 induction n with
 | zero => intro h; exact term_step hc hl 0 h (fun m e => by omega)
 | succ n ih => intro h; exact term_step hc hl (n + 1) h (fun m e => by obtain rfl : m = n := (by omega); exact ih (by omega))
end Go.Proofs.Q
namespace Go.Proofs.Q
open Go.AI
structure VB (n0 bd ro bl bn bo bv aid aoff ca : Nat) (l : List Vtx) (root : Int) (σ : St) (ok : Bool) (nx : Int) (left : List Bool) : Prop where
 fr : Fr σ
 lt : bv < σ.next
 ll : left.length = l.length
 rl : σ.row bl = some ([.slice (some ⟨ro, 0, none⟩) l.length l.length], boxMeta)
 rr : σ.row ro = some (left.map Value.bool, rowMeta 1)
 rk : σ.row bo = some ([.bool ok], boxMeta)
 rv : σ.row bv = some ([.func (.func 77) #[] #[.pointer (some ⟨bl, 0, none⟩), .pointer (some ⟨bo, 0, none⟩), .pointer (some ⟨bv, 0, none⟩), .pointer (some ⟨bd, 0, none⟩), .pointer (some ⟨bn, 0, none⟩)]], boxMeta)
 rd : σ.row bd = some ([.slice (some ⟨aid, aoff, none⟩) l.length ca, .int .i64 root], boxMeta)
 rn : σ.row bn = some ([.int .i64 nx], boxMeta)
 ra : ∃ row m, σ.row aid = some (row, m) ∧ (row.drop aoff).take (l.length * 3) = flat l
def VI (l : List Vtx) (ok : Bool) (nx : Int) (left : List Bool) : Prop := ok = true → ∃ k : Nat, nx = k ∧ 2 ≤ k ∧ k ≤ l.length ∧ left = tab l.length fun j => decide (j < k)
def VP (l : List Vtx) (t : Dt) (i : Int) (ok : Bool) (nx : Int) (ok' : Bool) (nx' : Int) : Prop :=
 (ok = false → ok' = false) ∧ (ok = true → ∀ k : Nat, nx = k → match pvT l t i k with | some m => ok' = true ∧ nx' = (m : Int) | none => ok' = false)
theorem cut_at {row : List Value} {off n : Nat} {xs : List Value} (h : cut row off n = some xs) {j : Nat} (hj : j < n) : row[off + j]? = xs[j]? := by
 unfold cut at h
 cases hb : Nat.beq ((row.drop off).take n).length n with
 | false => simp only [hb, cond_false] at h; cases h
 | true => simp only [hb, cond_true, Option.some.injEq] at h; rw [← h, List.getElem?_take, if_pos hj, List.getElem?_drop]
theorem flat_at0 {row : List Value} {off : Nat} {l : List Vtx} (h : (row.drop off).take (l.length * 3) = flat l) {k : Nat} (hk : k < l.length) : row[off + k * 3]? = some (.int .i64 (vx l k).1) := cut_at (row_cut h hk) (j := 0) (by omega)
theorem flat_at1 {row : List Value} {off : Nat} {l : List Vtx} (h : (row.drop off).take (l.length * 3) = flat l) {k : Nat} (hk : k < l.length) : row[off + (k * 3 + 1)]? = some (.int .i64 (vx l k).2.1) := by
 rw [← Nat.add_assoc]; exact cut_at (row_cut h hk) (j := 1) (by omega)
theorem flat_at2 {row : List Value} {off : Nat} {l : List Vtx} (h : (row.drop off).take (l.length * 3) = flat l) {k : Nat} (hk : k < l.length) : row[off + (k * 3 + 2)]? = some (.int .i64 (vx l k).2.2) := by
 rw [← Nat.add_assoc]; exact cut_at (row_cut h hk) (j := 2) (by omega)
theorem lt_set {N k i : Nat} (h : i = k) : (tab N fun j => decide (j < k)).set i true = tab N fun j => decide (j < k + 1) := by
 subst h
 rw [tab_set]
 refine tab_congr fun j _ => ?_
 by_cases h : j = i
 ·subst h; simp
 ·rw [if_neg h]; congr 1; refine propext ⟨fun _ => by omega, fun _ => by omega⟩
set_option maxHeartbeats 2000000 in
theorem visitV (n0 bd ro bl bn bo bv aid aoff ca : Nat) (l : List Vtx) (root : Int) (g : Gd l) (hl : l.length < 1000000) (o1 : aid < n0) (o2 : n0 ≤ bd) (o3 : bd < ro) (o4 : ro < bl) (o5 : bl < bn) (o6 : bn < bo) (o7 : bo < bv) :
    ∀ (t : Dt) (i : Int) (σ : St) (ok : Bool) (nx : Int) (left : List Bool), Rep l t i → VB n0 bd ro bl bn bo bv aid aoff ca l root σ ok nx left → VI l ok nx left →
    wpc Tryz.prog 77 #[.int .i64 i, .pointer (some ⟨bl, 0, none⟩), .pointer (some ⟨bo, 0, none⟩), .pointer (some ⟨bv, 0, none⟩), .pointer (some ⟨bd, 0, none⟩), .pointer (some ⟨bn, 0, none⟩)] σ fun _ σ' =>
      ∃ ok' nx' left', VB n0 bd ro bl bn bo bv aid aoff ca l root σ' ok' nx' left' ∧ VI l ok' nx' left' ∧ VP l t i ok nx ok' nx' ∧ EXn n0 σ σ' := by
 intro t
 induction t with
 | leaf b =>
  intro i σ ok nx left hR hB hI
  have hlt := Rep.lt g.len hR
  obtain ⟨k, rfl⟩ : ∃ k : Nat, i = k := ⟨_, (Int.toNat_of_nonneg hlt.1).symm⟩
  refine body_go Tryz.func77 rfl ?_
  have hr := Tryz.results77
  have z0 : (0 : Int) ≤ (k : Int) := by omega
  have z1 : (k : Int) < (l.length : Int) := by omega
  have hv : (left.map Value.bool)[k]? = some (.bool (bt left k)) := by
   have : k < left.length := by rw [hB.ll]; omega
   simp [bt, this]
  have b2 : k < 2 := by simp only [Rep] at hR; split at hR <;> omega
  have done : ∀ τ, EX σ τ → ∃ ok' nx' left', VB n0 bd ro bl bn bo bv aid aoff ca l root τ ok' nx' left' ∧ VI l ok' nx' left' ∧ VP l (.leaf b) k ok nx ok' nx' ∧ EXn n0 σ τ := by
   intro τ e
   have hlt := hB.lt
   have en := e.next
   refine ⟨ok, nx, left, ⟨e.fr hB.fr, by omega, hB.ll, (e.row bl (by omega)).trans hB.rl, (e.row ro (by omega)).trans hB.rr, (e.row bo (by omega)).trans hB.rk, (e.row bv (by omega)).trans hB.rv, (e.row bd (by omega)).trans hB.rd, (e.row bn (by omega)).trans hB.rn, ?_⟩, hI, ⟨fun h => h, fun h k' hk' => ⟨h, hk'⟩⟩, e.weak (by omega)⟩
   obtain ⟨row, m, q1, q2⟩ := hB.ra
   exact ⟨row, m, (e.row aid (by omega)).trans q1, q2⟩
  cases hbt : bt left k with
  | true =>
   rw [hbt] at hv
   simp only [c_seq, RUNA, RUNB, zAd, zMo, zDi, zSu, zMu, zEq, zBe, zLe, zTo, fillS, wantG, vBox, Value.cells, one, putAt, TYA, hr, hB.rl, hB.rr, ia63 z0 z1, hv]
   refine done _ ?_
   repeat first | assumption | exact EXn.refl _ _ | refine EXn.more ?_ _ | refine EXn.put ?_ (by omega) _ | refine EX.trans ?_ (by assumption)
  | false =>
   rw [hbt] at hv
   cases hok : ok with
   | true =>
    obtain ⟨q, _, q2, _, q3⟩ := hI hok
    rw [q3, bt_tab (by omega)] at hbt
    simp at hbt; omega
   | false =>
    have hk := hB.rk
    rw [hok] at hk
    simp only [c_seq, RUNA, RUNB, zAd, zMo, zDi, zSu, zMu, zEq, zBe, zLe, zTo, fillS, wantG, vBox, Value.cells, one, putAt, TYA, hr, hB.rl, hB.rr, ia63 z0 z1, hv, hk]
    rw [← hok]
    refine done _ ?_
    repeat first | assumption | exact EXn.refl _ _ | refine EXn.more ?_ _ | refine EXn.put ?_ (by omega) _ | refine EX.trans ?_ (by assumption)
 | node v lo hi ih1 ih2 =>
  intro i σ ok nx left hR hB hI
  have hRR := hR
  obtain ⟨k, rfl, k2, k3, k4, k5, k6⟩ := hR
  refine body_go Tryz.func77 rfl ?_
  have hr := Tryz.results77
  have z0 : (0 : Int) ≤ (k : Int) := by omega
  have z1 : (k : Int) < (l.length : Int) := by omega
  have hv : (left.map Value.bool)[k]? = some (.bool (bt left k)) := by
   have : k < left.length := by rw [hB.ll]; omega
   simp [bt, this]
  have hlt := hB.lt
  have same : ∀ (τ : St) (q : Bool) (x : Int) (lf : List Bool) (σ : St), VB n0 bd ro bl bn bo bv aid aoff ca l root σ q x lf → EX σ τ → VB n0 bd ro bl bn bo bv aid aoff ca l root τ q x lf := by
   intro τ q x lf σ hB e
   have hlt := hB.lt
   have en := e.next
   refine ⟨e.fr hB.fr, by omega, hB.ll, (e.row bl (by omega)).trans hB.rl, (e.row ro (by omega)).trans hB.rr, (e.row bo (by omega)).trans hB.rk, (e.row bv (by omega)).trans hB.rv, (e.row bd (by omega)).trans hB.rd, (e.row bn (by omega)).trans hB.rn, ?_⟩
   obtain ⟨row, m, q1, q2⟩ := hB.ra
   exact ⟨row, m, (e.row aid (by omega)).trans q1, q2⟩
  cases hbt : bt left k with
  | true =>
   rw [hbt] at hv
   simp only [c_seq, RUNA, RUNB, zAd, zMo, zDi, zSu, zMu, zEq, zBe, zLe, zTo, fillS, wantG, vBox, Value.cells, one, putAt, TYA, hr, hB.rl, hB.rr, ia63 z0 z1, hv]
   have e : EX σ (σ.more 8) := by repeat first | assumption | exact EXn.refl _ _ | refine EXn.more ?_ _ | refine EXn.put ?_ (by omega) _ | refine EX.trans ?_ (by assumption)
   refine ⟨ok, nx, left, same _ _ _ _ _ hB e, hI, ⟨fun h => h, fun h k' hk' => ?_⟩, e.weak (by omega)⟩
   obtain ⟨q, q1, q2, q4, q3⟩ := hI h
   rw [q3, bt_tab (by omega)] at hbt
   simp at hbt
   simp only [pvT]
   rw [if_pos (by omega)]
   exact ⟨h, hk'⟩
  | false =>
   rw [hbt] at hv
   cases hok : ok with
   | false =>
    have hk := hB.rk
    rw [hok] at hk
    simp only [c_seq, RUNA, RUNB, zAd, zMo, zDi, zSu, zMu, zEq, zBe, zLe, zTo, fillS, wantG, vBox, Value.cells, one, putAt, TYA, hr, hB.rl, hB.rr, ia63 z0 z1, hv, hk]
    have e : EX σ (σ.more 8) := by repeat first | assumption | exact EXn.refl _ _ | refine EXn.more ?_ _ | refine EXn.put ?_ (by omega) _ | refine EX.trans ?_ (by assumption)
    refine ⟨ok, nx, left, same _ _ _ _ _ hB e, hI, ⟨fun _ => hok, fun h => by cases h⟩, e.weak (by omega)⟩
   | true =>
    subst hok
    obtain ⟨q, rfl, q2, q4, rfl⟩ := hI rfl
    rw [bt_tab (by omega)] at hbt
    simp at hbt
    have hB0 := hB
    obtain ⟨row, m, ra1, ra2⟩ := hB.ra
    have ca' := row_cut ra2 k3
    have rw1 : row[aoff + (k * 3 + 1)]? = some (.int .i64 (vx l k).2.1) := flat_at1 ra2 k3
    have rw2 : row[aoff + (k * 3 + 2)]? = some (.int .i64 (vx l k).2.2) := flat_at2 ra2 k3
    have d_aid_bd : ¬ aid = bd := by omega
    have d_aid_ro : ¬ aid = ro := by omega
    have d_aid_bl : ¬ aid = bl := by omega
    have d_aid_bn : ¬ aid = bn := by omega
    have d_aid_bo : ¬ aid = bo := by omega
    have d_aid_bv : ¬ aid = bv := by omega
    have d_bd_aid : ¬ bd = aid := by omega
    have d_bd_ro : ¬ bd = ro := by omega
    have d_bd_bl : ¬ bd = bl := by omega
    have d_bd_bn : ¬ bd = bn := by omega
    have d_bd_bo : ¬ bd = bo := by omega
    have d_bd_bv : ¬ bd = bv := by omega
    have d_ro_aid : ¬ ro = aid := by omega
    have d_ro_bd : ¬ ro = bd := by omega
    have d_ro_bl : ¬ ro = bl := by omega
    have d_ro_bn : ¬ ro = bn := by omega
    have d_ro_bo : ¬ ro = bo := by omega
    have d_ro_bv : ¬ ro = bv := by omega
    have d_bl_aid : ¬ bl = aid := by omega
    have d_bl_bd : ¬ bl = bd := by omega
    have d_bl_ro : ¬ bl = ro := by omega
    have d_bl_bn : ¬ bl = bn := by omega
    have d_bl_bo : ¬ bl = bo := by omega
    have d_bl_bv : ¬ bl = bv := by omega
    have d_bn_aid : ¬ bn = aid := by omega
    have d_bn_bd : ¬ bn = bd := by omega
    have d_bn_ro : ¬ bn = ro := by omega
    have d_bn_bl : ¬ bn = bl := by omega
    have d_bn_bo : ¬ bn = bo := by omega
    have d_bn_bv : ¬ bn = bv := by omega
    have d_bo_aid : ¬ bo = aid := by omega
    have d_bo_bd : ¬ bo = bd := by omega
    have d_bo_ro : ¬ bo = ro := by omega
    have d_bo_bl : ¬ bo = bl := by omega
    have d_bo_bn : ¬ bo = bn := by omega
    have d_bo_bv : ¬ bo = bv := by omega
    have d_bv_aid : ¬ bv = aid := by omega
    have d_bv_bd : ¬ bv = bd := by omega
    have d_bv_ro : ¬ bv = ro := by omega
    have d_bv_bl : ¬ bv = bl := by omega
    have d_bv_bn : ¬ bv = bn := by omega
    have d_bv_bo : ¬ bv = bo := by omega
    simp only [c_seq, RUNA, RUNB, zAd, zMo, zDi, zSu, zMu, zEq, zBe, zLe, zTo, fillS, wantG, vBox, Value.cells, one, putAt, TYA, hr, hB.rl, hB.rr, ia63 z0 z1, hv, hB.rk]
    refine d_go (ms := [0, 0, 2, 0, 14, 30, 62, 127]) (order := [0, 1, 2, 3, 4, 5, 6, 7]) (by kernel_rfl) (by kernel_rfl) (by kernel_rfl) (by kernel_rfl) ?_
    simp only [YRUNA, YRUNB, zSh, bit, c_seq, RUNA, RUNB, zAd, zMo, zDi, zSu, zMu, zEq, zBe, zLe, zTo, fillS, wantG, vBox, Value.cells, one, putAt, TYA, hB.rv, hB.rd, ra1, ia39 z0 z1, rw1, k_tmp, k_val, List.append_toArray, List.nil_append, List.cons_append, mm_none, row_putm]
    have e0 : EX σ ((σ.more 8).more 8) := by repeat first | assumption | exact EXn.refl _ _ | refine EXn.more ?_ _ | refine EXn.put ?_ (by omega) _ | refine EX.trans ?_ (by assumption)
    refine wpc_mono (ih1 (vx l k).2.1 _ true q _ k5 (same _ _ _ _ _ hB e0) hI) ?_
    rintro r1 σ1 ⟨ok1, nx1, left1, hB1, hI1, ⟨p1, p1'⟩, hE1⟩
    have n1 := hE1.next
    simp only [next_more] at n1
    obtain ⟨row', m', ra1', ra2'⟩ := hB1.ra
    have rw1' : row'[aoff + (k * 3 + 1)]? = some (.int .i64 (vx l k).2.1) := flat_at1 ra2' k3
    have rw2' : row'[aoff + (k * 3 + 2)]? = some (.int .i64 (vx l k).2.2) := flat_at2 ra2' k3
    simp only [YRUNA, YRUNB, zSh, bit, c_seq, RUNA, RUNB, zAd, zMo, zDi, zSu, zMu, zEq, zBe, zLe, zTo, fillS, wantG, vBox, Value.cells, one, putAt, TYA, hB1.rv, hB1.rd, ra1', ia39 z0 z1, rw1', k_tmp, k_val, List.append_toArray, List.nil_append, List.cons_append, mm_none, row_putm]
    refine d_go (ms := [0, 0, 2, 0, 14, 30, 62, 127]) (order := [0, 1, 2, 3, 4, 5, 6, 7]) (by kernel_rfl) (by kernel_rfl) (by kernel_rfl) (by kernel_rfl) ?_
    simp only [YRUNA, YRUNB, zSh, bit, c_seq, RUNA, RUNB, zAd, zMo, zDi, zSu, zMu, zEq, zBe, zLe, zTo, fillS, wantG, vBox, Value.cells, one, putAt, TYA, hB1.rv, hB1.rd, ra1', ia39 z0 z1, rw2', k_tmp, k_val, List.append_toArray, List.nil_append, List.cons_append, mm_none, row_putm]
    have e1 : EX σ1 (σ1.more 8) := by repeat first | assumption | exact EXn.refl _ _ | refine EXn.more ?_ _ | refine EXn.put ?_ (by omega) _ | refine EX.trans ?_ (by assumption)
    refine wpc_mono (ih2 (vx l k).2.2 _ ok1 nx1 left1 k6 (same _ _ _ _ _ hB1 e1) hI1) ?_
    rintro r2 σ2 ⟨ok2, nx2, left2, hB2, hI2, ⟨p2, p2'⟩, hE2⟩
    have n2 := hE2.next
    simp only [next_more] at n2
    obtain ⟨row'', m'', ra1'', ra2''⟩ := hB2.ra
    have rw2'' : row''[aoff + (k * 3 + 2)]? = some (.int .i64 (vx l k).2.2) := flat_at2 ra2'' k3
    have hlt2 := hB2.lt
    have eAll : EXn n0 σ σ2 := (((e0.weak (by omega)).trans hE1).trans ((EXn.refl n0 σ1).more 8)).trans hE2
    have hle : k + 1 ≤ (left2.map Value.bool).length := by rw [List.length_map, hB2.ll]; omega
    have build : ∀ (τ : St) (ok' : Bool) (nx' : Int), Fr τ → bv < τ.next → τ.row bl = σ2.row bl → τ.row ro = some ((left2.set k true).map Value.bool, rowMeta 1) → τ.row bo = some ([.bool ok'], boxMeta) → τ.row bv = σ2.row bv → τ.row bd = σ2.row bd → τ.row bn = some ([.int .i64 nx'], boxMeta) → τ.row aid = σ2.row aid → VB n0 bd ro bl bn bo bv aid aoff ca l root τ ok' nx' (left2.set k true) := by
     intro τ ok' nx' h1 h2 h3 h4 h5 h6 h7 h8 h9
     exact ⟨h1, h2, by rw [List.length_set]; exact hB2.ll, h3.trans hB2.rl, h4, h5, h6.trans hB2.rv, h7.trans hB2.rd, h8, ⟨row'', m'', h9.trans ra1'', ra2''⟩⟩
    have mapset : (left2.map Value.bool).set k (.bool true) = (left2.set k true).map Value.bool := by rw [List.map_set]
    cases hok2 : ok2 with
    | false =>
     have rk := hB2.rk
     rw [hok2] at rk
     simp only [YRUNA, YRUNB, zSh, bit, c_seq, RUNA, RUNB, zAd, zMo, zDi, zSu, zMu, zEq, zBe, zLe, zTo, fillS, wantG, vBox, Value.cells, one, putAt, TYA, hB2.rv, hB2.rd, ra1'', ia39 z0 z1, rw2'', rk, hB2.rl, hB2.rr, hB2.rn, ia63 z0 z1, hle, hr, d_aid_bd, d_aid_ro, d_aid_bl, d_aid_bn, d_aid_bo, d_aid_bv, d_bd_aid, d_bd_ro, d_bd_bl, d_bd_bn, d_bd_bo, d_bd_bv, d_ro_aid, d_ro_bd, d_ro_bl, d_ro_bn, d_ro_bo, d_ro_bv, d_bl_aid, d_bl_bd, d_bl_ro, d_bl_bn, d_bl_bo, d_bl_bv, d_bn_aid, d_bn_bd, d_bn_ro, d_bn_bl, d_bn_bo, d_bn_bv, d_bo_aid, d_bo_bd, d_bo_ro, d_bo_bl, d_bo_bn, d_bo_bv, d_bv_aid, d_bv_bd, d_bv_ro, d_bv_bl, d_bv_bn, d_bv_bo]
     refine ⟨false, IntKind.i64.wrap (nx2 + 1), left2.set k true, build _ _ _ ?_ ?_ ?_ ?_ ?_ ?_ ?_ ?_ ?_, (fun h => by cases h), ⟨fun _ => rfl, fun _ k' hk' => ?_⟩, ?_⟩
     ·have := hB2.fr; repeat first | assumption | refine Fr.more ?_ _ | refine Fr.put ?_ _ _
     ·simp only [next_more, next_put]; omega
     ·simp only [c_seq, RUNA, RUNB, zAd, zMo, zDi, zSu, zMu, zEq, zBe, zLe, zTo, fillS, wantG, vBox, Value.cells, one, putAt, d_aid_bd, d_aid_ro, d_aid_bl, d_aid_bn, d_aid_bo, d_aid_bv, d_bd_aid, d_bd_ro, d_bd_bl, d_bd_bn, d_bd_bo, d_bd_bv, d_ro_aid, d_ro_bd, d_ro_bl, d_ro_bn, d_ro_bo, d_ro_bv, d_bl_aid, d_bl_bd, d_bl_ro, d_bl_bn, d_bl_bo, d_bl_bv, d_bn_aid, d_bn_bd, d_bn_ro, d_bn_bl, d_bn_bo, d_bn_bv, d_bo_aid, d_bo_bd, d_bo_ro, d_bo_bl, d_bo_bn, d_bo_bv, d_bv_aid, d_bv_bd, d_bv_ro, d_bv_bl, d_bv_bn, d_bv_bo]
     ·simp only [c_seq, RUNA, RUNB, zAd, zMo, zDi, zSu, zMu, zEq, zBe, zLe, zTo, fillS, wantG, vBox, Value.cells, one, putAt, d_aid_bd, d_aid_ro, d_aid_bl, d_aid_bn, d_aid_bo, d_aid_bv, d_bd_aid, d_bd_ro, d_bd_bl, d_bd_bn, d_bd_bo, d_bd_bv, d_ro_aid, d_ro_bd, d_ro_bl, d_ro_bn, d_ro_bo, d_ro_bv, d_bl_aid, d_bl_bd, d_bl_ro, d_bl_bn, d_bl_bo, d_bl_bv, d_bn_aid, d_bn_bd, d_bn_ro, d_bn_bl, d_bn_bo, d_bn_bv, d_bo_aid, d_bo_bd, d_bo_ro, d_bo_bl, d_bo_bn, d_bo_bv, d_bv_aid, d_bv_bd, d_bv_ro, d_bv_bl, d_bv_bn, d_bv_bo, mapset]
     ·simp only [c_seq, RUNA, RUNB, zAd, zMo, zDi, zSu, zMu, zEq, zBe, zLe, zTo, fillS, wantG, vBox, Value.cells, one, putAt, d_aid_bd, d_aid_ro, d_aid_bl, d_aid_bn, d_aid_bo, d_aid_bv, d_bd_aid, d_bd_ro, d_bd_bl, d_bd_bn, d_bd_bo, d_bd_bv, d_ro_aid, d_ro_bd, d_ro_bl, d_ro_bn, d_ro_bo, d_ro_bv, d_bl_aid, d_bl_bd, d_bl_ro, d_bl_bn, d_bl_bo, d_bl_bv, d_bn_aid, d_bn_bd, d_bn_ro, d_bn_bl, d_bn_bo, d_bn_bv, d_bo_aid, d_bo_bd, d_bo_ro, d_bo_bl, d_bo_bn, d_bo_bv, d_bv_aid, d_bv_bd, d_bv_ro, d_bv_bl, d_bv_bn, d_bv_bo]
     ·simp only [c_seq, RUNA, RUNB, zAd, zMo, zDi, zSu, zMu, zEq, zBe, zLe, zTo, fillS, wantG, vBox, Value.cells, one, putAt, d_aid_bd, d_aid_ro, d_aid_bl, d_aid_bn, d_aid_bo, d_aid_bv, d_bd_aid, d_bd_ro, d_bd_bl, d_bd_bn, d_bd_bo, d_bd_bv, d_ro_aid, d_ro_bd, d_ro_bl, d_ro_bn, d_ro_bo, d_ro_bv, d_bl_aid, d_bl_bd, d_bl_ro, d_bl_bn, d_bl_bo, d_bl_bv, d_bn_aid, d_bn_bd, d_bn_ro, d_bn_bl, d_bn_bo, d_bn_bv, d_bo_aid, d_bo_bd, d_bo_ro, d_bo_bl, d_bo_bn, d_bo_bv, d_bv_aid, d_bv_bd, d_bv_ro, d_bv_bl, d_bv_bn, d_bv_bo]
     ·simp only [c_seq, RUNA, RUNB, zAd, zMo, zDi, zSu, zMu, zEq, zBe, zLe, zTo, fillS, wantG, vBox, Value.cells, one, putAt, d_aid_bd, d_aid_ro, d_aid_bl, d_aid_bn, d_aid_bo, d_aid_bv, d_bd_aid, d_bd_ro, d_bd_bl, d_bd_bn, d_bd_bo, d_bd_bv, d_ro_aid, d_ro_bd, d_ro_bl, d_ro_bn, d_ro_bo, d_ro_bv, d_bl_aid, d_bl_bd, d_bl_ro, d_bl_bn, d_bl_bo, d_bl_bv, d_bn_aid, d_bn_bd, d_bn_ro, d_bn_bl, d_bn_bo, d_bn_bv, d_bo_aid, d_bo_bd, d_bo_ro, d_bo_bl, d_bo_bn, d_bo_bv, d_bv_aid, d_bv_bd, d_bv_ro, d_bv_bl, d_bv_bn, d_bv_bo]
     ·simp only [c_seq, RUNA, RUNB, zAd, zMo, zDi, zSu, zMu, zEq, zBe, zLe, zTo, fillS, wantG, vBox, Value.cells, one, putAt, d_aid_bd, d_aid_ro, d_aid_bl, d_aid_bn, d_aid_bo, d_aid_bv, d_bd_aid, d_bd_ro, d_bd_bl, d_bd_bn, d_bd_bo, d_bd_bv, d_ro_aid, d_ro_bd, d_ro_bl, d_ro_bn, d_ro_bo, d_ro_bv, d_bl_aid, d_bl_bd, d_bl_ro, d_bl_bn, d_bl_bo, d_bl_bv, d_bn_aid, d_bn_bd, d_bn_ro, d_bn_bl, d_bn_bo, d_bn_bv, d_bo_aid, d_bo_bd, d_bo_ro, d_bo_bl, d_bo_bn, d_bo_bv, d_bv_aid, d_bv_bd, d_bv_ro, d_bv_bl, d_bv_bn, d_bv_bo]
     ·simp only [c_seq, RUNA, RUNB, zAd, zMo, zDi, zSu, zMu, zEq, zBe, zLe, zTo, fillS, wantG, vBox, Value.cells, one, putAt, d_aid_bd, d_aid_ro, d_aid_bl, d_aid_bn, d_aid_bo, d_aid_bv, d_bd_aid, d_bd_ro, d_bd_bl, d_bd_bn, d_bd_bo, d_bd_bv, d_ro_aid, d_ro_bd, d_ro_bl, d_ro_bn, d_ro_bo, d_ro_bv, d_bl_aid, d_bl_bd, d_bl_ro, d_bl_bn, d_bl_bo, d_bl_bv, d_bn_aid, d_bn_bd, d_bn_ro, d_bn_bl, d_bn_bo, d_bn_bv, d_bo_aid, d_bo_bd, d_bo_ro, d_bo_bl, d_bo_bn, d_bo_bv, d_bv_aid, d_bv_bd, d_bv_ro, d_bv_bl, d_bv_bn, d_bv_bo]
     ·obtain rfl : q = k' := by omega
      simp only [pvT, Int.toNat_natCast]
      rw [if_neg (by omega)]
      have w1 := p1' rfl q rfl
      cases hp : pvT l lo (vx l k).2.1 q with
      | none => trivial
      | some a =>
       rw [hp] at w1
       obtain ⟨w2, w3⟩ := w1
       have w4 := p2' w2 a w3
       simp only [Option.bind_some]
       cases hp2 : pvT l hi (vx l k).2.2 a with
       | none => trivial
       | some c => rw [hp2] at w4; rw [hok2] at w4; cases w4.1
     ·refine EXn.trans eAll ?_
      repeat first | exact EXn.refl _ _ | refine EXn.more ?_ _ | refine EXn.put ?_ (by omega) _
    | true =>
     obtain ⟨m2, x1, x2, x3, x4⟩ := hI2 hok2
     have rk := hB2.rk
     rw [hok2] at rk
     have rn := hB2.rn
     rw [x1] at rn
     have hw : IntKind.i64.wrap ((m2 : Int) + 1) = ((m2 + 1 : Nat) : Int) := by rw [wrap64 (by omega) (by omega)]; rfl
     simp only [YRUNA, YRUNB, zSh, bit, c_seq, RUNA, RUNB, zAd, zMo, zDi, zSu, zMu, zEq, zBe, zLe, zTo, fillS, wantG, vBox, Value.cells, one, putAt, TYA, hB2.rv, hB2.rd, ra1'', ia39 z0 z1, rw2'', rk, hB2.rl, hB2.rr, rn, ia63 z0 z1, hle, hw, hr, d_aid_bd, d_aid_ro, d_aid_bl, d_aid_bn, d_aid_bo, d_aid_bv, d_bd_aid, d_bd_ro, d_bd_bl, d_bd_bn, d_bd_bo, d_bd_bv, d_ro_aid, d_ro_bd, d_ro_bl, d_ro_bn, d_ro_bo, d_ro_bv, d_bl_aid, d_bl_bd, d_bl_ro, d_bl_bn, d_bl_bo, d_bl_bv, d_bn_aid, d_bn_bd, d_bn_ro, d_bn_bl, d_bn_bo, d_bn_bv, d_bo_aid, d_bo_bd, d_bo_ro, d_bo_bl, d_bo_bn, d_bo_bv, d_bv_aid, d_bv_bd, d_bv_ro, d_bv_bl, d_bv_bn, d_bv_bo]
     refine ⟨((k : Int) == (m2 : Int)), ((m2 + 1 : Nat) : Int), left2.set k true, build _ _ _ ?_ ?_ ?_ ?_ ?_ ?_ ?_ ?_ ?_, (fun h => ?_), ⟨(fun h => by cases h), fun _ k' hk' => ?_⟩, ?_⟩
     ·have := hB2.fr; repeat first | assumption | refine Fr.more ?_ _ | refine Fr.put ?_ _ _
     ·simp only [next_more, next_put]; omega
     ·simp only [c_seq, RUNA, RUNB, zAd, zMo, zDi, zSu, zMu, zEq, zBe, zLe, zTo, fillS, wantG, vBox, Value.cells, one, putAt, d_aid_bd, d_aid_ro, d_aid_bl, d_aid_bn, d_aid_bo, d_aid_bv, d_bd_aid, d_bd_ro, d_bd_bl, d_bd_bn, d_bd_bo, d_bd_bv, d_ro_aid, d_ro_bd, d_ro_bl, d_ro_bn, d_ro_bo, d_ro_bv, d_bl_aid, d_bl_bd, d_bl_ro, d_bl_bn, d_bl_bo, d_bl_bv, d_bn_aid, d_bn_bd, d_bn_ro, d_bn_bl, d_bn_bo, d_bn_bv, d_bo_aid, d_bo_bd, d_bo_ro, d_bo_bl, d_bo_bn, d_bo_bv, d_bv_aid, d_bv_bd, d_bv_ro, d_bv_bl, d_bv_bn, d_bv_bo]
     ·simp only [c_seq, RUNA, RUNB, zAd, zMo, zDi, zSu, zMu, zEq, zBe, zLe, zTo, fillS, wantG, vBox, Value.cells, one, putAt, d_aid_bd, d_aid_ro, d_aid_bl, d_aid_bn, d_aid_bo, d_aid_bv, d_bd_aid, d_bd_ro, d_bd_bl, d_bd_bn, d_bd_bo, d_bd_bv, d_ro_aid, d_ro_bd, d_ro_bl, d_ro_bn, d_ro_bo, d_ro_bv, d_bl_aid, d_bl_bd, d_bl_ro, d_bl_bn, d_bl_bo, d_bl_bv, d_bn_aid, d_bn_bd, d_bn_ro, d_bn_bl, d_bn_bo, d_bn_bv, d_bo_aid, d_bo_bd, d_bo_ro, d_bo_bl, d_bo_bn, d_bo_bv, d_bv_aid, d_bv_bd, d_bv_ro, d_bv_bl, d_bv_bn, d_bv_bo, mapset]
     ·simp only [c_seq, RUNA, RUNB, zAd, zMo, zDi, zSu, zMu, zEq, zBe, zLe, zTo, fillS, wantG, vBox, Value.cells, one, putAt, d_aid_bd, d_aid_ro, d_aid_bl, d_aid_bn, d_aid_bo, d_aid_bv, d_bd_aid, d_bd_ro, d_bd_bl, d_bd_bn, d_bd_bo, d_bd_bv, d_ro_aid, d_ro_bd, d_ro_bl, d_ro_bn, d_ro_bo, d_ro_bv, d_bl_aid, d_bl_bd, d_bl_ro, d_bl_bn, d_bl_bo, d_bl_bv, d_bn_aid, d_bn_bd, d_bn_ro, d_bn_bl, d_bn_bo, d_bn_bv, d_bo_aid, d_bo_bd, d_bo_ro, d_bo_bl, d_bo_bn, d_bo_bv, d_bv_aid, d_bv_bd, d_bv_ro, d_bv_bl, d_bv_bn, d_bv_bo]
     ·simp only [c_seq, RUNA, RUNB, zAd, zMo, zDi, zSu, zMu, zEq, zBe, zLe, zTo, fillS, wantG, vBox, Value.cells, one, putAt, d_aid_bd, d_aid_ro, d_aid_bl, d_aid_bn, d_aid_bo, d_aid_bv, d_bd_aid, d_bd_ro, d_bd_bl, d_bd_bn, d_bd_bo, d_bd_bv, d_ro_aid, d_ro_bd, d_ro_bl, d_ro_bn, d_ro_bo, d_ro_bv, d_bl_aid, d_bl_bd, d_bl_ro, d_bl_bn, d_bl_bo, d_bl_bv, d_bn_aid, d_bn_bd, d_bn_ro, d_bn_bl, d_bn_bo, d_bn_bv, d_bo_aid, d_bo_bd, d_bo_ro, d_bo_bl, d_bo_bn, d_bo_bv, d_bv_aid, d_bv_bd, d_bv_ro, d_bv_bl, d_bv_bn, d_bv_bo]
     ·simp only [c_seq, RUNA, RUNB, zAd, zMo, zDi, zSu, zMu, zEq, zBe, zLe, zTo, fillS, wantG, vBox, Value.cells, one, putAt, d_aid_bd, d_aid_ro, d_aid_bl, d_aid_bn, d_aid_bo, d_aid_bv, d_bd_aid, d_bd_ro, d_bd_bl, d_bd_bn, d_bd_bo, d_bd_bv, d_ro_aid, d_ro_bd, d_ro_bl, d_ro_bn, d_ro_bo, d_ro_bv, d_bl_aid, d_bl_bd, d_bl_ro, d_bl_bn, d_bl_bo, d_bl_bv, d_bn_aid, d_bn_bd, d_bn_ro, d_bn_bl, d_bn_bo, d_bn_bv, d_bo_aid, d_bo_bd, d_bo_ro, d_bo_bl, d_bo_bn, d_bo_bv, d_bv_aid, d_bv_bd, d_bv_ro, d_bv_bl, d_bv_bn, d_bv_bo]
     ·simp only [c_seq, RUNA, RUNB, zAd, zMo, zDi, zSu, zMu, zEq, zBe, zLe, zTo, fillS, wantG, vBox, Value.cells, one, putAt, d_aid_bd, d_aid_ro, d_aid_bl, d_aid_bn, d_aid_bo, d_aid_bv, d_bd_aid, d_bd_ro, d_bd_bl, d_bd_bn, d_bd_bo, d_bd_bv, d_ro_aid, d_ro_bd, d_ro_bl, d_ro_bn, d_ro_bo, d_ro_bv, d_bl_aid, d_bl_bd, d_bl_ro, d_bl_bn, d_bl_bo, d_bl_bv, d_bn_aid, d_bn_bd, d_bn_ro, d_bn_bl, d_bn_bo, d_bn_bv, d_bo_aid, d_bo_bd, d_bo_ro, d_bo_bl, d_bo_bn, d_bo_bv, d_bv_aid, d_bv_bd, d_bv_ro, d_bv_bl, d_bv_bn, d_bv_bo]
     ·simp only [c_seq, RUNA, RUNB, zAd, zMo, zDi, zSu, zMu, zEq, zBe, zLe, zTo, fillS, wantG, vBox, Value.cells, one, putAt, d_aid_bd, d_aid_ro, d_aid_bl, d_aid_bn, d_aid_bo, d_aid_bv, d_bd_aid, d_bd_ro, d_bd_bl, d_bd_bn, d_bd_bo, d_bd_bv, d_ro_aid, d_ro_bd, d_ro_bl, d_ro_bn, d_ro_bo, d_ro_bv, d_bl_aid, d_bl_bd, d_bl_ro, d_bl_bn, d_bl_bo, d_bl_bv, d_bn_aid, d_bn_bd, d_bn_ro, d_bn_bl, d_bn_bo, d_bn_bv, d_bo_aid, d_bo_bd, d_bo_ro, d_bo_bl, d_bo_bn, d_bo_bv, d_bv_aid, d_bv_bd, d_bv_ro, d_bv_bl, d_bv_bn, d_bv_bo]
     ·have hkm : k = m2 := by simp at h; omega
      exact ⟨m2 + 1, rfl, by omega, by omega, by rw [x4, lt_set hkm]⟩
     ·obtain rfl : q = k' := by omega
      simp only [pvT, Int.toNat_natCast]
      rw [if_neg (by omega)]
      have w1 := p1' rfl q rfl
      cases hp : pvT l lo (vx l k).2.1 q with
      | none => rw [hp] at w1; have := p2 w1; rw [hok2] at this; cases this
      | some a =>
       rw [hp] at w1
       obtain ⟨w2, w3⟩ := w1
       have w4 := p2' w2 a w3
       simp only [Option.bind_some]
       cases hp2 : pvT l hi (vx l k).2.2 a with
       | none => rw [hp2] at w4; rw [hok2] at w4; cases w4
       | some c =>
        rw [hp2] at w4
        have hc : c = m2 := by have := w4.2; omega
        subst hc
        simp only [Option.bind_some]
        by_cases hkc : (k : Int) = (c : Int)
        ·rw [if_pos hkc]; simp [hkc]
        ·rw [if_neg hkc]; simp; omega
     ·refine EXn.trans eAll ?_
      repeat first | exact EXn.refl _ _ | refine EXn.more ?_ _ | refine EXn.put ?_ (by omega) _
end Go.Proofs.Q
