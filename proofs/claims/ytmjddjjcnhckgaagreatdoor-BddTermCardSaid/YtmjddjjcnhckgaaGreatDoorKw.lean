import Derived.Test.YtmjddjjcnhckgaaGreatDoorKv
import Derived.Test.YtmjddjjcnhckgaaGreatDoorKr
set_option linter.unusedVariables false
set_option linter.unusedSimpArgs false
set_option linter.constructorNameAsVariable false
open Nat renaming reduceAdd → zAd, reduceMod → zMo, reduceDiv → zDi, reduceSub → zSu, reduceMul → zMu, reduceEqDiff → zEq, reduceBEq → zBe, reduceLeDiff → zLe, reduceShiftRight → zSh
open Int renaming reduceToNat → zTo
namespace Go.Proofs.Q
open Go.AI
set_option maxRecDepth 4000
def dtT (vs : List Sy) : Dt → PT
 | .leaf b => .mk 2 es es (if b = true then obT else obNil) []
 | .node v lo hi => .mk 3 lsp nIf ob0 [.mk 1 (yx vs v).1 (yx vs v).2 ob0 [], dtT vs hi, dtT vs lo]
def WrS (vs : List Sy) (l : List Vtx) (A : Dt) : Prop := ∀ (i : Int), Rep l A i → (∀ v, A.occ v → v < vs.length) → ∀ (σ : St) (ia fa ca : Nat) (rowa : List Value) (ma : Mta) (root : Int) (w : Value), ia < σ.next → σ.row ia = some (rowa, m3 ma) → (rowa.drop fa).take (l.length * 3) = flat l → YL σ w vs →
 wpc Tryz.prog 39 #[.agg #[.slice (some ⟨ia, fa, none⟩) l.length ca, .int .i64 root], .int .i64 i, w] σ fun r σ' => TVb σ.next σ' r (dtT vs A) ∧ EX σ σ'
set_option maxHeartbeats 2000000 in
theorem write_spec {vs : List Sy} {l : List Vtx} : ∀ A : Dt, WrS vs l A
 | .leaf b => by
  intro i hA hv σ ia fa ca rowa ma root w h1 h2 h3 hw
  simp only [Rep] at hA
  obtain ⟨a, c, rfl, -⟩ := hw
  refine body_go Tryz.func39 rfl ?_
  have hr := Tryz.results39
  cases b
  ·simp only [if_neg Bool.false_ne_true] at hA
   subst hA
   simp only [c_seq, RUNA, RUNB, zAd, zMo, zDi, zSu, zMu, zEq, zBe, zLe, zTo, fillS, wantG, vBox, Value.cells, one, putAt, TYA, hr, show ((0 : Int) == 0) = true from rfl]
   refine wpc_mono (sNil_spec _) ?_
   rintro r σ1 ⟨rfl, hE1⟩
   have n1 := hE1.next
   simp only [next_more, next_put] at n1
   have r1 : σ1.row (σ.next + 1) = some ([.int .i64 0, .string ⟨#[]⟩, .string ⟨#[]⟩, .int .i64 0, .string ⟨#[]⟩, .string ⟨#[]⟩, .string ⟨#[]⟩, .string ⟨#[]⟩, .string ⟨#[]⟩, .slice none 0 0, .slice none 0 0], boxMeta) := by rw [hE1.row _ (by first | omega | (simp only [next_more, next_put] at *; omega))]; simp only [c_seq, RUNA, RUNB, zAd, zMo, zDi, zSu, zMu, zEq, zBe, zLe, zTo, fillS, wantG, vBox, Value.cells, one, putAt]
   simp only [c_seq, RUNA, RUNB, zAd, zMo, zDi, zSu, zMu, zEq, zBe, zLe, zTo, fillS, wantG, vBox, Value.cells, one, putAt, TYA, hr, r1]
   refine ⟨TVb.con _ _ obNil, ?_⟩
   repeat first | assumption | exact EXn.refl _ _ | refine EXn.more ?_ _ | refine EXn.put ?_ (by omega) _ | refine EX.trans ?_ (by assumption)
  ·simp only [if_pos rfl] at hA
   subst hA
   simp only [c_seq, RUNA, RUNB, zAd, zMo, zDi, zSu, zMu, zEq, zBe, zLe, zTo, fillS, wantG, vBox, Value.cells, one, putAt, TYA, hr, show ((1 : Int) == 0) = false from rfl, show ((1 : Int) == 1) = true from rfl]
   refine wpc_mono (sT_spec _) ?_
   rintro r σ1 ⟨rfl, hE1⟩
   have n1 := hE1.next
   simp only [next_more, next_put] at n1
   have r1 : σ1.row (σ.next + 1) = some ([.int .i64 0, .string ⟨#[]⟩, .string ⟨#[]⟩, .int .i64 0, .string ⟨#[]⟩, .string ⟨#[]⟩, .string ⟨#[]⟩, .string ⟨#[]⟩, .string ⟨#[]⟩, .slice none 0 0, .slice none 0 0], boxMeta) := by rw [hE1.row _ (by first | omega | (simp only [next_more, next_put] at *; omega))]; simp only [c_seq, RUNA, RUNB, zAd, zMo, zDi, zSu, zMu, zEq, zBe, zLe, zTo, fillS, wantG, vBox, Value.cells, one, putAt]
   simp only [c_seq, RUNA, RUNB, zAd, zMo, zDi, zSu, zMu, zEq, zBe, zLe, zTo, fillS, wantG, vBox, Value.cells, one, putAt, TYA, hr, r1]
   refine ⟨TVb.con _ _ obT, ?_⟩
   repeat first | assumption | exact EXn.refl _ _ | refine EXn.more ?_ _ | refine EXn.put ?_ (by omega) _ | refine EX.trans ?_ (by assumption)
 | .node v lo hi => by
  intro i hA hv σ ia fa ca rowa ma root w h1 h2 h3 hw
  have ihl : WrS vs l lo := write_spec lo
  have ihh : WrS vs l hi := write_spec hi
  simp only [Rep] at hA
  obtain ⟨k, rfl, hk2, hkl, hkv, hlo, hhi⟩ := hA
  have hv0 := hv v (Or.inl rfl)
  have hvl : ∀ u, lo.occ u → u < vs.length := fun u h => hv u (Or.inr (Or.inl h))
  have hvh : ∀ u, hi.occ u → u < vs.length := fun u h => hv u (Or.inr (Or.inr h))
  have hw0 := hw
  obtain ⟨a, c, rfl, k2⟩ := hw
  have ne : vs ≠ [] := by intro e; rw [e] at hv0; simp at hv0
  obtain ⟨id, off, row, m, rfl, q2, q3, q4⟩ := k2 ne
  have c2 := row_cutY q4 hv0
  have c3 := row_cut h3 hkl
  rw [hkv] at c3
  have g0 : ((k : Int) == 0) = false := by simp; omega
  have g1 : ((k : Int) == 1) = false := by simp; omega
  have y0 : (0 : Int) ≤ (k : Int) := by omega
  have y1 : (k : Int) < (l.length : Int) := by omega
  have z0 : (0 : Int) ≤ (v : Int) := by omega
  have z1 : (v : Int) < (vs.length : Int) := by omega
  have qa : ∀ j, ¬ ia = σ.next + j := fun j => by omega
  have qi : ∀ j, ¬ id = σ.next + j := fun j => by omega
  have qa0 : ¬ ia = σ.next := by omega
  have qi0 : ¬ id = σ.next := by omega
  refine body_go Tryz.func39 rfl ?_
  have hr := Tryz.results39
  simp only [c_seq, RUNA, RUNB, zAd, zMo, zDi, zSu, zMu, zEq, zBe, zLe, zTo, fillS, wantG, vBox, Value.cells, one, putAt, TYA, hr, g0, g1, ia39 y0 y1, Int.toNat_natCast, qa, qa0, h2, c3]
  refine d_go (ms := [0, 0, 2, 7, 15, 31, 0, 0, 128, 0, 1023, 0, 0, 4096, 0, 32767, 65535, 131071]) (order := [0, 1, 2, 3, 4, 6, 7, 8, 9, 11, 12, 13, 14, 5, 10, 15, 16, 17]) (by kernel_rfl) (by kernel_rfl) (by kernel_rfl) (by kernel_rfl) ?_
  simp only [YRUNA, YRUNB, zSh, bit, c_seq, RUNA, RUNB, zAd, zMo, zDi, zSu, zMu, zEq, zBe, zLe, zTo, fillS, wantG, vBox, Value.cells, one, putAt, TYA, ia37 z0 z1, Int.toNat_natCast, qa, qi, q3, c2, qa0, qi0]
  refine wpc_mono (Var_spec _ _ _) ?_
  rintro r σ1 ⟨rfl, hE1⟩
  have n1 := hE1.next
  try simp only [next_more, next_put] at n1
  have b1 : σ1.row σ.next = some ([.slice (some ⟨ia, fa, none⟩) l.length ca, .int .i64 root], boxMeta) := by rw [hE1.row _ (by first | omega | (simp only [next_more, next_put] at *; omega))]; simp only [c_seq, RUNA, RUNB, zAd, zMo, zDi, zSu, zMu, zEq, zBe, zLe, zTo, fillS, wantG, vBox, Value.cells, one, putAt]
  have x1 : σ1.row (σ.next + 1) = some ([.int .i64 0, .string ⟨#[]⟩, .string ⟨#[]⟩, .int .i64 0, .string ⟨#[]⟩, .string ⟨#[]⟩, .string ⟨#[]⟩, .string ⟨#[]⟩, .string ⟨#[]⟩, .slice none 0 0, .slice none 0 0], boxMeta) := by rw [hE1.row _ (by first | omega | (simp only [next_more, next_put] at *; omega))]; simp only [c_seq, RUNA, RUNB, zAd, zMo, zDi, zSu, zMu, zEq, zBe, zLe, zTo, fillS, wantG, vBox, Value.cells, one, putAt]
  have v1 : σ1.row (σ.next + 12) = some ([.int .i64 (v : Int), .int .i64 (vx l k).2.1, .int .i64 (vx l k).2.2], boxMeta) := by rw [hE1.row _ (by first | omega | (simp only [next_more, next_put] at *; omega))]; simp only [c_seq, RUNA, RUNB, zAd, zMo, zDi, zSu, zMu, zEq, zBe, zLe, zTo, fillS, wantG, vBox, Value.cells, one, putAt]
  have e1 : EX σ σ1 := by refine EX.trans ?_ hE1; repeat first | assumption | exact EXn.refl _ _ | refine EXn.more ?_ _ | refine EXn.put ?_ (by omega) _ | refine EX.trans ?_ (by assumption)
  simp only [YRUNA, YRUNB, zSh, bit, c_seq, RUNA, RUNB, zAd, zMo, zDi, zSu, zMu, zEq, zBe, zLe, zTo, fillS, wantG, vBox, Value.cells, one, putAt, TYA, b1, v1]
  refine wpc_mono (ihh _ hhi hvh _ ia fa ca rowa ma root _ (by first | omega | (simp only [next_more, next_put] at *; omega)) ((e1.row ia h1).trans h2) h3 (hw0.mono ?_)) ?_
  ·repeat first | assumption | exact EXn.refl _ _ | refine EXn.more ?_ _ | refine EXn.put ?_ (by omega) _ | refine EX.trans ?_ (by assumption)
  rintro r σ2 ⟨hT2, hE2⟩
  have n2 := hE2.next
  try simp only [next_more, next_put] at n2
  have b2 := (hE2.row σ.next (by first | omega | (simp only [next_more, next_put] at *; omega))).trans b1
  have x2 := (hE2.row (σ.next + 1) (by first | omega | (simp only [next_more, next_put] at *; omega))).trans x1
  have v2 := (hE2.row (σ.next + 12) (by first | omega | (simp only [next_more, next_put] at *; omega))).trans v1
  have e2 : EX σ σ2 := by refine EX.trans ?_ hE2; repeat first | assumption | exact EXn.refl _ _ | refine EXn.more ?_ _ | refine EXn.put ?_ (by omega) _ | refine EX.trans ?_ (by assumption)
  try simp only [next_more, next_put] at hT2
  obtain ⟨a2, c2', rfl, hA2⟩ := hT2.tv.al
  simp only [YRUNA, YRUNB, zSh, bit, c_seq, RUNA, RUNB, zAd, zMo, zDi, zSu, zMu, zEq, zBe, zLe, zTo, fillS, wantG, vBox, Value.cells, one, putAt, TYA, b2, v2]
  refine wpc_mono (ihl _ hlo hvl _ ia fa ca rowa ma root _ (by first | omega | (simp only [next_more, next_put] at *; omega)) ((e2.row ia h1).trans h2) h3 (hw0.mono ?_)) ?_
  ·repeat first | assumption | exact EXn.refl _ _ | refine EXn.more ?_ _ | refine EXn.put ?_ (by omega) _ | refine EX.trans ?_ (by assumption)
  rintro r σ3 ⟨hT3, hE3⟩
  have n3 := hE3.next
  try simp only [next_more, next_put] at n3
  have x3 := (hE3.row (σ.next + 1) (by first | omega | (simp only [next_more, next_put] at *; omega))).trans x2
  have e3 : EX σ σ3 := by refine EX.trans ?_ hE3; repeat first | assumption | exact EXn.refl _ _ | refine EXn.more ?_ _ | refine EXn.put ?_ (by omega) _ | refine EX.trans ?_ (by assumption)
  have hT2' := hT2.ex hE3
  try simp only [next_more, next_put] at hT3
  obtain ⟨a3, c3', rfl, hA3⟩ := hT3.tv.al
  simp only [YRUNA, YRUNB, zSh, bit, c_seq, RUNA, RUNB, zAd, zMo, zDi, zSu, zMu, zEq, zBe, zLe, zTo, fillS, wantG, vBox, Value.cells, one, putAt, TYA]
  refine wpc_mono (If_spec _ (.mk 1 (yx vs v).1 (yx vs v).2 ob0 []) (dtT vs hi) (dtT vs lo) none a2 a3 0 c2' c3') ?_
  rintro r σ4 ⟨id4, rfl, hi1, hi2, hi3, hE4⟩
  have n4 := hE4.next
  try simp only [next_more, next_put] at n4
  have x4 := (hE4.row (σ.next + 1) (by first | omega | (simp only [next_more, next_put] at *; omega))).trans x3
  have e4 : EX σ σ4 := by refine EX.trans ?_ hE4; repeat first | assumption | exact EXn.refl _ _ | refine EXn.more ?_ _ | refine EXn.put ?_ (by omega) _ | refine EX.trans ?_ (by assumption)
  simp only [YRUNA, YRUNB, zSh, bit, c_seq, RUNA, RUNB, zAd, zMo, zDi, zSu, zMu, zEq, zBe, zLe, zTo, fillS, wantG, vBox, Value.cells, one, putAt, TYA, x4, hr]
  refine ⟨?_, ?_⟩
  ·have hT : TVb (σ.next + 2) σ4 (appV lsp nIf (some ⟨id4, 0, none⟩) 3 3) (.mk 3 lsp nIf ob0 [.mk 1 (yx vs v).1 (yx vs v).2 ob0 [], dtT vs hi, dtT vs lo]) := TVb.app (l := [.mk 1 (yx vs v).1 (yx vs v).2 ob0 [], dtT vs hi, dtT vs lo]) lsp nIf (by first | omega | (simp only [next_more, next_put] at *; omega)) hi2 hi3 (TLb.cons (TVb.tc (TVb.var _ _ _ _)) (TLb.cons (TVb.tc ((hT2'.ex hE4).weak (by first | omega | (simp only [next_more, next_put] at *; omega)))) (TLb.one (TVb.tc ((hT3.ex hE4).weak (by first | omega | (simp only [next_more, next_put] at *; omega)))))))
   simp only [dtT]
   refine (hT.un (by first | omega | (simp only [next_more, next_put] at *; omega)) ?_).weak (by omega)
   repeat first | assumption | exact UN.refl _ _ _ | refine UN.more ?_ _ | refine UN.put ?_ (by omega) _ | refine UN.ex (by assumption) ?_ (by first | omega | (simp only [next_more, next_put]; omega)) | refine UN.exb (by assumption) ?_ (by first | omega | (simp only [next_more, next_put]; omega)) (by omega)
  ·repeat first | assumption | exact EXn.refl _ _ | refine EXn.more ?_ _ | refine EXn.put ?_ (by omega) _ | refine EX.trans ?_ (by assumption)
def RtS (vs : List Sy) (l : List Vtx) (A : Dt) : Prop := ∀ (i : Int), Rep l A i → (∀ v, A.occ v → v < vs.length) → ∀ (σ : St) (ia fa ca : Nat) (rowa : List Value) (ma : Mta) (root : Int) (w : Value), ia < σ.next → σ.row ia = some (rowa, m3 ma) → (rowa.drop fa).take (l.length * 3) = flat l → YL σ w vs →
 wpc Tryz.prog 42 #[.agg #[.slice (some ⟨ia, fa, none⟩) l.length ca, .int .i64 root], w, .int .i64 i] σ fun r σ' => TVb σ.next σ' r (dtT vs A) ∧ EX σ σ'
set_option maxHeartbeats 2000000 in
theorem rterm_spec {vs : List Sy} {l : List Vtx} : ∀ A : Dt, RtS vs l A
 | .leaf b => by
  intro i hA hv σ ia fa ca rowa ma root w h1 h2 h3 hw
  simp only [Rep] at hA
  obtain ⟨a, c, rfl, -⟩ := hw
  refine body_go Tryz.func42 rfl ?_
  have hr := Tryz.results42
  cases b
  ·simp only [if_neg Bool.false_ne_true] at hA
   subst hA
   simp only [c_seq, RUNA, RUNB, zAd, zMo, zDi, zSu, zMu, zEq, zBe, zLe, zTo, fillS, wantG, vBox, Value.cells, one, putAt, TYA, hr, show ((0 : Int) == 0) = true from rfl]
   refine wpc_mono (refNil_spec _) ?_
   rintro r σ1 ⟨rfl, hE1⟩
   have n1 := hE1.next
   simp only [next_more, next_put] at n1
   have r1 : σ1.row (σ.next + 1) = some ([.int .i64 0, .string ⟨#[]⟩, .string ⟨#[]⟩, .int .i64 0, .string ⟨#[]⟩, .string ⟨#[]⟩, .string ⟨#[]⟩, .string ⟨#[]⟩, .string ⟨#[]⟩, .slice none 0 0, .slice none 0 0], boxMeta) := by rw [hE1.row _ (by first | omega | (simp only [next_more, next_put] at *; omega))]; simp only [c_seq, RUNA, RUNB, zAd, zMo, zDi, zSu, zMu, zEq, zBe, zLe, zTo, fillS, wantG, vBox, Value.cells, one, putAt]
   have e1 : EX σ σ1 := by refine EX.trans ?_ hE1; repeat first | assumption | exact EXn.refl _ _ | refine EXn.more ?_ _ | refine EXn.put ?_ (by omega) _ | refine EX.trans ?_ (by assumption)
   simp only [c_seq, RUNA, RUNB, zAd, zMo, zDi, zSu, zMu, zEq, zBe, zLe, zTo, fillS, wantG, vBox, Value.cells, one, putAt, TYA, hr]
   refine wpc_mono (refConst_spec _ obNil) ?_
   rintro r σ2 ⟨rfl, hE2⟩
   have n2 := hE2.next
   try simp only [next_more, next_put] at n2
   have r2 := (hE2.row (σ.next + 1) (by first | omega | (simp only [next_more, next_put] at *; omega))).trans r1
   have e2 : EX σ σ2 := by refine EX.trans ?_ hE2; repeat first | assumption | exact EXn.refl _ _ | refine EXn.more ?_ _ | refine EXn.put ?_ (by omega) _ | refine EX.trans ?_ (by assumption)
   simp only [c_seq, RUNA, RUNB, zAd, zMo, zDi, zSu, zMu, zEq, zBe, zLe, zTo, fillS, wantG, vBox, Value.cells, one, putAt, TYA, hr, r2]
   refine ⟨TVb.con _ _ obNil, ?_⟩
   repeat first | assumption | exact EXn.refl _ _ | refine EXn.more ?_ _ | refine EXn.put ?_ (by omega) _ | refine EX.trans ?_ (by assumption)
  ·simp only [if_pos rfl] at hA
   subst hA
   simp only [c_seq, RUNA, RUNB, zAd, zMo, zDi, zSu, zMu, zEq, zBe, zLe, zTo, fillS, wantG, vBox, Value.cells, one, putAt, TYA, hr, show ((1 : Int) == 0) = false from rfl, show ((1 : Int) == 1) = true from rfl]
   refine wpc_mono (refT_spec _) ?_
   rintro r σ1 ⟨rfl, hE1⟩
   have n1 := hE1.next
   simp only [next_more, next_put] at n1
   have r1 : σ1.row (σ.next + 1) = some ([.int .i64 0, .string ⟨#[]⟩, .string ⟨#[]⟩, .int .i64 0, .string ⟨#[]⟩, .string ⟨#[]⟩, .string ⟨#[]⟩, .string ⟨#[]⟩, .string ⟨#[]⟩, .slice none 0 0, .slice none 0 0], boxMeta) := by rw [hE1.row _ (by first | omega | (simp only [next_more, next_put] at *; omega))]; simp only [c_seq, RUNA, RUNB, zAd, zMo, zDi, zSu, zMu, zEq, zBe, zLe, zTo, fillS, wantG, vBox, Value.cells, one, putAt]
   have e1 : EX σ σ1 := by refine EX.trans ?_ hE1; repeat first | assumption | exact EXn.refl _ _ | refine EXn.more ?_ _ | refine EXn.put ?_ (by omega) _ | refine EX.trans ?_ (by assumption)
   simp only [c_seq, RUNA, RUNB, zAd, zMo, zDi, zSu, zMu, zEq, zBe, zLe, zTo, fillS, wantG, vBox, Value.cells, one, putAt, TYA, hr]
   refine wpc_mono (refConst_spec _ obT) ?_
   rintro r σ2 ⟨rfl, hE2⟩
   have n2 := hE2.next
   try simp only [next_more, next_put] at n2
   have r2 := (hE2.row (σ.next + 1) (by first | omega | (simp only [next_more, next_put] at *; omega))).trans r1
   have e2 : EX σ σ2 := by refine EX.trans ?_ hE2; repeat first | assumption | exact EXn.refl _ _ | refine EXn.more ?_ _ | refine EXn.put ?_ (by omega) _ | refine EX.trans ?_ (by assumption)
   simp only [c_seq, RUNA, RUNB, zAd, zMo, zDi, zSu, zMu, zEq, zBe, zLe, zTo, fillS, wantG, vBox, Value.cells, one, putAt, TYA, hr, r2]
   refine ⟨TVb.con _ _ obT, ?_⟩
   repeat first | assumption | exact EXn.refl _ _ | refine EXn.more ?_ _ | refine EXn.put ?_ (by omega) _ | refine EX.trans ?_ (by assumption)
 | .node v lo hi => by
  intro i hA hv σ ia fa ca rowa ma root w h1 h2 h3 hw
  have ihl : RtS vs l lo := rterm_spec lo
  have ihh : RtS vs l hi := rterm_spec hi
  simp only [Rep] at hA
  obtain ⟨k, rfl, hk2, hkl, hkv, hlo, hhi⟩ := hA
  have hv0 := hv v (Or.inl rfl)
  have hvl : ∀ u, lo.occ u → u < vs.length := fun u h => hv u (Or.inr (Or.inl h))
  have hvh : ∀ u, hi.occ u → u < vs.length := fun u h => hv u (Or.inr (Or.inr h))
  have hw0 := hw
  obtain ⟨a, c, rfl, k2⟩ := hw
  have ne : vs ≠ [] := by intro e; rw [e] at hv0; simp at hv0
  obtain ⟨id, off, row, m, rfl, q2, q3, q4⟩ := k2 ne
  have c2 := row_cutY q4 hv0
  have c3 := row_cut h3 hkl
  rw [hkv] at c3
  have g0 : ((k : Int) == 0) = false := by simp; omega
  have g1 : ((k : Int) == 1) = false := by simp; omega
  have y0 : (0 : Int) ≤ (k : Int) := by omega
  have y1 : (k : Int) < (l.length : Int) := by omega
  have z0 : (0 : Int) ≤ (v : Int) := by omega
  have z1 : (v : Int) < (vs.length : Int) := by omega
  have qa : ∀ j, ¬ ia = σ.next + j := fun j => by omega
  have qi : ∀ j, ¬ id = σ.next + j := fun j => by omega
  have qa0 : ¬ ia = σ.next := by omega
  have qi0 : ¬ id = σ.next := by omega
  refine body_go Tryz.func42 rfl ?_
  have hr := Tryz.results42
  simp only [c_seq, RUNA, RUNB, zAd, zMo, zDi, zSu, zMu, zEq, zBe, zLe, zTo, fillS, wantG, vBox, Value.cells, one, putAt, TYA, hr, g0, g1, ia39 y0 y1, Int.toNat_natCast, qa, qa0, h2, c3]
  refine d_go (ms := [0, 0, 2, 7, 15, 31, 0, 0, 0, 256, 1023, 0, 0, 0, 8192, 32767, 65535, 131071, 262143]) (order := [0, 1, 2, 3, 4, 6, 7, 8, 9, 11, 12, 13, 14, 5, 10, 15, 16, 17, 18]) (by kernel_rfl) (by kernel_rfl) (by kernel_rfl) (by kernel_rfl) ?_
  simp only [YRUNA, YRUNB, zSh, bit, c_seq, RUNA, RUNB, zAd, zMo, zDi, zSu, zMu, zEq, zBe, zLe, zTo, fillS, wantG, vBox, Value.cells, one, putAt, TYA, ia37 z0 z1, Int.toNat_natCast, qa, qi, q3, c2, qa0, qi0]
  refine wpc_mono (refVar_spec _ _ _) ?_
  rintro r σ1 ⟨rfl, hE1⟩
  have n1 := hE1.next
  try simp only [next_more, next_put] at n1
  have b1 : σ1.row σ.next = some ([.slice (some ⟨ia, fa, none⟩) l.length ca, .int .i64 root], boxMeta) := by rw [hE1.row _ (by first | omega | (simp only [next_more, next_put] at *; omega))]; simp only [c_seq, RUNA, RUNB, zAd, zMo, zDi, zSu, zMu, zEq, zBe, zLe, zTo, fillS, wantG, vBox, Value.cells, one, putAt]
  have x1 : σ1.row (σ.next + 1) = some ([.int .i64 0, .string ⟨#[]⟩, .string ⟨#[]⟩, .int .i64 0, .string ⟨#[]⟩, .string ⟨#[]⟩, .string ⟨#[]⟩, .string ⟨#[]⟩, .string ⟨#[]⟩, .slice none 0 0, .slice none 0 0], boxMeta) := by rw [hE1.row _ (by first | omega | (simp only [next_more, next_put] at *; omega))]; simp only [c_seq, RUNA, RUNB, zAd, zMo, zDi, zSu, zMu, zEq, zBe, zLe, zTo, fillS, wantG, vBox, Value.cells, one, putAt]
  have v1 : σ1.row (σ.next + 12) = some ([.int .i64 (v : Int), .int .i64 (vx l k).2.1, .int .i64 (vx l k).2.2], boxMeta) := by rw [hE1.row _ (by first | omega | (simp only [next_more, next_put] at *; omega))]; simp only [c_seq, RUNA, RUNB, zAd, zMo, zDi, zSu, zMu, zEq, zBe, zLe, zTo, fillS, wantG, vBox, Value.cells, one, putAt]
  have e1 : EX σ σ1 := by refine EX.trans ?_ hE1; repeat first | assumption | exact EXn.refl _ _ | refine EXn.more ?_ _ | refine EXn.put ?_ (by omega) _ | refine EX.trans ?_ (by assumption)
  simp only [YRUNA, YRUNB, zSh, bit, c_seq, RUNA, RUNB, zAd, zMo, zDi, zSu, zMu, zEq, zBe, zLe, zTo, fillS, wantG, vBox, Value.cells, one, putAt, TYA, b1, v1]
  refine wpc_mono (ihh _ hhi hvh _ ia fa ca rowa ma root _ (by first | omega | (simp only [next_more, next_put] at *; omega)) ((e1.row ia h1).trans h2) h3 (hw0.mono ?_)) ?_
  ·repeat first | assumption | exact EXn.refl _ _ | refine EXn.more ?_ _ | refine EXn.put ?_ (by omega) _ | refine EX.trans ?_ (by assumption)
  rintro r σ2 ⟨hT2, hE2⟩
  have n2 := hE2.next
  try simp only [next_more, next_put] at n2
  have b2 := (hE2.row σ.next (by first | omega | (simp only [next_more, next_put] at *; omega))).trans b1
  have x2 := (hE2.row (σ.next + 1) (by first | omega | (simp only [next_more, next_put] at *; omega))).trans x1
  have v2 := (hE2.row (σ.next + 12) (by first | omega | (simp only [next_more, next_put] at *; omega))).trans v1
  have e2 : EX σ σ2 := by refine EX.trans ?_ hE2; repeat first | assumption | exact EXn.refl _ _ | refine EXn.more ?_ _ | refine EXn.put ?_ (by omega) _ | refine EX.trans ?_ (by assumption)
  try simp only [next_more, next_put] at hT2
  obtain ⟨a2, c2', rfl, hA2⟩ := hT2.tv.al
  simp only [YRUNA, YRUNB, zSh, bit, c_seq, RUNA, RUNB, zAd, zMo, zDi, zSu, zMu, zEq, zBe, zLe, zTo, fillS, wantG, vBox, Value.cells, one, putAt, TYA, b2, v2]
  refine wpc_mono (ihl _ hlo hvl _ ia fa ca rowa ma root _ (by first | omega | (simp only [next_more, next_put] at *; omega)) ((e2.row ia h1).trans h2) h3 (hw0.mono ?_)) ?_
  ·repeat first | assumption | exact EXn.refl _ _ | refine EXn.more ?_ _ | refine EXn.put ?_ (by omega) _ | refine EX.trans ?_ (by assumption)
  rintro r σ3 ⟨hT3, hE3⟩
  have n3 := hE3.next
  try simp only [next_more, next_put] at n3
  have x3 := (hE3.row (σ.next + 1) (by first | omega | (simp only [next_more, next_put] at *; omega))).trans x2
  have e3 : EX σ σ3 := by refine EX.trans ?_ hE3; repeat first | assumption | exact EXn.refl _ _ | refine EXn.more ?_ _ | refine EXn.put ?_ (by omega) _ | refine EX.trans ?_ (by assumption)
  have hT2' := hT2.ex hE3
  try simp only [next_more, next_put] at hT3
  obtain ⟨a3, c3', rfl, hA3⟩ := hT3.tv.al
  have hb : ∀ id, vBuildS Tryz.prog 32 3 #[(0, .agg #[.int .i64 1, .string (yx vs v).1, .string (yx vs v).2, .int .i64 0, .string ⟨#[]⟩, .string ⟨#[]⟩, .string ⟨#[]⟩, .string ⟨#[]⟩, .string ⟨#[]⟩, .slice none 0 0, .slice none 0 0]), (1, .agg #[.int .i64 (dtT vs hi).k, .string (dtT vs hi).p, .string (dtT vs hi).s, .int .i64 (dtT vs hi).o.k, .string (dtT vs hi).o.n, .string (dtT vs hi).o.d, .string (dtT vs hi).o.p, .string (dtT vs hi).o.s, .string (dtT vs hi).o.t, .slice none 0 0, .slice a2 (dtT vs hi).l.length c2']), (2, .agg #[.int .i64 (dtT vs lo).k, .string (dtT vs lo).p, .string (dtT vs lo).s, .int .i64 (dtT vs lo).o.k, .string (dtT vs lo).o.n, .string (dtT vs lo).o.d, .string (dtT vs lo).o.p, .string (dtT vs lo).o.s, .string (dtT vs lo).o.t, .slice none 0 0, .slice a3 (dtT vs lo).l.length c3'])] id = some (.slice (some ⟨id, 0, none⟩) 3 3, .cells [.int .i64 1, .string (yx vs v).1, .string (yx vs v).2, .int .i64 0, .string ⟨#[]⟩, .string ⟨#[]⟩, .string ⟨#[]⟩, .string ⟨#[]⟩, .string ⟨#[]⟩, .slice none 0 0, .slice none 0 0, .int .i64 (dtT vs hi).k, .string (dtT vs hi).p, .string (dtT vs hi).s, .int .i64 (dtT vs hi).o.k, .string (dtT vs hi).o.n, .string (dtT vs hi).o.d, .string (dtT vs hi).o.p, .string (dtT vs hi).o.s, .string (dtT vs hi).o.t, .slice none 0 0, .slice a2 (dtT vs hi).l.length c2', .int .i64 (dtT vs lo).k, .string (dtT vs lo).p, .string (dtT vs lo).s, .int .i64 (dtT vs lo).o.k, .string (dtT vs lo).o.n, .string (dtT vs lo).o.d, .string (dtT vs lo).o.p, .string (dtT vs lo).o.s, .string (dtT vs lo).o.t, .slice none 0 0, .slice a3 (dtT vs lo).l.length c3'] (rowMeta 11)) := fun id => bsT3 id (.mk 1 (yx vs v).1 (yx vs v).2 ob0 []) none 0 0 (dtT vs hi) a2 _ c2' (dtT vs lo) a3 _ c3'
  simp only [YRUNA, YRUNB, zSh, bit, c_seq, RUNA, RUNB, zAd, zMo, zDi, zSu, zMu, zEq, zBe, zLe, zTo, fillS, wantG, vBox, Value.cells, one, putAt, TYA, hb]
  refine wpc_mono (refLispT_spec _ nIf _ _ _) ?_
  rintro r σ4 ⟨rfl, hE4⟩
  have n4 := hE4.next
  try simp only [next_more, next_put] at n4
  have x4 : σ4.row (σ.next + 1) = some ([.int .i64 0, .string ⟨#[]⟩, .string ⟨#[]⟩, .int .i64 0, .string ⟨#[]⟩, .string ⟨#[]⟩, .string ⟨#[]⟩, .string ⟨#[]⟩, .string ⟨#[]⟩, .slice none 0 0, .slice none 0 0], boxMeta) := by rw [hE4.row (σ.next + 1) (by first | omega | (simp only [next_more, next_put] at *; omega)), row_put_ne (by omega)]; exact x3
  simp only [YRUNA, YRUNB, zSh, bit, c_seq, RUNA, RUNB, zAd, zMo, zDi, zSu, zMu, zEq, zBe, zLe, zTo, fillS, wantG, vBox, Value.cells, one, putAt, TYA, x4, hr]
  refine ⟨?_, ?_⟩
  ·have hT := mkT_3 (lo := σ.next + 2) (c := 3) lsp nIf (t := .mk 1 (yx vs v).1 (yx vs v).2 ob0 []) (At := none) (ct := 0) (TVb.var σ3.next _ _ _) (by first | omega | (simp only [next_more, next_put] at *; omega)) hT2' (by first | omega | (simp only [next_more, next_put] at *; omega)) hT3 (by first | omega | (simp only [next_more, next_put] at *; omega)) (by first | omega | (simp only [next_more, next_put] at *; omega)) (by first | omega | (simp only [next_more, next_put] at *; omega)) hE4
   simp only [dtT]
   refine (hT.un (by first | omega | (simp only [next_more, next_put] at *; omega)) ?_).weak (by omega)
   repeat first | assumption | exact UN.refl _ _ _ | refine UN.more ?_ _ | refine UN.put ?_ (by omega) _ | refine UN.ex (by assumption) ?_ (by first | omega | (simp only [next_more, next_put]; omega)) | refine UN.exb (by assumption) ?_ (by first | omega | (simp only [next_more, next_put]; omega)) (by omega)
  ·repeat first | assumption | exact EXn.refl _ _ | refine EXn.more ?_ _ | refine EXn.put ?_ (by omega) _ | refine EX.trans ?_ (by assumption)
end Go.Proofs.Q
namespace Go.Proofs.Q
open Go.AI
set_option maxRecDepth 4000
def amin2 (P : Program) (a b : Value) : Option Value := bif [a, b].all plain0 then stillP P ([b].foldlM Builtin.min2 a) else none
theorem k_min2 {P : Program} {ρ : Operand → Value} {o : Oper} {a b : Operand} {ts : Array TypeId} : acallPure P ρ o ⟨.builtin .min, #[a, b], ts⟩ = amin2 P (ρ a) (ρ b) := by
 unfold acallPure amin2; simp [Builtin.min_]
theorem min2_i {P : Program} {x y : Int} : amin2 P (.int .i64 x) (.int .i64 y) = some (.int .i64 (if y < x then y else x)) := rfl
def amax2 (P : Program) (a b : Value) : Option Value := bif [a, b].all plain0 then stillP P ([b].foldlM Builtin.max2 a) else none
theorem k_max2 {P : Program} {ρ : Operand → Value} {o : Oper} {a b : Operand} {ts : Array TypeId} : acallPure P ρ o ⟨.builtin .max, #[a, b], ts⟩ = amax2 P (ρ a) (ρ b) := by
 unfold acallPure amax2; simp [Builtin.max_]
theorem max2_i {P : Program} {x y : Int} : amax2 P (.int .i64 x) (.int .i64 y) = some (.int .i64 (if y > x then y else x)) := rfl
def ndT : Dt → Nat
 | .leaf _ => 1
 | .node _ lo hi => 2 + ndT hi + ndT lo
def mdT (A : Dt) : Nat := min (ndT A) 3001
theorem md_le (A : Dt) : mdT A ≤ 3001 := Nat.min_le_right _ _
theorem md_node {v : Nat} {lo hi : Dt} : mdT (.node v lo hi) = min (2 + mdT hi + mdT lo) 3001 := by unfold mdT; simp only [ndT]; omega
theorem md_big {v : Nat} {lo hi : Dt} (h : 3000 < mdT hi) : mdT (.node v lo hi) = mdT hi := by have := md_le hi; rw [md_node]; omega
def NdS (l : List Vtx) (A : Dt) : Prop := ∀ (i : Int), Rep l A i → ∀ (σ : St) (ia fa ca : Nat) (rowa : List Value) (ma : Mta) (root : Int), ia < σ.next → σ.row ia = some (rowa, m3 ma) → (rowa.drop fa).take (l.length * 3) = flat l →
 wpc Tryz.prog 41 #[.agg #[.slice (some ⟨ia, fa, none⟩) l.length ca, .int .i64 root], .int .i64 i] σ fun r σ' => r = .int .i64 (mdT A : Nat) ∧ EX σ σ'
set_option maxHeartbeats 2000000 in
theorem nodes_spec {l : List Vtx} : ∀ A : Dt, NdS l A
 | .leaf b => by
  intro i hA σ ia fa ca rowa ma root h1 h2 h3
  simp only [Rep] at hA
  have g0 : decide (i < 2) = true := by rw [hA]; cases b <;> decide
  refine body_go Tryz.func41 rfl ?_
  have hr := Tryz.results41
  simp only [c_seq, RUNA, RUNB, zAd, zMo, zDi, zSu, zMu, zEq, zBe, zLe, zTo, fillS, wantG, vBox, Value.cells, one, putAt, TYA, hr, g0]
  refine ⟨rfl, ?_⟩
  repeat first | assumption | exact EXn.refl _ _ | refine EXn.more ?_ _ | refine EXn.put ?_ (by omega) _ | refine EX.trans ?_ (by assumption)
 | .node v lo hi => by
  intro i hA σ ia fa ca rowa ma root h1 h2 h3
  have ihl : NdS l lo := nodes_spec lo
  have ihh : NdS l hi := nodes_spec hi
  simp only [Rep] at hA
  obtain ⟨k, rfl, hk2, hkl, hkv, hlo, hhi⟩ := hA
  have c3 := row_cut h3 hkl
  have f1 := flat_at1 h3 hkl
  have f2 := flat_at2 h3 hkl
  have g0 : decide ((k : Int) < 2) = false := by simp; omega
  have y0 : (0 : Int) ≤ (k : Int) := by omega
  have y1 : (k : Int) < (l.length : Int) := by omega
  have qa : ∀ j, ¬ ia = σ.next + j := fun j => by omega
  have qa0 : ¬ ia = σ.next := by omega
  refine body_go Tryz.func41 rfl ?_
  have hr := Tryz.results41
  simp only [c_seq, RUNA, RUNB, zAd, zMo, zDi, zSu, zMu, zEq, zBe, zLe, zTo, fillS, wantG, vBox, Value.cells, one, putAt, TYA, hr, g0]
  refine d_go (ms := [0, 0, 2, 0, 14, 30, 62, 127, 255]) (order := [0, 1, 2, 3, 4, 5, 6, 7, 8]) (by kernel_rfl) (by kernel_rfl) (by kernel_rfl) (by kernel_rfl) ?_
  simp only [YRUNA, YRUNB, zSh, bit, c_seq, RUNA, RUNB, zAd, zMo, zDi, zSu, zMu, zEq, zBe, zLe, zTo, fillS, wantG, vBox, Value.cells, one, putAt, TYA, ia39 y0 y1, Int.toNat_natCast, qa, qa0, h2, f2]
  refine wpc_mono (ihh _ hhi _ ia fa ca rowa ma root (by first | omega | (simp only [next_more, next_put] at *; omega)) ?_ h3) ?_
  ·simp only [c_seq, RUNA, RUNB, zAd, zMo, zDi, zSu, zMu, zEq, zBe, zLe, zTo, fillS, wantG, vBox, Value.cells, one, putAt, qa, qa0]; exact h2
  rintro r σ1 ⟨rfl, hE1⟩
  have n1 := hE1.next
  try simp only [next_more, next_put] at n1
  have b1 : σ1.row σ.next = some ([.slice (some ⟨ia, fa, none⟩) l.length ca, .int .i64 root], boxMeta) := by rw [hE1.row _ (by first | omega | (simp only [next_more, next_put] at *; omega))]; simp only [c_seq, RUNA, RUNB, zAd, zMo, zDi, zSu, zMu, zEq, zBe, zLe, zTo, fillS, wantG, vBox, Value.cells, one, putAt]
  have e1 : EX σ σ1 := by refine EX.trans ?_ hE1; repeat first | assumption | exact EXn.refl _ _ | refine EXn.more ?_ _ | refine EXn.put ?_ (by omega) _ | refine EX.trans ?_ (by assumption)
  have hm := md_le hi
  simp only [YRUNA, YRUNB, zSh, bit, c_seq, RUNA, RUNB, zAd, zMo, zDi, zSu, zMu, zEq, zBe, zLe, zTo, fillS, wantG, vBox, Value.cells, one, putAt, TYA, hr]
  by_cases hb : 3000 < mdT hi
  ·have g1 : decide ((3000 : Int) < (mdT hi : Nat)) = true := by simp; omega
   simp only [c_seq, RUNA, RUNB, zAd, zMo, zDi, zSu, zMu, zEq, zBe, zLe, zTo, fillS, wantG, vBox, Value.cells, one, putAt, TYA, hr, g1]
   rw [md_big hb]
   refine ⟨rfl, ?_⟩
   repeat first | assumption | exact EXn.refl _ _ | refine EXn.more ?_ _ | refine EXn.put ?_ (by omega) _ | refine EX.trans ?_ (by assumption)
  ·have g1 : decide ((3000 : Int) < (mdT hi : Nat)) = false := by simp; omega
   have ql := md_le lo
   have qh := hE1.row ia (by first | omega | (simp only [next_more, next_put] at *; omega))
   have h2' := (e1.row ia h1).trans h2
   simp only [c_seq, RUNA, RUNB, zAd, zMo, zDi, zSu, zMu, zEq, zBe, zLe, zTo, fillS, wantG, vBox, Value.cells, one, putAt, TYA, hr, g1]
   refine d_go (ms := [0, 1, 0, 0, 8, 0, 56, 120, 248, 508, 1023, 2047, 4095]) (order := [0, 1, 2, 3, 4, 5, 6, 7, 8, 9, 10, 11, 12]) (by kernel_rfl) (by kernel_rfl) (by kernel_rfl) (by kernel_rfl) ?_
   simp only [YRUNA, YRUNB, zSh, bit, c_seq, RUNA, RUNB, zAd, zMo, zDi, zSu, zMu, zEq, zBe, zLe, zTo, fillS, wantG, vBox, Value.cells, one, putAt, TYA, ia39 y0 y1, Int.toNat_natCast, qa, qa0, b1, h2', f1]
   refine wpc_mono (ihl _ hlo _ ia fa ca rowa ma root (by first | omega | (simp only [next_more, next_put] at *; omega)) ?_ h3) ?_
   ·simp only [c_seq, RUNA, RUNB, zAd, zMo, zDi, zSu, zMu, zEq, zBe, zLe, zTo, fillS, wantG, vBox, Value.cells, one, putAt, qa, qa0]; exact h2'
   rintro r σ2 ⟨rfl, hE2⟩
   have n2 := hE2.next
   try simp only [next_more, next_put] at n2
   have e2 : EX σ σ2 := by refine EX.trans ?_ hE2; repeat first | assumption | exact EXn.refl _ _ | refine EXn.more ?_ _ | refine EXn.put ?_ (by omega) _ | refine EX.trans ?_ (by assumption)
   have w1 : IntKind.i64.wrap (2 + ((mdT hi : Nat) : Int)) = ((2 + mdT hi : Nat) : Int) := by rw [wrap64 (by omega) (by omega)]; omega
   have w2 : IntKind.i64.wrap (((2 + mdT hi : Nat) : Int) + ((mdT lo : Nat) : Int)) = ((2 + mdT hi + mdT lo : Nat) : Int) := by rw [wrap64 (by omega) (by omega)]; omega
   simp only [YRUNA, YRUNB, zSh, bit, c_seq, RUNA, RUNB, zAd, zMo, zDi, zSu, zMu, zEq, zBe, zLe, zTo, fillS, wantG, vBox, Value.cells, one, putAt, TYA, hr, w1, w2, k_min2, min2_i]
   refine ⟨?_, ?_⟩
   ·rw [md_node]
    congr 1
    split <;> omega
   ·repeat first | assumption | exact EXn.refl _ _ | refine EXn.more ?_ _ | refine EXn.put ?_ (by omega) _ | refine EX.trans ?_ (by assumption)
end Go.Proofs.Q
namespace Go.Proofs.Q
open Go.AI
set_option maxRecDepth 4000
theorem bdT0 : abuild Tryz.prog 34 #[] = some (.agg #[.int .i64 0, .string ⟨#[]⟩, .string ⟨#[]⟩, .int .i64 0, .string ⟨#[]⟩, .string ⟨#[]⟩, .string ⟨#[]⟩, .string ⟨#[]⟩, .string ⟨#[]⟩, .slice none 0 0, .slice none 0 0]) := by kernel_rfl
def noP : PT := .mk 0 es es ob0 []
theorem noP_tv (lo : Nat) (σ : St) : TVb lo σ (.agg #[.int .i64 0, .string ⟨#[]⟩, .string ⟨#[]⟩, .int .i64 0, .string ⟨#[]⟩, .string ⟨#[]⟩, .string ⟨#[]⟩, .string ⟨#[]⟩, .string ⟨#[]⟩, .slice none 0 0, .slice none 0 0]) noP := ⟨_, rfl, by simp only [noP, TCb]; exact ⟨none, 0, rfl, fun h => absurd rfl h⟩⟩
noncomputable def supD (A : Dt) : List Int := supL (depB A.ev) 10
noncomputable def supX (vs : List Sy) (A : Dt) : Bool := (supD A).any fun x => decide ((vs.length : Int) ≤ x)
noncomputable def eTm (vs : List Sy) (A : Dt) : Int := if ckY vs = 0 then (if supX vs A = true then 6 else if 3000 < ndT A then 45 else 0) else ckY vs
noncomputable def tmT (vs : List Sy) (A : Dt) : PT := if eTm vs A = 0 then dtT vs A else noP
def TmR (vs : List Sy) (A : Dt) (σ : St) (r : Value) (σ' : St) : Prop := ∃ d, r = .tuple #[d, .int .i64 (eTm vs A)] ∧ TVb σ.next σ' d (tmT vs A) ∧ EX σ σ'
theorem supX_t {vs : List Sy} {A : Dt} {i : Nat} (h : i < (supD A).length) (h2 : (vs.length : Int) ≤ (supD A)[i]) : supX vs A = true := by
 unfold supX; rw [List.any_eq_true]; exact ⟨_, List.getElem_mem h, by simpa using h2⟩
theorem supX_f {vs : List Sy} {A : Dt} (h : ∀ i (hi : i < (supD A).length), (supD A)[i] < (vs.length : Int)) : supX vs A = false := by
 unfold supX; rw [List.any_eq_false]
 intro x hx
 obtain ⟨i, hi, rfl⟩ := List.getElem_of_mem hx
 have := h i hi
 simp; omega
theorem supX_occ {vs : List Sy} {A : Dt} (oA : A.ok 0) (h : supX vs A = false) (v : Nat) (hv : A.occ v) : v < vs.length := by
 have h1 := (occ_dep A 0 oA v).1 hv
 have h10 : v < 10 := by
  by_cases h : v < 10
  ·exact h
  ·obtain ⟨f, hf⟩ := h1
   exact absurd (Dt.ev_congr oA (fun i _ hi => by unfold upd; rw [if_neg (by omega), if_neg (by omega)])) hf
 unfold supX at h
 rw [List.any_eq_false] at h
 have := h (v : Int) (by
  unfold supD supL
  rw [List.mem_map]
  exact ⟨v, List.mem_filter.2 ⟨List.mem_range.2 h10, depB_t h1⟩, rfl⟩)
 simp at this; omega
theorem supD_len (A : Dt) : (supD A).length ≤ 10 := supL_len _ _
set_option maxHeartbeats 4000000 in
theorem refTerm_spec {σ : St} {v w : Value} {vs : List Sy} {A : Dt} (hA : DVi 0 σ.next σ v (cd A)) (oA : A.ok 0) (hw : YL σ w vs) (hvs : vs.length < 1000) (hF : Fr σ) : wpc Tryz.prog 13 #[v, w] σ (TmR vs A σ) := by
 have hI : IsD 0 σ.next σ v A.ev := ⟨A, hA, oA, fun _ => rfl⟩
 obtain ⟨gA, rA⟩ := cd_gd oA
 have hcl := cd_len oA (by omega)
 obtain ⟨ia, fa, ca, rowa, ma, rfl, -, la, wa, ta⟩ := hA.row oA
 have hw0 := hw
 obtain ⟨b, d, rfl, -⟩ := hw
 generalize hl : (cd A).1 = l at *
 generalize hrt : (cd A).2 = root at *
 refine body_go Tryz.func13 rfl ?_
 have hr := Tryz.results13
 simp only [c_seq, RUNA, RUNB, zAd, zMo, zDi, zSu, zMu, zEq, zBe, zLe, zTo, fillS, wantG, vBox, Value.cells, one, putAt, TYA, hr]
 refine wpc_mono (checked_spec (hw0.mono ?_) hvs) ?_
 ·repeat first | assumption | exact EXn.refl _ _ | refine EXn.more ?_ _ | refine EXn.put ?_ (by omega) _ | refine EX.trans ?_ (by assumption)
 rintro r σ1 ⟨rfl, hE1⟩
 have n1 := hE1.next
 try simp only [next_more, next_put] at n1
 have b1 : σ1.row σ.next = some ([.slice (some ⟨ia, fa, none⟩) l.length ca, .int .i64 root], boxMeta) := by rw [hE1.row _ (by first | omega | (simp only [next_more, next_put] at *; omega))]; simp only [c_seq, RUNA, RUNB, zAd, zMo, zDi, zSu, zMu, zEq, zBe, zLe, zTo, fillS, wantG, vBox, Value.cells, one, putAt]
 have x1 : σ1.row (σ.next + 1) = some ([.int .i64 0, .string ⟨#[]⟩, .string ⟨#[]⟩, .int .i64 0, .string ⟨#[]⟩, .string ⟨#[]⟩, .string ⟨#[]⟩, .string ⟨#[]⟩, .string ⟨#[]⟩, .slice none 0 0, .slice none 0 0], boxMeta) := by rw [hE1.row _ (by first | omega | (simp only [next_more, next_put] at *; omega))]; simp only [c_seq, RUNA, RUNB, zAd, zMo, zDi, zSu, zMu, zEq, zBe, zLe, zTo, fillS, wantG, vBox, Value.cells, one, putAt]
 have e1 : EX σ σ1 := by refine EX.trans ?_ hE1; repeat first | assumption | exact EXn.refl _ _ | refine EXn.more ?_ _ | refine EXn.put ?_ (by omega) _ | refine EX.trans ?_ (by assumption)
 have f1 := e1.fr hF
 by_cases h1 : ckY vs = 0
 ·have g1 : (ckY vs != (0 : Int)) = false := by simp [h1]
  simp only [c_seq, RUNA, RUNB, zAd, zMo, zDi, zSu, zMu, zEq, zBe, zLe, zTo, fillS, wantG, vBox, Value.cells, one, putAt, TYA, hr, g1, b1]
  refine wpc_mono (refSupport_spec (φ := A.ev) (IsD.mono hI ?_) (by repeat first | assumption | refine Fr.more ?_ _ | refine Fr.put ?_ _ _)) ?_
  ·repeat first | assumption | exact EXn.refl _ _ | refine EXn.more ?_ _ | refine EXn.put ?_ (by omega) _ | refine EX.trans ?_ (by assumption)
  rintro r σ2 ⟨⟨s, hO⟩, hE2⟩
  have n2 := hE2.next
  try simp only [next_more, next_put] at n2
  have b2 := (hE2.row σ.next (by first | omega | (simp only [next_more, next_put] at *; omega))).trans b1
  have x2 := (hE2.row (σ.next + 1) (by first | omega | (simp only [next_more, next_put] at *; omega))).trans x1
  have e2 : EX σ σ2 := by refine EX.trans ?_ hE2; repeat first | assumption | exact EXn.refl _ _ | refine EXn.more ?_ _ | refine EXn.put ?_ (by omega) _ | refine EX.trans ?_ (by assumption)
  have f2 := e2.fr hF
  obtain ⟨o, oc, rfl, hO2⟩ := hO.open
  have hlen := supD_len A
  change _ → ∃ m, _ at hO2
  simp only [c_seq, RUNA, RUNB, zAd, zMo, zDi, zSu, zMu, zEq, zBe, zLe, zTo, fillS, wantG, vBox, Value.cells, one, putAt, TYA, hr]
  refine loop_go (fun m S τ => S.at 1 = .slice b vs.length d ∧ S.at 2 = .pointer (some ⟨σ.next, 0, none⟩) ∧ S.at 4 = .pointer (some ⟨σ.next + 1, 0, none⟩) ∧ S.at 7 = .slice o (supD A).length oc ∧ EX σ τ ∧ EX σ2 τ ∧ Fr τ ∧
   ∃ i : Nat, S.at 8 = .int .i64 i ∧ i ≤ (supD A).length ∧ m = (supD A).length - i ∧ ∀ j (hj : j < (supD A).length), j < i → (supD A)[j] < (vs.length : Int)) (supD A).length ?_ ?_
  ·simp only [c_seq, RUNA, RUNB, zAd, zMo, zDi, zSu, zMu, zEq, zBe, zLe, zTo, fillS, wantG, vBox, Value.cells, one, putAt]
   refine ⟨rfl, ?_, ?_, by repeat first | assumption | refine Fr.more ?_ _ | refine Fr.put ?_ _ _, 0, rfl, by omega, by omega, fun j hj h => by omega⟩
   ·repeat first | assumption | exact EXn.refl _ _ | refine EXn.more ?_ _ | refine EXn.put ?_ (by omega) _ | refine EX.trans ?_ (by assumption)
   ·repeat first | assumption | exact EXn.refl _ _ | refine EXn.more ?_ _ | refine EXn.put ?_ (by omega) _ | refine EX.trans ?_ (by assumption)
  rintro _ S τ ⟨s1, s2, s4, s7, hE, hE', hF', i, s8, hi, rfl, hall⟩
  have nn := hE'.next
  have r0 := (hE'.row σ.next (by omega)).trans b2
  have x0 := (hE'.row (σ.next + 1) (by omega)).trans x2
  by_cases hlt : i < (supD A).length
  ·have hd : decide ((i : Int) < ((supD A).length : Int)) = true := by simp; omega
   have z2 : (0 : Int) ≤ (i : Int) := by omega
   have z3 : (i : Int) < ((supD A).length : Int) := by omega
   obtain ⟨m, rfl, q1, q2⟩ := hO2 (Nat.lt_of_le_of_lt (Nat.zero_le _) hlt)
   have q3 := (hE'.row s q1).trans q2
   have hw' : IntKind.i64.wrap ((i : Int) + 1) = ((i + 1 : Nat) : Int) := by rw [wrap64 (by omega) (by omega)]; rfl
   have hg : (ints (supL (depB A.ev) 10))[i]? = some (.int .i64 ((supD A)[i]'hlt)) := by unfold ints; rw [List.getElem?_map]; show Option.map _ ((supD A)[i]?) = _; rw [List.getElem?_eq_getElem hlt]; rfl
   by_cases hx : (vs.length : Int) ≤ (supD A)[i]'hlt
   ·have g2 : decide ((vs.length : Int) ≤ (supD A)[i]'hlt) = true := by simp; omega
    simp only [c_seq, RUNA, RUNB, zAd, zMo, zDi, zSu, zMu, zEq, zBe, zLe, zTo, fillS, wantG, vBox, Value.cells, one, putAt, TYA, s1, s2, s4, s7, s8, hd, ia71 z2 z3, Int.toNat_natCast, q3, Nat.mul_one, Nat.zero_add, hg, g2, bdT0, x0, hr]
    have he : eTm vs A = 6 := by simp [eTm, h1, supX_t hlt hx]
    refine ⟨_, by rw [he], ?_, ?_⟩
    ·have : tmT vs A = noP := by simp [tmT, he]
     rw [this]; exact noP_tv _ _
    ·repeat first | assumption | exact EXn.refl _ _ | refine EXn.more ?_ _ | refine EXn.put ?_ (by omega) _ | refine EX.trans ?_ (by assumption)
   ·have g2 : decide ((vs.length : Int) ≤ (supD A)[i]'hlt) = false := by simp; omega
    simp only [c_seq, RUNA, RUNB, zAd, zMo, zDi, zSu, zMu, zEq, zBe, zLe, zTo, fillS, wantG, vBox, Value.cells, one, putAt, TYA, s1, s2, s4, s7, s8, hd, ia71 z2 z3, Int.toNat_natCast, q3, Nat.mul_one, Nat.zero_add, hg, g2, hw', hr]
    refine ⟨(supD A).length - (i + 1), by omega, ?_, ?_, by repeat first | assumption | refine Fr.more ?_ _ | refine Fr.put ?_ _ _, i + 1, rfl, by omega, rfl, fun j hj hj2 => ?_⟩
    ·repeat first | assumption | exact EXn.refl _ _ | refine EXn.more ?_ _ | refine EXn.put ?_ (by omega) _ | refine EX.trans ?_ (by assumption)
    ·repeat first | assumption | exact EXn.refl _ _ | refine EXn.more ?_ _ | refine EXn.put ?_ (by omega) _ | refine EX.trans ?_ (by assumption)
    ·by_cases hji : j = i
     ·subst hji; omega
     ·exact hall j hj (by omega)
  ·have hd : decide ((i : Int) < ((supD A).length : Int)) = false := by simp; omega
   have hsx : supX vs A = false := supX_f fun j hj => hall j hj (by omega)
   have la' := (hE.row ia la).trans wa
   simp only [c_seq, RUNA, RUNB, zAd, zMo, zDi, zSu, zMu, zEq, zBe, zLe, zTo, fillS, wantG, vBox, Value.cells, one, putAt, TYA, s1, s2, s4, s7, s8, hd, r0, hr]
   refine wpc_mono (nodes_spec (l := l) A _ rA _ ia fa ca rowa ma root (by first | omega | (simp only [next_more, next_put] at *; omega)) ?_ ta) ?_
   ·simp only [c_seq, RUNA, RUNB, zAd, zMo, zDi, zSu, zMu, zEq, zBe, zLe, zTo, fillS, wantG, vBox, Value.cells, one, putAt]; exact la'
   rintro r σ3 ⟨rfl, hE3⟩
   have n3 := hE3.next
   try simp only [next_more, next_put] at n3
   have b3 := (hE3.row σ.next (by first | omega | (simp only [next_more, next_put] at *; omega))).trans r0
   have x3 := (hE3.row (σ.next + 1) (by first | omega | (simp only [next_more, next_put] at *; omega))).trans x0
   have e3 : EX σ σ3 := by refine EX.trans ?_ hE3; repeat first | assumption | exact EXn.refl _ _ | refine EXn.more ?_ _ | refine EXn.put ?_ (by omega) _ | refine EX.trans ?_ (by assumption)
   by_cases hb : 3000 < ndT A
   ·have g2 : decide ((3000 : Int) < ((mdT A : Nat) : Int)) = true := by simp; unfold mdT; omega
    simp only [c_seq, RUNA, RUNB, zAd, zMo, zDi, zSu, zMu, zEq, zBe, zLe, zTo, fillS, wantG, vBox, Value.cells, one, putAt, TYA, s1, s2, s4, g2, bdT0, x3, hr]
    have he : eTm vs A = 45 := by simp [eTm, h1, hsx, hb]
    refine ⟨_, by rw [he], ?_, ?_⟩
    ·have : tmT vs A = noP := by simp [tmT, he]
     rw [this]; exact noP_tv _ _
    ·repeat first | assumption | exact EXn.refl _ _ | refine EXn.more ?_ _ | refine EXn.put ?_ (by omega) _ | refine EX.trans ?_ (by assumption)
   ·have g2 : decide ((3000 : Int) < ((mdT A : Nat) : Int)) = false := by simp; unfold mdT; omega
    have la3 := (e3.row ia la).trans wa
    simp only [c_seq, RUNA, RUNB, zAd, zMo, zDi, zSu, zMu, zEq, zBe, zLe, zTo, fillS, wantG, vBox, Value.cells, one, putAt, TYA, s1, s2, s4, g2, b3, hr]
    refine wpc_mono (rterm_spec (l := l) A _ rA (supX_occ oA hsx) _ ia fa ca rowa ma root _ (by first | omega | (simp only [next_more, next_put] at *; omega)) ?_ ta (hw0.mono ?_)) ?_
    ·simp only [c_seq, RUNA, RUNB, zAd, zMo, zDi, zSu, zMu, zEq, zBe, zLe, zTo, fillS, wantG, vBox, Value.cells, one, putAt]; exact la3
    ·repeat first | assumption | exact EXn.refl _ _ | refine EXn.more ?_ _ | refine EXn.put ?_ (by omega) _ | refine EX.trans ?_ (by assumption)
    rintro r σ4 ⟨hT, hE4⟩
    have n4 := hE4.next
    try simp only [next_more, next_put] at n4
    try simp only [next_more, next_put] at hT
    have x4 := (hE4.row (σ.next + 1) (by first | omega | (simp only [next_more, next_put] at *; omega))).trans x3
    have e4 : EX σ σ4 := by refine EX.trans ?_ hE4; repeat first | assumption | exact EXn.refl _ _ | refine EXn.more ?_ _ | refine EXn.put ?_ (by omega) _ | refine EX.trans ?_ (by assumption)
    obtain ⟨a4, c4, rfl, -⟩ := hT.tv.al
    simp only [c_seq, RUNA, RUNB, zAd, zMo, zDi, zSu, zMu, zEq, zBe, zLe, zTo, fillS, wantG, vBox, Value.cells, one, putAt, TYA, s4, x4, hr]
    have he : eTm vs A = 0 := by simp [eTm, h1, hsx, hb]
    refine ⟨_, by rw [he], ?_, ?_⟩
    ·have : tmT vs A = dtT vs A := by simp [tmT, he]
     rw [this]
     refine (hT.un (by first | omega | (simp only [next_more, next_put] at *; omega)) ?_).weak (by first | omega | (simp only [next_more, next_put] at *; omega))
     repeat first | assumption | exact UN.refl _ _ _ | refine UN.more ?_ _ | refine UN.put ?_ (by omega) _ | refine UN.ex (by assumption) ?_ (by first | omega | (simp only [next_more, next_put]; omega)) | refine UN.exb (by assumption) ?_ (by first | omega | (simp only [next_more, next_put]; omega)) (by omega)
    ·repeat first | assumption | exact EXn.refl _ _ | refine EXn.more ?_ _ | refine EXn.put ?_ (by omega) _ | refine EX.trans ?_ (by assumption)
 ·have g1 : (ckY vs != (0 : Int)) = true := by simp [h1]
  have he : eTm vs A = ckY vs := by simp [eTm, h1]
  simp only [c_seq, RUNA, RUNB, zAd, zMo, zDi, zSu, zMu, zEq, zBe, zLe, zTo, fillS, wantG, vBox, Value.cells, one, putAt, TYA, hr, g1, bdT0, x1]
  refine ⟨_, by rw [he], ?_, ?_⟩
  ·have : tmT vs A = noP := by simp [tmT, he, h1]
   rw [this]; exact noP_tv _ _
  ·repeat first | assumption | exact EXn.refl _ _ | refine EXn.more ?_ _ | refine EXn.put ?_ (by omega) _ | refine EX.trans ?_ (by assumption)
end Go.Proofs.Q
namespace Go.Proofs.Q
open Go.AI
set_option maxRecDepth 4000
def dpT : Dt → Nat
 | .leaf _ => 1
 | .node _ lo hi => 1 + max (dpT lo) (dpT hi)
theorem dp_le : ∀ (A : Dt) (n : Nat), A.ok n → n ≤ 10 → dpT A ≤ 11 - n
 | .leaf _, n, _, h => by simp only [dpT]; omega
 | .node v lo hi, n, h, hn => by
  obtain ⟨h1, h2, -, h3, h4⟩ := h
  have a := dp_le lo (v + 1) h3 (by omega)
  have b := dp_le hi (v + 1) h4 (by omega)
  simp only [dpT]; omega
theorem rep_nat {l : List Vtx} {A : Dt} {i : Int} (h : Rep l A i) (h2 : 2 ≤ l.length) : ∃ k : Nat, i = k ∧ k < l.length := by
 cases A with
 | leaf b =>
  simp only [Rep] at h
  cases b
  ·exact ⟨0, by simpa using h, by omega⟩
  ·exact ⟨1, by simpa using h, by omega⟩
 | node v lo hi => simp only [Rep] at h; obtain ⟨k, h1, _, h3, _⟩ := h; exact ⟨k, h1, h3⟩
theorem zeros_int (n : Nat) : zerosOf [.int .i64 0] n = ints (List.replicate n 0) := by
 induction n with
 | zero => rfl
 | succ n ih => simp only [zerosOf] at ih ⊢; simp [List.replicate_succ, ints] at ih ⊢; exact ih
theorem mkI (N : Nat) (hN : N ≤ 1000000) (id : Nat) : vMake Tryz.prog 71 (.int .i64 N) (.int .i64 N) id = some (.slice (some ⟨id, 0, none⟩) N N, .cells (ints (List.replicate N 0)) (rowMeta 1)) := by
 have h := mk_eq (P := Tryz.prog) (t := 71) (id := id) (n := N) Tryz.underlying71 if3 (by omega) (by omega) rfl rfl (by omega)
 rw [show (Value.cells (.int .i64 0)).toList = [.int .i64 0] from rfl, zeros_int] at h
 exact h
theorem ints_get {l : List Int} {i : Nat} {x : Int} (h : l[i]? = some x) : (ints l)[i]? = some (.int .i64 x) := by simp [ints, h]
theorem ints_set (l : List Int) (i : Nat) (x : Int) : (ints l).set i (.int .i64 x) = ints (l.set i x) := by simp [ints, List.map_set]
theorem tm_step {l : List Vtx} {zs ds : List Int} {i : Nat} {x y : Int} (hz : zs.length = l.length) (hd : ds.length = l.length) (hi : i < l.length) (hall : ∀ j, j < i → ∀ A, Rep l A j → zs[j]? = some ((mdT A : Nat) : Int) ∧ ds[j]? = some ((dpT A : Nat) : Int)) (hx : ∀ A, Rep l A i → x = ((mdT A : Nat) : Int) ∧ y = ((dpT A : Nat) : Int)) :
    ∀ j, j < i + 1 → ∀ A, Rep l A j → (zs.set i x)[j]? = some ((mdT A : Nat) : Int) ∧ (ds.set i y)[j]? = some ((dpT A : Nat) : Int) := by
 intro j hj A hA
 by_cases h : j = i
 ·subst h
  obtain ⟨e1, e2⟩ := hx A hA
  rw [List.getElem?_set_self (by omega), List.getElem?_set_self (by omega), e1, e2]
  exact ⟨rfl, rfl⟩
 ·rw [List.getElem?_set_ne (fun e => h e.symm), List.getElem?_set_ne (fun e => h e.symm)]
  exact hall j (by omega) A hA
def TmI (l : List Vtx) (lo m : Nat) (S : Slots) (τ : St) : Prop := ∃ (i zid did : Nat) (zs ds : List Int), S.at 9 = .slice (some ⟨zid, 0, none⟩) l.length l.length ∧ S.at 10 = .slice (some ⟨did, 0, none⟩) l.length l.length ∧ S.at 45 = .int .i64 i ∧ i ≤ l.length ∧ m = l.length - i ∧ lo ≤ zid ∧ zid < τ.next ∧ lo ≤ did ∧ did < τ.next ∧ zid ≠ did ∧
 τ.row zid = some (ints zs, rowMeta 1) ∧ τ.row did = some (ints ds, rowMeta 1) ∧ zs.length = l.length ∧ ds.length = l.length ∧ ∀ j, j < i → ∀ A, Rep l A j → zs[j]? = some ((mdT A : Nat) : Int) ∧ ds[j]? = some ((dpT A : Nat) : Int)
set_option maxHeartbeats 8000000 in
theorem Term_spec {σ : St} {v w : Value} {vs : List Sy} {A : Dt} (hA : DVi 0 σ.next σ v (cd A)) (oA : A.ok 0) (hw : YL σ w vs) (hvs : vs.length < 1000) (hF : Fr σ) : wpc Tryz.prog 12 #[v, w] σ (TmR vs A σ) := by
 have hI : IsD 0 σ.next σ v A.ev := ⟨A, hA, oA, fun _ => rfl⟩
 have hA0 := hA
 obtain ⟨gA, rA⟩ := cd_gd oA
 have hcl := cd_len oA (by omega)
 obtain ⟨ia, fa, ca, rowa, ma, rfl, -, la, wa, ta⟩ := hA.row oA
 have hw0 := hw
 obtain ⟨b, d, rfl, -⟩ := hw
 generalize hl : (cd A).1 = l at *
 generalize hrt : (cd A).2 = root at *
 have hl2 := gA.len
 refine body_go Tryz.func12 rfl ?_
 have hr := Tryz.results12
 simp only [c_seq, RUNA, RUNB, zAd, zMo, zDi, zSu, zMu, zEq, zBe, zLe, zTo, fillS, wantG, vBox, Value.cells, one, putAt, TYA, hr]
 refine wpc_mono (checkVars_spec (hw0.mono ?_) hvs) ?_
 ·repeat first | assumption | exact EXn.refl _ _ | refine EXn.more ?_ _ | refine EXn.put ?_ (by omega) _ | refine EX.trans ?_ (by assumption)
 rintro r σ1 ⟨rfl, hE1⟩
 have n1 := hE1.next
 try simp only [next_more, next_put] at n1
 have b1 : σ1.row σ.next = some ([.slice (some ⟨ia, fa, none⟩) l.length ca, .int .i64 root], boxMeta) := by rw [hE1.row _ (by first | omega | (simp only [next_more, next_put] at *; omega))]; simp only [c_seq, RUNA, RUNB, zAd, zMo, zDi, zSu, zMu, zEq, zBe, zLe, zTo, fillS, wantG, vBox, Value.cells, one, putAt]
 have x1 : σ1.row (σ.next + 1) = some ([.int .i64 0, .string ⟨#[]⟩, .string ⟨#[]⟩, .int .i64 0, .string ⟨#[]⟩, .string ⟨#[]⟩, .string ⟨#[]⟩, .string ⟨#[]⟩, .string ⟨#[]⟩, .slice none 0 0, .slice none 0 0], boxMeta) := by rw [hE1.row _ (by first | omega | (simp only [next_more, next_put] at *; omega))]; simp only [c_seq, RUNA, RUNB, zAd, zMo, zDi, zSu, zMu, zEq, zBe, zLe, zTo, fillS, wantG, vBox, Value.cells, one, putAt]
 have e1 : EX σ σ1 := by refine EX.trans ?_ hE1; repeat first | assumption | exact EXn.refl _ _ | refine EXn.more ?_ _ | refine EXn.put ?_ (by omega) _ | refine EX.trans ?_ (by assumption)
 have f1 := e1.fr hF
 by_cases h1 : ckY vs = 0
 ·have g1 : (ckY vs != (0 : Int)) = false := by simp [h1]
  simp only [c_seq, RUNA, RUNB, zAd, zMo, zDi, zSu, zMu, zEq, zBe, zLe, zTo, fillS, wantG, vBox, Value.cells, one, putAt, TYA, hr, g1, b1]
  refine wpc_mono (safe_spec (T := A) (hA0.un ?_) (by first | omega | (simp only [next_more, next_put] at *; omega)) oA (by repeat first | assumption | refine Fr.more ?_ _ | refine Fr.put ?_ _ _)) ?_
  ·repeat first | assumption | exact UN.refl _ _ _ | refine UN.more ?_ _ | refine UN.put ?_ (by omega) _ | refine UN.ex (by assumption) ?_ (by first | omega | (simp only [next_more, next_put]; omega)) | refine UN.exb (by assumption) ?_ (by first | omega | (simp only [next_more, next_put]; omega)) (by omega)
  rintro r σ2 ⟨rfl, hE2⟩
  have n2 := hE2.next
  try simp only [next_more, next_put] at n2
  have b2 := (hE2.row σ.next (by first | omega | (simp only [next_more, next_put] at *; omega))).trans b1
  have x2 := (hE2.row (σ.next + 1) (by first | omega | (simp only [next_more, next_put] at *; omega))).trans x1
  have e2 : EX σ σ2 := by refine EX.trans ?_ hE2; repeat first | assumption | exact EXn.refl _ _ | refine EXn.more ?_ _ | refine EXn.put ?_ (by omega) _ | refine EX.trans ?_ (by assumption)
  have f2 := e2.fr hF
  simp only [c_seq, RUNA, RUNB, zAd, zMo, zDi, zSu, zMu, zEq, zBe, zLe, zTo, fillS, wantG, vBox, Value.cells, one, putAt, TYA, hr, b2]
  refine wpc_mono (Support_spec (φ := A.ev) (IsD.mono hI ?_) (by repeat first | assumption | refine Fr.more ?_ _ | refine Fr.put ?_ _ _)) ?_
  ·repeat first | assumption | exact EXn.refl _ _ | refine EXn.more ?_ _ | refine EXn.put ?_ (by omega) _ | refine EX.trans ?_ (by assumption)
  rintro r σ3 ⟨⟨s, hO⟩, hE3⟩
  have n3 := hE3.next
  try simp only [next_more, next_put] at n3
  have b3 : σ3.row σ.next = some ([.slice (some ⟨ia, fa, none⟩) l.length ca, .int .i64 root], boxMeta) := by rw [hE3.row _ (by first | omega | (simp only [next_more, next_put] at *; omega))]; simp only [c_seq, RUNA, RUNB, zAd, zMo, zDi, zSu, zMu, zEq, zBe, zLe, zTo, fillS, wantG, vBox, Value.cells, one, putAt]
  have x3 : σ3.row (σ.next + 1) = some ([.int .i64 0, .string ⟨#[]⟩, .string ⟨#[]⟩, .int .i64 0, .string ⟨#[]⟩, .string ⟨#[]⟩, .string ⟨#[]⟩, .string ⟨#[]⟩, .string ⟨#[]⟩, .slice none 0 0, .slice none 0 0], boxMeta) := by rw [hE3.row _ (by first | omega | (simp only [next_more, next_put] at *; omega))]; exact (row_put_ne (by omega)).trans x2
  have e3 : EX σ σ3 := by refine EX.trans ?_ hE3; repeat first | assumption | exact EXn.refl _ _ | refine EXn.more ?_ _ | refine EXn.put ?_ (by omega) _ | refine EX.trans ?_ (by assumption)
  have f3 := e3.fr hF
  obtain ⟨o, oc, rfl, hO2⟩ := hO.open
  have hlen := supD_len A
  change _ → ∃ m, _ at hO2
  simp only [c_seq, RUNA, RUNB, zAd, zMo, zDi, zSu, zMu, zEq, zBe, zLe, zTo, fillS, wantG, vBox, Value.cells, one, putAt, TYA, hr]
  refine loop_go (fun m S τ => S.at 1 = .slice b vs.length d ∧ S.at 2 = .pointer (some ⟨σ.next, 0, none⟩) ∧ S.at 4 = .pointer (some ⟨σ.next + 1, 0, none⟩) ∧ S.at 22 = .slice o (supD A).length oc ∧ S.at 23 = .int .i64 (supD A).length ∧ EX σ τ ∧ EX σ3 τ ∧ Fr τ ∧
   ∃ i : Nat, S.at 24 = .int .i64 i ∧ i ≤ (supD A).length ∧ m = (supD A).length - i ∧ ∀ j (hj : j < (supD A).length), j < i → (supD A)[j] < (vs.length : Int)) (supD A).length ?_ ?_
  ·simp only [c_seq, RUNA, RUNB, zAd, zMo, zDi, zSu, zMu, zEq, zBe, zLe, zTo, fillS, wantG, vBox, Value.cells, one, putAt]
   refine ⟨rfl, rfl, ?_, ?_, by repeat first | assumption | refine Fr.more ?_ _ | refine Fr.put ?_ _ _, 0, rfl, by omega, by omega, fun j hj h => by omega⟩
   ·repeat first | assumption | exact EXn.refl _ _ | refine EXn.more ?_ _ | refine EXn.put ?_ (by omega) _ | refine EX.trans ?_ (by assumption)
   ·repeat first | assumption | exact EXn.refl _ _ | refine EXn.more ?_ _ | refine EXn.put ?_ (by omega) _ | refine EX.trans ?_ (by assumption)
  rintro _ S τ ⟨s1, s2, s4, s22, s23, hE, hE', hF', i, s24, hi, rfl, hall⟩
  have nn := hE'.next
  have r0 := (hE'.row σ.next (by omega)).trans b3
  have x0 := (hE'.row (σ.next + 1) (by omega)).trans x3
  by_cases hlt : i < (supD A).length
  ·have hd : decide ((i : Int) < ((supD A).length : Int)) = true := by simp; omega
   have z2 : (0 : Int) ≤ (i : Int) := by omega
   have z3 : (i : Int) < ((supD A).length : Int) := by omega
   obtain ⟨m, rfl, q1, q2⟩ := hO2 (Nat.lt_of_le_of_lt (Nat.zero_le _) hlt)
   have q3 := (hE'.row s q1).trans q2
   have hw' : IntKind.i64.wrap ((i : Int) + 1) = ((i + 1 : Nat) : Int) := by rw [wrap64 (by omega) (by omega)]; rfl
   have hg : (ints (supL (depB A.ev) 10))[i]? = some (.int .i64 ((supD A)[i]'hlt)) := by unfold ints; rw [List.getElem?_map]; show Option.map _ ((supD A)[i]?) = _; rw [List.getElem?_eq_getElem hlt]; rfl
   by_cases hx : (vs.length : Int) ≤ (supD A)[i]'hlt
   ·have g2 : decide ((vs.length : Int) ≤ (supD A)[i]'hlt) = true := by simp; omega
    simp only [c_seq, RUNA, RUNB, zAd, zMo, zDi, zSu, zMu, zEq, zBe, zLe, zTo, fillS, wantG, vBox, Value.cells, one, putAt, TYA, s1, s2, s4, s22, s23, s24, hd, ia71 z2 z3, Int.toNat_natCast, q3, Nat.mul_one, Nat.zero_add, hg, g2, bdT0, x0, hr]
    have he : eTm vs A = 6 := by simp [eTm, h1, supX_t hlt hx]
    refine ⟨_, by rw [he], ?_, ?_⟩
    ·have : tmT vs A = noP := by simp [tmT, he]
     rw [this]; exact noP_tv _ _
    ·repeat first | assumption | exact EXn.refl _ _ | refine EXn.more ?_ _ | refine EXn.put ?_ (by omega) _ | refine EX.trans ?_ (by assumption)
   ·have g2 : decide ((vs.length : Int) ≤ (supD A)[i]'hlt) = false := by simp; omega
    simp only [c_seq, RUNA, RUNB, zAd, zMo, zDi, zSu, zMu, zEq, zBe, zLe, zTo, fillS, wantG, vBox, Value.cells, one, putAt, TYA, s1, s2, s4, s22, s23, s24, hd, ia71 z2 z3, Int.toNat_natCast, q3, Nat.mul_one, Nat.zero_add, hg, g2, hw', hr]
    refine ⟨(supD A).length - (i + 1), by omega, ?_, ?_, by repeat first | assumption | refine Fr.more ?_ _ | refine Fr.put ?_ _ _, i + 1, rfl, by omega, rfl, fun j hj hj2 => ?_⟩
    ·repeat first | assumption | exact EXn.refl _ _ | refine EXn.more ?_ _ | refine EXn.put ?_ (by omega) _ | refine EX.trans ?_ (by assumption)
    ·repeat first | assumption | exact EXn.refl _ _ | refine EXn.more ?_ _ | refine EXn.put ?_ (by omega) _ | refine EX.trans ?_ (by assumption)
    ·by_cases hji : j = i
     ·subst hji; omega
     ·exact hall j hj (by omega)
  ·have hd : decide ((i : Int) < ((supD A).length : Int)) = false := by simp; omega
   have hsx : supX vs A = false := supX_f fun j hj => hall j hj (by omega)
   have la' := (hE.row ia la).trans wa
   have q1 : ∀ k, ¬ σ.next = τ.next + k := fun k => by omega
   have mk := mkI l.length (by omega)
   simp only [c_seq, RUNA, RUNB, zAd, zMo, zDi, zSu, zMu, zEq, zBe, zLe, zTo, fillS, wantG, vBox, Value.cells, one, putAt, TYA, s1, s2, s4, s22, s23, s24, hd, r0, hr, mk, q1]
   refine loop_go (fun m S τ2 => S.at 1 = .slice b vs.length d ∧ S.at 2 = .pointer (some ⟨σ.next, 0, none⟩) ∧ S.at 4 = .pointer (some ⟨σ.next + 1, 0, none⟩) ∧ S.at 43 = .slice (some ⟨ia, fa, none⟩) l.length ca ∧ S.at 44 = .int .i64 l.length ∧ EX σ τ2 ∧ Fr τ2 ∧ τ.next ≤ τ2.next ∧
    τ2.row σ.next = some ([.slice (some ⟨ia, fa, none⟩) l.length ca, .int .i64 root], boxMeta) ∧ τ2.row (σ.next + 1) = some ([.int .i64 0, .string ⟨#[]⟩, .string ⟨#[]⟩, .int .i64 0, .string ⟨#[]⟩, .string ⟨#[]⟩, .string ⟨#[]⟩, .string ⟨#[]⟩, .string ⟨#[]⟩, .slice none 0 0, .slice none 0 0], boxMeta) ∧
    TmI l τ.next m S τ2) l.length ?_ ?_
   ·simp only [c_seq, RUNA, RUNB, zAd, zMo, zDi, zSu, zMu, zEq, zBe, zLe, zTo, fillS, wantG, vBox, Value.cells, one, putAt, q1]
    refine ⟨s1, s2, s4, ?_, by repeat first | assumption | refine Fr.more ?_ _ | refine Fr.put ?_ _ _, by omega, r0, x0, 0, τ.next + 4, τ.next + 9, List.replicate l.length 0, List.replicate l.length 0, ?_⟩
    ·repeat first | assumption | exact EXn.refl _ _ | refine EXn.more ?_ _ | refine EXn.put ?_ (by omega) _ | refine EX.trans ?_ (by assumption)
    ·simp only [c_seq, RUNA, RUNB, zAd, zMo, zDi, zSu, zMu, zEq, zBe, zLe, zTo, fillS, wantG, vBox, Value.cells, one, putAt]
     refine ⟨rfl, by omega, by omega, by omega, by omega, by omega, by simp, by simp, fun j hj => by omega⟩
   clear hall hlt hd s1 s2 s4 s22 s23 s24
   rintro _ S τ2 ⟨s1, s2, s4, s43, s44, hE2', hF2, hx, r0', x0', i, zid, did, zs, ds, s9, s10, s45, hi, rfl, hz1, hz2, hd1, hd2, hne, rz, rd, lz, ld, hall⟩
   have nn2 := hE2'.next
   have ra := (hE2'.row ia la).trans wa
   by_cases hlt : i < l.length
   ·have hd : decide ((i : Int) < (l.length : Int)) = true := by simp; omega
    have y0 : (0 : Int) ≤ (i : Int) := by omega
    have y1 : (i : Int) < (l.length : Int) := by omega
    have ck := row_cut ta hlt
    have hw' : IntKind.i64.wrap ((i : Int) + 1) = ((i + 1 : Nat) : Int) := by rw [wrap64 (by omega) (by omega)]; rfl
    have qz : ∀ k, ¬ zid = τ2.next + k := fun k => by omega
    have qd : ∀ k, ¬ did = τ2.next + k := fun k => by omega
    have qz' : ∀ k, ¬ τ2.next + k = zid := fun k => by omega
    have qd' : ∀ k, ¬ τ2.next + k = did := fun k => by omega
    have iz1 : i + 1 ≤ (ints zs).length := by rw [ints_len]; omega
    have id1 : i + 1 ≤ (ints ds).length := by rw [ints_len]; omega
    have hne' : ¬ did = zid := fun h => hne h.symm
    have k1 : ¬ σ.next = zid := by omega
    have k2 : ¬ σ.next = did := by omega
    have k3 : ¬ σ.next + 1 = zid := by omega
    have k4 : ¬ σ.next + 1 = did := by omega
    have k5 : ∀ k, ¬ σ.next = τ2.next + k := fun k => by omega
    have k6 : ∀ k, ¬ σ.next + 1 = τ2.next + k := fun k => by omega
    by_cases h2 : i < 2
    ·have g2 : decide ((i : Int) < 2) = true := by simp; omega
     have m0 : ∀ B, Rep l B i → mdT B = 1 ∧ dpT B = 1 := fun B hB => by rw [hB.leaf_at h2]; exact ⟨rfl, rfl⟩
     simp only [c_seq, RUNA, RUNB, zAd, zMo, zDi, zSu, zMu, zEq, zBe, zLe, zTo, fillS, wantG, vBox, Value.cells, one, putAt, TYA, s1, s2, s4, s43, s44, s45, hd, ia39 y0 y1, Int.toNat_natCast, ra, ck, g2, s9, s10, ia71 y0 y1, rz, rd, qz, qd, Nat.mul_one, Nat.zero_add, iz1, id1, ints_set, hne, hne', hw', k1, k2, k3, k4, k5, k6]
     refine ⟨l.length - (i + 1), by omega, ?_, by repeat first | assumption | refine Fr.more ?_ _ | refine Fr.put ?_ _ _, by omega, r0', x0', i + 1, zid, did, zs.set i 1, ds.set i 1, ?_⟩
     ·repeat first | assumption | exact EXn.refl _ _ | refine EXn.more ?_ _ | refine EXn.put ?_ (by omega) _ | refine EX.trans ?_ (by assumption)
     ·simp only [c_seq, RUNA, RUNB, zAd, zMo, zDi, zSu, zMu, zEq, zBe, zLe, zTo, fillS, wantG, vBox, Value.cells, one, putAt, s9, s10, hne, hne', qz, qd]
      exact ⟨by omega, by omega, by omega, by omega, by omega, by simp [lz], by simp [ld], tm_step lz ld hlt hall fun B hB => by obtain ⟨e1, e2⟩ := m0 B hB; rw [e1, e2]; exact ⟨rfl, rfl⟩⟩
    ·have g2 : decide ((i : Int) < 2) = false := by simp; omega
     obtain ⟨p, hp⟩ : ∃ p : Nat, (vx l i).2.1 = p := ⟨_, (Int.toNat_of_nonneg (gA.lo i (by omega) hlt).1).symm⟩
     obtain ⟨q, hq⟩ : ∃ q : Nat, (vx l i).2.2 = q := ⟨_, (Int.toNat_of_nonneg (gA.hi i (by omega) hlt).1).symm⟩
     rw [hp, hq] at ck
     have hpl := (gA.lo i (by omega) hlt).2
     have hql := (gA.hi i (by omega) hlt).2
     rw [hp] at hpl
     rw [hq] at hql
     obtain ⟨P, rP, oP⟩ := Rep.ex gA p (by omega)
     obtain ⟨Q, rQ, oQ⟩ := Rep.ex gA q (by omega)
     obtain ⟨zp, dp⟩ := hall p (by omega) P rP
     obtain ⟨zq, dq⟩ := hall q (by omega) Q rQ
     replace zp := ints_get zp
     replace zq := ints_get zq
     replace dp := ints_get dp
     replace dq := ints_get dq
     have u0 : (0 : Int) ≤ (p : Int) := by omega
     have u1 : (p : Int) < (l.length : Int) := by omega
     have w0 : (0 : Int) ≤ (q : Int) := by omega
     have w1 : (q : Int) < (l.length : Int) := by omega
     simp only [c_seq, RUNA, RUNB, zAd, zMo, zDi, zSu, zMu, zEq, zBe, zLe, zTo, fillS, wantG, vBox, Value.cells, one, putAt, TYA, s1, s2, s4, s43, s44, s45, hd, ia39 y0 y1, Int.toNat_natCast, ra, ck, g2]
     refine d_go (ms := [0, 0, 0, 0, 8, 28, 60, 124, 0, 0, 512, 1792, 3840, 8188, 16380, 32767, 65535]) (order := [0, 1, 2, 3, 4, 5, 6, 7, 8, 9, 10, 11, 12, 13, 14, 15, 16]) (by kernel_rfl) (by kernel_rfl) (by kernel_rfl) (by kernel_rfl) ?_
     have mP := md_le P
     have mQ := md_le Q
     have w1' : IntKind.i64.wrap (2 + ((mdT P : Nat) : Int)) = ((2 + mdT P : Nat) : Int) := by rw [wrap64 (by omega) (by omega)]; omega
     have w2' : IntKind.i64.wrap (((2 + mdT P : Nat) : Int) + ((mdT Q : Nat) : Int)) = ((2 + mdT P + mdT Q : Nat) : Int) := by rw [wrap64 (by omega) (by omega)]; omega
     have dP := dp_le P _ oP (lvl_le gA (by omega))
     have dQ := dp_le Q _ oQ (lvl_le gA (by omega))
     have d1 : (if ((dpT Q : Nat) : Int) > ((dpT P : Nat) : Int) then ((dpT Q : Nat) : Int) else ((dpT P : Nat) : Int)) = ((max (dpT P) (dpT Q) : Nat) : Int) := by split <;> omega
     have d2 : IntKind.i64.wrap (1 + ((max (dpT P) (dpT Q) : Nat) : Int)) = ((1 + max (dpT P) (dpT Q) : Nat) : Int) := by rw [wrap64 (by omega) (by omega)]; omega
     simp only [YRUNA, YRUNB, zSh, bit, c_seq, RUNA, RUNB, zAd, zMo, zDi, zSu, zMu, zEq, zBe, zLe, zTo, fillS, wantG, vBox, Value.cells, one, putAt, TYA, s9, s10, ia71 y0 y1, ia71 u0 u1, ia71 w0 w1, Int.toNat_natCast, rz, rd, qz, qd, Nat.mul_one, Nat.zero_add, zp, zq, w1', w2', k_min2, min2_i, k_max2, max2_i, iz1, id1, ints_set, qz', qd']
     refine d_go (ms := [0, 0, 0, 0, 8, 28, 60, 0, 0, 256, 896, 1920, 4092, 8188, 16383, 32767]) (order := [0, 1, 2, 3, 4, 5, 6, 7, 8, 9, 10, 11, 12, 13, 14, 15]) (by kernel_rfl) (by kernel_rfl) (by kernel_rfl) (by kernel_rfl) ?_
     simp only [YRUNA, YRUNB, zSh, bit, c_seq, RUNA, RUNB, zAd, zMo, zDi, zSu, zMu, zEq, zBe, zLe, zTo, fillS, wantG, vBox, Value.cells, one, putAt, TYA, s9, s10, ia71 y0 y1, ia71 u0 u1, ia71 w0 w1, Int.toNat_natCast, rz, rd, qz, qd, Nat.mul_one, Nat.zero_add, dp, dq, k_max2, max2_i, d1, d2, iz1, id1, ints_set, hw', s1, s2, s4, s43, s44, s45, hne, hne', qz', qd', k1, k2, k3, k4, k5, k6]
     have mN : ∀ B, Rep l B i → (if (3001 : Int) < ((2 + (mdT P + mdT Q) : Nat) : Int) then (3001 : Int) else ((2 + (mdT P + mdT Q) : Nat) : Int)) = ((mdT B : Nat) : Int) ∧ ((1 + max (dpT P) (dpT Q) : Nat) : Int) = ((dpT B : Nat) : Int) := fun B hB => by
      obtain ⟨bv, bl, bh, rfl, _, _, hbl, hbh⟩ := hB.node_at (by omega)
      rw [hp] at hbl
      rw [hq] at hbh
      obtain rfl := hbl.fn rP
      obtain rfl := hbh.fn rQ
      rw [md_node]
      refine ⟨?_, by simp only [dpT]⟩
      split <;> omega
     refine ⟨l.length - (i + 1), by omega, ?_, by repeat first | assumption | refine Fr.more ?_ _ | refine Fr.put ?_ _ _, by omega, r0', x0', i + 1, zid, did, zs.set i (if (3001 : Int) < ((2 + (mdT P + mdT Q) : Nat) : Int) then (3001 : Int) else ((2 + (mdT P + mdT Q) : Nat) : Int)), ds.set i ((1 + max (dpT P) (dpT Q) : Nat) : Int), ?_⟩
     ·repeat first | assumption | exact EXn.refl _ _ | refine EXn.more ?_ _ | refine EXn.put ?_ (by omega) _ | refine EX.trans ?_ (by assumption)
     ·simp only [c_seq, RUNA, RUNB, zAd, zMo, zDi, zSu, zMu, zEq, zBe, zLe, zTo, fillS, wantG, vBox, Value.cells, one, putAt, s9, s10, hne, hne', qz, qd]
      exact ⟨by omega, by omega, by omega, by omega, by omega, by simp [lz], by simp [ld], tm_step lz ld hlt hall mN⟩
   ·have hd : decide ((i : Int) < (l.length : Int)) = false := by simp; omega
    obtain rfl : i = l.length := by omega
    obtain ⟨rt, rfl, hrl⟩ := rep_nat rA hl2
    obtain ⟨zr, dr⟩ := hall rt hrl A rA
    replace zr := ints_get zr
    replace dr := ints_get dr
    have u0 : (0 : Int) ≤ (rt : Int) := by omega
    have u1 : (rt : Int) < (l.length : Int) := by omega
    have dA := dp_le A 0 oA (by omega)
    have g3 : decide ((200 : Int) < ((dpT A : Nat) : Int)) = false := by simp; omega
    by_cases hb : 3000 < ndT A
    ·have g2 : decide ((3000 : Int) < ((mdT A : Nat) : Int)) = true := by simp; unfold mdT; omega
     simp only [c_seq, RUNA, RUNB, zAd, zMo, zDi, zSu, zMu, zEq, zBe, zLe, zTo, fillS, wantG, vBox, Value.cells, one, putAt, TYA, s1, s2, s4, s9, s10, s43, s44, s45, hd, r0', ia71 u0 u1, Int.toNat_natCast, rz, rd, Nat.mul_one, Nat.zero_add, zr, dr, g2, g3, bdT0, x0', hr]
     have he : eTm vs A = 45 := by simp [eTm, h1, hsx, hb]
     refine ⟨_, by rw [he], ?_, ?_⟩
     ·have : tmT vs A = noP := by simp [tmT, he]
      rw [this]; exact noP_tv _ _
     ·repeat first | assumption | exact EXn.refl _ _ | refine EXn.more ?_ _ | refine EXn.put ?_ (by omega) _ | refine EX.trans ?_ (by assumption)
    ·have g2 : decide ((3000 : Int) < ((mdT A : Nat) : Int)) = false := by simp; unfold mdT; omega
     simp only [c_seq, RUNA, RUNB, zAd, zMo, zDi, zSu, zMu, zEq, zBe, zLe, zTo, fillS, wantG, vBox, Value.cells, one, putAt, TYA, s1, s2, s4, s9, s10, s43, s44, s45, hd, r0', ia71 u0 u1, Int.toNat_natCast, rz, rd, Nat.mul_one, Nat.zero_add, zr, dr, g2, g3, bdT0, x0', hr]
     refine wpc_mono (write_spec (l := l) A _ rA (supX_occ oA hsx) _ ia fa ca rowa ma _ _ (by first | omega | (simp only [next_more, next_put] at *; omega)) ?_ ta (hw0.mono ?_)) ?_
     ·simp only [c_seq, RUNA, RUNB, zAd, zMo, zDi, zSu, zMu, zEq, zBe, zLe, zTo, fillS, wantG, vBox, Value.cells, one, putAt]; exact ra
     ·repeat first | assumption | exact EXn.refl _ _ | refine EXn.more ?_ _ | refine EXn.put ?_ (by omega) _ | refine EX.trans ?_ (by assumption)
     rintro r σ4 ⟨hT, hE4⟩
     have n4 := hE4.next
     try simp only [next_more, next_put] at n4
     try simp only [next_more, next_put] at hT
     have x4 := (hE4.row (σ.next + 1) (by first | omega | (simp only [next_more, next_put] at *; omega))).trans x0'
     have e4 : EX σ σ4 := by refine EX.trans ?_ hE4; repeat first | assumption | exact EXn.refl _ _ | refine EXn.more ?_ _ | refine EXn.put ?_ (by omega) _ | refine EX.trans ?_ (by assumption)
     obtain ⟨a4, c4, rfl, -⟩ := hT.tv.al
     simp only [c_seq, RUNA, RUNB, zAd, zMo, zDi, zSu, zMu, zEq, zBe, zLe, zTo, fillS, wantG, vBox, Value.cells, one, putAt, TYA, s4, x4, hr]
     have he : eTm vs A = 0 := by simp [eTm, h1, hsx, hb]
     refine ⟨_, by rw [he], ?_, ?_⟩
     ·have : tmT vs A = dtT vs A := by simp [tmT, he]
      rw [this]
      refine (hT.un (by first | omega | (simp only [next_more, next_put] at *; omega)) ?_).weak (by first | omega | (simp only [next_more, next_put] at *; omega))
      repeat first | assumption | exact UN.refl _ _ _ | refine UN.more ?_ _ | refine UN.put ?_ (by omega) _ | refine UN.ex (by assumption) ?_ (by first | omega | (simp only [next_more, next_put]; omega)) | refine UN.exb (by assumption) ?_ (by first | omega | (simp only [next_more, next_put]; omega)) (by omega)
     ·repeat first | assumption | exact EXn.refl _ _ | refine EXn.more ?_ _ | refine EXn.put ?_ (by omega) _ | refine EX.trans ?_ (by assumption)
 ·have g1 : (ckY vs != (0 : Int)) = true := by simp [h1]
  have he : eTm vs A = ckY vs := by simp [eTm, h1]
  simp only [c_seq, RUNA, RUNB, zAd, zMo, zDi, zSu, zMu, zEq, zBe, zLe, zTo, fillS, wantG, vBox, Value.cells, one, putAt, TYA, hr, g1, bdT0, x1]
  refine ⟨_, by rw [he], ?_, ?_⟩
  ·have : tmT vs A = noP := by simp [tmT, he, h1]
   rw [this]; exact noP_tv _ _
  ·repeat first | assumption | exact EXn.refl _ _ | refine EXn.more ?_ _ | refine EXn.put ?_ (by omega) _ | refine EX.trans ?_ (by assumption)
end Go.Proofs.Q
namespace Go.Proofs.Q
open Go.AI
set_option maxRecDepth 20000
def stG (cs0 cs1 : List Value) : St := ((⟨.nil, .nil, 5⟩ : St).put 3 (.cells cs0 (rdMeta 1))).put 4 (.cells cs1 (rdMeta 1))
def okG : Option (Value × St) → Option (Bool × Option AObj × Option AObj)
 | some (.bool true, σ) => some (nilT σ.vers && Nat.ble 7 σ.next, σ.get 3, σ.get 4)
 | _ => none
theorem awake_runG (cs0 cs1 : List Value) : okG (callQ Tryz.prog 100 100 4 #[] (((stG cs0 cs1).more 1).more 2)) = some (true, some (.cells cs0 (rdMeta 1)), some (.cells cs1 (rdMeta 1))) := by kernel_rfl
theorem okG_some {x : Option (Value × St)} {a b : Option AObj} (h : okG x = some (true, a, b)) : ∃ σ, x = some (.bool true, σ) ∧ Fr σ ∧ 7 ≤ σ.next ∧ σ.get 3 = a ∧ σ.get 4 = b := by
 unfold okG at h
 split at h
 ·rename_i σ
  simp only [Option.some.injEq, Prod.mk.injEq, Bool.and_eq_true] at h
  obtain ⟨⟨h1, h2⟩, h3, h4⟩ := h
  refine ⟨σ, rfl, ?_, by simpa [nble] using h2, h3, h4⟩
  obtain ⟨m, v, n⟩ := σ
  cases v with
  | nil => intro g _; rfl
  | node => simp [nilT] at h1
 ·cases h
theorem awake_G (cs0 cs1 : List Value) : wpc Tryz.prog 4 #[] (((stG cs0 cs1).more 1).more 2) fun r σ => r = .bool true ∧ Fr σ ∧ 7 ≤ σ.next ∧ σ.row 3 = some (cs0, rdMeta 1) ∧ σ.row 4 = some (cs1, rdMeta 1) := by
 obtain ⟨σ, h1, h2, h3, h4, h5⟩ := okG_some (awake_runG cs0 cs1)
 exact ⟨100, .bool true, σ, h1, rfl, h2, h3, row_of_get h4, row_of_get h5⟩
theorem YL.exb {b : Nat} {σ τ : St} {v : Value} {l : List Sy} {x y : Value} {n : Mta} (h : YL σ v l) (e : EXb b σ τ) (hb : σ.row b = some ([x, y], n)) (hx : ∀ s, x ≠ .string s) (hy : ∀ s, y ≠ .string s) : YL τ v l := by
 obtain ⟨a, c, rfl, h2⟩ := h
 refine ⟨a, c, rfl, fun hl => ?_⟩
 obtain ⟨id, off, row, m, rfl, q2, q3, q4⟩ := h2 hl
 have hne : id ≠ b := by
  rintro rfl
  rw [hb] at q3
  cases q3
  cases l with
  | nil => exact hl rfl
  | cons s l =>
   have h0 := congrArg (fun l : List Value => l[0]?) q4
   simp only [flatY, List.length_cons, List.getElem?_take, List.getElem?_drop] at h0
   rw [if_pos (by omega)] at h0
   match off, h0 with
   | 0, h0 => exact hx _ (by simpa using h0)
   | 1, h0 => exact hy _ (by simpa using h0)
   | k + 2, h0 => simp at h0
 exact ⟨id, off, row, m, rfl, Nat.lt_of_lt_of_le q2 e.next, (e.row id q2 hne).trans q3, q4⟩
theorem okP_dt (vs : List Sy) : ∀ A : Dt, okP (dtT vs A)
 | .leaf b => ⟨by simp, trivial⟩
 | .node v lo hi => by
  simp only [dtT]
  exact ⟨by simp, ⟨by simp, trivial⟩, okP_dt vs hi, okP_dt vs lo, trivial⟩
theorem okP_tm (vs : List Sy) (A : Dt) : okP (tmT vs A) := by
 unfold tmT
 split
 ·exact okP_dt vs A
 ·exact ⟨by simp, trivial⟩
theorem sames {σ : St} {d d' : Value} {vs : List Sy} {t : PT} (h1 : eOf vs t = 0 → IsD 0 σ.next σ d (fun f => trT vs f t)) (h2 : eOf vs t ≠ 0 → d = noD) (k1 : eOf vs t = 0 → IsD 0 σ.next σ d' (fun f => trT vs f t)) (k2 : eOf vs t ≠ 0 → d' = noD) :
    wpc Tryz.prog 10 #[d, d'] σ fun r σ' => r = .bool true ∧ EX σ σ' := by
 by_cases h : eOf vs t = 0
 ·exact Same_is (h1 h) (k1 h) fun _ => rfl
 ·rw [h2 h, k2 h]
  refine wpc_mono (Same_spec (zero_dv σ) (zero_dv σ) (by simp [zeroD])) ?_
  rintro r σ' ⟨rfl, hE⟩
  exact ⟨by simp, hE⟩
end Go.Proofs.Q
