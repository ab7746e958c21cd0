/- For every input the law BddTerm returns true and leaves its arguments as they were: the row, and its tied card. No conditions. -/
import Derived.Test.YtmjddjjcnhckgaaGreatDoorKw
import Derived.Deep.Slices
import Derived.ChangeSlices
import Derived.OpenShut
import Derived.WideKeyArgs
import Derived.Test.YtmjddjjcnhckgaaGreatDoorKg
import Derived.Test.YtmjddjjcnhckgaaGreatDoorKi
import Derived.Test.YtmjddjjcnhckgaaGreatDoorKh
import Derived.KernelRfl
import Derived.Test.YtmjddjjcnhckgaaGreatDoorCards
import Derived.Test.YtmjddjjcnhckgaaGreatDoorTie
import Derived.WalkKit
import Derived.ProofKit
import Derived.LaidMore
import Derived.Stop.Joined
import Derived.Stop.LaidErr
import Derived.SevenTiedAt
set_option linter.unusedVariables false
set_option linter.unusedSimpArgs false
set_option linter.constructorNameAsVariable false
open Nat renaming reduceAdd → zAd, reduceMod → zMo, reduceDiv → zDi, reduceSub → zSu, reduceMul → zMu, reduceEqDiff → zEq, reduceBEq → zBe, reduceLeDiff → zLe, reduceShiftRight → zSh
open Int renaming reduceToNat → zTo
namespace Go.Proofs.Q
open Go.AI
set_option maxRecDepth 20000
theorem bdSr (o : Option Addr) (n c : Nat) : abuild Tryz.prog 26 #[(0, .slice o n c)] = some (.agg #[.slice o n c, .int .i64 0]) := by kernel_rfl
theorem Src.mk {τ : St} {b cc id : Nat} {co : Option Addr} {cs : List Nat} (h1 : 0 < cs.length → co = some ⟨id, 0, none⟩) (r1 : τ.row id = some (u8s cs, rdMeta 1)) (hb : id < b) (hbn : b < τ.next) (hrow : τ.row b = some ([.slice co cs.length cc, .int .i64 0], boxMeta)) : Src b τ cs := by
 refine ⟨co, cc, 0, hrow, hbn, by omega, fun h0 => ⟨id, 0, u8s cs, rdMeta 1, h1 h0, hb, r1, ?_⟩⟩
 rw [List.drop_zero, List.take_of_length_le (by simp [u8s])]
theorem Src.un {b : Nat} {σ τ : St} {cs : List Nat} (h : Src b σ cs) (hn : σ.next ≤ τ.next) (e : UN 0 (b + 1) σ τ) : Src b τ cs := by
 obtain ⟨o, c, p, h1, h2, h3, h4⟩ := h
 refine ⟨o, c, p, (e.row b (by omega) (by omega)).trans h1, by omega, h3, fun h0 => ?_⟩
 obtain ⟨id, off, row, m, g1, g2, g3, g4⟩ := h4 h0
 exact ⟨id, off, row, m, g1, g2, (e.row id (by omega) (by omega)).trans g3, g4⟩
theorem DVi.ex0 {σ τ : St} {v : Value} {d : List Vtx × Int} (h : DVi 0 σ.next σ v d) (e : EX σ τ) : DVi 0 τ.next τ v d := by
 obtain ⟨s, h1, h2⟩ := h
 refine ⟨s, h1, h2.imp (fun h => ?_) id⟩
 obtain ⟨id, off, c, row, m, h1, h2, h3, h4, h5⟩ := h
 exact ⟨id, off, c, row, m, h1, h2, Nat.lt_of_lt_of_le h3 e.next, (e.row id h3).trans h4, h5⟩
def nEq : ByteArray := ⟨#[101, 113, 117, 97, 108]⟩
structure TJ (b x : Nat) (cs vs : List Nat) (vo : Option Addr) (vc n : Nat) (S : Slots) (τ : St) : Prop where
 s1 : S.at 1 = .slice vo vs.length vc
 s2 : S.at 2 = .int .u8 n
 s7 : S.at 7 = .pointer (some ⟨b, 0, none⟩)
 s8 : S.at 8 = .pointer (some ⟨x, 0, none⟩)
 fr : Fr τ
 src : Src b τ cs
 r4 : τ.row 4 = some (u8s vs, rdMeta 1)
 b4 : 4 < b
 bx : b < x
 xn : x < τ.next
 t : ∃ t a1 c1, goT t ∧ τ.row x = some ([.int .i64 t.k, .string t.p, .string t.s, .int .i64 t.o.k, .string t.o.n, .string t.o.d, .string t.o.p, .string t.o.s, .string t.o.t, .slice none 0 0, .slice a1 t.l.length c1], boxMeta) ∧ TVb (x + 1) τ (.agg #[.int .i64 t.k, .string t.p, .string t.s, .int .i64 t.o.k, .string t.o.n, .string t.o.d, .string t.o.p, .string t.o.s, .string t.o.t, .slice none 0 0, .slice a1 t.l.length c1]) t
structure VJ (b x : Nat) (cs : List Nat) (S : Slots) (τ : St) : Prop where
 s7 : S.at 7 = .pointer (some ⟨b, 0, none⟩)
 s8 : S.at 8 = .pointer (some ⟨x, 0, none⟩)
 s9 : ∃ (l : List Sy) (lv : Value), S.at 9 = lv ∧ YL τ lv l ∧ l.length ≤ 12
 fr : Fr τ
 src : Src b τ cs
 bx : b < x
 xn : x < τ.next
 t : ∃ t a1 c1, goT t ∧ τ.row x = some ([.int .i64 t.k, .string t.p, .string t.s, .int .i64 t.o.k, .string t.o.n, .string t.o.d, .string t.o.p, .string t.o.s, .string t.o.t, .slice none 0 0, .slice a1 t.l.length c1], boxMeta) ∧ TVb (x + 1) τ (.agg #[.int .i64 t.k, .string t.p, .string t.s, .int .i64 t.o.k, .string t.o.n, .string t.o.d, .string t.o.p, .string t.o.s, .string t.o.t, .slice none 0 0, .slice a1 t.l.length c1]) t
theorem bs6 (id : Nat) : vBuildS Tryz.prog 22 6 #[(0, .int .u8 3), (1, .int .u8 1), (2, .int .u8 4), (3, .int .u8 0), (4, .int .u8 5), (5, .int .u8 2)] id = some (.slice (some ⟨id, 0, none⟩) 6 6, .cells (u8s [3, 1, 4, 0, 5, 2]) (rowMeta 1)) := by kernel_rfl
set_option maxHeartbeats 8000000 in
theorem term_go (cs vs : List Nat) (hc : ∀ k ∈ cs, k < 256) (hv : ∀ k ∈ vs, k < 256) (co vo : Option Addr) (cc vc : Nat) (hc1 : 0 < cs.length → co = some ⟨3, 0, none⟩) (hv1 : 0 < vs.length → vo = some ⟨4, 0, none⟩) (n : Nat) (hn : n < 256) :
    wpc Tryz.prog 3 #[.slice co cs.length cc, .slice vo vs.length vc, .int .u8 n] (stG (u8s cs) (u8s vs)) fun r _ => r = .bool true := by
 refine body_go Tryz.func3 rfl ?_
 have hr := Tryz.results3
 simp only [c_seq, RUNA, RUNB, zAd, zMo, zDi, zSu, zMu, zEq, zBe, zLe, zTo, fillS, wantG, vBox, Value.cells, one, putAt, hr]
 refine wpc_mono (awake_G (u8s cs) (u8s vs)) ?_
 rintro r σ ⟨rfl, hF, hn7, r3, r4⟩
 simp only [c_seq, RUNA, RUNB, zAd, zMo, zDi, zSu, zMu, zEq, zBe, zLe, zTo, fillS, wantG, vBox, Value.cells, one, putAt, TYA, hr]
 by_cases g1 : 40 < cs.length
 ·have d1 : decide ((40 : Int) < (cs.length : Int)) = true := by simp; omega
  simp only [c_seq, RUNA, RUNB, zAd, zMo, zDi, zSu, zMu, zEq, zBe, zLe, zTo, fillS, wantG, vBox, Value.cells, one, putAt, TYA, hr, d1]
 have d1 : decide ((40 : Int) < (cs.length : Int)) = false := by simp; omega
 by_cases g2 : 12 < vs.length
 ·have d2 : decide ((12 : Int) < (vs.length : Int)) = true := by simp; omega
  simp only [c_seq, RUNA, RUNB, zAd, zMo, zDi, zSu, zMu, zEq, zBe, zLe, zTo, fillS, wantG, vBox, Value.cells, one, putAt, TYA, hr, d1, d2]
 have d2 : decide ((12 : Int) < (vs.length : Int)) = false := by simp; omega
 have w3 : ∀ k, ¬ 3 = σ.next + k := fun k => by omega
 have w4 : ∀ k, ¬ 4 = σ.next + k := fun k => by omega
 simp only [c_seq, RUNA, RUNB, zAd, zMo, zDi, zSu, zMu, zEq, zBe, zLe, zTo, fillS, wantG, vBox, Value.cells, one, putAt, TYA, hr, d1, d2, bdSr]
 obtain ⟨b, hb⟩ : ∃ b, b = σ.next + 10 := ⟨_, rfl⟩
 rw [← hb]
 refine wpc_mono (term_spec hc (by omega) 4 (by omega) _ (Src.mk (cc := cc) hc1 (by simp only [c_seq, RUNA, RUNB, zAd, zMo, zDi, zSu, zMu, zEq, zBe, zLe, zTo, fillS, wantG, vBox, Value.cells, one, putAt, hb, w3, r3]) (by omega) (by first | omega | (simp only [next_more, next_put] at *; omega)) (by simp only [c_seq, RUNA, RUNB, zAd, zMo, zDi, zSu, zMu, zEq, zBe, zLe, zTo, fillS, wantG, vBox, Value.cells, one, putAt]))) ?_
 rintro r σ1 ⟨⟨t, ht, hT⟩, hS1, hE1⟩
 have n1 := hE1.next
 simp only [next_more, next_put] at n1 hT
 have f1 : Fr σ1 := hE1.fr (by repeat first | assumption | refine Fr.more ?_ _ | refine Fr.put ?_ _ _)
 have q4 : σ1.row 4 = some (u8s vs, rdMeta 1) := by rw [hE1.row 4 (by first | omega | (simp only [next_more, next_put] at *; omega)) (by omega)]; simp only [c_seq, RUNA, RUNB, zAd, zMo, zDi, zSu, zMu, zEq, zBe, zLe, zTo, fillS, wantG, vBox, Value.cells, one, putAt, hb, w4, r4]
 obtain ⟨a1, c1, rfl, -⟩ := hT.tv.al
 obtain ⟨x, hx⟩ : ∃ x, x = σ.next + 14 := ⟨_, rfl⟩
 simp only [RUNA, RUNB, zAd, zMo, zDi, zSu, zMu, zEq, zBe, zLe, zTo, fillS, wantG, vBox, Value.cells, one, putAt, TYA, ← hx]
 refine seq_cut (TJ b x cs vs vo vc n) ?_ ?_
 ·refine gen_go (TJ b x cs vs vo vc n) ?_ ?_
  ·refine ⟨by simp only [c_seq, RUNA, RUNB, zAd, zMo, zDi, zSu, zMu, zEq, zBe, zLe, zTo, fillS, wantG, vBox, Value.cells, one, putAt], by simp only [c_seq, RUNA, RUNB, zAd, zMo, zDi, zSu, zMu, zEq, zBe, zLe, zTo, fillS, wantG, vBox, Value.cells, one, putAt], by simp only [c_seq, RUNA, RUNB, zAd, zMo, zDi, zSu, zMu, zEq, zBe, zLe, zTo, fillS, wantG, vBox, Value.cells, one, putAt], by simp only [c_seq, RUNA, RUNB, zAd, zMo, zDi, zSu, zMu, zEq, zBe, zLe, zTo, fillS, wantG, vBox, Value.cells, one, putAt], by repeat first | assumption | refine Fr.more ?_ _ | refine Fr.put ?_ _ _, ?_, ?_, by omega, by omega, by first | omega | (simp only [next_more, next_put] at *; omega), t, a1, c1, ht, by simp only [c_seq, RUNA, RUNB, zAd, zMo, zDi, zSu, zMu, zEq, zBe, zLe, zTo, fillS, wantG, vBox, Value.cells, one, putAt], ?_⟩
   ·refine hS1.un (by first | omega | (simp only [next_more, next_put] at *; omega)) ?_
    repeat first | assumption | exact UN.refl _ _ _ | refine UN.more ?_ _ | refine UN.put ?_ (by omega) _ | refine UN.ex (by assumption) ?_ (by first | omega | (simp only [next_more, next_put]; omega)) | refine UN.exb (by assumption) ?_ (by first | omega | (simp only [next_more, next_put]; omega)) (by omega)
   ·have h4 : ¬ 4 = x := by omega
    simp only [c_seq, RUNA, RUNB, zAd, zMo, zDi, zSu, zMu, zEq, zBe, zLe, zTo, fillS, wantG, vBox, Value.cells, one, putAt, h4, q4]
   ·refine (hT.un (by first | omega | (simp only [next_more, next_put] at *; omega)) ?_).weak (by omega)
    repeat first | assumption | exact UN.refl _ _ _ | refine UN.more ?_ _ | refine UN.put ?_ (by omega) _ | refine UN.ex (by assumption) ?_ (by first | omega | (simp only [next_more, next_put]; omega)) | refine UN.exb (by assumption) ?_ (by first | omega | (simp only [next_more, next_put]; omega)) (by omega)
  clear hT hS1 hE1 f1 q4 n1 hF r3 r4 hb hx hn7 w3 w4
  rintro S τ ⟨s1, s2, s7, s8, hFt, hS, r4, b4, bx, xn, t, a1, c1, ht, rx, hT⟩
  obtain ⟨bb, hbb⟩ : ∃ bb, bb = (((n : Int).tmod 5) == (1 : Int)) := ⟨_, rfl⟩
  simp only [c_seq, RUNA, RUNB, zAd, zMo, zDi, zSu, zMu, zEq, zBe, zLe, zTo, fillS, wantG, vBox, Value.cells, one, putAt, TYA, s2, n_rem (show (5 : Int) ≠ 0 by decide), ← hbb]
  cases bb
  ·simp only [c_seq, RUNA, RUNB, zAd, zMo, zDi, zSu, zMu, zEq, zBe, zLe, zTo, fillS, wantG, vBox, Value.cells, one, putAt, TYA]
   refine ⟨by simp only [c_seq, RUNA, RUNB, zAd, zMo, zDi, zSu, zMu, zEq, zBe, zLe, zTo, fillS, wantG, vBox, Value.cells, one, putAt, s1], by simp only [c_seq, RUNA, RUNB, zAd, zMo, zDi, zSu, zMu, zEq, zBe, zLe, zTo, fillS, wantG, vBox, Value.cells, one, putAt, s2], by simp only [c_seq, RUNA, RUNB, zAd, zMo, zDi, zSu, zMu, zEq, zBe, zLe, zTo, fillS, wantG, vBox, Value.cells, one, putAt, s7], by simp only [c_seq, RUNA, RUNB, zAd, zMo, zDi, zSu, zMu, zEq, zBe, zLe, zTo, fillS, wantG, vBox, Value.cells, one, putAt, s8], by repeat first | assumption | refine Fr.more ?_ _ | refine Fr.put ?_ _ _, hS.un (by first | omega | (simp only [next_more, next_put] at *; omega)) (by repeat first | assumption | exact UN.refl _ _ _ | refine UN.more ?_ _ | refine UN.put ?_ (by omega) _ | refine UN.ex (by assumption) ?_ (by first | omega | (simp only [next_more, next_put]; omega)) | refine UN.exb (by assumption) ?_ (by first | omega | (simp only [next_more, next_put]; omega)) (by omega)), r4, b4, bx, by first | omega | (simp only [next_more, next_put] at *; omega), t, a1, c1, ht, rx, hT.un (by first | omega | (simp only [next_more, next_put] at *; omega)) (by repeat first | assumption | exact UN.refl _ _ _ | refine UN.more ?_ _ | refine UN.put ?_ (by omega) _ | refine UN.ex (by assumption) ?_ (by first | omega | (simp only [next_more, next_put]; omega)) | refine UN.exb (by assumption) ?_ (by first | omega | (simp only [next_more, next_put]; omega)) (by omega))⟩
  ·simp only [c_seq, RUNA, RUNB, zAd, zMo, zDi, zSu, zMu, zEq, zBe, zLe, zTo, fillS, wantG, vBox, Value.cells, one, putAt, TYA]
   refine d_go (ms := [0, 0, 0, 6, 14, 0, 63, 127, 255]) (order := [0, 1, 2, 3, 5, 4, 6, 7, 8]) (by kernel_rfl) (by kernel_rfl) (by kernel_rfl) (by kernel_rfl) ?_
   have hx : ∀ k, ¬ x = τ.next + k := fun k => by omega
   simp only [YRUNA, YRUNB, zSh, bit, c_seq, RUNA, RUNB, zAd, zMo, zDi, zSu, zMu, zEq, zBe, zLe, zTo, fillS, wantG, vBox, Value.cells, one, putAt, TYA, s8, rx, bsT2, hx]
   refine wpc_mono (L_spec _ nEq _ _ _) ?_
   rintro r σ2 ⟨rfl, hE2⟩
   have n2 := hE2.next
   try simp only [next_more, next_put] at n2
   have rx2 : σ2.row x = some ([.int .i64 t.k, .string t.p, .string t.s, .int .i64 t.o.k, .string t.o.n, .string t.o.d, .string t.o.p, .string t.o.s, .string t.o.t, .slice none 0 0, .slice a1 t.l.length c1], boxMeta) := by rw [hE2.row x (by first | omega | (simp only [next_more, next_put] at *; omega))]; simp only [c_seq, RUNA, RUNB, zAd, zMo, zDi, zSu, zMu, zEq, zBe, zLe, zTo, fillS, wantG, vBox, Value.cells, one, putAt, hx]; exact rx
   have ru2 : σ2.row (τ.next + 6) = some ([.int .i64 t.k, .string t.p, .string t.s, .int .i64 t.o.k, .string t.o.n, .string t.o.d, .string t.o.p, .string t.o.s, .string t.o.t, .slice none 0 0, .slice a1 t.l.length c1, .int .i64 t.k, .string t.p, .string t.s, .int .i64 t.o.k, .string t.o.n, .string t.o.d, .string t.o.p, .string t.o.s, .string t.o.t, .slice none 0 0, .slice a1 t.l.length c1], rowMeta 11) := by rw [hE2.row _ (by first | omega | (simp only [next_more, next_put] at *; omega))]; simp only [c_seq, RUNA, RUNB, zAd, zMo, zDi, zSu, zMu, zEq, zBe, zLe, zTo, fillS, wantG, vBox, Value.cells, one, putAt]
   have e2 : EX τ σ2 := by refine EX.trans ?_ hE2; repeat first | assumption | exact EXn.refl _ _ | refine EXn.more ?_ _ | refine EXn.put ?_ (by omega) _ | refine EX.trans ?_ (by assumption)
   have hb3 : ∀ id, vBuildS Tryz.prog 32 3 #[(0, .agg #[.int .i64 t.k, .string t.p, .string t.s, .int .i64 t.o.k, .string t.o.n, .string t.o.d, .string t.o.p, .string t.o.s, .string t.o.t, .slice none 0 0, .slice a1 t.l.length c1]), (1, .agg #[.int .i64 3, .string lsp, .string nEq, .int .i64 0, .string ⟨#[]⟩, .string ⟨#[]⟩, .string ⟨#[]⟩, .string ⟨#[]⟩, .string ⟨#[]⟩, .slice none 0 0, .slice (some ⟨τ.next + 6, 0, none⟩) 2 2]), (2, .agg #[.int .i64 t.k, .string t.p, .string t.s, .int .i64 t.o.k, .string t.o.n, .string t.o.d, .string t.o.p, .string t.o.s, .string t.o.t, .slice none 0 0, .slice a1 t.l.length c1])] id = some (.slice (some ⟨id, 0, none⟩) 3 3, .cells [.int .i64 t.k, .string t.p, .string t.s, .int .i64 t.o.k, .string t.o.n, .string t.o.d, .string t.o.p, .string t.o.s, .string t.o.t, .slice none 0 0, .slice a1 t.l.length c1, .int .i64 3, .string lsp, .string nEq, .int .i64 0, .string ⟨#[]⟩, .string ⟨#[]⟩, .string ⟨#[]⟩, .string ⟨#[]⟩, .string ⟨#[]⟩, .slice none 0 0, .slice (some ⟨τ.next + 6, 0, none⟩) 2 2, .int .i64 t.k, .string t.p, .string t.s, .int .i64 t.o.k, .string t.o.n, .string t.o.d, .string t.o.p, .string t.o.s, .string t.o.t, .slice none 0 0, .slice a1 t.l.length c1] (rowMeta 11)) := fun id => bsT3 id t a1 _ c1 (.mk 3 lsp nEq ob0 [t, t]) (some ⟨τ.next + 6, 0, none⟩) 2 2 t a1 _ c1
   simp only [YRUNA, YRUNB, zSh, bit, c_seq, RUNA, RUNB, zAd, zMo, zDi, zSu, zMu, zEq, zBe, zLe, zTo, fillS, wantG, vBox, Value.cells, one, putAt, TYA, s8, rx2, hb3, hx]
   refine wpc_mono (L_spec _ nIf _ _ _) ?_
   rintro r σ3 ⟨rfl, hE3⟩
   have n3 := hE3.next
   try simp only [next_more, next_put] at n3
   have ru3 : σ3.row (τ.next + 6) = some ([.int .i64 t.k, .string t.p, .string t.s, .int .i64 t.o.k, .string t.o.n, .string t.o.d, .string t.o.p, .string t.o.s, .string t.o.t, .slice none 0 0, .slice a1 t.l.length c1, .int .i64 t.k, .string t.p, .string t.s, .int .i64 t.o.k, .string t.o.n, .string t.o.d, .string t.o.p, .string t.o.s, .string t.o.t, .slice none 0 0, .slice a1 t.l.length c1], rowMeta 11) := by rw [hE3.row _ (by first | omega | (simp only [next_more, next_put] at *; omega)), row_put_ne (by omega)]; exact ru2
   have rw3 : σ3.row (τ.next + 9) = some ([.int .i64 t.k, .string t.p, .string t.s, .int .i64 t.o.k, .string t.o.n, .string t.o.d, .string t.o.p, .string t.o.s, .string t.o.t, .slice none 0 0, .slice a1 t.l.length c1, .int .i64 3, .string lsp, .string nEq, .int .i64 0, .string ⟨#[]⟩, .string ⟨#[]⟩, .string ⟨#[]⟩, .string ⟨#[]⟩, .string ⟨#[]⟩, .slice none 0 0, .slice (some ⟨τ.next + 6, 0, none⟩) 2 2, .int .i64 t.k, .string t.p, .string t.s, .int .i64 t.o.k, .string t.o.n, .string t.o.d, .string t.o.p, .string t.o.s, .string t.o.t, .slice none 0 0, .slice a1 t.l.length c1], rowMeta 11) := by rw [hE3.row _ (by first | omega | (simp only [next_more, next_put] at *; omega))]; simp only [c_seq, RUNA, RUNB, zAd, zMo, zDi, zSu, zMu, zEq, zBe, zLe, zTo, fillS, wantG, vBox, Value.cells, one, putAt]
   have e3 : EX τ σ3 := by refine EX.trans ?_ hE3; repeat first | assumption | exact EXn.refl _ _ | refine EXn.more ?_ _ | refine EXn.put ?_ (by omega) _ | refine EX.trans ?_ (by assumption)
   have hT3 : TVb (x + 1) σ3 (.agg #[.int .i64 t.k, .string t.p, .string t.s, .int .i64 t.o.k, .string t.o.n, .string t.o.d, .string t.o.p, .string t.o.s, .string t.o.t, .slice none 0 0, .slice a1 t.l.length c1]) t := hT.ex e3
   have hU3 : TVb (x + 1) σ3 (.agg #[.int .i64 3, .string lsp, .string nEq, .int .i64 0, .string ⟨#[]⟩, .string ⟨#[]⟩, .string ⟨#[]⟩, .string ⟨#[]⟩, .string ⟨#[]⟩, .slice none 0 0, .slice (some ⟨τ.next + 6, 0, none⟩) 2 2]) (.mk 3 lsp nEq ob0 [t, t]) := TVb.app (l := [t, t]) lsp nEq (by omega) (by omega) ru3 (TLb.cons (TVb.tc hT3) (TLb.one (TVb.tc hT3)))
   have hW3 : TVb (x + 1) σ3 (appV lsp nIf (some ⟨τ.next + 9, 0, none⟩) 3 3) (.mk 3 lsp nIf ob0 [t, .mk 3 lsp nEq ob0 [t, t], t]) := TVb.app (l := [t, .mk 3 lsp nEq ob0 [t, t], t]) lsp nIf (by omega) (by omega) rw3 (TLb.cons (TVb.tc hT3) (TLb.cons (TVb.tc hU3) (TLb.one (TVb.tc hT3))))
   have hS3 : Src b σ3 cs := hS.mono e3
   have q3 : σ3.row 4 = some (u8s vs, rdMeta 1) := (e3.row 4 (by omega)).trans r4
   have f3 := e3.fr hFt
   have h4 : ¬ 4 = x := by omega
   have rx3 : σ3.row x = some ([.int .i64 t.k, .string t.p, .string t.s, .int .i64 t.o.k, .string t.o.n, .string t.o.d, .string t.o.p, .string t.o.s, .string t.o.t, .slice none 0 0, .slice a1 t.l.length c1], boxMeta) := by rw [hE3.row x (by first | omega | (simp only [next_more, next_put] at *; omega)), row_put_ne (by omega)]; exact rx2
   simp only [YRUNA, YRUNB, zSh, bit, c_seq, RUNA, RUNB, zAd, zMo, zDi, zSu, zMu, zEq, zBe, zLe, zTo, fillS, wantG, vBox, Value.cells, one, putAt, TYA, s8, rx3]
   refine ⟨by simp only [c_seq, RUNA, RUNB, zAd, zMo, zDi, zSu, zMu, zEq, zBe, zLe, zTo, fillS, wantG, vBox, Value.cells, one, putAt, s1], by simp only [c_seq, RUNA, RUNB, zAd, zMo, zDi, zSu, zMu, zEq, zBe, zLe, zTo, fillS, wantG, vBox, Value.cells, one, putAt, s2], by simp only [c_seq, RUNA, RUNB, zAd, zMo, zDi, zSu, zMu, zEq, zBe, zLe, zTo, fillS, wantG, vBox, Value.cells, one, putAt, s7], by simp only [c_seq, RUNA, RUNB, zAd, zMo, zDi, zSu, zMu, zEq, zBe, zLe, zTo, fillS, wantG, vBox, Value.cells, one, putAt, s8], by repeat first | assumption | refine Fr.more ?_ _ | refine Fr.put ?_ _ _, hS3.un (by first | omega | (simp only [next_more, next_put] at *; omega)) (by repeat first | assumption | exact UN.refl _ _ _ | refine UN.more ?_ _ | refine UN.put ?_ (by omega) _ | refine UN.ex (by assumption) ?_ (by first | omega | (simp only [next_more, next_put]; omega)) | refine UN.exb (by assumption) ?_ (by first | omega | (simp only [next_more, next_put]; omega)) (by omega)), ?_, b4, bx, by first | omega | (simp only [next_more, next_put] at *; omega), .mk 3 lsp nIf ob0 [t, .mk 3 lsp nEq ob0 [t, t], t], some ⟨τ.next + 9, 0, none⟩, 3, ⟨.inr (.inr rfl), ok_ob0, by simp, ht, ⟨.inr (.inr rfl), ok_ob0, by simp, ht, ht, trivial⟩, ht, trivial⟩, ?_, ?_⟩
   ·simp only [c_seq, RUNA, RUNB, zAd, zMo, zDi, zSu, zMu, zEq, zBe, zLe, zTo, fillS, wantG, vBox, Value.cells, one, putAt, h4, q3]
   ·simp only [c_seq, RUNA, RUNB, zAd, zMo, zDi, zSu, zMu, zEq, zBe, zLe, zTo, fillS, wantG, vBox, Value.cells, one, putAt]; rfl
   ·refine hW3.un (by first | omega | (simp only [next_more, next_put] at *; omega)) ?_
    repeat first | assumption | exact UN.refl _ _ _ | refine UN.more ?_ _ | refine UN.put ?_ (by omega) _ | refine UN.ex (by assumption) ?_ (by first | omega | (simp only [next_more, next_put]; omega)) | refine UN.exb (by assumption) ?_ (by first | omega | (simp only [next_more, next_put]; omega)) (by omega)
 clear hT hS1 hE1 f1 q4 n1 hF r3 r4 hb hx hn7 w3 w4
 rintro S τ ⟨s1, s2, s7, s8, hFt, hS, r4, b4, bx, xn, t, a1, c1, ht, rx, hT⟩
 have vrow : ∀ σ : St, σ.row 4 = some (u8s vs, rdMeta 1) → 4 < σ.next → 0 < vs.length → ∃ id off row m, vo = some ⟨id, off, none⟩ ∧ id < σ.next ∧ σ.row id = some (row, m) ∧ (row.drop off).take vs.length = u8s vs := fun σ h1 h2 h3 => ⟨4, 0, u8s vs, rdMeta 1, hv1 h3, h2, h1, by rw [List.drop_zero, List.take_of_length_le (by simp [u8s])]⟩
 refine wpx_seq ?_
 simp only [RUNA, RUNB, zAd, zMo, zDi, zSu, zMu, zEq, zBe, zLe, zTo, fillS, wantG, vBox, Value.cells, one, putAt, TYA, s1]
 refine wpc_mono (variables_spec hv (by omega) (vrow _ r4 (by first | omega | (simp only [next_more, next_put] at *; omega))) (by repeat first | assumption | refine Fr.more ?_ _ | refine Fr.put ?_ _ _)) ?_
 rintro r σ2 ⟨⟨l, hl, hL⟩, hE2⟩
 have n2 := hE2.next
 try simp only [next_more, next_put] at n2
 have e2 : EX τ σ2 := by refine EX.trans ?_ hE2; repeat first | assumption | exact EXn.refl _ _ | refine EXn.more ?_ _ | refine EXn.put ?_ (by omega) _ | refine EX.trans ?_ (by assumption)
 simp only [RUNA, RUNB, zAd, zMo, zDi, zSu, zMu, zEq, zBe, zLe, zTo, fillS, wantG, vBox, Value.cells, one, putAt, TYA]
 refine seq_cut (VJ b x cs) ?_ ?_
 ·by_cases g3 : 64 ≤ n
  ·have d3 : decide ((64 : Int) ≤ (n : Int)) = true := by simp; omega
   have f2 := e2.fr hFt
   simp only [c_seq, RUNA, RUNB, zAd, zMo, zDi, zSu, zMu, zEq, zBe, zLe, zTo, fillS, wantG, vBox, Value.cells, one, putAt, TYA, s2, d3, bs6]
   refine wpc_mono (variables_spec (cs := [3, 1, 4, 0, 5, 2]) (by decide) (by decide) (fun _ => ⟨_, 0, u8s [3, 1, 4, 0, 5, 2], rowMeta 1, rfl, by first | omega | (simp only [next_more, next_put] at *; omega), by simp only [c_seq, RUNA, RUNB, zAd, zMo, zDi, zSu, zMu, zEq, zBe, zLe, zTo, fillS, wantG, vBox, Value.cells, one, putAt], rfl⟩) (by repeat first | assumption | refine Fr.more ?_ _ | refine Fr.put ?_ _ _)) ?_
   rintro r σ3 ⟨⟨l3, hl3, hL3⟩, hE3⟩
   have n3 := hE3.next
   try simp only [next_more, next_put] at n3
   have e3 : EX τ σ3 := by refine EX.trans ?_ hE3; repeat first | assumption | exact EXn.refl _ _ | refine EXn.more ?_ _ | refine EXn.put ?_ (by omega) _ | refine EX.trans ?_ (by assumption)
   have f3 := e3.fr hFt
   simp only [c_seq, RUNA, RUNB, zAd, zMo, zDi, zSu, zMu, zEq, zBe, zLe, zTo, fillS, wantG, vBox, Value.cells, one, putAt, TYA]
   refine ⟨by simp only [c_seq, RUNA, RUNB, zAd, zMo, zDi, zSu, zMu, zEq, zBe, zLe, zTo, fillS, wantG, vBox, Value.cells, one, putAt, s7], by simp only [c_seq, RUNA, RUNB, zAd, zMo, zDi, zSu, zMu, zEq, zBe, zLe, zTo, fillS, wantG, vBox, Value.cells, one, putAt, s8], ⟨l3, _, rfl, ?_, by simp [hl3]⟩, by repeat first | assumption | refine Fr.more ?_ _ | refine Fr.put ?_ _ _, ?_, bx, by first | omega | (simp only [next_more, next_put] at *; omega), t, a1, c1, ht, ?_, ?_⟩
   ·try simp only [c_seq, RUNA, RUNB, zAd, zMo, zDi, zSu, zMu, zEq, zBe, zLe, zTo, fillS, wantG, vBox, Value.cells, one, putAt]
    refine hL3.mono ?_
    repeat first | assumption | exact EXn.refl _ _ | refine EXn.more ?_ _ | refine EXn.put ?_ (by omega) _ | refine EX.trans ?_ (by assumption)
   ·refine hS.mono ?_
    repeat first | assumption | exact EXn.refl _ _ | refine EXn.more ?_ _ | refine EXn.put ?_ (by omega) _ | refine EX.trans ?_ (by assumption)
   ·try simp only [c_seq, RUNA, RUNB, zAd, zMo, zDi, zSu, zMu, zEq, zBe, zLe, zTo, fillS, wantG, vBox, Value.cells, one, putAt]
    exact (e3.row x xn).trans rx
   ·refine hT.ex ?_
    repeat first | assumption | exact EXn.refl _ _ | refine EXn.more ?_ _ | refine EXn.put ?_ (by omega) _ | refine EX.trans ?_ (by assumption)
  ·have d3 : decide ((64 : Int) ≤ (n : Int)) = false := by simp; omega
   have f2 := e2.fr hFt
   simp only [c_seq, RUNA, RUNB, zAd, zMo, zDi, zSu, zMu, zEq, zBe, zLe, zTo, fillS, wantG, vBox, Value.cells, one, putAt, TYA, s2, d3]
   refine ⟨by simp only [c_seq, RUNA, RUNB, zAd, zMo, zDi, zSu, zMu, zEq, zBe, zLe, zTo, fillS, wantG, vBox, Value.cells, one, putAt, s7], by simp only [c_seq, RUNA, RUNB, zAd, zMo, zDi, zSu, zMu, zEq, zBe, zLe, zTo, fillS, wantG, vBox, Value.cells, one, putAt, s8], ⟨l, _, rfl, ?_, by omega⟩, by repeat first | assumption | refine Fr.more ?_ _ | refine Fr.put ?_ _ _, ?_, bx, by first | omega | (simp only [next_more, next_put] at *; omega), t, a1, c1, ht, ?_, ?_⟩
   ·try simp only [c_seq, RUNA, RUNB, zAd, zMo, zDi, zSu, zMu, zEq, zBe, zLe, zTo, fillS, wantG, vBox, Value.cells, one, putAt]
    refine hL.mono ?_
    repeat first | assumption | exact EXn.refl _ _ | refine EXn.more ?_ _ | refine EXn.put ?_ (by omega) _ | refine EX.trans ?_ (by assumption)
   ·refine hS.mono ?_
    repeat first | assumption | exact EXn.refl _ _ | refine EXn.more ?_ _ | refine EXn.put ?_ (by omega) _ | refine EX.trans ?_ (by assumption)
   ·try simp only [c_seq, RUNA, RUNB, zAd, zMo, zDi, zSu, zMu, zEq, zBe, zLe, zTo, fillS, wantG, vBox, Value.cells, one, putAt]
    exact (e2.row x xn).trans rx
   ·refine hT.ex ?_
    repeat first | assumption | exact EXn.refl _ _ | refine EXn.more ?_ _ | refine EXn.put ?_ (by omega) _ | refine EX.trans ?_ (by assumption)
 clear hT rx ht hL hE2 n2 e2 s1 s2 s7 s8 hFt hS r4 b4 bx xn
 rintro S τ ⟨s7, s8, ⟨l, lv, s9, hL, hl⟩, hFt, hS, bx, xn, t, a1, c1, ht, rx, hT⟩
 refine wpx_seq ?_
 simp only [RUNA, RUNB, zAd, zMo, zDi, zSu, zMu, zEq, zBe, zLe, zTo, fillS, wantG, vBox, Value.cells, one, putAt, TYA, s7, s8, s9, rx]
 refine wpc_mono (Of_spec ht ((hT.ex ?_).tv) (hL.mono ?_) (by omega) (by repeat first | assumption | refine Fr.more ?_ _ | refine Fr.put ?_ _ _)) ?_
 ·repeat first | assumption | exact EXn.refl _ _ | refine EXn.more ?_ _ | refine EXn.put ?_ (by omega) _ | refine EX.trans ?_ (by assumption)
 ·repeat first | assumption | exact EXn.refl _ _ | refine EXn.more ?_ _ | refine EXn.put ?_ (by omega) _ | refine EX.trans ?_ (by assumption)
 rintro r σ2 ⟨d, rfl, hD1, hD2, hE2⟩
 have n2 := hE2.next
 try simp only [next_more, next_put] at n2
 try simp only [next_more, next_put] at hD1
 have e2 : EX τ σ2 := by refine EX.trans ?_ hE2; repeat first | assumption | exact EXn.refl _ _ | refine EXn.more ?_ _ | refine EXn.put ?_ (by omega) _ | refine EX.trans ?_ (by assumption)
 have f2 := e2.fr hFt
 obtain ⟨o, k, c, i, rfl⟩ : ∃ o k c i, d = .agg #[.slice o k c, .int .i64 i] := by
  by_cases h : eOf l t = 0
  ·exact (hD1 h).open
  ·exact ⟨none, 0, 0, 0, hD2 h⟩
 have rx2 := (e2.row x xn).trans rx
 obtain ⟨e, he⟩ : ∃ e, e = eOf l t := ⟨_, rfl⟩
 rw [← he]
 simp only [RUNA, RUNB, zAd, zMo, zDi, zSu, zMu, zEq, zBe, zLe, zTo, fillS, wantG, vBox, Value.cells, one, putAt, TYA]
 refine gen_go (fun S τ' => S.at 7 = .pointer (some ⟨b, 0, none⟩) ∧ S.at 8 = .pointer (some ⟨x, 0, none⟩) ∧ S.at 9 = lv ∧ S.at 10 = .pointer (some ⟨τ.next + 6, 0, none⟩) ∧ S.at 11 = .int .i64 e ∧ EX τ τ' ∧ Fr τ' ∧ τ.next + 6 < τ'.next ∧ τ'.row (τ.next + 6) = some ([.slice o k c, .int .i64 i], boxMeta) ∧ (eOf l t = 0 → IsD 0 τ'.next τ' (.agg #[.slice o k c, .int .i64 i]) (fun f => trT l f t))) ?_ ?_
 ·refine ⟨by simp only [c_seq, RUNA, RUNB, zAd, zMo, zDi, zSu, zMu, zEq, zBe, zLe, zTo, fillS, wantG, vBox, Value.cells, one, putAt, s7], by simp only [c_seq, RUNA, RUNB, zAd, zMo, zDi, zSu, zMu, zEq, zBe, zLe, zTo, fillS, wantG, vBox, Value.cells, one, putAt, s8], by simp only [c_seq, RUNA, RUNB, zAd, zMo, zDi, zSu, zMu, zEq, zBe, zLe, zTo, fillS, wantG, vBox, Value.cells, one, putAt, s9], by simp only [c_seq, RUNA, RUNB, zAd, zMo, zDi, zSu, zMu, zEq, zBe, zLe, zTo, fillS, wantG, vBox, Value.cells, one, putAt], by simp only [c_seq, RUNA, RUNB, zAd, zMo, zDi, zSu, zMu, zEq, zBe, zLe, zTo, fillS, wantG, vBox, Value.cells, one, putAt], ?_, by repeat first | assumption | refine Fr.more ?_ _ | refine Fr.put ?_ _ _, by first | omega | (simp only [next_more, next_put] at *; omega), by simp only [c_seq, RUNA, RUNB, zAd, zMo, zDi, zSu, zMu, zEq, zBe, zLe, zTo, fillS, wantG, vBox, Value.cells, one, putAt], fun h => ?_⟩
  ·repeat first | assumption | exact EXn.refl _ _ | refine EXn.more ?_ _ | refine EXn.put ?_ (by omega) _ | refine EX.trans ?_ (by assumption)
  ·refine IsD.weak (IsD.hi ((hD1 h).un ?_) (by first | omega | (simp only [next_more, next_put] at *; omega))) (Nat.zero_le _)
   repeat first | assumption | exact UN.refl _ _ _ | refine UN.more ?_ _ | refine UN.put ?_ (by omega) _ | refine UN.ex (by assumption) ?_ (by first | omega | (simp only [next_more, next_put]; omega)) | refine UN.exb (by assumption) ?_ (by first | omega | (simp only [next_more, next_put]; omega)) (by omega)
 clear hD1 hE2 n2 e2 f2 rx2 s7 s8 s9
 obtain ⟨y, hy⟩ : ∃ y, y = τ.next + 6 := ⟨_, rfl⟩
 rw [← hy]
 rintro S τ2 ⟨s7, s8, s9, s10, s11, e2, f2, y2, ry2, hD1⟩
 have n2 := e2.next
 have rx2 := (e2.row x xn).trans rx
 refine wpx_seq ?_
 simp only [RUNA, RUNB, zAd, zMo, zDi, zSu, zMu, zEq, zBe, zLe, zTo, fillS, wantG, vBox, Value.cells, one, putAt, TYA, s7, s8, s9, rx2]
 refine wpc_mono (refOf_spec ht ((hT.ex ?_).tv) (hL.mono ?_) (by omega) (by repeat first | assumption | refine Fr.more ?_ _ | refine Fr.put ?_ _ _)) ?_
 ·repeat first | assumption | exact EXn.refl _ _ | refine EXn.more ?_ _ | refine EXn.put ?_ (by omega) _ | refine EX.trans ?_ (by assumption)
 ·repeat first | assumption | exact EXn.refl _ _ | refine EXn.more ?_ _ | refine EXn.put ?_ (by omega) _ | refine EX.trans ?_ (by assumption)
 rintro r σ3 ⟨d', rfl, hD3, hD4, hE3⟩
 have n3 := hE3.next
 try simp only [next_more, next_put] at n3
 try simp only [next_more, next_put] at hD3
 have e3 : EX τ2 σ3 := by refine EX.trans ?_ hE3; repeat first | assumption | exact EXn.refl _ _ | refine EXn.more ?_ _ | refine EXn.put ?_ (by omega) _ | refine EX.trans ?_ (by assumption)
 have f3 := e3.fr f2
 obtain ⟨o', k', c', i', rfl⟩ : ∃ o k c i, d' = .agg #[.slice o k c, .int .i64 i] := by
  by_cases h : eOf l t = 0
  ·exact (hD3 h).open
  ·exact ⟨none, 0, 0, 0, hD4 h⟩
 have ry3 := (e3.row y y2).trans ry2
 rw [← he]
 simp only [RUNA, RUNB, zAd, zMo, zDi, zSu, zMu, zEq, zBe, zLe, zTo, fillS, wantG, vBox, Value.cells, one, putAt, TYA]
 refine gen_go (fun S τ' => S.at 7 = .pointer (some ⟨b, 0, none⟩) ∧ S.at 9 = lv ∧ S.at 10 = .pointer (some ⟨y, 0, none⟩) ∧ S.at 11 = .int .i64 e ∧ S.at 12 = .pointer (some ⟨τ2.next + 6, 0, none⟩) ∧ S.at 13 = .int .i64 e ∧ EX τ2 τ' ∧ Fr τ' ∧ τ2.next + 6 < τ'.next ∧ τ'.row (τ2.next + 6) = some ([.slice o' k' c', .int .i64 i'], boxMeta) ∧ (eOf l t = 0 → IsD 0 τ'.next τ' (.agg #[.slice o' k' c', .int .i64 i']) (fun f => trT l f t))) ?_ ?_
 ·refine ⟨by simp only [c_seq, RUNA, RUNB, zAd, zMo, zDi, zSu, zMu, zEq, zBe, zLe, zTo, fillS, wantG, vBox, Value.cells, one, putAt, s7], by simp only [c_seq, RUNA, RUNB, zAd, zMo, zDi, zSu, zMu, zEq, zBe, zLe, zTo, fillS, wantG, vBox, Value.cells, one, putAt, s9], by simp only [c_seq, RUNA, RUNB, zAd, zMo, zDi, zSu, zMu, zEq, zBe, zLe, zTo, fillS, wantG, vBox, Value.cells, one, putAt, s10], by simp only [c_seq, RUNA, RUNB, zAd, zMo, zDi, zSu, zMu, zEq, zBe, zLe, zTo, fillS, wantG, vBox, Value.cells, one, putAt, s11], by simp only [c_seq, RUNA, RUNB, zAd, zMo, zDi, zSu, zMu, zEq, zBe, zLe, zTo, fillS, wantG, vBox, Value.cells, one, putAt], by simp only [c_seq, RUNA, RUNB, zAd, zMo, zDi, zSu, zMu, zEq, zBe, zLe, zTo, fillS, wantG, vBox, Value.cells, one, putAt], ?_, by repeat first | assumption | refine Fr.more ?_ _ | refine Fr.put ?_ _ _, by first | omega | (simp only [next_more, next_put] at *; omega), by simp only [c_seq, RUNA, RUNB, zAd, zMo, zDi, zSu, zMu, zEq, zBe, zLe, zTo, fillS, wantG, vBox, Value.cells, one, putAt], fun h => ?_⟩
  ·repeat first | assumption | exact EXn.refl _ _ | refine EXn.more ?_ _ | refine EXn.put ?_ (by omega) _ | refine EX.trans ?_ (by assumption)
  ·refine IsD.weak (IsD.hi ((hD3 h).un ?_) (by first | omega | (simp only [next_more, next_put] at *; omega))) (Nat.zero_le _)
   repeat first | assumption | exact UN.refl _ _ _ | refine UN.more ?_ _ | refine UN.put ?_ (by omega) _ | refine UN.ex (by assumption) ?_ (by first | omega | (simp only [next_more, next_put]; omega)) | refine UN.exb (by assumption) ?_ (by first | omega | (simp only [next_more, next_put]; omega)) (by omega)
 clear hD3 hE3 n3 e3 f3 ry3 s7 s8 s9 s10 s11 n2 rx2
 obtain ⟨z, hz⟩ : ∃ z, z = τ2.next + 6 := ⟨_, rfl⟩
 rw [← hz]
 rintro S τ3 ⟨s7, s9, s10, s11, s12, s13, e3, f3, z3, rz3, hD3⟩
 have n3 := e3.next
 have n2 := e2.next
 have ry3 := (e3.row y y2).trans ry2
 have hee : (e != e) = false := by simp
 simp only [c_seq, RUNA, RUNB, zAd, zMo, zDi, zSu, zMu, zEq, zBe, zLe, zTo, fillS, wantG, vBox, Value.cells, one, putAt, TYA, s11, s13, s10, s12, hee, ry3, rz3]
 refine wpc_mono (sames (vs := l) (t := t) (fun h => ((hD1 h).mono ?_)) hD2 (fun h => ((hD3 h).mono ?_)) hD4) ?_
 ·repeat first | assumption | exact EXn.refl _ _ | refine EXn.more ?_ _ | refine EXn.put ?_ (by omega) _ | refine EX.trans ?_ (by assumption)
 ·repeat first | assumption | exact EXn.refl _ _ | refine EXn.more ?_ _ | refine EXn.put ?_ (by omega) _ | refine EX.trans ?_ (by assumption)
 rintro r σ4 ⟨rfl, hE4⟩
 have n4 := hE4.next
 try simp only [next_more, next_put] at n4
 have e4 : EX τ3 σ4 := by refine EX.trans ?_ hE4; repeat first | assumption | exact EXn.refl _ _ | refine EXn.more ?_ _ | refine EXn.put ?_ (by omega) _ | refine EX.trans ?_ (by assumption)
 have f4 := e4.fr f3
 simp only [c_seq, RUNA, RUNB, zAd, zMo, zDi, zSu, zMu, zEq, zBe, zLe, zTo, fillS, wantG, vBox, Value.cells, one, putAt, TYA, s7]
 have e14 : EX τ σ4 := EX.trans e2 (EX.trans e3 e4)
 have hS4 := hS.mono e14
 have hL4 := hL.mono e14
 obtain ⟨so, sc, sp, sb, -⟩ := id hS4
 refine wpc_mono (diagram_spec hc (by omega) 2 (by omega) _ (hS4.mono ?_) (by repeat first | assumption | refine Fr.more ?_ _ | refine Fr.put ?_ _ _)) ?_
 ·repeat first | assumption | exact EXn.refl _ _ | refine EXn.more ?_ _ | refine EXn.put ?_ (by omega) _ | refine EX.trans ?_ (by assumption)
 rintro r σ5 ⟨⟨φ, hD5⟩, hS5, hE5, f5⟩
 have n5 := hE5.next
 try simp only [next_more, next_put] at n5
 try simp only [next_more, next_put] at hD5
 obtain ⟨o5, k5, c5, i5, rfl⟩ := hD5.open
 simp only [RUNA, RUNB, zAd, zMo, zDi, zSu, zMu, zEq, zBe, zLe, zTo, fillS, wantG, vBox, Value.cells, one, putAt, TYA]
 refine gen_go (fun S τ' => S.at 9 = lv ∧ S.at 14 = .pointer (some ⟨σ4.next + 2, 0, none⟩) ∧ Fr τ' ∧ σ4.next + 2 < τ'.next ∧ τ'.row (σ4.next + 2) = some ([.slice o5 k5 c5, .int .i64 i5], boxMeta) ∧ YL τ' lv l ∧ IsD 0 τ'.next τ' (.agg #[.slice o5 k5 c5, .int .i64 i5]) φ) ?_ ?_
 ·refine ⟨by simp only [c_seq, RUNA, RUNB, zAd, zMo, zDi, zSu, zMu, zEq, zBe, zLe, zTo, fillS, wantG, vBox, Value.cells, one, putAt, s9], by simp only [c_seq, RUNA, RUNB, zAd, zMo, zDi, zSu, zMu, zEq, zBe, zLe, zTo, fillS, wantG, vBox, Value.cells, one, putAt], by repeat first | assumption | refine Fr.more ?_ _ | refine Fr.put ?_ _ _, by first | omega | (simp only [next_more, next_put] at *; omega), by simp only [c_seq, RUNA, RUNB, zAd, zMo, zDi, zSu, zMu, zEq, zBe, zLe, zTo, fillS, wantG, vBox, Value.cells, one, putAt], hL4.exb (b := b) ?_ sb (fun s h => by cases h) (fun s h => by cases h), ?_⟩
  ·repeat first | assumption | exact EXb.refl _ _ | refine EXb.more ?_ _ | refine EXb.put ?_ (by omega) _ | refine EXb.trans ?_ (by assumption) | refine EXb.thn ?_ (by assumption)
  ·refine IsD.weak (IsD.hi (hD5.un ?_) (by first | omega | (simp only [next_more, next_put] at *; omega))) (Nat.zero_le _)
   repeat first | assumption | exact UN.refl _ _ _ | refine UN.more ?_ _ | refine UN.put ?_ (by omega) _ | refine UN.ex (by assumption) ?_ (by first | omega | (simp only [next_more, next_put]; omega)) | refine UN.exb (by assumption) ?_ (by first | omega | (simp only [next_more, next_put]; omega)) (by omega)
 obtain ⟨q, hq⟩ : ∃ q, q = σ4.next + 2 := ⟨_, rfl⟩
 rw [← hq]
 clear hD5 hE5 f5 n5 hS5 hL4 hS4 sb e14 e4 f4 n4 hE4 hD3 hD1 s7 s9 s10 s11 s12 s13 hq
 rintro S τ ⟨s9, s14, hFt, q1, rq, hL, ⟨A, hA, oA, -⟩⟩
 refine wpx_seq ?_
 simp only [RUNA, RUNB, zAd, zMo, zDi, zSu, zMu, zEq, zBe, zLe, zTo, fillS, wantG, vBox, Value.cells, one, putAt, TYA, s9, s14, rq]
 refine wpc_mono (Term_spec (hA.ex0 ?_) oA (hL.mono ?_) (by omega) (by repeat first | assumption | refine Fr.more ?_ _ | refine Fr.put ?_ _ _)) ?_
 ·repeat first | assumption | exact EXn.refl _ _ | refine EXn.more ?_ _ | refine EXn.put ?_ (by omega) _ | refine EX.trans ?_ (by assumption)
 ·repeat first | assumption | exact EXn.refl _ _ | refine EXn.more ?_ _ | refine EXn.put ?_ (by omega) _ | refine EX.trans ?_ (by assumption)
 rintro r σ2 ⟨d, rfl, hT, hE2⟩
 have n2 := hE2.next
 try simp only [next_more, next_put] at n2 hT
 have e2 : EX τ σ2 := by refine EX.trans ?_ hE2; repeat first | assumption | exact EXn.refl _ _ | refine EXn.more ?_ _ | refine EXn.put ?_ (by omega) _ | refine EX.trans ?_ (by assumption)
 have f2 := e2.fr hFt
 obtain ⟨a2, c2, rfl, -⟩ := hT.tv.al
 obtain ⟨e, he⟩ : ∃ e, e = eTm l A := ⟨_, rfl⟩
 obtain ⟨u, hu⟩ : ∃ u, u = tmT l A := ⟨_, rfl⟩
 rw [← he]
 rw [← hu] at hT ⊢
 have hok : okP u := by rw [hu]; exact okP_tm l A
 simp only [RUNA, RUNB, zAd, zMo, zDi, zSu, zMu, zEq, zBe, zLe, zTo, fillS, wantG, vBox, Value.cells, one, putAt, TYA]
 refine gen_go (fun S τ' => S.at 9 = lv ∧ S.at 14 = .pointer (some ⟨q, 0, none⟩) ∧ S.at 15 = .pointer (some ⟨τ.next + 6, 0, none⟩) ∧ S.at 16 = .int .i64 e ∧ EX τ τ' ∧ Fr τ' ∧ τ.next + 6 < τ'.next ∧ τ'.row (τ.next + 6) = some ([.int .i64 u.k, .string u.p, .string u.s, .int .i64 u.o.k, .string u.o.n, .string u.o.d, .string u.o.p, .string u.o.s, .string u.o.t, .slice none 0 0, .slice a2 u.l.length c2], boxMeta) ∧ TVb 0 τ' (.agg #[.int .i64 u.k, .string u.p, .string u.s, .int .i64 u.o.k, .string u.o.n, .string u.o.d, .string u.o.p, .string u.o.s, .string u.o.t, .slice none 0 0, .slice a2 u.l.length c2]) u) ?_ ?_
 ·refine ⟨by simp only [c_seq, RUNA, RUNB, zAd, zMo, zDi, zSu, zMu, zEq, zBe, zLe, zTo, fillS, wantG, vBox, Value.cells, one, putAt, s9], by simp only [c_seq, RUNA, RUNB, zAd, zMo, zDi, zSu, zMu, zEq, zBe, zLe, zTo, fillS, wantG, vBox, Value.cells, one, putAt, s14], by simp only [c_seq, RUNA, RUNB, zAd, zMo, zDi, zSu, zMu, zEq, zBe, zLe, zTo, fillS, wantG, vBox, Value.cells, one, putAt], by simp only [c_seq, RUNA, RUNB, zAd, zMo, zDi, zSu, zMu, zEq, zBe, zLe, zTo, fillS, wantG, vBox, Value.cells, one, putAt], ?_, by repeat first | assumption | refine Fr.more ?_ _ | refine Fr.put ?_ _ _, by first | omega | (simp only [next_more, next_put] at *; omega), by simp only [c_seq, RUNA, RUNB, zAd, zMo, zDi, zSu, zMu, zEq, zBe, zLe, zTo, fillS, wantG, vBox, Value.cells, one, putAt], ?_⟩
  ·repeat first | assumption | exact EXn.refl _ _ | refine EXn.more ?_ _ | refine EXn.put ?_ (by omega) _ | refine EX.trans ?_ (by assumption)
  ·refine (hT.un (by first | omega | (simp only [next_more, next_put] at *; omega)) ?_).weak (Nat.zero_le _)
   repeat first | assumption | exact UN.refl _ _ _ | refine UN.more ?_ _ | refine UN.put ?_ (by omega) _ | refine UN.ex (by assumption) ?_ (by first | omega | (simp only [next_more, next_put]; omega)) | refine UN.exb (by assumption) ?_ (by first | omega | (simp only [next_more, next_put]; omega)) (by omega)
 clear hT hE2 n2 e2 f2 s9 s14
 obtain ⟨y, hy⟩ : ∃ y, y = τ.next + 6 := ⟨_, rfl⟩
 rw [← hy]
 rintro S τ2 ⟨s9, s14, s15, s16, e2, f2, y2, ry2, hT⟩
 have n2 := e2.next
 have rq2 := (e2.row q q1).trans rq
 refine wpx_seq ?_
 simp only [RUNA, RUNB, zAd, zMo, zDi, zSu, zMu, zEq, zBe, zLe, zTo, fillS, wantG, vBox, Value.cells, one, putAt, TYA, s9, s14, rq2]
 refine wpc_mono (refTerm_spec (hA.ex0 ?_) oA (hL.mono ?_) (by omega) (by repeat first | assumption | refine Fr.more ?_ _ | refine Fr.put ?_ _ _)) ?_
 ·repeat first | assumption | exact EXn.refl _ _ | refine EXn.more ?_ _ | refine EXn.put ?_ (by omega) _ | refine EX.trans ?_ (by assumption)
 ·repeat first | assumption | exact EXn.refl _ _ | refine EXn.more ?_ _ | refine EXn.put ?_ (by omega) _ | refine EX.trans ?_ (by assumption)
 rintro r σ3 ⟨d, rfl, hU, hE3⟩
 have n3 := hE3.next
 try simp only [next_more, next_put] at n3 hU
 have e3 : EX τ2 σ3 := by refine EX.trans ?_ hE3; repeat first | assumption | exact EXn.refl _ _ | refine EXn.more ?_ _ | refine EXn.put ?_ (by omega) _ | refine EX.trans ?_ (by assumption)
 have f3 := e3.fr f2
 obtain ⟨a3, c3, rfl, -⟩ := hU.tv.al
 rw [← he]
 rw [← hu] at hU ⊢
 simp only [RUNA, RUNB, zAd, zMo, zDi, zSu, zMu, zEq, zBe, zLe, zTo, fillS, wantG, vBox, Value.cells, one, putAt, TYA]
 refine gen_go (fun S τ' => S.at 15 = .pointer (some ⟨y, 0, none⟩) ∧ S.at 16 = .int .i64 e ∧ S.at 17 = .pointer (some ⟨τ2.next + 6, 0, none⟩) ∧ S.at 18 = .int .i64 e ∧ EX τ2 τ' ∧ Fr τ' ∧ τ'.row (τ2.next + 6) = some ([.int .i64 u.k, .string u.p, .string u.s, .int .i64 u.o.k, .string u.o.n, .string u.o.d, .string u.o.p, .string u.o.s, .string u.o.t, .slice none 0 0, .slice a3 u.l.length c3], boxMeta) ∧ TVb 0 τ' (.agg #[.int .i64 u.k, .string u.p, .string u.s, .int .i64 u.o.k, .string u.o.n, .string u.o.d, .string u.o.p, .string u.o.s, .string u.o.t, .slice none 0 0, .slice a3 u.l.length c3]) u) ?_ ?_
 ·refine ⟨by simp only [c_seq, RUNA, RUNB, zAd, zMo, zDi, zSu, zMu, zEq, zBe, zLe, zTo, fillS, wantG, vBox, Value.cells, one, putAt, s15], by simp only [c_seq, RUNA, RUNB, zAd, zMo, zDi, zSu, zMu, zEq, zBe, zLe, zTo, fillS, wantG, vBox, Value.cells, one, putAt, s16], by simp only [c_seq, RUNA, RUNB, zAd, zMo, zDi, zSu, zMu, zEq, zBe, zLe, zTo, fillS, wantG, vBox, Value.cells, one, putAt], by simp only [c_seq, RUNA, RUNB, zAd, zMo, zDi, zSu, zMu, zEq, zBe, zLe, zTo, fillS, wantG, vBox, Value.cells, one, putAt], ?_, by repeat first | assumption | refine Fr.more ?_ _ | refine Fr.put ?_ _ _, by simp only [c_seq, RUNA, RUNB, zAd, zMo, zDi, zSu, zMu, zEq, zBe, zLe, zTo, fillS, wantG, vBox, Value.cells, one, putAt], ?_⟩
  ·repeat first | assumption | exact EXn.refl _ _ | refine EXn.more ?_ _ | refine EXn.put ?_ (by omega) _ | refine EX.trans ?_ (by assumption)
  ·refine (hU.un (by first | omega | (simp only [next_more, next_put] at *; omega)) ?_).weak (Nat.zero_le _)
   repeat first | assumption | exact UN.refl _ _ _ | refine UN.more ?_ _ | refine UN.put ?_ (by omega) _ | refine UN.ex (by assumption) ?_ (by first | omega | (simp only [next_more, next_put]; omega)) | refine UN.exb (by assumption) ?_ (by first | omega | (simp only [next_more, next_put]; omega)) (by omega)
 clear hU hE3 n3 e3 f3 s9 s14 s15 s16
 rintro S τ3 ⟨s15, s16, s17, s18, e3, f3, rz3, hU⟩
 have ry3 := (e3.row y y2).trans ry2
 have hee : (e == e) = true := by simp
 simp only [c_seq, RUNA, RUNB, zAd, zMo, zDi, zSu, zMu, zEq, zBe, zLe, zTo, fillS, wantG, vBox, Value.cells, one, putAt, TYA, s15, s16, s17, s18, hee, ry3, rz3]
 refine wpc_mono (eqT u hok _ _ _ ((hT.ex ?_).tv) ((hU.ex ?_).tv)) ?_
 ·repeat first | assumption | exact EXn.refl _ _ | refine EXn.more ?_ _ | refine EXn.put ?_ (by omega) _ | refine EX.trans ?_ (by assumption)
 ·repeat first | assumption | exact EXn.refl _ _ | refine EXn.more ?_ _ | refine EXn.put ?_ (by omega) _ | refine EX.trans ?_ (by assumption)
 rintro r σ4 ⟨rfl, hE4⟩
 simp only [c_seq, RUNA, RUNB, zAd, zMo, zDi, zSu, zMu, zEq, zBe, zLe, zTo, fillS, wantG, vBox, Value.cells, one, putAt, TYA, hr]
end Go.Proofs.Q
namespace Go.Proofs.Q
set_option linter.constructorNameAsVariable false
open Go.AI
set_option maxRecDepth 100000
structure RowOK (W : World) (p : AI.Place) (cs : List Value) (z : Nat) : Prop where
 row : ∃ C t fr, W.heap[p.b]? = some (Obj.cells C t fr) ∧ ∀ (i : Nat) (v : Value), cs[i]? = some v → C[p.o + i]? = some v
 pl : ∀ v ∈ cs, plain0 v = true
 z : p.z = z
def muG (p0 p1 : Option AI.Place) : Mp := fun id => if id = 3 then p0 else if id = 4 then p1 else if id < 3 then some ⟨id, 0, 0, 1⟩ else none
theorem stG_get (cs0 cs1 : List Value) (id : Nat) : (stG cs0 cs1).get id = if id = 4 then some (.cells cs1 (rdMeta 1)) else if id = 3 then some (.cells cs0 (rdMeta 1)) else none := by
 unfold stG
 rw [St.get_put, St.get_put]
 split
 ·rfl
 ·split
  ·rfl
  ·exact Tr.get_nil id
theorem sim_G {W : World} {p0 p1 : Option AI.Place} {cs0 cs1 : List Value} (h0 : ∀ p, p0 = some p → RowOK W p cs0 1) (h1 : ∀ p, p1 = some p → RowOK W p cs1 1) : Sim W Tryz.prog (muG p0 p1) (stG cs0 cs1) W := by
 have hg : Tryz.prog.globals.size = 3 := by kernel_rfl
 have key : ∀ id p cs m, muG p0 p1 id = some p → (stG cs0 cs1).get id = some (.cells cs m) → RowOK W p cs m.z ∧ m.wr = false ∧ m.tip = false ∧ m.grp = none := by
  intro id p cs m hm hget
  rw [stG_get] at hget
  unfold muG at hm
  split at hget
  ·rename_i e
   cases hget
   rw [if_neg (by omega), if_pos e] at hm
   exact ⟨h1 p hm, rfl, rfl, rfl⟩
  ·rename_i e
   split at hget
   ·rename_i e'
    cases hget
    rw [if_pos e'] at hm
    exact ⟨h0 p hm, rfl, rfl, rfl⟩
   ·cases hget
 have nomap : ∀ id es, (stG cs0 cs1).get id = some (.map es) → False := by
  intro id es hget
  rw [stG_get] at hget
  split at hget
  ·cases hget
  ·split at hget <;> cases hget
 exact {
  kept := Kept.refl W
  dom := fun id hid => by
   have : 5 ≤ id := hid
   unfold muG; rw [if_neg (by omega), if_neg (by omega), if_neg (by omega)]
  glob := fun g hg' => by
   rw [hg] at hg'
   exact ⟨⟨g, 0, 0, 1⟩, by unfold muG; rw [if_neg (by omega), if_neg (by omega), if_pos hg'], rfl, rfl⟩
  row := fun id p cs m hm hget _ => by
   obtain ⟨⟨⟨C, t, fr, r1, r2⟩, r3, r4⟩, k1, k2, k3⟩ := key id p cs m hm hget
   exact ⟨⟨C, t, fr, r1, fun i v hv => ⟨v, r2 i v hv, .same v (r3 v (List.mem_of_getElem? hv))⟩, (fun h => by rw [k2] at h; cases h)⟩, (fun h => by rw [k1] at h; cases h), (fun h => by rw [k2] at h; cases h), r4⟩
  map := fun id p es hm hget => (nomap id es hget).elim
  off := fun i j p q cs ds m n _ hm _ hget _ _ _ hw => by
   obtain ⟨_, k1, _⟩ := key i p cs m hm hget; rw [k1] at hw; cases hw
  tip := fun i j p q cs ds m n _ hm _ hget _ _ _ hw => by
   obtain ⟨_, _, k2, _⟩ := key i p cs m hm hget; rw [k2] at hw; cases hw
  maps := fun i j p q es fs _ _ _ hget => (nomap i es hget).elim
  vers := fun id cs m g v hget hgr => by
   rw [stG_get] at hget
   split at hget
   ·cases hget; cases hgr
   ·split at hget
    ·cases hget; cases hgr
    ·cases hget
  lim := fun i j p q cs ds m n _ hm _ hget _ _ _ hw => by
   obtain ⟨_, _, k2, _⟩ := key i p cs m hm hget; rw [k2] at hw; cases hw }
theorem arg_vr {W : World} {v : Value} {n z id : Nat} {cs : List Value} {μ : Mp} (hpl : ∀ x ∈ cs, plain0 x = true)
    (h : (v = .slice none 0 0 ∧ n = 0) ∨ ∃ a cap, v = .slice (some a) n cap ∧ n ≤ cap ∧ (0 < n → ∃ b off C t fr, a = ⟨b, off, none⟩ ∧ W.heap[b]? = some (Obj.cells C t fr) ∧ ∀ (i : Nat) (x : Value), cs[i]? = some x → C[off + i]? = some x)) :
    ∃ (p : Option AI.Place) (u : Value), (∀ q, p = some q → RowOK W q cs z) ∧ ArgS id n u ∧ (∀ μ : Mp, μ id = p → VR μ u v) := by
 rcases h with ⟨rfl, rfl⟩ | ⟨a, cap, rfl, hc, hrow⟩
 ·exact ⟨none, .slice none 0 0, fun q hq => (by cases hq), ⟨none, 0, rfl, fun h => by omega, fun _ => rfl⟩, fun μ _ => .same _ rfl⟩
 ·by_cases hn : 0 < n
  ·obtain ⟨b, off, C, t, fr, rfl, h1, h2⟩ := hrow hn
   refine ⟨some ⟨b, off, off + cap * z, z⟩, .slice (some ⟨id, 0, none⟩) n (n + 1), ?_, ⟨_, _, rfl, fun _ => rfl, fun h => by omega⟩, fun μ hμ => ?_⟩
   ·intro q hq; cases hq; exact ⟨⟨C, t, fr, h1, h2⟩, hpl, rfl⟩
   ·exact .slc id 0 n (n + 1) cap ⟨b, off, off + cap * z, z⟩ hμ (fun e => by omega) hc (Nat.le_refl _)
  ·obtain rfl : n = 0 := by omega
   exact ⟨none, .slice (some ⟨0, 0, some 0⟩) 0 0, fun q hq => (by cases hq), ⟨_, _, rfl, fun h => by omega, fun _ => rfl⟩, fun μ _ => .emp a cap⟩
theorem cell_heap {w : World} {a : Addr} {v : Value} (h : w.cell? a = some v) : ∃ C t fr, w.heap[a.block]? = some (Obj.cells C t fr) ∧ a.spot = none ∧ C[a.off]? = some v := by
 unfold World.cell? at h
 split at h
 ·rename_i C t fr hh
  split at h
  ·cases h
  ·rename_i hs; exact ⟨C, t, fr, hh, by simpa using hs, h⟩
 ·cases h
theorem cells_row {w : World} {a : Addr} {N : Nat} {V : Nat → Value} (hN : 0 < N) (h : ∀ i, i < N → w.cell? (a.add i) = some (V i)) :
    ∃ b off C t fr, a = ⟨b, off, none⟩ ∧ w.heap[b]? = some (Obj.cells C t fr) ∧ ∀ i, i < N → C[off + i]? = some (V i) := by
 obtain ⟨b, off, spot⟩ := a
 have hspot : spot = none := by simpa [Addr.add] using World.cell?_spot (h 0 hN)
 subst hspot
 obtain ⟨C, t, fr, h1, _, h3⟩ := cell_heap (h 0 hN)
 have e0 : (Addr.add ⟨b, off, none⟩ 0) = ⟨b, off, none⟩ := by rw [Go.WideShapes.add_plain]; rfl
 rw [e0] at h1 h3
 refine ⟨b, off, C, t, fr, rfl, h1, fun i hi => ?_⟩
 obtain ⟨C', t', fr', g1, _, g3⟩ := cell_heap (h i hi)
 rw [Go.WideShapes.add_plain] at g1 g3
 simp only at g1 g3 h1
 rw [h1] at g1
 cases g1
 exact g3
section
variable {H : Type} {enc : TypeId × Value → H} {w : World}
theorem open_u8s {b0 : Nat} {v : Value} {d : DataW H} {ps : List MemPlace} (hv : Value.okWide Tryz.prog w .any b0 22 v) (h : DataW.Trod enc Tryz.prog w 0 (fun _ => true) true 22 v d ps) :
    ∃ cs : List Nat, (∀ k ∈ cs, k < 256) ∧ ((v = .slice none 0 0 ∧ cs.length = 0) ∨ ∃ a cap, v = .slice (some a) cs.length cap ∧ cs.length ≤ cap ∧ (0 < cs.length → ∃ b off C t fr, a = ⟨b, off, none⟩ ∧ w.heap[b]? = some (Obj.cells C t fr) ∧ ∀ (i : Nat) (x : Value), (u8s cs)[i]? = some x → C[off + i]? = some x)) := by
 obtain ⟨fuel, hf⟩ := h
 obtain ⟨a0, len, cap, rfl⟩ := Go.WideShapes.okWide_slice Tryz.underlying22 hv
 rcases Go.ChangeShapes.open_ints Tryz.underlying22 Tryz.underlying5 (by kernel_rfl) hf with ⟨hcs, hx⟩ | ⟨a, len', cap', zs, hcs, _, hl, hm, hz, hx, hcell, hws⟩
 ·have : Value.slice a0 len cap = .slice none 0 0 := by simpa [Value.cells] using hcs
  exact ⟨[], (by simp), Or.inl ⟨this, rfl⟩⟩
 ·have hvv : Value.slice a0 len cap = .slice (some a) len' cap' := by simpa [Value.cells] using hcs
  rw [if_pos rfl] at hz
  have hb : ∀ n ∈ zs, 0 ≤ n ∧ n ≤ 255 := fun n hn => Go.bounds_u8 (hws n hn)
  refine ⟨(zs.take len').map Int.toNat, ?_, Or.inr ⟨a, cap', ?_, ?_, ?_⟩⟩
  ·intro k hk
   obtain ⟨n, hn, rfl⟩ := List.mem_map.1 hk
   have := hb n (List.mem_of_mem_take hn); omega
  ·rw [hvv]; simp; omega
  ·simp; omega
  ·intro h0
   simp only [List.length_map, List.length_take] at h0
   obtain ⟨b, off, C, t, fr, rfl, g1, g2⟩ := cells_row (V := fun i => .int .u8 (zs.getD i 0)) (N := zs.length) (by omega) hcell
   refine ⟨b, off, C, t, fr, rfl, g1, fun i x hx => ?_⟩
   simp only [u8s, List.map_map, List.getElem?_map, Option.map_eq_some_iff] at hx
   obtain ⟨y, hy, rfl⟩ := hx
   rw [List.getElem?_take] at hy
   split at hy
   ·have hi := (List.getElem?_eq_some_iff.1 hy).1
    rw [g2 i hi]
    have hyb := hb y (List.mem_of_getElem? hy)
    simp only [List.getD_eq_getElem?_getD, hy, Option.getD_some, Function.comp]
    rw [Int.toNat_of_nonneg hyb.1]
   ·cases hy
end
theorem kept_same {W W' : World} (h : Kept W W') {p : MemPlace} (hp : p.block < W.heap.size) : W.sameAt W' p := by
 cases p with
 | cell b o => exact World.cell?_of_block (w := W) (h.old b hp)
 | map b => exact h.old b hp
theorem trodAll_kept {H : Type} {enc : TypeId × Value → H} {P : Program} {W W' : World} (hl : laidOutB P = true) (hK : Kept W W') {sp : Nat → Bool} : ∀ {ts : List TypeId} {vs : List Value} {ds : List (DataW H)} {ps : List MemPlace}, (∀ t ∈ ts, P.readableRec t = true ∧ t < P.types.size) →
    DataW.TrodAll enc P W 0 (fun _ => true) true ts vs ds ps → (∀ p ∈ ps, p.block < W.heap.size) → (∀ p ∈ ps, sp p.block = true) → DataW.TrodAll enc P W' 0 sp true ts vs ds ps
 | [], [], [], _, _, h, _, _ => h
 | t :: _, _ :: _, _ :: _, _, hT, ⟨p, q, h1, h2, e⟩, hb, hs => ⟨p, q, WideElems.Trod_stays hl (hT t (List.mem_cons.2 (Or.inl rfl))).1 (hT t (List.mem_cons.2 (Or.inl rfl))).2 h1 (fun x hx => kept_same hK (hb x (by rw [e]; exact List.mem_append_left _ hx))) (fun x hx => hs x (by rw [e]; exact List.mem_append_left _ hx)),
      trodAll_kept hl hK (fun t ht => hT t (List.mem_cons.2 (Or.inr ht))) h2 (fun x hx => hb x (by rw [e]; exact List.mem_append_right _ hx)) (fun x hx => hs x (by rw [e]; exact List.mem_append_right _ hx)), e⟩
theorem laidTry : laidOutB Tryz.prog = true := by kernel_rfl
theorem u8s_plain (cs : List Nat) : ∀ x ∈ u8s cs, plain0 x = true := by
 intro x hx; obtain ⟨k, _, rfl⟩ := List.mem_map.1 hx; rfl
end Go.Proofs.Q
namespace Go.Proofs.Q
open Go.AI Go.Proofs
set_option maxRecDepth 20000
theorem tab_kept {P : Program} {w0 w : World} {name : String} {k : IntKind} {zs : List Int} (h : Lib.TabIs P w0 name k zs) (K : Kept w0 w) : Lib.TabIs P w name k zs := by
 unfold Lib.TabIs World.var? at *
 cases hg : P.globalNamed name with
 | none => simp [hg] at h
 | some g =>
  simp only [hg, Option.bind_some] at h ⊢
  have hlt : g < w0.heap.size := by
   rcases Nat.lt_or_ge g w0.heap.size with h' | h'
   ·exact h'
   ·rw [Array.getElem?_eq_none h'] at h; simp at h
  rw [K.old g hlt]; exact h
theorem orcN_ok {w0 : World} (ht : Lib.TabIs Tryz.prog w0 pwN .u64 Lib.pow10Tab) : ∀ a b s, orcA.s a b = some s → ∀ w, Kept w0 w →
    (∃ fn c, Tryz.prog.funcs[orcA.n]? = some fn ∧ fn.body = some c ∧ (fn.name == "runtime.NumGoroutine") = false) ∧ Calls Tryz.prog orcA.n #[.int .i64 a, .int .i64 b] w fun e w' => e = .returned (.string ⟨s.toArray⟩) ∧ Kept w w' := by
 intro a b s hs w hK
 have ht' := tab_kept ht hK
 have key : ∀ u : Nat, 1 ≤ u → u ≤ 3 → a = -(u : Int) → b = 10 → 45 :: Lib.decDigits u = s → (∃ fn c, Tryz.prog.funcs[orcA.n]? = some fn ∧ fn.body = some c ∧ (fn.name == "runtime.NumGoroutine") = false) ∧
      Calls Tryz.prog orcA.n #[.int .i64 a, .int .i64 b] w fun e w' => e = .returned (.string ⟨s.toArray⟩) ∧ Kept w w' := by
  intro u h1 h2 ea eb es
  subst ea; subst eb; subst es
  exact ⟨⟨_, _, Tryz.func102, rfl, by kernel_rfl⟩, format_neg Tryz.laysM246 u h1 (by omega) w ht'⟩
 have d1 : Lib.decDigits 1 = [49] := by rw [Lib.decDigits]; rfl
 have d2 : Lib.decDigits 2 = [50] := by rw [Lib.decDigits]; rfl
 have d3 : Lib.decDigits 3 = [51] := by rw [Lib.decDigits]; rfl
 simp only [orcA] at hs
 cases hb : decide (b = 10) with
 | false => rw [hb] at hs; cases hs
 | true =>
  have hb' := of_decide_eq_true hb
  rw [hb, cond_true] at hs
  cases h1 : decide (a = -1) with
  | true => rw [h1, cond_true] at hs; cases hs; exact key 1 (by omega) (by omega) (of_decide_eq_true h1) hb' (by rw [d1])
  | false =>
   rw [h1, cond_false] at hs
   cases h2 : decide (a = -2) with
   | true => rw [h2, cond_true] at hs; cases hs; exact key 2 (by omega) (by omega) (of_decide_eq_true h2) hb' (by rw [d2])
   | false =>
    rw [h2, cond_false] at hs
    cases h3 : decide (a = -3) with
    | true => rw [h3, cond_true] at hs; cases hs; exact key 3 (by omega) (by omega) (of_decide_eq_true h3) hb' (by rw [d3])
    | false => rw [h3] at hs; cases hs
theorem orc_ok {w0 : World} (ht : Lib.TabIs Tryz.prog w0 pwN .u64 Lib.pow10Tab) : OrcOK Tryz.prog w0 orcA := ⟨orcN_ok ht, .inl rfl⟩
def stN0 : St := stG [] []
def eqB : List UInt8 → List UInt8 → Bool
 | [], [] => true
 | a :: l, b :: k => Nat.beq a.toNat b.toNat && eqB l k
 | _, _ => false
theorem eqB_eq : ∀ {l k : List UInt8}, eqB l k = true → l = k
 | [], [], _ => rfl
 | a :: l, b :: k, h => by
  simp only [eqB, Bool.and_eq_true] at h
  have := Nat.eq_of_beq_eq_true h.1
  rw [UInt8.toNat_inj.1 this, eqB_eq h.2]
 | [], _ :: _, h => by simp [eqB] at h
 | _ :: _, [], h => by simp [eqB] at h
def isNum (p : List UInt8 × List UInt8) : Option (Value × St) → Bool
 | some (.agg ⟨[.int .i64 k, .string a, .string b, .string c, .string d, .string e, .slice none 0 0]⟩, _) => decide (k = 1) && eqB a.data.toList p.1 && eqB b.data.toList p.2 && eqB c.data.toList [] && eqB d.data.toList [] && eqB e.data.toList []
 | _ => false
theorem ba_eq {a : ByteArray} {l : List UInt8} (h : eqB a.data.toList l = true) : a = ⟨l.toArray⟩ := by
 obtain ⟨⟨d⟩⟩ := a
 rw [show d = l from eqB_eq h]
theorem isNum_ok {p : List UInt8 × List UInt8} {r : Option (Value × St)} (h : isNum p r = true) : ∃ σ, r = some (numV p, σ) := by
 unfold isNum at h
 split at h
 ·rename_i k a b c d e σ
  simp only [Bool.and_eq_true, decide_eq_true_eq] at h
  obtain ⟨⟨⟨⟨⟨rfl, h1⟩, h2⟩, h3⟩, h4⟩, h5⟩ := h
  exact ⟨σ, by rw [ba_eq h1, ba_eq h2, ba_eq h3, ba_eq h4, ba_eq h5]; rfl⟩
 ·cases h
theorem numV_eq {μ : Mp} {p : List UInt8 × List UInt8} {r : Value} (h : VR μ (numV p) r) : r = numV p := by
 unfold numV at h ⊢
 cases h with
 | same _ h => simp [plain0] at h
 | agg xs us hl h =>
  have e := VRL.eq0 (xs := [.int .i64 1, .string ⟨p.1.toArray⟩, .string ⟨p.2.toArray⟩, .string ⟨#[]⟩, .string ⟨#[]⟩, .string ⟨#[]⟩, .slice none 0 0]) (us := us.toList) ⟨hl, h⟩ rfl
  obtain ⟨us⟩ := us
  simp only at e
  subst e; rfl
theorem run_i0 : isNum ([48], [49]) (callO Tryz.prog orcA 300 100 50 #[.int .i64 0] stN0) = true := by kernel_rfl
theorem run_i1 : isNum ([49], [49]) (callO Tryz.prog orcA 300 100 50 #[.int .i64 1] stN0) = true := by kernel_rfl
theorem run_i2 : isNum ([50], [49]) (callO Tryz.prog orcA 300 100 50 #[.int .i64 2] stN0) = true := by kernel_rfl
theorem run_i3 : isNum ([51], [49]) (callO Tryz.prog orcA 300 100 50 #[.int .i64 3] stN0) = true := by kernel_rfl
theorem run_j1 : isNum ([45, 49], [49]) (callO Tryz.prog orcA 300 100 50 #[.int .i64 (-1)] stN0) = true := by kernel_rfl
theorem run_j2 : isNum ([45, 50], [49]) (callO Tryz.prog orcA 300 100 50 #[.int .i64 (-2)] stN0) = true := by kernel_rfl
theorem run_j3 : isNum ([45, 51], [49]) (callO Tryz.prog orcA 300 100 50 #[.int .i64 (-3)] stN0) = true := by kernel_rfl
theorem run_r1 : isNum ([49], [50]) (callO Tryz.prog orcA 300 100 51 #[.string ⟨#[49]⟩, .string ⟨#[50]⟩] stN0) = true := by kernel_rfl
theorem run_r2 : isNum ([45, 53], [51]) (callO Tryz.prog orcA 300 100 51 #[.string ⟨#[45, 53]⟩, .string ⟨#[51]⟩] stN0) = true := by kernel_rfl
end Go.Proofs.Q
namespace Go.Proofs.Q
open Go.AI Go.Proofs
set_option maxRecDepth 20000
theorem num_ok' {w : World} (ht : Lib.TabIs Tryz.prog w pwN .u64 Lib.pow10Tab) {f : FuncId} {args : List Value} {p : List UInt8 × List UInt8} (hpl : args.all plain0 = true) (h : isNum p (callO Tryz.prog orcA 300 100 f args.toArray stN0) = true) :
    (∃ fn c, Tryz.prog.funcs[f]? = some fn ∧ fn.body = some c ∧ (fn.name == "runtime.NumGoroutine") = false) ∧ Calls Tryz.prog f args.toArray w fun e w' => e = .returned (numV p) ∧ Kept w w' := by
 obtain ⟨σ, h1⟩ := isNum_ok h
 obtain ⟨g, hc⟩ := callO_ok okTry (orc_ok ht) 300 100 f args.toArray args.toArray _ _ w (muG none none) _ h1 (sim_G (fun p h => by cases h) (fun p h => by cases h)) (VRL.same hpl)
 refine ⟨g, hc.mono ?_⟩
 rintro e w' ⟨μ', r', rfl, hr', hZ, _, _⟩
 rw [numV_eq hr']
 exact ⟨rfl, hZ.kept⟩
theorem knw_ok {w0 : World} (ht : Lib.TabIs Tryz.prog w0 pwN .u64 Lib.pow10Tab) : KnwOK Tryz.prog w0 := by
 intro f args p h w hK
 have hw := tab_kept ht hK
 unfold knwL at h
 cases h1 : Nat.beq f 50 with
 | true =>
  obtain rfl := Nat.eq_of_beq_eq_true h1
  rw [h1, cond_true] at h
  split at h
  ·rename_i a
   cases e0 : decide (a = 0) with
   | true => rw [e0, cond_true] at h; cases h; obtain rfl := of_decide_eq_true e0; exact num_ok' hw rfl run_i0
   | false =>
   cases e1 : decide (a = 1) with
   | true => rw [e0, e1, cond_false, cond_true] at h; cases h; obtain rfl := of_decide_eq_true e1; exact num_ok' hw rfl run_i1
   | false =>
   cases e2 : decide (a = 2) with
   | true => rw [e0, e1, e2, cond_false, cond_false, cond_true] at h; cases h; obtain rfl := of_decide_eq_true e2; exact num_ok' hw rfl run_i2
   | false =>
   cases e3 : decide (a = 3) with
   | true => rw [e0, e1, e2, e3, cond_false, cond_false, cond_false, cond_true] at h; cases h; obtain rfl := of_decide_eq_true e3; exact num_ok' hw rfl run_i3
   | false =>
   cases d1 : decide (a = -1) with
   | true => rw [e0, e1, e2, e3, d1, cond_false, cond_false, cond_false, cond_false, cond_true] at h; cases h; obtain rfl := of_decide_eq_true d1; exact num_ok' hw rfl run_j1
   | false =>
   cases d2 : decide (a = -2) with
   | true => rw [e0, e1, e2, e3, d1, d2, cond_false, cond_false, cond_false, cond_false, cond_false, cond_true] at h; cases h; obtain rfl := of_decide_eq_true d2; exact num_ok' hw rfl run_j2
   | false =>
   cases d3 : decide (a = -3) with
   | true => rw [e0, e1, e2, e3, d1, d2, d3, cond_false, cond_false, cond_false, cond_false, cond_false, cond_false, cond_true] at h; cases h; obtain rfl := of_decide_eq_true d3; exact num_ok' hw rfl run_j3
   | false => rw [e0, e1, e2, e3, d1, d2, d3] at h; cases h
  ·cases h
 | false =>
  rw [h1, cond_false] at h
  cases h2 : Nat.beq f 51 with
  | true =>
   obtain rfl := Nat.eq_of_beq_eq_true h2
   rw [h2, cond_true] at h
   split at h
   ·rename_i a b
    cases e0 : decide (a = ⟨#[49]⟩) && decide (b = ⟨#[50]⟩) with
    | true =>
     rw [e0, cond_true] at h; cases h
     rw [Bool.and_eq_true] at e0
     obtain rfl := of_decide_eq_true e0.1
     obtain rfl := of_decide_eq_true e0.2
     exact num_ok' hw rfl run_r1
    | false =>
     rw [e0, cond_false] at h
     cases e1 : decide (a = ⟨#[45, 53]⟩) && decide (b = ⟨#[51]⟩) with
     | true =>
      rw [e1, cond_true] at h; cases h
      rw [Bool.and_eq_true] at e1
      obtain rfl := of_decide_eq_true e1.1
      obtain rfl := of_decide_eq_true e1.2
      exact num_ok' hw rfl run_r2
     | false => rw [e1] at h; cases h
   ·cases h
  | false => rw [h2] at h; cases h
theorem law_calls {b0 : Nat} {H : Type} {enc : TypeId × Value → H} {W : World} {v0 v1 : Value} {d0 d1 : DataW H} {ps0 ps1 : List MemPlace} (ht : Lib.TabIs Tryz.prog W pwN .u64 Lib.pow10Tab) (hv0 : Value.okWide Tryz.prog W .any b0 22 v0) (h0 : DataW.Trod enc Tryz.prog W 0 (fun _ => true) true 22 v0 d0 ps0)
    (hv1 : Value.okWide Tryz.prog W .any b0 22 v1) (h1 : DataW.Trod enc Tryz.prog W 0 (fun _ => true) true 22 v1 d1 ps1) (a : Int) (wa : (Lit.int .u8 a).wf = true) :
    Calls Tryz.prog 3 #[v0, v1, .int .u8 a] W fun e w' => e = .returned (.bool true) ∧ Kept W w' := by
 obtain ⟨cs, hc, hcs⟩ := open_u8s hv0 h0
 obtain ⟨vs, hv, hvs⟩ := open_u8s hv1 h1
 obtain ⟨p0, u0, k0, g0, r0⟩ := arg_vr (z := 1) (id := 3) (μ := fun _ => none) (u8s_plain cs) hcs
 obtain ⟨p1, u1, k1, g1, r1⟩ := arg_vr (z := 1) (id := 4) (μ := fun _ => none) (u8s_plain vs) hvs
 have ba := bounds_u8 wa
 obtain ⟨a, rfl⟩ : ∃ n : Nat, a = n := ⟨_, (Int.toNat_of_nonneg ba.1).symm⟩
 obtain ⟨co, cc, rfl, hc1, -⟩ := g0
 obtain ⟨vo, vc, rfl, hv1', -⟩ := g1
 have hgo := term_go cs vs hc hv co vo cc vc hc1 hv1' a (by omega)
 have hargs : VRL (muG p0 p1) [.slice co cs.length cc, .slice vo vs.length vc, .int .u8 a] [v0, v1, .int .u8 a] :=
  .cons (r0 _ rfl) (.cons (r1 _ rfl) (.cons (.same _ rfl) .nil))
 refine (wpc_calls okTry ⟨orc_ok ht, knw_ok ht⟩ hgo (sim_G k0 k1) (args' := #[v0, v1, .int .u8 a]) hargs).mono ?_
 rintro e w' ⟨μ', r, σ', r', rfl, he, hr, hZ⟩
 rw [he, hr.eq0 rfl]
 exact ⟨rfl, hZ.kept⟩
end Go.Proofs.Q
namespace Go.Proofs.YtmjddjjcnhckgaaGreatDoor.bddTerm
open Go.ChangeShapes Go.WideShapes Go.ChangeAt Go.RowKit Go.AI Go.Proofs.Q
theorem own : ownKnob Tryz.prog.godebug = none := by kernel_rfl
theorem gPow : Tryz.prog.globalNamed pwN = some 0 := by kernel_rfl
theorem tPow : (Tryz.prog.globals[0]?).map (·.type) = some 136 := by kernel_rfl
theorem cE : Tryz.prog.cellsOf 130 = 1 := by kernel_rfl
theorem cT : Tryz.prog.cellsOf 136 = 20 := by kernel_rfl
theorem door_met (os : Os) (args : Array Value) : laidMetH Tryz.prog Rows.bddTermRow.laid ((World.doorLaid Tryz.prog 400 os).forCall (fun _ _ => 0) ⟨#[], args, []⟩).memory :=
 laidMetH_of_parts3 (fuel := 8) (laidMet_of_run' 8 (by kernel_rfl) (by kernel_rfl)) (by kernel_rfl) (by kernel_rfl)
theorem tab_of {W : World} (h : laidMetH Tryz.prog Rows.bddTermRow.laid W) : Lib.TabIs Tryz.prog W pwN .u64 Lib.pow10Tab := by
 rw [MakeChecks.laidMetH_plain _ _ _ (by kernel_rfl)] at h
 have h1 := laidMet.tail (laidMet.tail h)
 have e : (Rows.laid_internal_strconv_uint64pow10 : DataW Unit) = Lib.tabData .u64 Lib.pow10Tab := rfl
 rw [e] at h1
 exact Lib.tabIs_of_head gPow tPow Tryz.underlying136 Tryz.underlying130 cE cT h1
set_option maxRecDepth 100000 in
theorem lifted (os : Os) (started : os.Started) (H : Type) (enc : TypeId × Value → H) :
    ReturnsInHanded {} Tryz.checked os 3 .any (fun w args => (Rows.bddTermSpec.pre enc Tryz.prog Tryz.f3 [] false w args ∧ laidMetH Tryz.prog Rows.bddTermRow.laid w) ∧ sizedMet enc Tryz.prog Tryz.f3 (OpenSpec.ofChange Rows.bddTermSpec) false w args)
      (Rows.bddTermSpec.post enc Tryz.prog Tryz.f3 false true false false) := by
 refine returnsInHanded_of_change_and (C := Tryz.checked) (X := fun w _ => laidMetH Tryz.prog Rows.bddTermRow.laid w) (fun _ _ _ hh h => h.of_heap hh) own started (by kernel_rfl) Tryz.func3
  (ChangeSpec.witness_shaped (enc := enc) (C := Tryz.checked) (os := os) (X := fun w _ => laidMetH Tryz.prog Rows.bddTermRow.laid w) false (World.doorLaid Tryz.prog 400 os) #[.slice none 0 0, .slice none 0 0, .int .u8 0] 8 rfl (World.shaped_of_RefB (by kernel_rfl) (by kernel_rfl)) (by kernel_rfl) (by kernel_rfl) (by kernel_rfl) (door_met os _)) ?_
 intro W base args ds gs before hval0 hW _ _ hL _
 have hval : ∀ (j : Nat) t v, Tryz.f3.params[j]? = some t → args[j]? = some v → Value.okWide Tryz.prog W .any base t v := hval0
 have hW' := hW
 obtain ⟨p, q, hA0, hV, rfl, hfz, hnd⟩ := hW
 have hA : DataW.TrodAll enc Tryz.prog W 0 (fun _ => true) true Tryz.f3.params.toList args.toList ds p := hA0
 have hlt : ∀ x ∈ p, x.block < W.heap.size := fun x hx => by simpa using hW'.lt x (List.mem_append_left _ hx)
 rw [Tryz.params3] at hA hval
 have hAk := hA
 obtain ⟨v0, vs0, d0, ds0, p0, q0, hargs, rfl, rfl, h0, r0⟩ := trodAll_cons hA
 obtain ⟨v1, vs1, d1, ds1, p1, q1, rfl, rfl, rfl, h1, r1⟩ := trodAll_cons r0
 obtain ⟨v2, vs2, d2, ds2, p2, q2, rfl, rfl, rfl, h2, r2⟩ := trodAll_cons r1
 obtain ⟨rfl, rfl, rfl⟩ := trodAll_nil r2
 obtain rfl : args = #[v0, v1, v2] := by cases args; simp_all
 obtain ⟨rfl, rfl⟩ := trodVars_none hV
 have o0 := hval 0 _ v0 rfl rfl
 have o1 := hval 1 _ v1 rfl rfl
 obtain ⟨a2, rfl, rfl, rfl, w2⟩ := open_int Tryz.underlying5 (hval 2 _ v2 rfl rfl) h2
 clear hA0 hval0
 refine (law_calls (tab_of hL) o0 h0 o1 h1 a2 w2).mono fun e W' ⟨he, hK⟩ => ?_
 subst he
 have hg := hK.grown
 exact ⟨_, rfl, post_of_same (pv := []) hW' (fun _ _ _ => (trodAll_cons_mk (shut_bool Tryz.underlying4 _) trodAll_mk0)) (fun sp hsp => trodAll_kept laidTry hK (by decide +kernel) hAk hlt (fun x hx => hsp x (List.mem_append_left _ hx))) (fun _ _ => rfl) rfl
  (hg.frame _) hg.2.1 (ok_one (by kernel_rfl) rfl (okWide_bool_mk Tryz.underlying4 _))⟩
theorem over : Rows.BddTermSaid :=
 OpenClaim.holds_of_wide 3 Tryz.f3 rfl rfl rfl rfl rfl rfl rfl ⟨rfl, rfl, rfl, rfl, rfl⟩ rfl rfl rfl rfl rfl (by kernel_rfl) Tryz.func3 (by kernel_rfl)
  (of_decide_eq_true (by kernel_rfl)) (by unfold Func.isWrapper; first | (rw [if_pos (by decide +kernel)]; kernel_rfl) | (rw [if_neg (by decide +kernel)]; exact ⟨rfl, rfl⟩))
  (fun os started H enc _ => lifted os started H enc)
theorem proved : Rows.BddTermCardSaid :=
 Claim7.holds_tied_plain_at .later [] [.data, .data, .data] true (true, "4a31f70388a648cd8d3208f590c0ab223fc8d7e0fedfa81a6a0b5bbae59b4248") false
  over (fun _ h => by cases h) (by kernel_rfl) (fun _ h => by cases h) bddTerm_row_tie rfl ⟨rfl, rfl⟩ (by kernel_rfl) rfl
  (fun f fn hf hfn => by
   obtain rfl : f = 3 := Option.some.inj ((show Tryz.prog.funcNamed Rows.bddTermRow.func = some 3 by kernel_rfl).symm.trans hf) |>.symm
   obtain rfl : fn = Tryz.f3 := (Option.some.inj (Tryz.func3.symm.trans hfn)).symm
   exact ⟨by kernel_rfl, fun j t ht => by
    rw [Tryz.params3] at ht
    rcases j with _ | _ | _ | j
    ·obtain rfl : t = 22 := by simpa using ht.symm
     exact (show Tryz.prog.wantsStandIn 22 = false by kernel_rfl)
    ·obtain rfl : t = 22 := by simpa using ht.symm
     exact (show Tryz.prog.wantsStandIn 22 = false by kernel_rfl)
    ·obtain rfl : t = 5 := by simpa using ht.symm
     exact (show Tryz.prog.wantsStandIn 5 = false by kernel_rfl)
    ·simp at ht⟩)
  (by kernel_rfl)
end Go.Proofs.YtmjddjjcnhckgaaGreatDoor.bddTerm
