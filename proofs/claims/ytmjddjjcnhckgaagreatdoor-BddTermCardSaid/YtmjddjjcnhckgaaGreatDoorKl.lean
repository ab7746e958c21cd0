import Derived.Test.YtmjddjjcnhckgaaGreatDoorKj
import Derived.Test.YtmjddjjcnhckgaaGreatDoorKk
import Derived.Laws.StructEq
set_option linter.unusedVariables false
set_option linter.unusedSimpArgs false
set_option linter.constructorNameAsVariable false
open Nat renaming reduceAdd → zAd, reduceMod → zMo, reduceDiv → zDi, reduceSub → zSu, reduceMul → zMu, reduceEqDiff → zEq, reduceBEq → zBe, reduceLeDiff → zLe, reduceShiftRight → zSh
open Int renaming reduceToNat → zTo
namespace Go.Proofs.Q
open Go.AI
abbrev Vtx := Int × Int × Int
def cell3 (v : Vtx) : List Value := [.int .i64 v.1, .int .i64 v.2.1, .int .i64 v.2.2]
def flat : List Vtx → List Value
 | [] => []
 | v :: l => cell3 v ++ flat l
theorem flat_length (l : List Vtx) : (flat l).length = l.length * 3 := by
 induction l with
 | nil => rfl
 | cons v l ih => simp [flat, cell3, ih]; omega
theorem flat_append (l k : List Vtx) : flat (l ++ k) = flat l ++ flat k := by
 induction l with
 | nil => rfl
 | cons v l ih => simp [flat, ih]
abbrev m3 (m : Mta) : Mta := { m with z := 3 }
theorem m3_eq {m : Mta} (h : m.z = 3) : m3 m = m := by cases m; simp only at h; subst h; rfl
structure VS (σ : St) (v : Value) (l : List Vtx) : Prop where
 ex : ∃ id off c row m, v = .slice (some ⟨id, off, none⟩) l.length c ∧ id < σ.next ∧ σ.row id = some (row, m3 m) ∧ (row.drop off).take (l.length * 3) = flat l
theorem VS.mono {σ σ' : St} {v : Value} {l : List Vtx} (h : VS σ v l) (e : EX σ σ') : VS σ' v l := by
 obtain ⟨id, off, c, row, m, h1, h2, h3, h4⟩ := h.ex
 exact ⟨id, off, c, row, m, h1, by have := e.next; omega, (e.row id h2).trans h3, h4⟩
def DV (σ : St) (v : Value) (d : List Vtx × Int) : Prop := ∃ s, v = .agg #[s, .int .i64 d.2] ∧ (VS σ s d.1 ∨ (∃ o, s = .slice o 0 0 ∧ d.1 = []))
theorem DV.mono {σ σ' : St} {v : Value} {d : List Vtx × Int} (h : DV σ v d) (e : EX σ σ') : DV σ' v d := by
 obtain ⟨s, h1, h2⟩ := h
 exact ⟨s, h1, h2.imp (fun h => h.mono e) id⟩
structure VSf (n : Nat) (σ : St) (v : Value) (l : List Vtx) : Prop where
 ex : ∃ id off c row m, v = .slice (some ⟨id, off, none⟩) l.length c ∧ n ≤ id ∧ id < σ.next ∧ σ.row id = some (row, m3 m) ∧ (row.drop off).take (l.length * 3) = flat l
def DVf (n : Nat) (σ : St) (v : Value) (d : List Vtx × Int) : Prop := ∃ s, v = .agg #[s, .int .i64 d.2] ∧ (VSf n σ s d.1 ∨ (s = .slice none 0 0 ∧ d.1 = []))
theorem DVf.dv {n : Nat} {σ : St} {v : Value} {d : List Vtx × Int} (h : DVf n σ v d) : DV σ v d := by
 obtain ⟨s, h1, h2⟩ := h
 refine ⟨s, h1, h2.imp (fun h => ?_) (fun h => ⟨none, h⟩)⟩
 obtain ⟨id, off, c, row, m, h1, h2, h3, h4, h5⟩ := h.ex
 exact ⟨id, off, c, row, m, h1, h3, h4, h5⟩
theorem DVf.mono {n n' : Nat} {σ σ' : St} {v : Value} {d : List Vtx × Int} (h : DVf n σ v d) (e : EX σ σ') (hn : n' ≤ n) : DVf n' σ' v d := by
 obtain ⟨s, h1, h2⟩ := h
 refine ⟨s, h1, h2.imp (fun h => ?_) id⟩
 obtain ⟨id, off, c, row, m, h1, h2, h3, h4, h5⟩ := h.ex
 exact ⟨id, off, c, row, m, h1, by omega, by have := e.next; omega, (e.row id h3).trans h4, h5⟩
theorem DVf.put {n n' k : Nat} {σ : St} {v : Value} {d : List Vtx × Int} {ob : AObj} (h : DVf n σ v d) (hk : k < n) (hn : n' ≤ n) : DVf n' (σ.put k ob) v d := by
 obtain ⟨s, h1, h2⟩ := h
 refine ⟨s, h1, h2.imp (fun h => ?_) id⟩
 obtain ⟨id, off, c, row, m, h1, h2, h3, h4, h5⟩ := h.ex
 exact ⟨id, off, c, row, m, h1, by omega, h3, (row_put_ne (by omega)).trans h4, h5⟩
theorem bd40 (a b c : Int) : abuild Tryz.prog 54 #[(0, .int .i64 a), (1, .int .i64 b), (2, .int .i64 c)] = some (.agg #[.int .i64 a, .int .i64 b, .int .i64 c]) := by kernel_rfl
theorem bd40_1 (a : Int) : abuild Tryz.prog 54 #[(0, .int .i64 a)] = some (.agg #[.int .i64 a, .int .i64 0, .int .i64 0]) := by kernel_rfl
theorem bd25 (a : Option Addr) (n c : Nat) (r : Int) : abuild Tryz.prog 41 #[(0, .slice a n c), (1, .int .i64 r)] = some (.agg #[.slice a n c, .int .i64 r]) := by kernel_rfl
theorem bd25_1 (a : Option Addr) (n c : Nat) : abuild Tryz.prog 41 #[(0, .slice a n c)] = some (.agg #[.slice a n c, .int .i64 0]) := by kernel_rfl
theorem bs23_2 (id : Nat) (a b c a' b' c' : Int) : vBuildS Tryz.prog 39 2 #[(0, .agg #[.int .i64 a, .int .i64 b, .int .i64 c]), (1, .agg #[.int .i64 a', .int .i64 b', .int .i64 c'])] id =
    some (.slice (some ⟨id, 0, none⟩) 2 2, .cells (flat [(a, b, c), (a', b', c')]) (rowMeta 3)) := by kernel_rfl
theorem bs23_1 (id : Nat) (a b c : Int) : vBuildS Tryz.prog 39 1 #[(0, .agg #[.int .i64 a, .int .i64 b, .int .i64 c])] id =
    some (.slice (some ⟨id, 0, none⟩) 1 1, .cells (flat [(a, b, c)]) (rowMeta 3)) := by kernel_rfl
def c01 : List Vtx := [(-1, 0, 0), (-1, 1, 1)]
theorem constants_spec (σ : St) : wpc Tryz.prog 45 #[] σ fun r σ' => ∃ id, r = .slice (some ⟨id, 0, none⟩) 2 2 ∧ σ.next ≤ id ∧ id < σ'.next ∧ σ'.row id = some (flat c01, rowMeta 3) ∧ EX σ σ' := by
 refine body_go Tryz.func45 rfl ?_
 have hr := Tryz.results45
 simp only [c_seq, RUNA, RUNB, zAd, zMo, zDi, zSu, zMu, zEq, zBe, zLe, zTo, fillS, wantG, vBox, Value.cells, one, putAt, hr, bd40, bd40_1, bs23_2]
 refine ⟨_, rfl, by omega, by omega, ?_, ?_⟩
 ·simp only [if_true, good_row]; rfl
 ·exact (((EX.refl σ).more 1).more 4).put (by omega) _
def constD (b : Bool) : List Vtx × Int := (c01, if b = true then 1 else 0)
theorem Constant_spec (b : Bool) (σ : St) : wpc Tryz.prog 46 #[.bool b] σ fun r σ' => DVf σ.next σ' r (constD b) ∧ EX σ σ' := by
 refine body_go Tryz.func46 rfl ?_
 have hr := Tryz.results46
 simp only [c_seq, RUNA, RUNB, zAd, zMo, zDi, zSu, zMu, zEq, zBe, zLe, zTo, fillS, wantG, vBox, Value.cells, one, putAt, hr, al41]
 refine wpc_mono (constants_spec _) ?_
 rintro r σ2 ⟨id, rfl, h1, h2, h3, hE⟩
 simp only [next_more, next_put] at h1
 have r0 : σ2.row σ.next = some ([.slice none 0 0, .int .i64 0], boxMeta) := by
  rw [hE.row _ (by simp only [next_more, next_put]; omega)]; simp only [c_seq, RUNA, RUNB, zAd, zMo, zDi, zSu, zMu, zEq, zBe, zLe, zTo, fillS, wantG, vBox, Value.cells, one, putAt]
 have n1 : ¬ σ.next = id := by omega
 have n2 : ¬ id = σ.next := by omega
 have n3 : ¬ id = σ.next + 3 := by omega
 have e0 : EX σ σ2 := by refine EX.trans ?_ hE; repeat first | assumption | exact EXn.refl _ _ | refine EXn.more ?_ _ | refine EXn.put ?_ (by omega) _ | refine EX.trans ?_ (by assumption)
 have hn := e0.next
 have hn2 := hE.next
 simp only [next_more, next_put] at hn2
 cases b
 ·simp only [c_seq, RUNA, RUNB, zAd, zMo, zDi, zSu, zMu, zEq, zBe, zLe, zTo, fillS, wantG, vBox, Value.cells, one, putAt, bd25_1, al41, st41, ld41, r0]
  refine ⟨⟨_, rfl, Or.inl ⟨id, 0, 2, flat c01, rowMeta 3, rfl, by omega, ?_, ?_, rfl⟩⟩, ?_⟩
  ·simp only [next_more, next_put]; omega
  ·show _ = some (flat c01, rowMeta 3)
   simp only [row_put, row_more, n1, n2, n3, if_false, h3]
  ·repeat first | assumption | exact EXn.refl _ _ | refine EXn.more ?_ _ | refine EXn.put ?_ (by omega) _ | refine EX.trans ?_ (by assumption)
 ·simp only [c_seq, RUNA, RUNB, zAd, zMo, zDi, zSu, zMu, zEq, zBe, zLe, zTo, fillS, wantG, vBox, Value.cells, one, putAt, bd25_1, al41, st41, ld41, fa41_1, st3, r0]
  refine ⟨⟨_, rfl, Or.inl ⟨id, 0, 2, flat c01, rowMeta 3, rfl, by omega, ?_, ?_, rfl⟩⟩, ?_⟩
  ·simp only [next_more, next_put]; omega
  ·show _ = some (flat c01, rowMeta 3)
   simp only [row_put, row_more, n1, n2, n3, if_false, h3]
  ·repeat first | assumption | exact EXn.refl _ _ | refine EXn.more ?_ _ | refine EXn.put ?_ (by omega) _ | refine EX.trans ?_ (by assumption)
def varD (i : Int) : List Vtx × Int := (c01 ++ [(i, 0, 1)], 2)
theorem Variable_in (i : Int) (h0 : 0 ≤ i) (h1 : i < 10) (σ : St) (hF : Fr σ) : wpc Tryz.prog 15 #[.int .i64 i] σ fun r σ' => ∃ d, r = .tuple #[d, .int .i64 0] ∧ DVf σ.next σ' d (varD i) ∧ EX σ σ' := by
 refine body_go Tryz.func15 rfl ?_
 have hr := Tryz.results15
 have g0 : decide (i < 0) = false := by simp; omega
 have g1 : decide (10 ≤ i) = false := by simp; omega
 simp only [c_seq, RUNA, RUNB, zAd, zMo, zDi, zSu, zMu, zEq, zBe, zLe, zTo, fillS, wantG, vBox, Value.cells, one, putAt, hr, al41, g0, g1]
 refine wpc_mono (constants_spec _) ?_
 rintro r σ2 ⟨id, rfl, h1, h2, h3, hE⟩
 simp only [next_more, next_put] at h1
 have e0 : EX σ σ2 := by refine EX.trans ?_ hE; repeat first | assumption | exact EXn.refl _ _ | refine EXn.more ?_ _ | refine EXn.put ?_ (by omega) _ | refine EX.trans ?_ (by assumption)
 have hn := e0.next
 have hn2 := hE.next
 simp only [next_more, next_put] at hn2
 have r0 : σ2.row σ.next = some ([.slice none 0 0, .int .i64 0], boxMeta) := by
  rw [hE.row _ (by simp only [next_more, next_put]; omega)]; simp only [c_seq, RUNA, RUNB, zAd, zMo, zDi, zSu, zMu, zEq, zBe, zLe, zTo, fillS, wantG, vBox, Value.cells, one, putAt]
 have v0 : σ2.ver (σ.next + 12) = 0 := by
  rw [hE.ver _ (by simp only [next_more, next_put]; omega)]; exact hF _ (by omega)
 simp only [c_seq, RUNA, RUNB, zAd, zMo, zDi, zSu, zMu, zEq, zBe, zLe, zTo, fillS, wantG, vBox, Value.cells, one, putAt, bd40, bs23_1, bd25]
 refine app_ex (app_own (id := id) (n := 2) (cs := flat c01) (z := 3) (x := 1) (xs := flat [(i, 0, 1)]) ?_ Tryz.underlying39 Tryz.underlying39 if54 rfl ?_ rfl (by omega) (by omega) rfl (by omega) ?_ ?_ (by omega) (by omega) rfl) ?_
 ·refine ⟨2, rowMeta 3, rfl, ?_, ?_, rfl, rfl, rfl, Or.inl rfl⟩
  ·simp only [next_put]; omega
  ·rw [row_put_ne (by omega)]; exact h3
 ·simp only [aSource, row_put, if_true, good_row]; rfl
 ·rw [ver_put]; exact v0
 ·simp only [next_put]; omega
 ·rintro v σ3 ⟨⟨k, m, rfl, o2, o3, o4⟩, hB⟩
  have b0 : σ3.row σ.next = some ([.slice none 0 0, .int .i64 0], boxMeta) := by
   rw [hB.row _ (by omega) (by omega), row_put_ne (by omega)]; exact r0
  simp only [c_seq, RUNA, RUNB, zAd, zMo, zDi, zSu, zMu, zEq, zBe, zLe, zTo, fillS, wantG, vBox, Value.cells, one, putAt, bd25, st41, ld41, b0]
  refine ⟨_, rfl, ⟨_, rfl, Or.inl ⟨_, 0, _, flat c01 ++ flat [(i, 0, 1)], m, rfl, by omega, ?_, ?_, ?_⟩⟩, ?_⟩
  ·rw [next_put]; exact o2
  ·rw [row_put_ne (by omega), m3_eq o4.2.2.1]; exact o3
  ·rfl
  ·refine EXn.put ?_ (by omega) _
   refine EXn.trans ?_ (hB.exn (by omega) (by omega))
   repeat first | assumption | exact EXn.refl _ _ | refine EXn.more ?_ _ | refine EXn.put ?_ (by omega) _ | refine EX.trans ?_ (by assumption)
end Go.Proofs.Q
namespace Go.Proofs.Q
open Go.AI
theorem pt0 (a b c : Int) : still Tryz.prog (part 3 #[.int .i64 a, .int .i64 b, .int .i64 c] 0) = some (.int .i64 a) := by kernel_rfl
theorem pt1 (a b c : Int) : still Tryz.prog (part 3 #[.int .i64 a, .int .i64 b, .int .i64 c] 1) = some (.int .i64 b) := by kernel_rfl
theorem pt2 (a b c : Int) : still Tryz.prog (part 3 #[.int .i64 a, .int .i64 b, .int .i64 c] 2) = some (.int .i64 c) := by kernel_rfl
def veq (a b c a' b' c' : Int) : Bool := decide ((a, b, c) = (a', b', c'))
theorem veq_t {v w : Vtx} (h : v = w) : veq v.1 v.2.1 v.2.2 w.1 w.2.1 w.2.2 = true := by subst h; simp [veq]
theorem veq_f {v w : Vtx} (h : ¬ v = w) : veq v.1 v.2.1 v.2.2 w.1 w.2.1 w.2.2 = false := by
 obtain ⟨a, b, c⟩ := v
 obtain ⟨a', b', c'⟩ := w
 simpa [veq] using h
theorem eqf40 (a b c a' b' c' : Int) : still Tryz.prog (Op.equal 54 (.agg #[.int .i64 a, .int .i64 b, .int .i64 c]) (.agg #[.int .i64 a', .int .i64 b', .int .i64 c'])) = some (veq a b c a' b' c') := by
 unfold Op.equal veq
 rw [show Op.maxDepth = 9998 + 1 + 1 from rfl, still_eq_struct Tryz.underlying54 (by kernel_rfl)]
 simp only [Op.eqFields, still_bind, still_ite, pt0, pt1, pt2, Option.bind_some, still_eq_int Tryz.underlying3, still_pure]
 by_cases h1 : a = a' <;> by_cases h2 : b = b' <;> by_cases h3 : c = c' <;> simp [h1, h2, h3]
theorem eql40 {x y : Operand} (a b c a' b' c' : Int) : abin Tryz.prog .eql 54 x y (.agg #[.int .i64 a, .int .i64 b, .int .i64 c]) (.agg #[.int .i64 a', .int .i64 b', .int .i64 c']) = some (.bool (veq a b c a' b' c')) :=
 abin_eql rfl rfl (by kernel_rfl) (eqf40 a b c a' b' c')
theorem neq40 {x y : Operand} (a b c a' b' c' : Int) : abin Tryz.prog .neq 54 x y (.agg #[.int .i64 a, .int .i64 b, .int .i64 c]) (.agg #[.int .i64 a', .int .i64 b', .int .i64 c']) = some (.bool (!veq a b c a' b' c')) :=
 abin_neq rfl rfl (by kernel_rfl) (eqf40 a b c a' b' c')
def vx (l : List Vtx) (i : Nat) : Vtx := l.getD i (0, 0, 0)
theorem flat_cut : ∀ (l : List Vtx) (i : Nat), i < l.length → ((flat l).drop (i * 3)).take 3 = [.int .i64 (vx l i).1, .int .i64 (vx l i).2.1, .int .i64 (vx l i).2.2] := by
 intro l
 induction l with
 | nil => intro i hi; simp at hi
 | cons v l ih =>
  intro i hi
  cases i with
  | zero => simp [flat, cell3, vx]
  | succ i =>
   have := ih i (by simpa using hi)
   have e : (flat (v :: l)).drop ((i + 1) * 3) = (flat l).drop (i * 3) := by
    rw [show (i + 1) * 3 = 3 + i * 3 by omega, ← List.drop_drop]; rfl
   rw [e, this]; rfl
theorem row_cut {row : List Value} {off : Nat} {l : List Vtx} (h : (row.drop off).take (l.length * 3) = flat l) {i : Nat} (hi : i < l.length) : cut row (off + i * 3) 3 = some [.int .i64 (vx l i).1, .int .i64 (vx l i).2.1, .int .i64 (vx l i).2.2] := by
 have hl : l.length * 3 ≤ row.length - off := by
  have := congrArg List.length h
  rw [flat_length, List.length_take, List.length_drop] at this
  omega
 rw [cut_go (by omega)]
 rw [← flat_cut l i hi, ← h, List.drop_take, List.drop_drop, List.take_take]
 congr 2; omega
theorem DV.open {σ : St} {v : Value} {d : List Vtx × Int} (h : DV σ v d) : ∃ o c, v = .agg #[.slice o d.1.length c, .int .i64 d.2] ∧ (0 < d.1.length → ∃ id off row m, o = some ⟨id, off, none⟩ ∧ id < σ.next ∧ σ.row id = some (row, m3 m) ∧ (row.drop off).take (d.1.length * 3) = flat d.1) := by
 obtain ⟨s, rfl, h | ⟨o, rfl, h⟩⟩ := h
 ·obtain ⟨id, off, c, row, m, rfl, h2, h3, h4⟩ := h.ex
  exact ⟨_, _, rfl, fun _ => ⟨id, off, row, m, rfl, h2, h3, h4⟩⟩
 ·exact ⟨o, 0, by rw [h]; rfl, fun h' => by rw [h] at h'; simp at h'⟩
theorem wrap64 {x : Int} (h0 : -9223372036854775808 ≤ x) (h1 : x < 9223372036854775808) : IntKind.i64.wrap x = x := by
 have hb : (IntKind.i64.bits : Nat) = 64 := rfl
 unfold IntKind.wrap
 simp [IntKind.bits, IntKind.signed]
 omega
theorem Same_spec {σ : St} {a b : Value} {d e : List Vtx × Int} (ha : DV σ a d) (hb : DV σ b e) (hn : d.1.length < 1000000) : wpc Tryz.prog 10 #[a, b] σ fun r σ' => r = .bool (decide (d = e)) ∧ EX σ σ' := by
 obtain ⟨oa, ca, rfl, hA⟩ := ha.open
 obtain ⟨ob, cb, rfl, hB⟩ := hb.open
 clear ha hb
 refine body_go Tryz.func10 rfl ?_
 have hr := Tryz.results10
 by_cases g1 : d.2 = e.2
 ·by_cases g2 : d.1.length = e.1.length
  ·have g1' : (d.2 != e.2) = false := by simp [g1]
   have g2' : ((d.1.length : Int) != (e.1.length : Int)) = false := by simp [g2]
   simp only [c_seq, RUNA, RUNB, zAd, zMo, zDi, zSu, zMu, zEq, zBe, zLe, zTo, fillS, wantG, vBox, Value.cells, one, putAt, hr, g1', g2', fa41_1, fa41_0, ld3, ld39, ln39]
   have n0 : ∀ id, id < σ.next → id ≠ σ.next ∧ id ≠ σ.next + 1 := fun id h => by omega
   refine loop_go (fun m S τ => S.at 2 = .pointer (some ⟨σ.next, 0, none⟩) ∧ S.at 3 = .pointer (some ⟨σ.next + 1, 0, none⟩) ∧ EX σ τ ∧
    τ.row σ.next = some ([.slice oa d.1.length ca, .int .i64 d.2], boxMeta) ∧ τ.row (σ.next + 1) = some ([.slice ob e.1.length cb, .int .i64 e.2], boxMeta) ∧
    ∃ i : Nat, S.at 5 = .int .i64 i ∧ i ≤ d.1.length ∧ m = d.1.length - i ∧ ∀ j, j < i → vx d.1 j = vx e.1 j) d.1.length ?_ ?_
   ·simp only [c_seq, RUNA, RUNB, zAd, zMo, zDi, zSu, zMu, zEq, zBe, zLe, zTo, fillS, wantG, vBox, Value.cells, one, putAt]
    refine ⟨?_, 0, rfl, by omega, by omega, fun j hj => by omega⟩
    repeat first | assumption | exact EXn.refl _ _ | refine EXn.more ?_ _ | refine EXn.put ?_ (by omega) _ | refine EX.trans ?_ (by assumption)
   ·rintro m S τ ⟨s2, s3, hE, r2, r3, i, s5, hi, rfl, hj⟩
    by_cases hlt : i < d.1.length
    ·have hd : decide ((i : Int) < (d.1.length : Int)) = true := by simp; omega
     simp only [c_seq, RUNA, RUNB, zAd, zMo, zDi, zSu, zMu, zEq, zBe, zLe, zTo, fillS, wantG, vBox, Value.cells, one, putAt, s2, s3, s5, r2, r3, hd, fa41_0, ld39, ln39]
     refine d_go (ms := [0, 1, 0, 7, 15, 0, 32, 0, 224, 480, 1023]) (order := [0, 1, 2, 3, 4, 5, 6, 7, 8, 9, 10]) (by kernel_rfl) (by kernel_rfl) (by kernel_rfl) (by kernel_rfl) ?_
     obtain ⟨ia, fa, ra, ma, rfl, a1, a2, a3⟩ := hA (by omega)
     obtain ⟨ib, fb, rb, mb, rfl, b1, b2, b3⟩ := hB (by omega)
     have ra' := (hE.row ia a1).trans a2
     have rb' := (hE.row ib b1).trans b2
     have ca' := row_cut a3 hlt
     have cb' := row_cut b3 (i := i) (by omega)
     have i0 : (0 : Int) ≤ (i : Int) := by omega
     have i1 : (i : Int) < (d.1.length : Int) := by omega
     have i2 : (i : Int) < (e.1.length : Int) := by omega
     by_cases hq : vx d.1 i = vx e.1 i
     ·have hq' := veq_t hq
      simp only [YRUNA, YRUNB, zSh, bit, c_seq, RUNA, RUNB, zAd, zMo, zDi, zSu, zMu, zEq, zBe, zLe, zTo, fillS, wantG, vBox, Value.cells, one, putAt, s2, s3, s5, r2, r3, fa41_0, ld39, ia39 i0 i1, ia39 i0 i2, ld54, Int.toNat_natCast, ra', rb', ca', cb', neq40, hq']
      refine ⟨d.1.length - (i + 1), by omega, ?_, i + 1, ?_, by omega, rfl, ?_⟩
      ·repeat first | assumption | exact EXn.refl _ _ | refine EXn.more ?_ _ | refine EXn.put ?_ (by omega) _ | refine EX.trans ?_ (by assumption)
      ·rw [wrap64 (by omega) (by omega)]; rfl
      ·intro j hj'
       by_cases e1 : j = i
       ·rw [e1]; exact hq
       ·exact hj j (by omega)
     ·have hq' := veq_f hq
      simp only [YRUNA, YRUNB, zSh, bit, c_seq, RUNA, RUNB, zAd, zMo, zDi, zSu, zMu, zEq, zBe, zLe, zTo, fillS, wantG, vBox, Value.cells, one, putAt, s2, s3, s5, r2, r3, fa41_0, ld39, ia39 i0 i1, ia39 i0 i2, ld54, Int.toNat_natCast, ra', rb', ca', cb', neq40, hq', hr]
      refine ⟨?_, ?_⟩
      ·have : d ≠ e := fun h => hq (by rw [h])
       simp [this]
      ·repeat first | assumption | exact EXn.refl _ _ | refine EXn.more ?_ _ | refine EXn.put ?_ (by omega) _ | refine EX.trans ?_ (by assumption)
    ·have hd : decide ((i : Int) < (d.1.length : Int)) = false := by simp; omega
     simp only [c_seq, RUNA, RUNB, zAd, zMo, zDi, zSu, zMu, zEq, zBe, zLe, zTo, fillS, wantG, vBox, Value.cells, one, putAt, s2, s3, s5, r2, r3, hd, fa41_0, ld39, ln39, hr]
     refine ⟨?_, ?_⟩
     ·have : d = e := by
       refine Prod.ext (List.ext_getElem g2 fun j h1 h2 => ?_) g1
       have := hj j (by omega)
       simpa [vx, h1, h2] using this
      simp [this]
     ·repeat first | assumption | exact EXn.refl _ _ | refine EXn.more ?_ _ | refine EXn.put ?_ (by omega) _ | refine EX.trans ?_ (by assumption)
  ·have g1' : (d.2 != e.2) = false := by simp [g1]
   have g2' : ((d.1.length : Int) != (e.1.length : Int)) = true := by simp; omega
   simp only [c_seq, RUNA, RUNB, zAd, zMo, zDi, zSu, zMu, zEq, zBe, zLe, zTo, fillS, wantG, vBox, Value.cells, one, putAt, hr, g1', g2', fa41_1, fa41_0, ld3, ld39, ln39]
   refine ⟨?_, ?_⟩
   ·have : d ≠ e := fun h => g2 (by rw [h])
    simp [this]
   ·repeat first | assumption | exact EXn.refl _ _ | refine EXn.more ?_ _ | refine EXn.put ?_ (by omega) _ | refine EX.trans ?_ (by assumption)
 ·have g1' : (d.2 != e.2) = true := by simp [g1]
  simp only [c_seq, RUNA, RUNB, zAd, zMo, zDi, zSu, zMu, zEq, zBe, zLe, zTo, fillS, wantG, vBox, Value.cells, one, putAt, hr, g1', fa41_1, fa41_0, ld3, ld39, ln39]
  refine ⟨?_, ?_⟩
  ·have : d ≠ e := fun h => g1 (by rw [h])
   simp [this]
  ·repeat first | assumption | exact EXn.refl _ _ | refine EXn.more ?_ _ | refine EXn.put ?_ (by omega) _ | refine EX.trans ?_ (by assumption)
end Go.Proofs.Q
namespace Go.Proofs.Q
open Go.AI
def bt (t : List Bool) (j : Nat) : Bool := t.getD j false
def allSame (t : List Bool) : Bool := decide (∀ j, j < t.length → bt t j = bt t 0)
def fndL (x : Vtx) : List Vtx → Nat
 | [] => 0
 | y :: l => if y = x then 0 else 1 + fndL x l
def fnd (x : Vtx) (l : List Vtx) : Nat := 2 + fndL x (l.drop 2)
def bld : Nat → List Bool → List Vtx → Int × List Vtx
 | 0, t, l => (if bt t 0 = true then 1 else 0, l)
 | k + 1, t, l => if allSame t = true then (if bt t 0 = true then 1 else 0, l) else
  let a := bld k (t.take (2 ^ k)) l
  let b := bld k (t.drop (2 ^ k)) a.2
  if a.1 = b.1 then (a.1, b.2) else
  let x : Vtx := (9 - (k : Int), a.1, b.1)
  ((fnd x b.2 : Int), if fnd x b.2 < b.2.length then b.2 else b.2 ++ [x])
theorem fndL_hit (x : Vtx) : ∀ (l : List Vtx) (j : Nat), (∀ q, q < j → vx l q ≠ x) → vx l j = x → j < l.length → fndL x l = j := by
 intro l
 induction l with
 | nil => intro j _ _ h; simp at h
 | cons y l ih =>
  intro j h1 h2 h3
  cases j with
  | zero => have : y = x := h2; simp [fndL, this]
  | succ j =>
   have h0 : y ≠ x := h1 0 (by omega)
   have := ih j (fun q hq => h1 (q + 1) (by omega)) h2 (by simpa using h3)
   simp only [fndL, if_neg h0, this]; omega
theorem fndL_miss (x : Vtx) : ∀ (l : List Vtx), (∀ q, q < l.length → vx l q ≠ x) → fndL x l = l.length := by
 intro l
 induction l with
 | nil => intro _; rfl
 | cons y l ih =>
  intro h1
  have h0 : y ≠ x := h1 0 (by simp)
  have := ih (fun q hq => h1 (q + 1) (by simpa using hq))
  simp only [fndL, if_neg h0, this, List.length_cons]; omega
theorem vx_drop (l : List Vtx) (q : Nat) : vx (l.drop 2) q = vx l (q + 2) := by simp [vx, List.getD_eq_getElem?_getD, Nat.add_comm]
theorem fnd_hit {x : Vtx} {l : List Vtx} {j : Nat} (h0 : 2 ≤ j) (h1 : ∀ q, 2 ≤ q → q < j → vx l q ≠ x) (h2 : vx l j = x) (h3 : j < l.length) : fnd x l = j := by
 have := fndL_hit x (l.drop 2) (j - 2) (fun q hq => by rw [vx_drop]; exact h1 _ (by omega) (by omega)) (by rw [vx_drop, show j - 2 + 2 = j by omega]; exact h2) (by simp; omega)
 unfold fnd; omega
theorem fnd_miss {x : Vtx} {l : List Vtx} (h0 : 2 ≤ l.length) (h1 : ∀ q, 2 ≤ q → q < l.length → vx l q ≠ x) : fnd x l = l.length := by
 have := fndL_miss x (l.drop 2) (fun q hq => by rw [vx_drop]; simp at hq; exact h1 _ (by omega) (by omega))
 rw [List.length_drop] at this
 unfold fnd; omega
theorem bld_len : ∀ (k : Nat) (t : List Bool) (l : List Vtx), l.length ≤ (bld k t l).2.length ∧ (bld k t l).2.length + 1 ≤ l.length + 2 ^ k := by
 intro k
 induction k with
 | zero => intro t l; simp [bld]
 | succ k ih =>
  intro t l
  have hp : 0 < 2 ^ k := Nat.two_pow_pos k
  have h1 := ih (t.take (2 ^ k)) l
  have h2 := ih (t.drop (2 ^ k)) (bld k (t.take (2 ^ k)) l).2
  simp only [bld, Nat.pow_succ]
  split
  ·simp only; omega
  ·split
   ·simp only; omega
   ·split <;> (try simp only [List.length_append, List.length_cons, List.length_nil]) <;> omega
theorem tb_at {row : List Value} {off : Nat} {t : List Bool} (h : (row.drop off).take t.length = t.map Value.bool) {i : Nat} (hi : i < t.length) : row[off + i]? = some (.bool (bt t i)) := by
 have h1 : ((row.drop off).take t.length)[i]? = some (.bool (bt t i)) := by
  rw [h]; simp [bt, hi]
 rw [List.getElem?_take, if_pos hi, List.getElem?_drop] at h1
 exact h1
end Go.Proofs.Q
namespace Go.Proofs.Q
open Go.AI
def BL (σ : St) (n0 b : Nat) (l : List Vtx) : Prop := ∃ s sid, σ.row b = some ([s], boxMeta) ∧ Own σ sid 3 s l.length (flat l) ∧ n0 ≤ b ∧ b < σ.next ∧ n0 ≤ sid ∧ sid ≠ b
theorem BL.mono {σ σ' : St} {n0 b : Nat} {l : List Vtx} (h : BL σ n0 b l) (e : EX σ σ') : BL σ' n0 b l := by
 obtain ⟨s, sid, h1, h2, h3, h4, h5⟩ := h
 have hs : sid < σ.next := by obtain ⟨k, m, _, h, _⟩ := h2; exact h
 exact ⟨s, sid, (e.row b h4).trans h1, h2.mono e.next (e.row sid hs), h3, by have := e.next; omega, h5⟩
theorem tb_take {row : List Value} {off N H : Nat} {t : List Bool} (h : (row.drop off).take N = t.map Value.bool) (hH : H ≤ N) : (row.drop off).take H = (t.take H).map Value.bool := by
 rw [List.map_take, ← h, List.take_take, Nat.min_eq_left hH]
theorem tb_drop {row : List Value} {off N H : Nat} {t : List Bool} (h : (row.drop off).take N = t.map Value.bool) : (row.drop (off + H)).take (N - H) = (t.drop H).map Value.bool := by
 rw [List.map_drop, ← h, List.drop_take, List.drop_drop]
def VSpec (n0 b k : Nat) : Prop := ∀ (t : List Bool) (l : List Vtx) (σ : St) (tid off c N : Nat) (row : List Value) (m : Mta), N = 2 ^ k → t.length = N → 2 ≤ l.length → l.length + N ≤ 5000 →
    tid < n0 → n0 ≤ σ.next → σ.row tid = some (row, m) → m.z = 1 → (row.drop off).take N = t.map Value.bool → BL σ n0 b l → Fr σ →
    wpc Tryz.prog 65 #[.pointer (some ⟨b, 0, none⟩), .slice (some ⟨tid, off, none⟩) N c, .int .i64 (10 - (k : Int))] σ fun r σ' => r = .int .i64 (bld k t l).1 ∧ BL σ' n0 b (bld k t l).2 ∧ EXn n0 σ σ'
def pre (t : List Bool) (q : Nat) : Bool := decide (∀ j, j < q → bt t j = bt t 0)
theorem bld_same {t : List Bool} (h : allSame t = true) (k : Nat) (l : List Vtx) : bld k t l = (if bt t 0 = true then 1 else 0, l) := by
 cases k with
 | zero => rfl
 | succ k => simp only [bld, h, if_true]
theorem pre_s {t : List Bool} {q : Nat} : pre t (q + 1) = (pre t q && (bt t q == bt t 0)) := by
 by_cases h : bt t q = bt t 0
 ·have : (bt t q == bt t 0) = true := by simp [h]
  rw [this, Bool.and_true]
  unfold pre
  congr 1
  refine propext ⟨fun g j hj => g j (by omega), fun g j hj => ?_⟩
  by_cases e : j = q
  ·rw [e]; exact h
  ·exact g j (by omega)
 ·have : (bt t q == bt t 0) = false := by simpa using h
  rw [this, Bool.and_false]
  unfold pre
  simp only [decide_eq_false_iff_not]
  exact fun g => h (g q (by omega))
theorem vertex_step (n0 b k : Nat) (hk : k ≤ 10) (ih : ∀ k', k = k' + 1 → VSpec n0 b k') : VSpec n0 b k := by
 intro t l σ tid off c N row m hN hlen hl2 hl5 htid hn0 hrow hmz hrt hB hF
 have hN0 : 0 < N := by rw [hN]; exact Nat.two_pow_pos k
 refine body_go Tryz.func65 rfl ?_
 have hr := Tryz.results65
 simp only [c_seq, RUNA, RUNB, zAd, zMo, zDi, zSu, zMu, zEq, zBe, zLe, zTo, fillS, wantG, vBox, Value.cells, one, putAt, hr]
 refine loop_go (fun m S τ => S.at 0 = .pointer (some ⟨b, 0, none⟩) ∧ S.at 1 = .slice (some ⟨tid, off, none⟩) N c ∧ S.at 2 = .int .i64 (10 - (k : Int)) ∧ EX σ τ ∧
  ∃ q : Nat, S.at 7 = .bool (pre t q) ∧ S.at 8 = .int .i64 q ∧ 1 ≤ q ∧ q ≤ N ∧ m = N - q) (N - 1) ?_ ?_
 ·simp only [c_seq, RUNA, RUNB, zAd, zMo, zDi, zSu, zMu, zEq, zBe, zLe, zTo, fillS, wantG, vBox, Value.cells, one, putAt]
  refine ⟨?_, 1, ?_, rfl, by omega, by omega, rfl⟩
  ·repeat first | assumption | exact EXn.refl _ _ | refine EXn.more ?_ _ | refine EXn.put ?_ (by omega) _ | refine EX.trans ?_ (by assumption)
  ·have : pre t 1 = true := by simp only [pre, decide_eq_true_eq]; intro j hj; rw [show j = 0 by omega]
   rw [this]
 ·rintro _ S τ ⟨s0, s1, s2, hE, q, s7, s8, hq1, hq2, rfl⟩
  have rt : τ.row tid = some (row, m) := (hE.row tid (by omega)).trans hrow
  have t0 : row[off]? = some (.bool (bt t 0)) := tb_at (t := t) (i := 0) (by rw [hlen]; exact hrt) (by omega)
  have z0 : (0 : Int) ≤ 0 := by omega
  have z1 : (0 : Int) < (N : Int) := by omega
  by_cases hlt : q < N
  ·have hd : decide ((q : Int) < (N : Int)) = true := by simp; omega
   have tq : row[off + q]? = some (.bool (bt t q)) := tb_at (t := t) (i := q) (by rw [hlen]; exact hrt) (by omega)
   have z2 : (0 : Int) ≤ (q : Int) := by omega
   have z3 : (q : Int) < (N : Int) := by omega
   have hw : IntKind.i64.wrap ((q : Int) + 1) = ((q + 1 : Nat) : Int) := by rw [wrap64 (by omega) (by omega)]; rfl
   simp only [c_seq, RUNA, RUNB, zAd, zMo, zDi, zSu, zMu, zEq, zBe, zLe, zTo, fillS, wantG, vBox, Value.cells, one, putAt, s0, s1, s2, s7, s8, hd, ln63]
   refine d_go (ms := [0, 1, 3, 3, 15, 31, 3, 67, 195, 511, 1023, 2047]) (order := [0, 1, 2, 3, 4, 5, 6, 7, 8, 9, 10, 11]) (by kernel_rfl) (by kernel_rfl) (by kernel_rfl) (by kernel_rfl) ?_
   cases hp : pre t q with
   | true =>
    rw [hp] at s7
    simp only [YRUNA, YRUNB, zSh, bit, c_seq, RUNA, RUNB, zAd, zMo, zDi, zSu, zMu, zEq, zBe, zLe, zTo, fillS, wantG, vBox, Value.cells, one, putAt, s0, s1, s2, s7, s8, ia63 z2 z3, ia63 z0 z1, ld4, rt, tq, t0, n_eqb Tryz.underlying4, hw]
    refine ⟨N - (q + 1), by omega, ?_, q + 1, ?_, rfl, by omega, by omega, rfl⟩
    ·repeat first | assumption | exact EXn.refl _ _ | refine EXn.more ?_ _ | refine EXn.put ?_ (by omega) _ | refine EX.trans ?_ (by assumption)
    ·rw [pre_s, hp, Bool.true_and]
   | false =>
    rw [hp] at s7
    simp only [YRUNA, YRUNB, zSh, bit, c_seq, RUNA, RUNB, zAd, zMo, zDi, zSu, zMu, zEq, zBe, zLe, zTo, fillS, wantG, vBox, Value.cells, one, putAt, s0, s1, s2, s7, s8, hw]
    refine ⟨N - (q + 1), by omega, ?_, q + 1, ?_, rfl, by omega, by omega, rfl⟩
    ·repeat first | assumption | exact EXn.refl _ _ | refine EXn.more ?_ _ | refine EXn.put ?_ (by omega) _ | refine EX.trans ?_ (by assumption)
    ·rw [pre_s, hp, Bool.false_and]
  ·have hd : decide ((q : Int) < (N : Int)) = false := by simp; omega
   have hqN : q = N := by omega
   cases hp : pre t q with
   | true =>
    rw [hp] at s7
    have hs : allSame t = true := by rw [← hp, hqN, ← hlen]; rfl
    rw [bld_same hs]
    cases h0 : bt t 0 with
    | true =>
     rw [h0] at t0
     simp only [c_seq, RUNA, RUNB, zAd, zMo, zDi, zSu, zMu, zEq, zBe, zLe, zTo, fillS, wantG, vBox, Value.cells, one, putAt, s0, s1, s2, s7, s8, hd, ln63, ia63 z0 z1, ld4, rt, t0, hr]
     refine ⟨hB.mono ?_, EXn.weak (n := σ.next) ?_ hn0⟩
     ·repeat first | assumption | exact EXn.refl _ _ | refine EXn.more ?_ _ | refine EXn.put ?_ (by omega) _ | refine EX.trans ?_ (by assumption)
     ·repeat first | assumption | exact EXn.refl _ _ | refine EXn.more ?_ _ | refine EXn.put ?_ (by omega) _ | refine EX.trans ?_ (by assumption)
    | false =>
     rw [h0] at t0
     simp only [c_seq, RUNA, RUNB, zAd, zMo, zDi, zSu, zMu, zEq, zBe, zLe, zTo, fillS, wantG, vBox, Value.cells, one, putAt, s0, s1, s2, s7, s8, hd, ln63, ia63 z0 z1, ld4, rt, t0, hr]
     refine ⟨hB.mono ?_, EXn.weak (n := σ.next) ?_ hn0⟩
     ·repeat first | assumption | exact EXn.refl _ _ | refine EXn.more ?_ _ | refine EXn.put ?_ (by omega) _ | refine EX.trans ?_ (by assumption)
     ·repeat first | assumption | exact EXn.refl _ _ | refine EXn.more ?_ _ | refine EXn.put ?_ (by omega) _ | refine EX.trans ?_ (by assumption)
   | false =>
    rw [hp] at s7
    have hs : allSame t = false := by rw [← hp, hqN, ← hlen]; rfl
    have hk0 : k ≠ 0 := by
     intro h0
     rw [h0] at hN
     have : allSame t = true := by simp only [allSame, decide_eq_true_eq]; intro j hj; rw [show j = 0 by omega]
     rw [hs] at this; cases this
    obtain ⟨k', rfl⟩ : ∃ k', k = k' + 1 := ⟨k - 1, by omega⟩
    have ih := ih k' rfl
    obtain ⟨H, hH⟩ : ∃ H, H = 2 ^ k' := ⟨_, rfl⟩
    have hNH : N = 2 * H := by rw [hN, hH, Nat.pow_succ]; omega
    have hdiv : IntKind.i64.wrap (Int.tdiv (N : Int) 2) = (H : Int) := by
     rw [show Int.tdiv (N : Int) 2 = (H : Int) by rw [hNH, Int.natCast_mul]; exact Int.mul_tdiv_cancel_left _ (by decide)]
     exact wrap64 (by omega) (by omega)
    have hi1 : IntKind.i64.wrap (10 - ((k' + 1 : Nat) : Int) + 1) = 10 - (k' : Int) := by rw [wrap64 (by omega) (by omega)]; omega
    have two0 : (2 : Int) ≠ 0 := by decide
    simp only [c_seq, RUNA, RUNB, zAd, zMo, zDi, zSu, zMu, zEq, zBe, zLe, zTo, fillS, wantG, vBox, Value.cells, one, putAt, s0, s1, s2, s7, s8, hd, ln63, n_quo two0, hdiv, hi1]
    refine slice_ex (slice_in (l := none) (h := some (H : Int)) Tryz.underlying63 sz4 (cs := row) (m := m) ?_ hmz rfl rfl (by simp) (by simp; omega) (by simp; omega)) ?_
    ·simp only [row_more]; exact rt
    intro c1
    simp only [c_seq, RUNA, RUNB, zAd, zMo, zDi, zSu, zMu, zEq, zBe, zLe, zTo, fillS, wantG, vBox, Value.cells, one, putAt, s0, s1, s2, hi1]
    have e1 : EX σ ((((τ.more 4).more 1).more 4).more 8) := by repeat first | assumption | exact EXn.refl _ _ | refine EXn.more ?_ _ | refine EXn.put ?_ (by omega) _ | refine EX.trans ?_ (by assumption)
    have n1 := e1.next
    refine wpc_mono (ih (t.take H) l _ tid off c1 H row m hH (by simp; omega) hl2 (by omega) htid (by omega) ?_ hmz (tb_take hrt (by omega)) (hB.mono e1) (e1.fr hF)) ?_
    ·simp only [row_more]; exact rt
    rintro r σ2 ⟨rfl, hB2, hE2⟩
    have e2 : EXn n0 σ σ2 := (e1.weak hn0).trans hE2
    have n2 := e2.next
    have rt2 : σ2.row tid = some (row, m) := (e2.row tid htid).trans hrow
    simp only [c_seq, RUNA, RUNB, zAd, zMo, zDi, zSu, zMu, zEq, zBe, zLe, zTo, fillS, wantG, vBox, Value.cells, one, putAt, s0, s1, s2, hi1]
    refine slice_ex (slice_in (l := some (H : Int)) (h := none) Tryz.underlying63 sz4 (cs := row) (m := m) ?_ hmz rfl rfl (by simp) (by simp; omega) (by simp)) ?_
    ·simp only [row_more]; exact rt2
    intro c2
    simp only [c_seq, RUNA, RUNB, zAd, zMo, zDi, zSu, zMu, zEq, zBe, zLe, zTo, fillS, wantG, vBox, Value.cells, one, putAt, s0, s1, s2, hi1, show N - H = H by omega]
    have hA := bld_len k' (t.take H) l
    rw [← hH] at hA
    have hbs : bld (k' + 1) t l = if (bld k' (t.take H) l).1 = (bld k' (t.drop H) (bld k' (t.take H) l).2).1 then ((bld k' (t.take H) l).1, (bld k' (t.drop H) (bld k' (t.take H) l).2).2) else
     ((fnd (9 - (k' : Int), (bld k' (t.take H) l).1, (bld k' (t.drop H) (bld k' (t.take H) l).2).1) (bld k' (t.drop H) (bld k' (t.take H) l).2).2 : Int),
      if fnd (9 - (k' : Int), (bld k' (t.take H) l).1, (bld k' (t.drop H) (bld k' (t.take H) l).2).1) (bld k' (t.drop H) (bld k' (t.take H) l).2).2 < (bld k' (t.drop H) (bld k' (t.take H) l).2).2.length then (bld k' (t.drop H) (bld k' (t.take H) l).2).2 else (bld k' (t.drop H) (bld k' (t.take H) l).2).2 ++ [(9 - (k' : Int), (bld k' (t.take H) l).1, (bld k' (t.drop H) (bld k' (t.take H) l).2).1)]) := by
     rw [hH]; simp only [bld, hs, Bool.false_eq_true, if_false]
    rw [hbs]
    clear hbs
    generalize bld k' (t.take H) l = A at *
    have hC := bld_len k' (t.drop H) A.2
    rw [← hH] at hC
    have e2' : EXn n0 σ (σ2.more 8) := by repeat first | assumption | exact EXn.refl _ _ | refine EXn.more ?_ _ | refine EXn.put ?_ (by omega) _ | refine EX.trans ?_ (by assumption)
    refine wpc_mono (ih (t.drop H) A.2 _ tid (off + H) c2 H row m hH (by simp; omega) (by omega) (by omega) htid (by simp only [next_more]; omega) ?_ hmz ?_ (hB2.mono ((EX.refl σ2).more 8)) (e2'.fr hF)) ?_
    ·simp only [row_more]; exact rt2
    ·have := tb_drop (H := H) hrt; rwa [show N - H = H by omega] at this
    generalize bld k' (t.drop H) A.2 = B at *
    rintro r σ3 ⟨rfl, hB3, hE3⟩
    have e3 : EXn n0 σ σ3 := e2'.trans hE3
    have n3 := e3.next
    by_cases hAB : A.1 = B.1
    ·have hAB' : (A.1 == B.1) = true := by simp [hAB]
     rw [if_pos hAB]
     simp only [c_seq, RUNA, RUNB, zAd, zMo, zDi, zSu, zMu, zEq, zBe, zLe, zTo, fillS, wantG, vBox, Value.cells, one, putAt, s0, s1, s2, hAB', hr]
     refine ⟨hB3.mono ?_, ?_⟩
     ·repeat first | assumption | exact EXn.refl _ _ | refine EXn.more ?_ _ | refine EXn.put ?_ (by omega) _ | refine EX.trans ?_ (by assumption)
     ·repeat first | assumption | exact EXn.refl _ _ | refine EXn.more ?_ _ | refine EXn.put ?_ (by omega) _ | refine EX.trans ?_ (by assumption)
    ·have hAB' : (A.1 == B.1) = false := by simp [hAB]
     rw [if_neg hAB]
     simp only [c_seq, RUNA, RUNB, zAd, zMo, zDi, zSu, zMu, zEq, zBe, zLe, zTo, fillS, wantG, vBox, Value.cells, one, putAt, s0, s1, s2, hAB', hr]
     obtain ⟨x, hx⟩ : ∃ x : Vtx, x = (9 - (k' : Int), A.1, B.1) := ⟨_, rfl⟩
     rw [← hx]
     obtain ⟨sv, sid, b1, ⟨kc, mm, rfl, b3, b4, b5, b6⟩, b7, b8, b9, b10⟩ := hB3
     have hL : B.2.length < 6000 := by omega
     refine loop_go (fun m S τ => S.at 0 = .pointer (some ⟨b, 0, none⟩) ∧ S.at 2 = .int .i64 x.1 ∧ S.at 10 = .int .i64 x.2.1 ∧ S.at 11 = .int .i64 x.2.2 ∧ EX σ3 τ ∧
      ∃ j : Nat, S.at 12 = .int .i64 j ∧ 2 ≤ j ∧ j ≤ B.2.length ∧ m = B.2.length - j ∧ ∀ q, 2 ≤ q → q < j → vx B.2 q ≠ x) (B.2.length - 2) ?_ ?_
     ·simp only [c_seq, RUNA, RUNB, zAd, zMo, zDi, zSu, zMu, zEq, zBe, zLe, zTo, fillS, wantG, vBox, Value.cells, one, putAt, s0, s2]
      refine ⟨?_, ?_, ?_, ?_, 2, rfl, by omega, by omega, rfl, fun q h1 h2 => by omega⟩
      ·rw [hx]; congr 1; omega
      ·rw [hx]
      ·rw [hx]
      ·repeat first | assumption | exact EXn.refl _ _ | refine EXn.more ?_ _ | refine EXn.put ?_ (by omega) _ | refine EX.trans ?_ (by assumption)
     ·clear s0 s1 s2 s7 s8
      rintro _ S τ ⟨s0, s2, s10, s11, hE, j, s12, hj2, hjL, rfl, hq⟩
      have rb : τ.row b = some ([.slice (some ⟨sid, 0, none⟩) B.2.length kc], boxMeta) := (hE.row b b8).trans b1
      have rs : τ.row sid = some (flat B.2, mm) := (hE.row sid b3).trans b4
      by_cases hlt : j < B.2.length
      ·have hd : decide ((j : Int) < (B.2.length : Int)) = true := by simp; omega
       have z2 : (0 : Int) ≤ (j : Int) := by omega
       have z3 : (j : Int) < (B.2.length : Int) := by omega
       have hw : IntKind.i64.wrap ((j : Int) + 1) = ((j + 1 : Nat) : Int) := by rw [wrap64 (by omega) (by omega)]; rfl
       have hc := row_cut (row := flat B.2) (off := 0) (l := B.2) (by rw [List.drop_zero, ← flat_length, List.take_length]) hlt
       rw [Nat.zero_add] at hc
       by_cases hv : vx B.2 j = x
       ·have hv' := veq_t hv
        simp only [c_seq, RUNA, RUNB, zAd, zMo, zDi, zSu, zMu, zEq, zBe, zLe, zTo, fillS, wantG, vBox, Value.cells, one, putAt, s0, s2, s10, s11, s12, hd, fa94_0, ld39, rb, ln39, ia39 z2 z3, ld54, rs, hc, bd40, eql40, hv', hr]
        have hf : fnd x B.2 = j := fnd_hit hj2 hq hv hlt
        rw [hf, if_pos hlt]
        have e4 : EX σ3 (((τ.more 7).more 12).more 2) := by repeat first | assumption | exact EXn.refl _ _ | refine EXn.more ?_ _ | refine EXn.put ?_ (by omega) _ | refine EX.trans ?_ (by assumption)
        exact ⟨rfl, BL.mono ⟨_, sid, b1, ⟨kc, mm, rfl, b3, b4, b5, b6⟩, b7, b8, b9, b10⟩ e4, e3.thn hn0 e4⟩
       ·have hv' := veq_f hv
        simp only [c_seq, RUNA, RUNB, zAd, zMo, zDi, zSu, zMu, zEq, zBe, zLe, zTo, fillS, wantG, vBox, Value.cells, one, putAt, s0, s2, s10, s11, s12, hd, fa94_0, ld39, rb, ln39, ia39 z2 z3, ld54, rs, hc, bd40, eql40, hv', hw]
        refine ⟨B.2.length - (j + 1), by omega, ?_, j + 1, rfl, by omega, by omega, rfl, fun q h1 h2 => ?_⟩
        ·repeat first | assumption | exact EXn.refl _ _ | refine EXn.more ?_ _ | refine EXn.put ?_ (by omega) _ | refine EX.trans ?_ (by assumption)
        ·by_cases e : q = j
         ·rw [e]; exact hv
         ·exact hq q h1 (by omega)
      ·have hd : decide ((j : Int) < (B.2.length : Int)) = false := by simp; omega
       have hf : fnd x B.2 = B.2.length := fnd_miss (by omega) (fun q h1 h2 => hq q h1 (by omega))
       simp only [c_seq, RUNA, RUNB, zAd, zMo, zDi, zSu, zMu, zEq, zBe, zLe, zTo, fillS, wantG, vBox, Value.cells, one, putAt, s0, s2, s10, s11, s12, hd, fa94_0, ld39, rb, ln39, bd40, bs23_1, hr]
       have hn4 := hE.next
       have v4 : τ.ver (τ.next + 17) = 0 := hE.fr (e3.fr hF) _ (by omega)
       refine app_ex (app_own (id := sid) (n := B.2.length) (cs := flat B.2) (z := 3) (x := 1) (xs := flat [(x.1, x.2.1, x.2.2)]) ?_ Tryz.underlying39 Tryz.underlying39 if54 rfl ?_ rfl (by omega) (by omega) rfl (by omega) ?_ ?_ (by omega) (by omega) rfl) ?_
       ·refine ⟨kc, mm, rfl, ?_, ?_, b5, b6⟩
        ·simp only [next_put, next_more]; omega
        ·rw [row_put_ne (by omega)]; exact rs
       ·simp only [aSource, row_put, if_true, good_row]; rfl
       ·rw [ver_put]; exact v4
       ·simp only [next_put, next_more]; omega
       ·rintro v σ4 ⟨⟨k4, m4, rfl, o2, o3, o4⟩, hB4⟩
        have n4 := hB4.next
        simp only [next_put, next_more] at n4
        have r4 : σ4.row b = some ([.slice (some ⟨sid, 0, none⟩) B.2.length kc], boxMeta) := by
         rw [hB4.row _ (by omega) (by omega), row_put_ne (by omega)]; exact rb
        have hsub : IntKind.i64.wrap (((B.2.length + 1 : Nat) : Int) - 1) = (B.2.length : Int) := by rw [wrap64 (by omega) (by omega)]; omega
        simp only [c_seq, RUNA, RUNB, zAd, zMo, zDi, zSu, zMu, zEq, zBe, zLe, zTo, fillS, wantG, vBox, Value.cells, one, putAt, s0, fa94_0, st39, ld39, ln39, r4, hsub, hr]
        rw [hf, if_neg (by omega)]
        have e4 : EXn n0 σ (((τ.more 7).more 14).put (τ.next + 16) (AObj.cells (flat [(x.1, x.2.1, x.2.2)]) (rowMeta 3))) := by
         refine EXn.put ?_ (by omega) _
         refine EXn.more (EXn.more ?_ _) _
         exact e3.thn hn0 hE
        refine ⟨rfl, ⟨.slice (some ⟨τ.next + 17, 0, none⟩) (B.2.length + 1) k4, τ.next + 17, ?_, ⟨k4, m4, ?_, ?_, ?_, ?_⟩, b7, ?_, by omega, by omega⟩, ?_⟩
        ·simp only [c_seq, RUNA, RUNB, zAd, zMo, zDi, zSu, zMu, zEq, zBe, zLe, zTo, fillS, wantG, vBox, Value.cells, one, putAt]
        ·rw [List.length_append]; rfl
        ·simp only [next_put, next_more]; omega
        ·rw [row_more, row_put_ne (by omega), o3, flat_append]
        ·have hl1 : (B.2 ++ [x]).length = B.2.length + 1 := by simp
         rw [flat_append, hl1]; exact o4
        ·simp only [next_put, next_more]; omega
        ·exact ((e4.trans (hB4.exn (by omega) (by omega))).put (by omega) _).more _
theorem vertex_spec (n0 b : Nat) : ∀ k, k ≤ 10 → VSpec n0 b k := by
 intro k
 induction k with
 | zero => intro _; exact vertex_step n0 b 0 (by omega) (fun k' h => by omega)
 | succ k ih => intro h; exact vertex_step n0 b (k + 1) h (fun k' h' => by rw [show k' = k by omega]; exact ih (by omega))
end Go.Proofs.Q
namespace Go.Proofs.Q
open Go.AI
theorem or_nat {x y : Nat} (hx : x < 2 ^ 62) (hy : y < 2 ^ 62) : IntKind.i64.wrap ((BitVec.ofInt 64 (x : Int) ||| BitVec.ofInt 64 (y : Int)).toNat : Int) = ((x ||| y : Nat) : Int) := by
 have h : x ||| y < 2 ^ 62 := Nat.or_lt_two_pow hx hy
 have e : (BitVec.ofInt 64 (x : Int) ||| BitVec.ofInt 64 (y : Int)).toNat = x ||| y := by
  rw [BitVec.toNat_or, BitVec.ofInt_natCast, BitVec.ofInt_natCast, BitVec.toNat_ofNat, BitVec.toNat_ofNat, Nat.mod_eq_of_lt (by omega), Nat.mod_eq_of_lt (by omega)]
 rw [e]
 exact wrap64 (by omega) (by omega)
theorem and_nat {x y : Nat} (hx : x < 2 ^ 62) (hy : y < 2 ^ 62) : IntKind.i64.wrap ((BitVec.ofInt 64 (x : Int) &&& BitVec.ofInt 64 (y : Int)).toNat : Int) = ((x &&& y : Nat) : Int) := by
 have h : x &&& y < 2 ^ 62 := Nat.and_lt_two_pow x hy
 have e : (BitVec.ofInt 64 (x : Int) &&& BitVec.ofInt 64 (y : Int)).toNat = x &&& y := by
  rw [BitVec.toNat_and, BitVec.ofInt_natCast, BitVec.ofInt_natCast, BitVec.toNat_ofNat, BitVec.toNat_ofNat, Nat.mod_eq_of_lt (by omega), Nat.mod_eq_of_lt (by omega)]
 rw [e]
 exact wrap64 (by omega) (by omega)
theorem and_one {x : Nat} (hx : x < 2 ^ 62) : IntKind.i64.wrap ((BitVec.ofInt IntKind.i64.bits (x : Int) &&& BitVec.ofInt IntKind.i64.bits 1).toNat : Int) = ((x % 2 : Nat) : Int) := by
 have := and_nat (x := x) (y := 1) hx (by decide)
 rw [Nat.and_one_is_mod] at this
 exact this
theorem shr_nat {n i : Nat} (hi : i ≤ 64) : Int.fdiv (n : Int) (2 ^ (min i IntKind.i64.bits)) = ((n / 2 ^ i : Nat) : Int) := by
 rw [show min i IntKind.i64.bits = i from Nat.min_eq_left hi, Int.fdiv_eq_ediv_of_nonneg _ (by exact_mod_cast Nat.zero_le (2 ^ i))]
 exact_mod_cast rfl
def rv (n : Nat) : Nat → Nat
 | 0 => 0
 | i + 1 => if n / 2 ^ i % 2 = 1 then rv n i ||| 2 ^ (9 - i) else rv n i
theorem rv_lt (n : Nat) : ∀ i, rv n i < 2 ^ 10 := by
 intro i
 induction i with
 | zero => simp [rv]
 | succ i ih =>
  simp only [rv]
  split
  ·exact Nat.or_lt_two_pow ih (Nat.pow_lt_pow_right (by decide) (by omega))
  ·exact ih
def turn (t : List Bool) : Nat → List Bool
 | 0 => List.replicate 1024 false
 | n + 1 => (turn t n).set (rv n 10) (bt t n)
theorem turn_len (t : List Bool) : ∀ n, (turn t n).length = 1024 := by
 intro n
 induction n with
 | zero => exact List.length_replicate
 | succ n ih => simp [turn, ih]
def dgm (t : List Bool) : List Vtx × Int := ((bld 10 (turn t 1024) c01).2, (bld 10 (turn t 1024) c01).1)
theorem dgm_eq (t : List Bool) : dgm t = ((bld 10 (turn t 1024) c01).2, (bld 10 (turn t 1024) c01).1) := by unfold dgm; exact rfl
theorem zeros_false : ∀ n, zerosOf [.bool false] n = (List.replicate n false).map Value.bool := by
 intro n
 induction n with
 | zero => rfl
 | succ n ih => rw [zerosOf, ih]; simp [List.replicate_succ]
theorem bd78 (a : Option Addr) (n c : Nat) : abuild Tryz.prog 94 #[(0, .slice a n c)] = some (.agg #[.slice a n c]) := by kernel_rfl
theorem Diagram_spec (σ : St) (tid off c : Nat) (row : List Value) (m : Mta) (t : List Bool) (hlen : t.length = 1024) (htid : tid < σ.next) (hrow : σ.row tid = some (row, m)) (hrt : (row.drop off).take 1024 = t.map Value.bool) (hF : Fr σ) :
    wpc Tryz.prog 30 #[.slice (some ⟨tid, off, none⟩) 1024 c] σ fun r σ' => DVf σ.next σ' r (dgm t) ∧ EX σ σ' := by
 refine body_go Tryz.func30 rfl ?_
 have hr := Tryz.results30
 have hmk : ∀ id, vMake Tryz.prog 63 (.int .i64 ((1024 : Nat) : Int)) (.int .i64 ((1024 : Nat) : Int)) id = some (.slice (some ⟨id, 0, none⟩) 1024 1024, .cells ((turn t 0).map Value.bool) (rowMeta 1)) := by
  intro id
  rw [mk_eq Tryz.underlying63 if4 (by omega) (by omega) rfl rfl (by omega)]
  rw [show (Value.cells (.bool false)).toList = [.bool false] from rfl, zeros_false]; rfl
 simp only [c_seq, RUNA, RUNB, zAd, zMo, zDi, zSu, zMu, zEq, zBe, zLe, zTo, fillS, wantG, vBox, Value.cells, one, putAt, hr, al41, ln63, hmk]
 refine loop_go (fun m S τ => S.at 0 = .slice (some ⟨tid, off, none⟩) 1024 c ∧ S.at 2 = .pointer (some ⟨σ.next, 0, none⟩) ∧ S.at 3 = .slice (some ⟨σ.next + 3, 0, none⟩) 1024 1024 ∧ EX σ τ ∧ σ.next + 4 < τ.next ∧
  τ.row σ.next = some ([.slice none 0 0, .int .i64 0], boxMeta) ∧
  ∃ n : Nat, S.at 4 = .int .i64 n ∧ n ≤ 1024 ∧ m = 1024 - n ∧ τ.row (σ.next + 3) = some ((turn t n).map Value.bool, rowMeta 1)) 1024 ?_ ?_
 ·simp only [c_seq, RUNA, RUNB, zAd, zMo, zDi, zSu, zMu, zEq, zBe, zLe, zTo, fillS, wantG, vBox, Value.cells, one, putAt]
  refine ⟨?_, by omega, 0, rfl, by omega, by omega, rfl⟩
  repeat first | assumption | exact EXn.refl _ _ | refine EXn.more ?_ _ | refine EXn.put ?_ (by omega) _
 ·rintro _ S τ ⟨s0, s2, s3, hE, hx, r0, n, s4, hn, rfl, rt⟩
  have ra : τ.row tid = some (row, m) := (hE.row tid htid).trans hrow
  by_cases hlt : n < 1024
  ·have hd : decide ((n : Int) < ((1024 : Nat) : Int)) = true := by simp; omega
   have z2 : (0 : Int) ≤ (n : Int) := by omega
   have z3 : (n : Int) < ((1024 : Nat) : Int) := by omega
   have hw : IntKind.i64.wrap ((n : Int) + 1) = ((n + 1 : Nat) : Int) := by rw [wrap64 (by omega) (by omega)]; rfl
   have tn : row[off + n]? = some (.bool (bt t n)) := tb_at (t := t) (i := n) (by rw [hlen]; exact hrt) (by omega)
   simp only [c_seq, RUNA, RUNB, zAd, zMo, zDi, zSu, zMu, zEq, zBe, zLe, zTo, fillS, wantG, vBox, Value.cells, one, putAt, s0, s2, s3, s4, hd, ln63]
   refine loop_go (fun m S τ' => S.at 0 = .slice (some ⟨tid, off, none⟩) 1024 c ∧ S.at 2 = .pointer (some ⟨σ.next, 0, none⟩) ∧ S.at 3 = .slice (some ⟨σ.next + 3, 0, none⟩) 1024 1024 ∧ S.at 4 = .int .i64 n ∧ EX τ τ' ∧
    ∃ i : Nat, S.at 6 = .int .i64 i ∧ i ≤ 10 ∧ m = 10 - i ∧ S.at 5 = .int .i64 (rv n i : Nat)) 10 ?_ ?_
   ·simp only [c_seq, RUNA, RUNB, zAd, zMo, zDi, zSu, zMu, zEq, zBe, zLe, zTo, fillS, wantG, vBox, Value.cells, one, putAt, s0, s2, s3, s4]
    refine ⟨?_, 0, rfl, by omega, by omega, rfl⟩
    repeat first | assumption | exact EXn.refl _ _ | refine EXn.more ?_ _ | refine EXn.put ?_ (by omega) _
   ·clear s0 s2 s3 s4
    rintro _ S τ' ⟨s0, s2, s3, s4, hE', i, s6, hi, rfl, s5⟩
    have hn' := hE'.next
    by_cases hil : i < 10
    ·have hd' : decide ((i : Int) < 10) = true := by simp; omega
     have z4 : (0 : Int) ≤ (i : Int) := by omega
     have z5 : (0 : Int) ≤ ((9 - i : Nat) : Int) := by omega
     have hsh := shr_nat (n := n) (i := i) (by omega)
     have hlt2 : n / 2 ^ i < 2 ^ 62 := Nat.lt_of_le_of_lt (Nat.div_le_self _ _) (by omega)
     have han := and_one hlt2
     have hw' : IntKind.i64.wrap ((i : Int) + 1) = ((i + 1 : Nat) : Int) := by rw [wrap64 (by omega) (by omega)]; rfl
     by_cases hb : n / 2 ^ i % 2 = 1
     ·have hb' : (((n / 2 ^ i % 2 : Nat) : Int) == 1) = true := by rw [hb]; rfl
      have h9 : IntKind.i64.wrap (9 - (i : Int)) = ((9 - i : Nat) : Int) := by rw [wrap64 (by omega) (by omega)]; omega
      have h2 : IntKind.i64.wrap (1 * 2 ^ (min (9 - i) IntKind.i64.bits)) = ((2 ^ (9 - i) : Nat) : Int) := by
       rw [show min (9 - i) IntKind.i64.bits = 9 - i from Nat.min_eq_left (by show 9 - i ≤ 64; omega)]
       have : 2 ^ (9 - i) < 2 ^ 10 := Nat.pow_lt_pow_right (by decide) (by omega)
       rw [Int.one_mul, show (2 : Int) ^ (9 - i) = ((2 ^ (9 - i) : Nat) : Int) by exact_mod_cast rfl]
       generalize 2 ^ (9 - i) = P2 at *
       exact wrap64 (by omega) (by omega)
      have hor := or_nat (x := rv n i) (y := 2 ^ (9 - i)) (Nat.lt_of_lt_of_le (rv_lt n i) (by decide)) (Nat.pow_lt_pow_right (by decide) (by omega))
      simp only [c_seq, RUNA, RUNB, zAd, zMo, zDi, zSu, zMu, zEq, zBe, zLe, zTo, fillS, wantG, vBox, Value.cells, one, putAt, s0, s2, s3, s4, s5, s6, hd', n_shr z4, n_shl z5, hsh, han, hb', h9, h2, hw']
      refine ⟨10 - (i + 1), by omega, ?_, i + 1, rfl, by omega, rfl, ?_⟩
      ·repeat first | assumption | exact EXn.refl _ _ | refine EXn.more ?_ _ | refine EXn.put ?_ (by omega) _
      ·refine congrArg (Value.int IntKind.i64) (Eq.trans hor ?_)
       simp only [rv, hb, if_true]
     ·have hb' : (((n / 2 ^ i % 2 : Nat) : Int) == 1) = false := by rw [show n / 2 ^ i % 2 = 0 by omega]; rfl
      simp only [c_seq, RUNA, RUNB, zAd, zMo, zDi, zSu, zMu, zEq, zBe, zLe, zTo, fillS, wantG, vBox, Value.cells, one, putAt, s0, s2, s3, s4, s5, s6, hd', n_shr z4, n_shl z5, hsh, han, hb', hw']
      refine ⟨10 - (i + 1), by omega, ?_, i + 1, rfl, by omega, rfl, ?_⟩
      ·repeat first | assumption | exact EXn.refl _ _ | refine EXn.more ?_ _ | refine EXn.put ?_ (by omega) _
      ·simp only [rv, hb, if_false]
    ·have hd' : decide ((i : Int) < 10) = false := by simp; omega
     have hi10 : i = 10 := by omega
     rw [hi10] at s5
     have hrl := rv_lt n 10
     have z6 : (0 : Int) ≤ ((rv n 10 : Nat) : Int) := by omega
     have z7 : ((rv n 10 : Nat) : Int) < ((1024 : Nat) : Int) := by omega
     have ra' : τ'.row tid = some (row, m) := (hE'.row tid (by omega)).trans ra
     have rt' : τ'.row (σ.next + 3) = some ((turn t n).map Value.bool, rowMeta 1) := (hE'.row _ (by omega)).trans rt
     have r0' : τ'.row σ.next = some ([.slice none 0 0, .int .i64 0], boxMeta) := (hE'.row _ (by omega)).trans r0
     have hle : rv n 10 + 1 ≤ ((turn t n).map Value.bool).length := by rw [List.length_map, turn_len]; omega
     simp only [c_seq, RUNA, RUNB, zAd, zMo, zDi, zSu, zMu, zEq, zBe, zLe, zTo, fillS, wantG, vBox, Value.cells, one, putAt, s0, s2, s3, s4, s5, s6, hd', ia63 z2 z3, ia63 z6 z7, ld4, st4, ra', tn, rt', hle, hw, r0']
     refine ⟨1024 - (n + 1), by omega, ?_, by omega, n + 1, rfl, by omega, rfl, ?_⟩
     ·refine EXn.more (EXn.put (EXn.more (EXn.more (EX.trans hE hE') _) _) (by omega) _) _
     ·rw [turn, List.map_set]
  ·have hd : decide ((n : Int) < ((1024 : Nat) : Int)) = false := by simp; omega
   have hn1 : n = 1024 := by omega
   rw [hn1] at rt
   simp only [c_seq, RUNA, RUNB, zAd, zMo, zDi, zSu, zMu, zEq, zBe, zLe, zTo, fillS, wantG, vBox, Value.cells, one, putAt, s0, s2, s3, s4, hd, ln63, bd40, bd40_1, bs23_2, bd78]
   have e1 : EX τ ((((((τ.more 4).more 6).put (τ.next + 6) (AObj.cells (flat [(-1, 0, 0), (-1, 1, 1)]) (rowMeta 3))).put (τ.next + 8) (AObj.cells [Value.slice (some ⟨τ.next + 6, 0, none⟩) 2 2] boxMeta)).more 4)) := by repeat first | assumption | exact EXn.refl _ _ | refine EXn.more ?_ _ | refine EXn.put ?_ (by omega) _
   have e2 := EX.trans hE e1
   have htk : (((turn t 1024).map Value.bool).drop 0).take 1024 = (turn t 1024).map Value.bool := by
    rw [List.drop_zero, List.take_of_length_le (by rw [List.length_map, turn_len]; omega)]
   have hBL : BL ((((((τ.more 4).more 6).put (τ.next + 6) (AObj.cells (flat [(-1, 0, 0), (-1, 1, 1)]) (rowMeta 3))).put (τ.next + 8) (AObj.cells [Value.slice (some ⟨τ.next + 6, 0, none⟩) 2 2] boxMeta)).more 4)) τ.next (τ.next + 8) c01 := by
    refine ⟨.slice (some ⟨τ.next + 6, 0, none⟩) 2 2, τ.next + 6, ?_, ⟨2, rowMeta 3, rfl, ?_, ?_, rfl, rfl, rfl, Or.inl rfl⟩, by omega, ?_, by omega, by omega⟩
    ·simp only [c_seq, RUNA, RUNB, zAd, zMo, zDi, zSu, zMu, zEq, zBe, zLe, zTo, fillS, wantG, vBox, Value.cells, one, putAt]
    ·simp only [next_more, next_put]; omega
    ·simp only [c_seq, RUNA, RUNB, zAd, zMo, zDi, zSu, zMu, zEq, zBe, zLe, zTo, fillS, wantG, vBox, Value.cells, one, putAt]; rfl
    ·simp only [next_more, next_put]; omega
   have r3 := (e1.row _ (by omega : σ.next + 3 < τ.next)).trans rt
   have hf3 := e2.fr hF
   have n3 : τ.next ≤ (((((((τ.more 4).more 6).put (τ.next + 6) (AObj.cells (flat [(-1, 0, 0), (-1, 1, 1)]) (rowMeta 3))).put (τ.next + 8) (AObj.cells [Value.slice (some ⟨τ.next + 6, 0, none⟩) 2 2] boxMeta)).more 4))).next := e1.next
   have hv := vertex_spec τ.next (τ.next + 8) 10 (by omega) (turn t 1024) c01 _ (σ.next + 3) 0 1024 1024 _ (rowMeta 1) rfl (turn_len t 1024) (by decide) (by decide) (by omega) n3 r3 rfl htk hBL hf3
   refine wpc_mono hv ?_
   rintro r σ3 ⟨rfl, ⟨sv, sid, b1, b2, b3, b7, b8, b9⟩, hE3⟩
   obtain ⟨kc, mm, rfl, b4, b5, b6⟩ := b2
   have hn3 := hE3.next
   have r2 : σ3.row σ.next = some ([.slice none 0 0, .int .i64 0], boxMeta) := ((hE3.row σ.next (by omega)).trans (e1.row _ (by omega))).trans r0
   simp only [c_seq, RUNA, RUNB, zAd, zMo, zDi, zSu, zMu, zEq, zBe, zLe, zTo, fillS, wantG, vBox, Value.cells, one, putAt, s2, fa94_0, ld39, b1, bd25, st41, r2, ld41, hr]
   rw [dgm_eq]
   clear hv
   generalize bld 10 (turn t 1024) c01 = D at *
   refine ⟨⟨_, rfl, Or.inl ⟨sid, 0, kc, flat D.2, mm, rfl, by omega, ?_, ?_, ?_⟩⟩, ?_⟩
   ·simp only [next_put, next_more]; omega
   ·rw [row_put_ne (by omega), row_more, m3_eq b6.2.2.1]; exact b5
   ·rw [List.drop_zero]
    exact List.take_of_length_le (by rw [flat_length]; exact Nat.le_refl _)
   ·refine EXn.put (EXn.more ?_ _) (by omega) _
    exact EXn.trans e2 (EXn.weak hE3 hE.next)
end Go.Proofs.Q
namespace Go.Proofs.Q
open Go.AI
def fill (f : Nat → Bool) : Nat → List Bool
 | 0 => List.replicate 1024 false
 | n + 1 => (fill f n).set n (f n)
theorem fill_len (f : Nat → Bool) : ∀ n, (fill f n).length = 1024 := by
 intro n
 induction n with
 | zero => exact List.length_replicate
 | succ n ih => rw [fill, List.length_set, ih]
theorem mk1024 (f : Nat → Bool) (id : Nat) : vMake Tryz.prog 63 (.int .i64 1024) (.int .i64 1024) id = some (.slice (some ⟨id, 0, none⟩) 1024 1024, .cells ((fill f 0).map Value.bool) (rowMeta 1)) := by
 have h := mk_eq (P := Tryz.prog) (t := 63) (id := id) (n := 1024) Tryz.underlying63 if4 (by omega) (by omega) rfl rfl (by omega)
 rw [show (Value.cells (.bool false)).toList = [.bool false] from rfl, zeros_false] at h
 exact h
theorem refConstant_spec (b : Bool) (σ : St) (hF : Fr σ) : wpc Tryz.prog 31 #[.bool b] σ fun r σ' => DVf σ.next σ' r (dgm (fill (fun _ => b) 1024)) ∧ EX σ σ' := by
 refine body_go Tryz.func31 rfl ?_
 have hr := Tryz.results31
 simp only [c_seq, RUNA, RUNB, zAd, zMo, zDi, zSu, zMu, zEq, zBe, zLe, zTo, fillS, wantG, vBox, Value.cells, one, putAt, hr, al41, mk1024 (fun _ => b)]
 refine loop_go (fun m S τ => S.at 0 = .bool b ∧ S.at 2 = .pointer (some ⟨σ.next, 0, none⟩) ∧ S.at 3 = .slice (some ⟨σ.next + 1, 0, none⟩) 1024 1024 ∧ EX σ τ ∧ σ.next + 1 < τ.next ∧
  τ.row σ.next = some ([.slice none 0 0, .int .i64 0], boxMeta) ∧
  ∃ n : Nat, S.at 4 = .int .i64 n ∧ n ≤ 1024 ∧ m = 1024 - n ∧ τ.row (σ.next + 1) = some ((fill (fun _ => b) n).map Value.bool, rowMeta 1)) 1024 ?_ ?_
 ·simp only [c_seq, RUNA, RUNB, zAd, zMo, zDi, zSu, zMu, zEq, zBe, zLe, zTo, fillS, wantG, vBox, Value.cells, one, putAt]
  refine ⟨?_, by omega, 0, rfl, by omega, by omega, rfl⟩
  repeat first | assumption | exact EXn.refl _ _ | refine EXn.more ?_ _ | refine EXn.put ?_ (by omega) _ | refine EX.trans ?_ (by assumption)
 ·rintro _ S τ ⟨s0, s2, s3, hE, hx, r0, n, s4, hn, rfl, rt⟩
  by_cases hlt : n < 1024
  ·have hd : decide ((n : Int) < ((1024 : Nat) : Int)) = true := by simp; omega
   have z2 : (0 : Int) ≤ (n : Int) := by omega
   have z3 : (n : Int) < ((1024 : Nat) : Int) := by omega
   have hw : IntKind.i64.wrap ((n : Int) + 1) = ((n + 1 : Nat) : Int) := by rw [wrap64 (by omega) (by omega)]; rfl
   have hle : n + 1 ≤ ((fill (fun _ => b) n).map Value.bool).length := by rw [List.length_map, fill_len]; omega
   simp only [c_seq, RUNA, RUNB, zAd, zMo, zDi, zSu, zMu, zEq, zBe, zLe, zTo, fillS, wantG, vBox, Value.cells, one, putAt, s0, s2, s3, s4, hd, ln63, ia63 z2 z3, st4, rt, hle, hw, r0]
   refine ⟨1024 - (n + 1), by omega, ?_, by omega, n + 1, rfl, by omega, rfl, ?_⟩
   ·refine EXn.more (EXn.put (EXn.more (EXn.more hE _) _) (by omega) _) _
   ·rw [fill, List.map_set]
  ·have hd : decide ((n : Int) < ((1024 : Nat) : Int)) = false := by simp; omega
   have hn1 : n = 1024 := by omega
   rw [hn1] at rt
   simp only [c_seq, RUNA, RUNB, zAd, zMo, zDi, zSu, zMu, zEq, zBe, zLe, zTo, fillS, wantG, vBox, Value.cells, one, putAt, s0, s2, s3, s4, hd, ln63]
   have e1 : EX σ ((τ.more 4).more 3) := by repeat first | assumption | exact EXn.refl _ _ | refine EXn.more ?_ _ | refine EXn.put ?_ (by omega) _ | refine EX.trans ?_ (by assumption)
   have htk : (((fill (fun _ => b) 1024).map Value.bool).drop 0).take 1024 = (fill (fun _ => b) 1024).map Value.bool := by
    rw [List.drop_zero, List.take_of_length_le (by rw [List.length_map, fill_len]; omega)]
   have hsp := Diagram_spec ((τ.more 4).more 3) (σ.next + 1) 0 1024 _ (rowMeta 1) (fill (fun _ => b) 1024) (fill_len _ _) (by simp only [next_more]; omega) rt htk (e1.fr hF)
   generalize dgm (fill (fun _ => b) 1024) = D at *
   refine wpc_mono hsp ?_
   rintro r σ3 ⟨hD, hE3⟩
   obtain ⟨o, cc, rfl, hO⟩ := hD.dv.open
   have hn3 := hE3.next
   simp only [next_more] at hn3
   have r2 : σ3.row σ.next = some ([.slice none 0 0, .int .i64 0], boxMeta) := (hE3.row σ.next (by simp only [next_more]; omega)).trans r0
   simp only [c_seq, RUNA, RUNB, zAd, zMo, zDi, zSu, zMu, zEq, zBe, zLe, zTo, fillS, wantG, vBox, Value.cells, one, putAt, s2, st41, ld41, r2, hr]
   refine ⟨hD.put (by simp only [next_more]; omega) (by simp only [next_more]; omega), EXn.put (EX.trans e1 hE3) (by omega) _⟩
def bitF (i n : Nat) : Bool := ((n / 2 ^ i % 2 : Nat) : Int) == 1
theorem refVariable_in (i : Nat) (h1 : i < 10) (σ : St) (hF : Fr σ) : wpc Tryz.prog 32 #[.int .i64 i] σ fun r σ' => ∃ d, r = .tuple #[d, .int .i64 0] ∧ DVf σ.next σ' d (dgm (fill (bitF i) 1024)) ∧ EX σ σ' := by
 refine body_go Tryz.func32 rfl ?_
 have hr := Tryz.results32
 have g0 : decide ((i : Int) < 0) = false := by simp
 have g1 : decide (10 ≤ (i : Int)) = false := by simp; omega
 simp only [c_seq, RUNA, RUNB, zAd, zMo, zDi, zSu, zMu, zEq, zBe, zLe, zTo, fillS, wantG, vBox, Value.cells, one, putAt, hr, al41, g0, g1, mk1024 (bitF i)]
 refine loop_go (fun m S τ => S.at 0 = .int .i64 i ∧ S.at 2 = .pointer (some ⟨σ.next, 0, none⟩) ∧ S.at 4 = .slice (some ⟨σ.next + 8, 0, none⟩) 1024 1024 ∧ EX σ τ ∧ σ.next + 8 < τ.next ∧
  τ.row σ.next = some ([.slice none 0 0, .int .i64 0], boxMeta) ∧
  ∃ n : Nat, S.at 5 = .int .i64 n ∧ n ≤ 1024 ∧ m = 1024 - n ∧ τ.row (σ.next + 8) = some ((fill (bitF i) n).map Value.bool, rowMeta 1)) 1024 ?_ ?_
 ·simp only [c_seq, RUNA, RUNB, zAd, zMo, zDi, zSu, zMu, zEq, zBe, zLe, zTo, fillS, wantG, vBox, Value.cells, one, putAt]
  refine ⟨?_, by omega, 0, rfl, by omega, by omega, rfl⟩
  repeat first | assumption | exact EXn.refl _ _ | refine EXn.more ?_ _ | refine EXn.put ?_ (by omega) _ | refine EX.trans ?_ (by assumption)
 ·rintro _ S τ ⟨s0, s2, s3, hE, hx, r0, n, s4, hn, rfl, rt⟩
  by_cases hlt : n < 1024
  ·have hd : decide ((n : Int) < ((1024 : Nat) : Int)) = true := by simp; omega
   have z2 : (0 : Int) ≤ (n : Int) := by omega
   have z3 : (n : Int) < ((1024 : Nat) : Int) := by omega
   have z4 : (0 : Int) ≤ (i : Int) := by omega
   have hw : IntKind.i64.wrap ((n : Int) + 1) = ((n + 1 : Nat) : Int) := by rw [wrap64 (by omega) (by omega)]; rfl
   have hle : n + 1 ≤ ((fill (bitF i) n).map Value.bool).length := by rw [List.length_map, fill_len]; omega
   have hsh := shr_nat (n := n) (i := i) (by omega)
   have hlt2 : n / 2 ^ i < 2 ^ 62 := Nat.lt_of_le_of_lt (Nat.div_le_self _ _) (by omega)
   have han := and_one hlt2
   simp only [c_seq, RUNA, RUNB, zAd, zMo, zDi, zSu, zMu, zEq, zBe, zLe, zTo, fillS, wantG, vBox, Value.cells, one, putAt, s0, s2, s3, s4, hd, ln63, n_shr z4, hsh, han, ia63 z2 z3, st4, rt, hle, hw, r0]
   refine ⟨1024 - (n + 1), by omega, ?_, by omega, n + 1, rfl, by omega, rfl, ?_⟩
   ·refine EXn.more (EXn.put (EXn.more (EXn.more hE _) _) (by omega) _) _
   ·rw [fill, List.map_set]; rfl
  ·have hd : decide ((n : Int) < ((1024 : Nat) : Int)) = false := by simp; omega
   have hn1 : n = 1024 := by omega
   rw [hn1] at rt
   simp only [c_seq, RUNA, RUNB, zAd, zMo, zDi, zSu, zMu, zEq, zBe, zLe, zTo, fillS, wantG, vBox, Value.cells, one, putAt, s0, s2, s3, s4, hd, ln63]
   have e1 : EX σ ((τ.more 4).more 4) := by repeat first | assumption | exact EXn.refl _ _ | refine EXn.more ?_ _ | refine EXn.put ?_ (by omega) _ | refine EX.trans ?_ (by assumption)
   have htk : (((fill (bitF i) 1024).map Value.bool).drop 0).take 1024 = (fill (bitF i) 1024).map Value.bool := by
    rw [List.drop_zero, List.take_of_length_le (by rw [List.length_map, fill_len]; omega)]
   have hsp := Diagram_spec ((τ.more 4).more 4) (σ.next + 8) 0 1024 _ (rowMeta 1) (fill (bitF i) 1024) (fill_len _ _) (by simp only [next_more]; omega) rt htk (e1.fr hF)
   generalize dgm (fill (bitF i) 1024) = D at *
   refine wpc_mono hsp ?_
   rintro r σ3 ⟨hD, hE3⟩
   obtain ⟨o, cc, rfl, hO⟩ := hD.dv.open
   have hn3 := hE3.next
   simp only [next_more] at hn3
   have r2 : σ3.row σ.next = some ([.slice none 0 0, .int .i64 0], boxMeta) := (hE3.row σ.next (by simp only [next_more]; omega)).trans r0
   simp only [c_seq, RUNA, RUNB, zAd, zMo, zDi, zSu, zMu, zEq, zBe, zLe, zTo, fillS, wantG, vBox, Value.cells, one, putAt, s2, st41, ld41, r2, hr]
   refine ⟨_, rfl, hD.put (by simp only [next_more]; omega) (by simp only [next_more]; omega), EXn.put (EX.trans e1 hE3) (by omega) _⟩
end Go.Proofs.Q
namespace Go.AI
section
variable {P : Program} {t : TypeId} {x y : Operand}
theorem n_eqs {a b : ByteArray} : abin P .eql t x y (.string a) (.string b) = some (.bool (a.toList == b.toList)) := by
 have h : still P (Op.stringOp .eql a b) = some (.bool (a.toList == b.toList)) := rfl
 simp only [abin, plain1, plain0, Bool.and_self, cond_true, stillP, still_bind, eqGuard, Bool.not_true, Bool.false_eq_true, if_false, still_pure, Option.bind_some, binOp, h]
theorem n_nes {a b : ByteArray} : abin P .neq t x y (.string a) (.string b) = some (.bool (!(a.toList == b.toList))) := by
 have h : still P (Op.stringOp .neq a b) = some (.bool (!(a.toList == b.toList))) := rfl
 simp only [abin, plain1, plain0, Bool.and_self, cond_true, stillP, still_bind, eqGuard, Bool.not_true, Bool.false_eq_true, if_false, still_pure, Option.bind_some, binOp, h]
end
end Go.AI
namespace Go.Proofs.Q
open Go.AI
structure Ob where
 k : Int
 n : ByteArray
 d : ByteArray
 p : ByteArray
 s : ByteArray
 t : ByteArray
def es : ByteArray := ⟨#[]⟩
def ob0 : Ob := ⟨0, es, es, es, es, es⟩
inductive PT where
 | mk (k : Int) (p s : ByteArray) (o : Ob) (l : List PT)
def PT.k : PT → Int | .mk k _ _ _ _ => k
def PT.p : PT → ByteArray | .mk _ p _ _ _ => p
def PT.s : PT → ByteArray | .mk _ _ s _ _ => s
def PT.o : PT → Ob | .mk _ _ _ o _ => o
def PT.l : PT → List PT | .mk _ _ _ _ l => l
def tcell (t : PT) (a : Option Addr) (c : Nat) : List Value :=
 [.int .i64 t.k, .string t.p, .string t.s, .int .i64 t.o.k, .string t.o.n, .string t.o.d, .string t.o.p, .string t.o.s, .string t.o.t, .slice none 0 0, .slice a t.l.length c]
abbrev m11 (m : Mta) : Mta := { m with z := 11 }
mutual
def TC (σ : St) : PT → List Value → Prop
 | .mk k p s o l, xs => ∃ a c, xs = tcell (.mk k p s o l) a c ∧ (l ≠ [] → ∃ id off row m, a = some ⟨id, off, none⟩ ∧ id < σ.next ∧ σ.row id = some (row, m11 m) ∧ TL σ l ((row.drop off).take (l.length * 11)))
def TL (σ : St) : List PT → List Value → Prop
 | [], xs => xs = []
 | t :: l, xs => ∃ a b, xs = a ++ b ∧ TC σ t a ∧ TL σ l b
end
mutual
theorem TC.mono {σ σ' : St} (e : EX σ σ') : ∀ (t : PT) {xs : List Value}, TC σ t xs → TC σ' t xs
 | .mk k p s o l, xs, h => by
  simp only [TC] at h ⊢
  obtain ⟨a, c, h1, h2⟩ := h
  refine ⟨a, c, h1, fun hl => ?_⟩
  obtain ⟨id, off, row, m, g1, g2, g3, g4⟩ := h2 hl
  exact ⟨id, off, row, m, g1, by have := e.next; omega, (e.row id g2).trans g3, TL.mono e l g4⟩
theorem TL.mono {σ σ' : St} (e : EX σ σ') : ∀ (l : List PT) {xs : List Value}, TL σ l xs → TL σ' l xs
 | [], xs, h => h
 | t :: l, xs, h => by
  simp only [TL] at h ⊢
  obtain ⟨a, b, h1, h2, h3⟩ := h
  exact ⟨a, b, h1, TC.mono e t h2, TL.mono e l h3⟩
end
theorem TC.len {σ : St} {t : PT} {xs : List Value} (h : TC σ t xs) : xs.length = 11 := by
 cases t; simp only [TC] at h
 obtain ⟨a, c, rfl, _⟩ := h; rfl
theorem TL.len {σ : St} : ∀ {l : List PT} {xs : List Value}, TL σ l xs → xs.length = l.length * 11
 | [], xs, h => by simp only [TL] at h; subst h; rfl
 | t :: l, xs, h => by
  simp only [TL] at h
  obtain ⟨a, b, rfl, h2, h3⟩ := h
  rw [List.length_append, h2.len, TL.len h3, List.length_cons]; omega
theorem TL.get {σ : St} : ∀ {l : List PT} {xs : List Value} {i : Nat} {t : PT}, TL σ l xs → l[i]? = some t → TC σ t ((xs.drop (i * 11)).take 11)
 | t :: l, xs, 0, u, h, e => by
  simp only [TL] at h
  obtain ⟨a, b, rfl, h2, h3⟩ := h
  simp only [List.getElem?_cons_zero, Option.some.injEq] at e
  subst e
  rw [Nat.zero_mul, List.drop_zero, List.take_append_of_le_length (by rw [h2.len]; omega), List.take_of_length_le (by rw [h2.len]; omega)]
  exact h2
 | t :: l, xs, i + 1, u, h, e => by
  simp only [TL] at h
  obtain ⟨a, b, rfl, h2, h3⟩ := h
  simp only [List.getElem?_cons_succ] at e
  have := TL.get h3 e
  rw [show (i + 1) * 11 = a.length + i * 11 by rw [h2.len]; omega, List.drop_append, List.drop_eq_nil_of_le (by omega), List.nil_append]
  rw [show a.length + i * 11 - a.length = i * 11 by omega]
  exact this
def TV (σ : St) (v : Value) (t : PT) : Prop := ∃ xs, v = .agg xs.toArray ∧ TC σ t xs
theorem TV.mono {σ σ' : St} {v : Value} {t : PT} (h : TV σ v t) (e : EX σ σ') : TV σ' v t := by
 obtain ⟨xs, h1, h2⟩ := h; exact ⟨xs, h1, TC.mono e t h2⟩
theorem TV.open {σ : St} {v : Value} {t : PT} (h : TV σ v t) : ∃ a c, v = .agg #[.int .i64 t.k, .string t.p, .string t.s, .int .i64 t.o.k, .string t.o.n, .string t.o.d, .string t.o.p, .string t.o.s, .string t.o.t, .slice none 0 0, .slice a t.l.length c] ∧
    (t.l ≠ [] → ∃ id off row m, a = some ⟨id, off, none⟩ ∧ id < σ.next ∧ σ.row id = some (row, m11 m) ∧ TL σ t.l ((row.drop off).take (t.l.length * 11))) := by
 obtain ⟨xs, rfl, h⟩ := h
 cases t with | mk k p s o l =>
 simp only [TC] at h
 obtain ⟨a, c, rfl, h2⟩ := h
 exact ⟨a, c, rfl, h2⟩
theorem TV.mk {σ : St} {t : PT} {a : Option Addr} {c : Nat} (h : t.l ≠ [] → ∃ id off row m, a = some ⟨id, off, none⟩ ∧ id < σ.next ∧ σ.row id = some (row, m11 m) ∧ TL σ t.l ((row.drop off).take (t.l.length * 11))) :
    TV σ (.agg #[.int .i64 t.k, .string t.p, .string t.s, .int .i64 t.o.k, .string t.o.n, .string t.o.d, .string t.o.p, .string t.o.s, .string t.o.t, .slice none 0 0, .slice a t.l.length c]) t := by
 refine ⟨tcell t a c, rfl, ?_⟩
 cases t; simp only [TC]; exact ⟨a, c, rfl, h⟩
end Go.Proofs.Q
namespace Go.Proofs.Q
open Go.AI
def lsp : ByteArray := ⟨#[108, 105, 115, 112]⟩
theorem beq_str (a b : ByteArray) : (a == b) = decide (a = b) := by
 obtain ⟨⟨x⟩⟩ := a
 obtain ⟨⟨y⟩⟩ := b
 show ((⟨x⟩ : Array UInt8) == ⟨y⟩) = _
 by_cases h : x = y <;> simp [h]
theorem beq_strL (a b : ByteArray) : (a.toList == b.toList) = decide (a = b) := by rw [← beq_toListBytes, beq_str]
theorem eqS {t : TypeId} {x y : Operand} {a b : ByteArray} : abin Tryz.prog .eql t x y (.string a) (.string b) = some (.bool (decide (a = b))) := by rw [n_eqs, beq_strL]
theorem neS {t : TypeId} {x y : Operand} {a b : ByteArray} : abin Tryz.prog .neq t x y (.string a) (.string b) = some (.bool (!decide (a = b))) := by rw [n_nes, beq_strL]
theorem eqIn_str {d : Nat} {t : TypeId} {a b : ByteArray} (ht : Tryz.prog.underlying t = some .string) : still Tryz.prog (Op.equalIn (d + 1) t (.string a) (.string b)) = some (decide (a = b)) := by
 rw [Op.equalIn.eq_2, still_bind, still_underlying, ht, ← beq_str]; rfl
theorem ps0 (a b : ByteArray) : still Tryz.prog (part 9 #[.string a, .string b] 0) = some (.string a) := by kernel_rfl
theorem ps1 (a b : ByteArray) : still Tryz.prog (part 9 #[.string a, .string b] 1) = some (.string b) := by kernel_rfl
theorem eqfS (a b c d : ByteArray) : still Tryz.prog (Op.equal 28 (.agg #[.string a, .string b]) (.agg #[.string c, .string d])) = some (decide (a = c ∧ b = d)) := by
 unfold Op.equal
 rw [show Op.maxDepth = 9998 + 1 + 1 from rfl, still_eq_struct Tryz.underlying28 (by kernel_rfl)]
 simp only [Op.eqFields, still_bind, still_ite, ps0, ps1, Option.bind_some, eqIn_str Tryz.underlying9, still_pure]
 by_cases h1 : a = c <;> by_cases h2 : b = d <;> simp [h1, h2]
theorem eqY {x y : Operand} (a b c d : ByteArray) : abin Tryz.prog .eql 28 x y (.agg #[.string a, .string b]) (.agg #[.string c, .string d]) = some (.bool (decide (a = c ∧ b = d))) :=
 abin_eql rfl rfl (by kernel_rfl) (eqfS a b c d)
theorem neY {x y : Operand} (a b c d : ByteArray) : abin Tryz.prog .neq 28 x y (.agg #[.string a, .string b]) (.agg #[.string c, .string d]) = some (.bool (!decide (a = c ∧ b = d))) :=
 abin_neq rfl rfl (by kernel_rfl) (eqfS a b c d)
theorem bdSym (a b : ByteArray) : abuild Tryz.prog 28 #[(0, .string a), (1, .string b)] = some (.agg #[.string a, .string b]) := by kernel_rfl
theorem refLisp_spec (s : ByteArray) (σ : St) : wpc Tryz.prog 58 #[.string s] σ fun r σ' => r = .agg #[.string lsp, .string s] ∧ EX σ σ' := by
 refine body_go Tryz.func58 rfl ?_
 have hr := Tryz.results58
 simp only [c_seq, RUNA, RUNB, zAd, zMo, zDi, zSu, zMu, zEq, zBe, zLe, zTo, fillS, wantG, vBox, Value.cells, one, putAt, TYA, hr, bdSym]
 exact ⟨rfl, by repeat first | assumption | exact EXn.refl _ _ | refine EXn.more ?_ _ | refine EXn.put ?_ (by omega) _ | refine EX.trans ?_ (by assumption)⟩
def isB (t : PT) (n : ByteArray) (k : Int) : Bool := decide (t.k = 3) && decide (t.p = lsp ∧ t.s = n) && decide ((t.l.length : Int) = k)
theorem refIs_spec {σ : St} {v : Value} {t : PT} (h : TV σ v t) (n : ByteArray) (k : Int) : wpc Tryz.prog 64 #[v, .string n, .int .i64 k] σ fun r σ' => r = .bool (isB t n k) ∧ EX σ σ' := by
 obtain ⟨a, c, rfl, -⟩ := h.open
 refine body_go Tryz.func64 rfl ?_
 have hr := Tryz.results64
 simp only [c_seq, RUNA, RUNB, zAd, zMo, zDi, zSu, zMu, zEq, zBe, zLe, zTo, fillS, wantG, vBox, Value.cells, one, putAt, TYA, hr]
 refine d_go (ms := [0, 1, 3, 7, 15, 31, 15, 79, 255, 511, 1023, 2047, 4095, 8191, 2047, 32767, 65535, 131071]) (order := [0, 1, 2, 3, 4, 5, 6, 7, 8, 9, 10, 11, 12, 13, 14, 15, 16, 17]) (by kernel_rfl) (by kernel_rfl) (by kernel_rfl) (by kernel_rfl) ?_
 unfold isB
 by_cases h3 : t.k = 3
 ·have g1 : (t.k == (3 : Int)) = true := by simp [h3]
  simp only [YRUNA, YRUNB, zSh, bit, c_seq, RUNA, RUNB, zAd, zMo, zDi, zSu, zMu, zEq, zBe, zLe, zTo, fillS, wantG, vBox, Value.cells, one, putAt, TYA, g1]
  refine wpc_mono (refLisp_spec n _) ?_
  rintro r σ2 ⟨rfl, hE⟩
  have r2 : σ2.row σ.next = some (tcell t a c, boxMeta) := by rw [hE.row _ (by first | omega | (simp only [next_more, next_put] at *; omega))]; simp only [c_seq, RUNA, RUNB, zAd, zMo, zDi, zSu, zMu, zEq, zBe, zLe, zTo, fillS, wantG, vBox, Value.cells, one, putAt, tcell]
  simp only [tcell] at r2
  have e2 : EX σ σ2 := by refine EX.trans ?_ hE; repeat first | assumption | exact EXn.refl _ _ | refine EXn.more ?_ _ | refine EXn.put ?_ (by omega) _ | refine EX.trans ?_ (by assumption)
  by_cases h4 : t.p = lsp ∧ t.s = n
  ·have g2 : decide (t.p = lsp ∧ t.s = n) = true := decide_eq_true h4
   by_cases h5 : (t.l.length : Int) = k
   ·have g3 : ((t.l.length : Int) == k) = true := by simp [h5]
    simp only [YRUNA, YRUNB, zSh, bit, c_seq, RUNA, RUNB, zAd, zMo, zDi, zSu, zMu, zEq, zBe, zLe, zTo, fillS, wantG, vBox, Value.cells, one, putAt, TYA, g1, g2, g3, r2, eqY, hr]
    exact ⟨by simp [h3, g2, h5], by repeat first | assumption | exact EXn.refl _ _ | refine EXn.more ?_ _ | refine EXn.put ?_ (by omega) _ | refine EX.trans ?_ (by assumption)⟩
   ·have g3 : ((t.l.length : Int) == k) = false := by simp [h5]
    simp only [YRUNA, YRUNB, zSh, bit, c_seq, RUNA, RUNB, zAd, zMo, zDi, zSu, zMu, zEq, zBe, zLe, zTo, fillS, wantG, vBox, Value.cells, one, putAt, TYA, g1, g2, g3, r2, eqY, hr]
    exact ⟨by simp [h3, g2, h5], by repeat first | assumption | exact EXn.refl _ _ | refine EXn.more ?_ _ | refine EXn.put ?_ (by omega) _ | refine EX.trans ?_ (by assumption)⟩
  ·have g2 : decide (t.p = lsp ∧ t.s = n) = false := decide_eq_false h4
   simp only [YRUNA, YRUNB, zSh, bit, c_seq, RUNA, RUNB, zAd, zMo, zDi, zSu, zMu, zEq, zBe, zLe, zTo, fillS, wantG, vBox, Value.cells, one, putAt, TYA, g1, g2, r2, eqY, hr]
   exact ⟨by simp [g2], by repeat first | assumption | exact EXn.refl _ _ | refine EXn.more ?_ _ | refine EXn.put ?_ (by omega) _ | refine EX.trans ?_ (by assumption)⟩
 ·have g1 : (t.k == (3 : Int)) = false := by simp [h3]
  simp only [YRUNA, YRUNB, zSh, bit, c_seq, RUNA, RUNB, zAd, zMo, zDi, zSu, zMu, zEq, zBe, zLe, zTo, fillS, wantG, vBox, Value.cells, one, putAt, TYA, g1, hr]
  exact ⟨by simp [h3], by repeat first | assumption | exact EXn.refl _ _ | refine EXn.more ?_ _ | refine EXn.put ?_ (by omega) _ | refine EX.trans ?_ (by assumption)⟩
theorem Is_spec {σ : St} {v : Value} {t : PT} (h : TV σ v t) (n : ByteArray) (k : Int) : wpc Tryz.prog 75 #[v, .string n, .int .i64 k] σ fun r σ' => r = .bool (isB t n k) ∧ EX σ σ' := by
 obtain ⟨a, c, rfl, -⟩ := h.open
 refine body_go Tryz.func75 rfl ?_
 have hr := Tryz.results75
 unfold isB
 by_cases h3 : t.k = 3
 ·have g1 : (t.k == (3 : Int)) = true := by simp [h3]
  by_cases h4 : t.p = lsp
  ·have g2 : decide (t.p = lsp) = true := decide_eq_true h4
   have g2' : decide (t.p = ⟨#[108, 105, 115, 112]⟩) = true := g2
   by_cases h5 : t.s = n
   ·have g3 : decide (t.s = n) = true := decide_eq_true h5
    by_cases h6 : (t.l.length : Int) = k
    ·have g4 : ((t.l.length : Int) == k) = true := by simp [h6]
     simp only [c_seq, RUNA, RUNB, zAd, zMo, zDi, zSu, zMu, zEq, zBe, zLe, zTo, fillS, wantG, vBox, Value.cells, one, putAt, TYA, hr, g1, g2', g3, g4, eqS]
     exact ⟨by simp [h3, h4, h5, h6], by repeat first | assumption | exact EXn.refl _ _ | refine EXn.more ?_ _ | refine EXn.put ?_ (by omega) _ | refine EX.trans ?_ (by assumption)⟩
    ·have g4 : ((t.l.length : Int) == k) = false := by simp [h6]
     simp only [c_seq, RUNA, RUNB, zAd, zMo, zDi, zSu, zMu, zEq, zBe, zLe, zTo, fillS, wantG, vBox, Value.cells, one, putAt, TYA, hr, g1, g2', g3, g4, eqS]
     exact ⟨by simp [h6], by repeat first | assumption | exact EXn.refl _ _ | refine EXn.more ?_ _ | refine EXn.put ?_ (by omega) _ | refine EX.trans ?_ (by assumption)⟩
   ·have g3 : decide (t.s = n) = false := decide_eq_false h5
    simp only [c_seq, RUNA, RUNB, zAd, zMo, zDi, zSu, zMu, zEq, zBe, zLe, zTo, fillS, wantG, vBox, Value.cells, one, putAt, TYA, hr, g1, g2', g3, eqS]
    exact ⟨by simp [h5], by repeat first | assumption | exact EXn.refl _ _ | refine EXn.more ?_ _ | refine EXn.put ?_ (by omega) _ | refine EX.trans ?_ (by assumption)⟩
  ·have g2' : decide (t.p = ⟨#[108, 105, 115, 112]⟩) = false := decide_eq_false h4
   simp only [c_seq, RUNA, RUNB, zAd, zMo, zDi, zSu, zMu, zEq, zBe, zLe, zTo, fillS, wantG, vBox, Value.cells, one, putAt, TYA, hr, g1, g2', eqS]
   exact ⟨by simp [h4], by repeat first | assumption | exact EXn.refl _ _ | refine EXn.more ?_ _ | refine EXn.put ?_ (by omega) _ | refine EX.trans ?_ (by assumption)⟩
 ·have g1 : (t.k == (3 : Int)) = false := by simp [h3]
  simp only [c_seq, RUNA, RUNB, zAd, zMo, zDi, zSu, zMu, zEq, zBe, zLe, zTo, fillS, wantG, vBox, Value.cells, one, putAt, TYA, hr, g1]
  exact ⟨by simp [h3], by repeat first | assumption | exact EXn.refl _ _ | refine EXn.more ?_ _ | refine EXn.put ?_ (by omega) _ | refine EX.trans ?_ (by assumption)⟩
end Go.Proofs.Q
