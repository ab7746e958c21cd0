/- The diagrams of the abstract machine: what a slice of vertices reads, and the small functions of package bdd. -/
import Derived.Test.YtlealdhgajomhaaAiTy
import Derived.Test.YtlealdhgajomhaaAiZ
import Derived.Test.YtlealdhgajomhaaAiU
namespace Go.Proofs.Ytlealdhgajomhaa
set_option linter.unusedVariables false
open Go.AI
set_option linter.unusedSimpArgs false

/-! ### data -/
abbrev Vtx := Int × Int × Int
def cell3 (v : Vtx) : List Value := [.int .i64 v.1, .int .i64 v.2.1, .int .i64 v.2.2]
def flat : List Vtx → List Value
  | [] => []
  | v :: l => cell3 v ++ flat l
theorem flat_length (l : List Vtx) : (flat l).length = l.length * 3 := by
  induction l with
  | nil => rfl
  | cons v l ih => simp [flat, cell3, ih]; omega
theorem flat_append (l k : List Vtx) : flat (l ++ k) = flat l ++ flat k := by
  induction l with
  | nil => rfl
  | cons v l ih => simp [flat, ih]

/-- elements of three cells -/
abbrev m3 (m : Mta) : Mta := { m with z := 3 }
theorem m3_eq {m : Mta} (h : m.z = 3) : m3 m = m := by cases m; simp only at h; subst h; rfl

/-- what a slice of vertices reads: not nil; the row's cells from 'off' on -/
structure VS (σ : St) (v : Value) (l : List Vtx) : Prop where
  ex : ∃ id off c row m, v = .slice (some ⟨id, off, none⟩) l.length c ∧ id < σ.next ∧ σ.row id = some (row, m3 m) ∧ (row.drop off).take (l.length * 3) = flat l

theorem VS.mono {σ σ' : St} {v : Value} {l : List Vtx} (h : VS σ v l) (e : EX σ σ') : VS σ' v l := by
  obtain ⟨id, off, c, row, m, h1, h2, h3, h4⟩ := h.ex
  exact ⟨id, off, c, row, m, h1, by have := e.next; omega, (e.row id h2).trans h3, h4⟩

/-- a diagram: its vertices and its root; the zero diagram has no vertices -/
def DV (σ : St) (v : Value) (d : List Vtx × Int) : Prop := ∃ s, v = .agg #[s, .int .i64 d.2] ∧ (VS σ s d.1 ∨ (∃ o, s = .slice o 0 0 ∧ d.1 = []))
theorem DV.mono {σ σ' : St} {v : Value} {d : List Vtx × Int} (h : DV σ v d) (e : EX σ σ') : DV σ' v d := by
  obtain ⟨s, h1, h2⟩ := h
  exact ⟨s, h1, h2.imp (fun h => h.mono e) id⟩

/-- a diagram whose vertices lie at 'n' or behind -/
structure VSf (n : Nat) (σ : St) (v : Value) (l : List Vtx) : Prop where
  ex : ∃ id off c row m, v = .slice (some ⟨id, off, none⟩) l.length c ∧ n ≤ id ∧ id < σ.next ∧ σ.row id = some (row, m3 m) ∧ (row.drop off).take (l.length * 3) = flat l
def DVf (n : Nat) (σ : St) (v : Value) (d : List Vtx × Int) : Prop := ∃ s, v = .agg #[s, .int .i64 d.2] ∧ (VSf n σ s d.1 ∨ (s = .slice none 0 0 ∧ d.1 = []))
theorem DVf.dv {n : Nat} {σ : St} {v : Value} {d : List Vtx × Int} (h : DVf n σ v d) : DV σ v d := by
  obtain ⟨s, h1, h2⟩ := h
  refine ⟨s, h1, h2.imp (fun h => ?_) (fun h => ⟨none, h⟩)⟩
  obtain ⟨id, off, c, row, m, h1, h2, h3, h4, h5⟩ := h.ex
  exact ⟨id, off, c, row, m, h1, h3, h4, h5⟩
theorem DVf.mono {n n' : Nat} {σ σ' : St} {v : Value} {d : List Vtx × Int} (h : DVf n σ v d) (e : EX σ σ') (hn : n' ≤ n) : DVf n' σ' v d := by
  obtain ⟨s, h1, h2⟩ := h
  refine ⟨s, h1, h2.imp (fun h => ?_) id⟩
  obtain ⟨id, off, c, row, m, h1, h2, h3, h4, h5⟩ := h.ex
  exact ⟨id, off, c, row, m, h1, by omega, by have := e.next; omega, (e.row id h3).trans h4, h5⟩
theorem DVf.put {n n' k : Nat} {σ : St} {v : Value} {d : List Vtx × Int} {ob : AObj} (h : DVf n σ v d) (hk : k < n) (hn : n' ≤ n) : DVf n' (σ.put k ob) v d := by
  obtain ⟨s, h1, h2⟩ := h
  refine ⟨s, h1, h2.imp (fun h => ?_) id⟩
  obtain ⟨id, off, c, row, m, h1, h2, h3, h4, h5⟩ := h.ex
  exact ⟨id, off, c, row, m, h1, by omega, h3, (row_put_ne (by omega)).trans h4, h5⟩

/-! ### facts by the kernel -/
theorem bd40 (a b c : Int) : abuild Try.prog 40 #[(0, .int .i64 a), (1, .int .i64 b), (2, .int .i64 c)] = some (.agg #[.int .i64 a, .int .i64 b, .int .i64 c]) := by kernel_rfl
theorem bd40_1 (a : Int) : abuild Try.prog 40 #[(0, .int .i64 a)] = some (.agg #[.int .i64 a, .int .i64 0, .int .i64 0]) := by kernel_rfl
theorem bd25 (a : Option Addr) (n c : Nat) (r : Int) : abuild Try.prog 25 #[(0, .slice a n c), (1, .int .i64 r)] = some (.agg #[.slice a n c, .int .i64 r]) := by kernel_rfl
theorem bd25_1 (a : Option Addr) (n c : Nat) : abuild Try.prog 25 #[(0, .slice a n c)] = some (.agg #[.slice a n c, .int .i64 0]) := by kernel_rfl
theorem bd25_0 : abuild Try.prog 25 #[] = some (.agg #[.slice none 0 0, .int .i64 0]) := by kernel_rfl
theorem bs23_2 (id : Nat) (a b c a' b' c' : Int) : vBuildS Try.prog 23 2 #[(0, .agg #[.int .i64 a, .int .i64 b, .int .i64 c]), (1, .agg #[.int .i64 a', .int .i64 b', .int .i64 c'])] id =
    some (.slice (some ⟨id, 0, none⟩) 2 2, .cells (flat [(a, b, c), (a', b', c')]) (rowMeta 3)) := by kernel_rfl
theorem bs23_1 (id : Nat) (a b c : Int) : vBuildS Try.prog 23 1 #[(0, .agg #[.int .i64 a, .int .i64 b, .int .i64 c])] id =
    some (.slice (some ⟨id, 0, none⟩) 1 1, .cells (flat [(a, b, c)]) (rowMeta 3)) := by kernel_rfl

/-! ### constants -/
def c01 : List Vtx := [(-1, 0, 0), (-1, 1, 1)]

theorem constants_spec (σ : St) : wpc Try.prog 44 #[] σ fun r σ' => ∃ id, r = .slice (some ⟨id, 0, none⟩) 2 2 ∧ σ.next ≤ id ∧ id < σ'.next ∧ σ'.row id = some (flat c01, rowMeta 3) ∧ EX σ σ' := by
  refine body_go Try.func44 rfl ?_
  have hr := Try.results44
  simp only [c_seq, RUNA, Nat.reduceAdd, Nat.reduceMod, Nat.reduceDiv, Nat.reduceSub, Nat.reduceMul, Nat.reduceEqDiff, Nat.reduceBEq, Nat.reduceLeDiff, Int.reduceToNat, fillS, wantG, vBox, Value.cells, one, putAt, Option.getD_some, Option.map_some, Option.bind_some, ne_eq, Option.some.injEq, Prod.mk.injEq, exists_and_left, exists_eq_left', exists_eq_left, List.size_toArray, List.length_cons, List.length_nil, if_true, if_false, exists_eq', exists_const, List.getElem?_cons_zero, List.getElem?_cons_succ, List.map_toArray, List.map_cons, List.map_nil, beq_iff_eq, List.all_cons, List.all_nil, cond_true, List.set_cons_zero, List.set_cons_succ, List.drop_zero, List.drop_succ_cons, List.take_succ_cons, List.take_zero, List.getElem?_toArray, Option.map_none, Option.getD_none, hr, bd40, bd40_1, bs23_2]
  refine ⟨_, rfl, by omega, by omega, ?_, ?_⟩
  · simp only [if_true, good_row]; rfl
  · exact (((EX.refl σ).more 1).more 4).put (by omega) _

theorem flat_c01 : flat c01 = [.int .i64 (-1), .int .i64 0, .int .i64 0, .int .i64 (-1), .int .i64 1, .int .i64 1] := rfl

/-! ### Constant -/
def constD (b : Bool) : List Vtx × Int := (c01, if b = true then 1 else 0)

theorem Constant_spec (b : Bool) (σ : St) : wpc Try.prog 13 #[.bool b] σ fun r σ' => DVf σ.next σ' r (constD b) ∧ EX σ σ' := by
  refine body_go Try.func13 rfl ?_
  have hr := Try.results13
  simp only [c_seq, RUNA, Nat.reduceAdd, Nat.reduceMod, Nat.reduceDiv, Nat.reduceSub, Nat.reduceMul, Nat.reduceEqDiff, Nat.reduceBEq, Nat.reduceLeDiff, Int.reduceToNat, fillS, wantG, vBox, Value.cells, one, putAt, Option.getD_some, Option.map_some, Option.bind_some, ne_eq, Option.some.injEq, Prod.mk.injEq, exists_and_left, exists_eq_left', exists_eq_left, List.size_toArray, List.length_cons, List.length_nil, if_true, if_false, exists_eq', exists_const, List.getElem?_cons_zero, List.getElem?_cons_succ, List.map_toArray, List.map_cons, List.map_nil, beq_iff_eq, List.all_cons, List.all_nil, cond_true, List.set_cons_zero, List.set_cons_succ, List.drop_zero, List.drop_succ_cons, List.take_succ_cons, List.take_zero, List.getElem?_toArray, Option.map_none, Option.getD_none, hr, al25]
  refine wpc_mono (constants_spec _) ?_
  rintro r σ2 ⟨id, rfl, h1, h2, h3, hE⟩
  simp only [next_more, next_put] at h1
  have r0 : σ2.row σ.next = some ([.slice none 0 0, .int .i64 0], boxMeta) := by
    rw [hE.row _ (by simp only [next_more, next_put]; omega)]; simp only [c_seq, RUNA, Nat.reduceAdd, Nat.reduceMod, Nat.reduceDiv, Nat.reduceSub, Nat.reduceMul, Nat.reduceEqDiff, Nat.reduceBEq, Nat.reduceLeDiff, Int.reduceToNat, fillS, wantG, vBox, Value.cells, one, putAt, Option.getD_some, Option.map_some, Option.bind_some, ne_eq, Option.some.injEq, Prod.mk.injEq, exists_and_left, exists_eq_left', exists_eq_left, List.size_toArray, List.length_cons, List.length_nil, if_true, if_false, exists_eq', exists_const, List.getElem?_cons_zero, List.getElem?_cons_succ, List.map_toArray, List.map_cons, List.map_nil, beq_iff_eq, List.all_cons, List.all_nil, cond_true, List.set_cons_zero, List.set_cons_succ, List.drop_zero, List.drop_succ_cons, List.take_succ_cons, List.take_zero, List.getElem?_toArray, Option.map_none, Option.getD_none]
  have n1 : ¬ σ.next = id := by omega
  have n2 : ¬ id = σ.next := by omega
  have n3 : ¬ id = σ.next + 3 := by omega
  have e0 : EX σ σ2 := by refine EX.trans ?_ hE; repeat first | assumption | exact EXn.refl _ _ | refine EXn.more ?_ _ | refine EXn.put ?_ (by omega) _ | refine EX.trans ?_ (by assumption)
  have hn := e0.next
  have hn2 := hE.next
  simp only [next_more, next_put] at hn2
  cases b
  · simp only [c_seq, RUNA, Nat.reduceAdd, Nat.reduceMod, Nat.reduceDiv, Nat.reduceSub, Nat.reduceMul, Nat.reduceEqDiff, Nat.reduceBEq, Nat.reduceLeDiff, Int.reduceToNat, fillS, wantG, vBox, Value.cells, one, putAt, Option.getD_some, Option.map_some, Option.bind_some, ne_eq, Option.some.injEq, Prod.mk.injEq, exists_and_left, exists_eq_left', exists_eq_left, List.size_toArray, List.length_cons, List.length_nil, if_true, if_false, exists_eq', exists_const, List.getElem?_cons_zero, List.getElem?_cons_succ, List.map_toArray, List.map_cons, List.map_nil, beq_iff_eq, List.all_cons, List.all_nil, cond_true, List.set_cons_zero, List.set_cons_succ, List.drop_zero, List.drop_succ_cons, List.take_succ_cons, List.take_zero, List.getElem?_toArray, Option.map_none, Option.getD_none, bd25_1, al25, st25, ld25, r0]
    refine ⟨⟨_, rfl, Or.inl ⟨id, 0, 2, flat c01, rowMeta 3, rfl, by omega, ?_, ?_, rfl⟩⟩, ?_⟩
    · simp only [next_more, next_put]; omega
    · show _ = some (flat c01, rowMeta 3)
      simp only [row_put, row_more, n1, n2, n3, if_false, h3]
    · repeat first | assumption | exact EXn.refl _ _ | refine EXn.more ?_ _ | refine EXn.put ?_ (by omega) _ | refine EX.trans ?_ (by assumption)
  · simp only [c_seq, RUNA, Nat.reduceAdd, Nat.reduceMod, Nat.reduceDiv, Nat.reduceSub, Nat.reduceMul, Nat.reduceEqDiff, Nat.reduceBEq, Nat.reduceLeDiff, Int.reduceToNat, fillS, wantG, vBox, Value.cells, one, putAt, Option.getD_some, Option.map_some, Option.bind_some, ne_eq, Option.some.injEq, Prod.mk.injEq, exists_and_left, exists_eq_left', exists_eq_left, List.size_toArray, List.length_cons, List.length_nil, if_true, if_false, exists_eq', exists_const, List.getElem?_cons_zero, List.getElem?_cons_succ, List.map_toArray, List.map_cons, List.map_nil, beq_iff_eq, List.all_cons, List.all_nil, cond_true, List.set_cons_zero, List.set_cons_succ, List.drop_zero, List.drop_succ_cons, List.take_succ_cons, List.take_zero, List.getElem?_toArray, Option.map_none, Option.getD_none, bd25_1, al25, st25, ld25, fa25_1, st3, r0]
    refine ⟨⟨_, rfl, Or.inl ⟨id, 0, 2, flat c01, rowMeta 3, rfl, by omega, ?_, ?_, rfl⟩⟩, ?_⟩
    · simp only [next_more, next_put]; omega
    · show _ = some (flat c01, rowMeta 3)
      simp only [row_put, row_more, n1, n2, n3, if_false, h3]
    · repeat first | assumption | exact EXn.refl _ _ | refine EXn.more ?_ _ | refine EXn.put ?_ (by omega) _ | refine EX.trans ?_ (by assumption)

/-! ### Variable -/
def varD (i : Int) : List Vtx × Int := (c01 ++ [(i, 0, 1)], 2)

theorem Variable_out (i : Int) (hi : i < 0 ∨ 10 ≤ i) (σ : St) : wpc Try.prog 10 #[.int .i64 i] σ fun r σ' => r = .tuple #[.agg #[.slice none 0 0, .int .i64 0], .int .i64 45] ∧ EX σ σ' := by
  refine body_go Try.func10 rfl ?_
  have hr := Try.results10
  have g : decide (i < 0) = true ∨ decide (i < 0) = false ∧ decide (10 ≤ i) = true := by simp; omega
  rcases g with g | ⟨g, g'⟩
  · simp only [c_seq, RUNA, Nat.reduceAdd, Nat.reduceMod, Nat.reduceDiv, Nat.reduceSub, Nat.reduceMul, Nat.reduceEqDiff, Nat.reduceBEq, Nat.reduceLeDiff, Int.reduceToNat, fillS, wantG, vBox, Value.cells, one, putAt, Option.getD_some, Option.map_some, Option.bind_some, ne_eq, Option.some.injEq, Prod.mk.injEq, exists_and_left, exists_eq_left', exists_eq_left, List.size_toArray, List.length_cons, List.length_nil, if_true, if_false, exists_eq', exists_const, List.getElem?_cons_zero, List.getElem?_cons_succ, List.map_toArray, List.map_cons, List.map_nil, beq_iff_eq, List.all_cons, List.all_nil, cond_true, List.set_cons_zero, List.set_cons_succ, List.drop_zero, List.drop_succ_cons, List.take_succ_cons, List.take_zero, List.getElem?_toArray, Option.map_none, Option.getD_none, hr, al25, g, bd25_0, st25, ld25]
    repeat first | assumption | exact EXn.refl _ _ | refine EXn.more ?_ _ | refine EXn.put ?_ (by omega) _ | refine EX.trans ?_ (by assumption)
  · simp only [c_seq, RUNA, Nat.reduceAdd, Nat.reduceMod, Nat.reduceDiv, Nat.reduceSub, Nat.reduceMul, Nat.reduceEqDiff, Nat.reduceBEq, Nat.reduceLeDiff, Int.reduceToNat, fillS, wantG, vBox, Value.cells, one, putAt, Option.getD_some, Option.map_some, Option.bind_some, ne_eq, Option.some.injEq, Prod.mk.injEq, exists_and_left, exists_eq_left', exists_eq_left, List.size_toArray, List.length_cons, List.length_nil, if_true, if_false, exists_eq', exists_const, List.getElem?_cons_zero, List.getElem?_cons_succ, List.map_toArray, List.map_cons, List.map_nil, beq_iff_eq, List.all_cons, List.all_nil, cond_true, List.set_cons_zero, List.set_cons_succ, List.drop_zero, List.drop_succ_cons, List.take_succ_cons, List.take_zero, List.getElem?_toArray, Option.map_none, Option.getD_none, hr, al25, g, g', bd25_0, st25, ld25]
    repeat first | assumption | exact EXn.refl _ _ | refine EXn.more ?_ _ | refine EXn.put ?_ (by omega) _ | refine EX.trans ?_ (by assumption)

theorem Variable_in (i : Int) (h0 : 0 ≤ i) (h1 : i < 10) (σ : St) (hF : Fr σ) : wpc Try.prog 10 #[.int .i64 i] σ fun r σ' => ∃ d, r = .tuple #[d, .int .i64 0] ∧ DVf σ.next σ' d (varD i) ∧ EX σ σ' := by
  refine body_go Try.func10 rfl ?_
  have hr := Try.results10
  have g0 : decide (i < 0) = false := by simp; omega
  have g1 : decide (10 ≤ i) = false := by simp; omega
  simp only [c_seq, RUNA, Nat.reduceAdd, Nat.reduceMod, Nat.reduceDiv, Nat.reduceSub, Nat.reduceMul, Nat.reduceEqDiff, Nat.reduceBEq, Nat.reduceLeDiff, Int.reduceToNat, fillS, wantG, vBox, Value.cells, one, putAt, Option.getD_some, Option.map_some, Option.bind_some, ne_eq, Option.some.injEq, Prod.mk.injEq, exists_and_left, exists_eq_left', exists_eq_left, List.size_toArray, List.length_cons, List.length_nil, if_true, if_false, exists_eq', exists_const, List.getElem?_cons_zero, List.getElem?_cons_succ, List.map_toArray, List.map_cons, List.map_nil, beq_iff_eq, List.all_cons, List.all_nil, cond_true, List.set_cons_zero, List.set_cons_succ, List.drop_zero, List.drop_succ_cons, List.take_succ_cons, List.take_zero, List.getElem?_toArray, Option.map_none, Option.getD_none, hr, al25, g0, g1]
  refine wpc_mono (constants_spec _) ?_
  rintro r σ2 ⟨id, rfl, h1, h2, h3, hE⟩
  simp only [next_more, next_put] at h1
  have e0 : EX σ σ2 := by refine EX.trans ?_ hE; repeat first | assumption | exact EXn.refl _ _ | refine EXn.more ?_ _ | refine EXn.put ?_ (by omega) _ | refine EX.trans ?_ (by assumption)
  have hn := e0.next
  have hn2 := hE.next
  simp only [next_more, next_put] at hn2
  have r0 : σ2.row σ.next = some ([.slice none 0 0, .int .i64 0], boxMeta) := by
    rw [hE.row _ (by simp only [next_more, next_put]; omega)]; simp only [c_seq, RUNA, Nat.reduceAdd, Nat.reduceMod, Nat.reduceDiv, Nat.reduceSub, Nat.reduceMul, Nat.reduceEqDiff, Nat.reduceBEq, Nat.reduceLeDiff, Int.reduceToNat, fillS, wantG, vBox, Value.cells, one, putAt, Option.getD_some, Option.map_some, Option.bind_some, ne_eq, Option.some.injEq, Prod.mk.injEq, exists_and_left, exists_eq_left', exists_eq_left, List.size_toArray, List.length_cons, List.length_nil, if_true, if_false, exists_eq', exists_const, List.getElem?_cons_zero, List.getElem?_cons_succ, List.map_toArray, List.map_cons, List.map_nil, beq_iff_eq, List.all_cons, List.all_nil, cond_true, List.set_cons_zero, List.set_cons_succ, List.drop_zero, List.drop_succ_cons, List.take_succ_cons, List.take_zero, List.getElem?_toArray, Option.map_none, Option.getD_none]
  have v0 : σ2.ver (σ.next + 12) = 0 := by
    rw [hE.ver _ (by simp only [next_more, next_put]; omega)]; exact hF _ (by omega)
  simp only [c_seq, RUNA, Nat.reduceAdd, Nat.reduceMod, Nat.reduceDiv, Nat.reduceSub, Nat.reduceMul, Nat.reduceEqDiff, Nat.reduceBEq, Nat.reduceLeDiff, Int.reduceToNat, fillS, wantG, vBox, Value.cells, one, putAt, Option.getD_some, Option.map_some, Option.bind_some, ne_eq, Option.some.injEq, Prod.mk.injEq, exists_and_left, exists_eq_left', exists_eq_left, List.size_toArray, List.length_cons, List.length_nil, if_true, if_false, exists_eq', exists_const, List.getElem?_cons_zero, List.getElem?_cons_succ, List.map_toArray, List.map_cons, List.map_nil, beq_iff_eq, List.all_cons, List.all_nil, cond_true, List.set_cons_zero, List.set_cons_succ, List.drop_zero, List.drop_succ_cons, List.take_succ_cons, List.take_zero, List.getElem?_toArray, Option.map_none, Option.getD_none, bd40, bs23_1, bd25]
  refine app_ex (app_own (id := id) (n := 2) (cs := flat c01) (z := 3) (x := 1) (xs := flat [(i, 0, 1)]) ?_ Try.underlying23 Try.underlying23 if40 rfl ?_ rfl (by omega) (by omega) rfl (by omega) ?_ ?_ (by omega) (by omega) rfl) ?_
  · refine ⟨2, rowMeta 3, rfl, ?_, ?_, rfl, rfl, rfl, Or.inl rfl⟩
    · simp only [next_put]; omega
    · rw [row_put_ne (by omega)]; exact h3
  · simp only [aSource, row_put, if_true, good_row]; rfl
  · rw [ver_put]; exact v0
  · simp only [next_put]; omega
  · rintro v σ3 ⟨⟨k, m, rfl, o2, o3, o4⟩, hB⟩
    have b0 : σ3.row σ.next = some ([.slice none 0 0, .int .i64 0], boxMeta) := by
      rw [hB.row _ (by omega) (by omega), row_put_ne (by omega)]; exact r0
    simp only [c_seq, RUNA, Nat.reduceAdd, Nat.reduceMod, Nat.reduceDiv, Nat.reduceSub, Nat.reduceMul, Nat.reduceEqDiff, Nat.reduceBEq, Nat.reduceLeDiff, Int.reduceToNat, fillS, wantG, vBox, Value.cells, one, putAt, Option.getD_some, Option.map_some, Option.bind_some, ne_eq, Option.some.injEq, Prod.mk.injEq, exists_and_left, exists_eq_left', exists_eq_left, List.size_toArray, List.length_cons, List.length_nil, if_true, if_false, exists_eq', exists_const, List.getElem?_cons_zero, List.getElem?_cons_succ, List.map_toArray, List.map_cons, List.map_nil, beq_iff_eq, List.all_cons, List.all_nil, cond_true, List.set_cons_zero, List.set_cons_succ, List.drop_zero, List.drop_succ_cons, List.take_succ_cons, List.take_zero, List.getElem?_toArray, Option.map_none, Option.getD_none, bd25, st25, ld25, b0]
    refine ⟨_, rfl, ⟨_, rfl, Or.inl ⟨_, 0, _, flat c01 ++ flat [(i, 0, 1)], m, rfl, by omega, ?_, ?_, ?_⟩⟩, ?_⟩
    · rw [next_put]; exact o2
    · rw [row_put_ne (by omega), m3_eq o4.2.2.1]; exact o3
    · rfl
    · refine EXn.put ?_ (by omega) _
      refine EXn.trans ?_ (hB.exn (by omega) (by omega))
      repeat first | assumption | exact EXn.refl _ _ | refine EXn.more ?_ _ | refine EXn.put ?_ (by omega) _ | refine EX.trans ?_ (by assumption)

end Go.Proofs.Ytlealdhgajomhaa
