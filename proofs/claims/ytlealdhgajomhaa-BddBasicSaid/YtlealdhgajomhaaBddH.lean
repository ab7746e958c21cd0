/- The law BddBasic at the abstract machine. -/
import Derived.Test.YtlealdhgajomhaaBddG
import Derived.Test.YtlealdhgajomhaaAiOk
namespace Go.Proofs.Ytlealdhgajomhaa
set_option linter.unusedVariables false
open Go.AI
set_option linter.unusedSimpArgs false

/-! ### frames on a stretch of ids -/
/-- the rows from 'lo' to 'hi' are as they were -/
structure UN (lo hi : Nat) (σ τ : St) : Prop where
  row : ∀ id, lo ≤ id → id < hi → τ.row id = σ.row id
theorem UN.refl (lo hi : Nat) (σ : St) : UN lo hi σ σ := ⟨fun _ _ _ => rfl⟩
theorem UN.more {lo hi : Nat} {σ τ : St} (h : UN lo hi σ τ) (k : Nat) : UN lo hi σ (τ.more k) := ⟨h.row⟩
theorem UN.put {lo hi k : Nat} {σ τ : St} (h : UN lo hi σ τ) (hk : k < lo ∨ hi ≤ k) (ob : AObj) : UN lo hi σ (τ.put k ob) := ⟨fun id h1 h2 => (row_put_ne (by omega)).trans (h.row id h1 h2)⟩
theorem UN.ex {lo hi : Nat} {σ τ τ' : St} (e : EX τ τ') (h : UN lo hi σ τ) (hh : hi ≤ τ.next) : UN lo hi σ τ' := ⟨fun id h1 h2 => (e.row id (by omega)).trans (h.row id h1 h2)⟩
theorem UN.exn {lo hi n : Nat} {σ τ τ' : St} (e : EXn n τ τ') (h : UN lo hi σ τ) (hh : hi ≤ n) : UN lo hi σ τ' := ⟨fun id h1 h2 => (e.row id (by omega)).trans (h.row id h1 h2)⟩
/-- a diagram whose vertices lie from 'lo' to 'hi' -/
def DVi (lo hi : Nat) (σ : St) (v : Value) (d : List Vtx × Int) : Prop := ∃ s, v = .agg #[s, .int .i64 d.2] ∧
  ((∃ id off c row m, s = .slice (some ⟨id, off, none⟩) d.1.length c ∧ lo ≤ id ∧ id < hi ∧ σ.row id = some (row, m3 m) ∧ (row.drop off).take (d.1.length * 3) = flat d.1) ∨ (s = .slice none 0 0 ∧ d.1 = []))
theorem DVf.i {n : Nat} {σ : St} {v : Value} {d : List Vtx × Int} (h : DVf n σ v d) : DVi n σ.next σ v d := by
  obtain ⟨s, h1, h2⟩ := h
  exact ⟨s, h1, h2.imp (fun h => h.ex) id⟩
theorem DVi.dv {lo hi : Nat} {σ : St} {v : Value} {d : List Vtx × Int} (h : DVi lo hi σ v d) (hh : hi ≤ σ.next) : DV σ v d := by
  obtain ⟨s, h1, h2⟩ := h
  refine ⟨s, h1, h2.imp (fun h => ?_) (fun h => ⟨none, h⟩)⟩
  obtain ⟨id, off, c, row, m, h1, h2, h3, h4, h5⟩ := h
  exact ⟨id, off, c, row, m, h1, by omega, h4, h5⟩
theorem DVi.un {lo hi : Nat} {σ τ : St} {v : Value} {d : List Vtx × Int} (h : DVi lo hi σ v d) (e : UN lo hi σ τ) : DVi lo hi τ v d := by
  obtain ⟨s, h1, h2⟩ := h
  refine ⟨s, h1, h2.imp (fun h => ?_) id⟩
  obtain ⟨id, off, c, row, m, h1, h2, h3, h4, h5⟩ := h
  exact ⟨id, off, c, row, m, h1, h2, h3, (e.row id h2 h3).trans h4, h5⟩
theorem Fr.more {σ : St} (h : Fr σ) (k : Nat) : Fr (σ.more k) := fun g hg => h g (by rw [next_more] at hg; omega)
theorem Fr.put {σ : St} (h : Fr σ) (k : Nat) (ob : AObj) : Fr (σ.put k ob) := h

def st0 : St := ⟨.nil, .nil, 0⟩
def okT : Option (Value × St) → Bool
  | some (.bool true, ⟨_, .nil, _⟩) => true
  | _ => false
theorem okT_some {x : Option (Value × St)} (h : okT x = true) : ∃ σ, x = some (.bool true, σ) ∧ Fr σ := by
  unfold okT at h
  split at h
  · rename_i m n; exact ⟨_, rfl, fun g _ => rfl⟩
  · cases h
theorem awake_run : okT (callF Try.prog 100 100 9 #[] ((st0.more 1).more 2)) = true := by kernel_rfl
theorem awake_go : wpc Try.prog 9 #[] ((st0.more 1).more 2) fun r σ' => r = .bool true ∧ Fr σ' := by
  obtain ⟨σ, h1, h2⟩ := okT_some awake_run
  exact ⟨100, .bool true, σ, h1, rfl, h2⟩
theorem constD_len (b : Bool) : (constD b).1.length = 2 := rfl
theorem varD_len (i : Int) : (varD i).1.length = 3 := rfl
def zeroD : List Vtx × Int := ([], 0)
theorem zero_dvf (n : Nat) (σ : St) : DVf n σ (.agg #[.slice none 0 0, .int .i64 0]) zeroD := ⟨_, rfl, Or.inr ⟨rfl, rfl⟩⟩
theorem zero_dv (σ : St) : DV σ (.agg #[.slice none 0 0, .int .i64 0]) zeroD := ⟨_, rfl, Or.inr ⟨none, rfl, rfl⟩⟩

def varX (i : Int) : (List Vtx × Int) × Int := if 0 ≤ i ∧ i < 10 then (varD i, 0) else (zeroD, 45)
theorem varX_len (i : Int) : (varX i).1.1.length < 1000000 := by
  unfold varX
  split
  · rw [varD_len]; omega
  · simp [zeroD]
theorem Variable_all (i : Int) (σ : St) (hF : Fr σ) : wpc Try.prog 10 #[.int .i64 i] σ fun r σ' => ∃ d, r = .tuple #[d, .int .i64 (varX i).2] ∧ DVf σ.next σ' d (varX i).1 ∧ EX σ σ' := by
  by_cases h : 0 ≤ i ∧ i < 10
  · refine wpc_mono (Variable_in i h.1 h.2 σ hF) ?_
    rintro r σ' ⟨d, rfl, h1, h2⟩
    rw [varX, if_pos h]
    exact ⟨d, rfl, h1, h2⟩
  · refine wpc_mono (Variable_out i (by omega) σ) ?_
    rintro r σ' ⟨rfl, h2⟩
    rw [varX, if_neg h]
    exact ⟨_, rfl, zero_dvf _ σ', h2⟩
theorem refVariable_all (i : Int) (σ : St) (hF : Fr σ) : wpc Try.prog 11 #[.int .i64 i] σ fun r σ' => ∃ d, r = .tuple #[d, .int .i64 (varX i).2] ∧ DVf σ.next σ' d (varX i).1 ∧ EX σ σ' := by
  by_cases h : 0 ≤ i ∧ i < 10
  · obtain ⟨n, rfl⟩ : ∃ n : Nat, i = n := ⟨i.toNat, by omega⟩
    refine wpc_mono (refVariable_in n (by omega) σ hF) ?_
    rintro r σ' ⟨d, rfl, h1, h2⟩
    rw [varX, if_pos h]
    rw [dgm_var n (by omega)] at h1
    exact ⟨d, rfl, h1, h2⟩
  · refine wpc_mono (refVariable_out i (by omega) σ) ?_
    rintro r σ' ⟨rfl, h2⟩
    rw [varX, if_neg h]
    exact ⟨_, rfl, zero_dvf _ σ', h2⟩

theorem basic_go (b : Bool) (i : Int) : wpc Try.prog 3 #[.bool b, .int .i64 i] st0 fun r _ => r = .bool true := by
  refine body_go Try.func3 rfl ?_
  have hr := Try.results3
  simp only [c_seq, RUNA, Nat.reduceAdd, Nat.reduceMod, Nat.reduceDiv, Nat.reduceSub, Nat.reduceMul, Nat.reduceEqDiff, Nat.reduceBEq, Nat.reduceLeDiff, Int.reduceToNat, fillS, wantG, vBox, Value.cells, one, putAt, Option.getD_some, Option.map_some, Option.bind_some, ne_eq, Option.some.injEq, Prod.mk.injEq, exists_and_left, exists_eq_left', exists_eq_left, List.size_toArray, List.length_cons, List.length_nil, if_true, if_false, exists_eq', exists_const, List.getElem?_cons_zero, List.getElem?_cons_succ, List.map_toArray, List.map_cons, List.map_nil, beq_iff_eq, List.all_cons, List.all_nil, cond_true, List.set_cons_zero, List.set_cons_succ, List.drop_zero, List.drop_succ_cons, List.take_succ_cons, List.take_zero, List.getElem?_toArray, Option.map_none, Option.getD_none, hr]
  refine wpc_mono awake_go ?_
  rintro r σ ⟨rfl, hF⟩
  simp only [c_seq, RUNA, Nat.reduceAdd, Nat.reduceMod, Nat.reduceDiv, Nat.reduceSub, Nat.reduceMul, Nat.reduceEqDiff, Nat.reduceBEq, Nat.reduceLeDiff, Int.reduceToNat, fillS, wantG, vBox, Value.cells, one, putAt, Option.getD_some, Option.map_some, Option.bind_some, ne_eq, Option.some.injEq, Prod.mk.injEq, exists_and_left, exists_eq_left', exists_eq_left, List.size_toArray, List.length_cons, List.length_nil, if_true, if_false, exists_eq', exists_const, List.getElem?_cons_zero, List.getElem?_cons_succ, List.map_toArray, List.map_cons, List.map_nil, beq_iff_eq, List.all_cons, List.all_nil, cond_true, List.set_cons_zero, List.set_cons_succ, List.drop_zero, List.drop_succ_cons, List.take_succ_cons, List.take_zero, List.getElem?_toArray, Option.map_none, Option.getD_none, hr]
  refine wpc_mono (Variable_all i _ (((EX.refl σ).more 8).fr hF)) ?_
  rintro r σ1 ⟨d1, rfl, hd1, hE1⟩
  obtain ⟨o1, c1, rfl, -⟩ := hd1.dv.open
  have n1 := hE1.next
  simp only [next_more] at n1 hd1
  have f1 := hE1.fr (((EX.refl σ).more 8).fr hF)
  have d1 := hd1.i
  simp only [c_seq, RUNA, Nat.reduceAdd, Nat.reduceMod, Nat.reduceDiv, Nat.reduceSub, Nat.reduceMul, Nat.reduceEqDiff, Nat.reduceBEq, Nat.reduceLeDiff, Int.reduceToNat, fillS, wantG, vBox, Value.cells, one, putAt, Option.getD_some, Option.map_some, Option.bind_some, ne_eq, Option.some.injEq, Prod.mk.injEq, exists_and_left, exists_eq_left', exists_eq_left, List.size_toArray, List.length_cons, List.length_nil, if_true, if_false, exists_eq', exists_const, List.getElem?_cons_zero, List.getElem?_cons_succ, List.map_toArray, List.map_cons, List.map_nil, beq_iff_eq, List.all_cons, List.all_nil, cond_true, List.set_cons_zero, List.set_cons_succ, List.drop_zero, List.drop_succ_cons, List.take_succ_cons, List.take_zero, List.getElem?_toArray, Option.map_none, Option.getD_none, al25, st25]
  refine wpc_mono (refVariable_all i _ ?_) ?_
  · repeat first | assumption | refine Fr.more ?_ _ | refine Fr.put ?_ _ _
  rintro r σ3 ⟨d2, rfl, hd3, hE3⟩
  obtain ⟨o2, c2, rfl, -⟩ := hd3.dv.open
  have d3 := hd3.i
  have n3 := hE3.next
  simp only [next_more, next_put] at n3 d3
  have f3 := hE3.fr (by repeat first | assumption | refine Fr.more ?_ _ | refine Fr.put ?_ _ _)
  have b3 : σ3.row (σ.next + 5) = some ([.slice o1 (varX i).1.1.length c1, .int .i64 (varX i).1.2], boxMeta) := by
    rw [hE3.row _ (by first | omega | (simp only [next_more, next_put] at *; omega))]; simp only [c_seq, RUNA, Nat.reduceAdd, Nat.reduceMod, Nat.reduceDiv, Nat.reduceSub, Nat.reduceMul, Nat.reduceEqDiff, Nat.reduceBEq, Nat.reduceLeDiff, Int.reduceToNat, fillS, wantG, vBox, Value.cells, one, putAt, Option.getD_some, Option.map_some, Option.bind_some, ne_eq, Option.some.injEq, Prod.mk.injEq, exists_and_left, exists_eq_left', exists_eq_left, List.size_toArray, List.length_cons, List.length_nil, if_true, if_false, exists_eq', exists_const, List.getElem?_cons_zero, List.getElem?_cons_succ, List.map_toArray, List.map_cons, List.map_nil, beq_iff_eq, List.all_cons, List.all_nil, cond_true, List.set_cons_zero, List.set_cons_succ, List.drop_zero, List.drop_succ_cons, List.take_succ_cons, List.take_zero, List.getElem?_toArray, Option.map_none, Option.getD_none]
  have hvx : ((varX i).2 != (varX i).2) = false := by simp
  have q1 : ¬ σ.next = σ1.next := by omega
  have q2 : ¬ σ1.next = σ.next := by omega
  simp only [c_seq, RUNA, Nat.reduceAdd, Nat.reduceMod, Nat.reduceDiv, Nat.reduceSub, Nat.reduceMul, Nat.reduceEqDiff, Nat.reduceBEq, Nat.reduceLeDiff, Int.reduceToNat, fillS, wantG, vBox, Value.cells, one, putAt, Option.getD_some, Option.map_some, Option.bind_some, ne_eq, Option.some.injEq, Prod.mk.injEq, exists_and_left, exists_eq_left', exists_eq_left, List.size_toArray, List.length_cons, List.length_nil, if_true, if_false, exists_eq', exists_const, List.getElem?_cons_zero, List.getElem?_cons_succ, List.map_toArray, List.map_cons, List.map_nil, beq_iff_eq, List.all_cons, List.all_nil, cond_true, List.set_cons_zero, List.set_cons_succ, List.drop_zero, List.drop_succ_cons, List.take_succ_cons, List.take_zero, List.getElem?_toArray, Option.map_none, Option.getD_none, al25, st25, ld25, b3, hvx, q1, q2]
  refine wpc_mono (Same_spec (d := (varX i).1) (e := (varX i).1) (DVi.dv (d1.un ?_) ?_) (DVi.dv (d3.un ?_) ?_) (varX_len i)) ?_
  · repeat first | assumption | exact UN.refl _ _ _ | refine UN.more ?_ _ | refine UN.put ?_ (by omega) _ | refine UN.ex (by assumption) ?_ (by first | omega | (simp only [next_more, next_put]; omega)) | refine UN.exb (by assumption) ?_ (by first | omega | (simp only [next_more, next_put]; omega)) (by omega)
  · first | omega | (simp only [next_more, next_put] at *; omega)
  · repeat first | assumption | exact UN.refl _ _ _ | refine UN.more ?_ _ | refine UN.put ?_ (by omega) _ | refine UN.ex (by assumption) ?_ (by first | omega | (simp only [next_more, next_put]; omega)) | refine UN.exb (by assumption) ?_ (by first | omega | (simp only [next_more, next_put]; omega)) (by omega)
  · first | omega | (simp only [next_more, next_put] at *; omega)
  rintro r σ4 ⟨rfl, hE4⟩
  have n4 := hE4.next
  simp only [next_more, next_put] at n4
  have b4 : σ4.row (σ.next + 5) = some ([.slice o1 (varX i).1.1.length c1, .int .i64 (varX i).1.2], boxMeta) := by
    rw [hE4.row _ (by first | omega | (simp only [next_more, next_put] at *; omega))]; simp only [c_seq, RUNA, Nat.reduceAdd, Nat.reduceMod, Nat.reduceDiv, Nat.reduceSub, Nat.reduceMul, Nat.reduceEqDiff, Nat.reduceBEq, Nat.reduceLeDiff, Int.reduceToNat, fillS, wantG, vBox, Value.cells, one, putAt, Option.getD_some, Option.map_some, Option.bind_some, ne_eq, Option.some.injEq, Prod.mk.injEq, exists_and_left, exists_eq_left', exists_eq_left, List.size_toArray, List.length_cons, List.length_nil, if_true, if_false, exists_eq', exists_const, List.getElem?_cons_zero, List.getElem?_cons_succ, List.map_toArray, List.map_cons, List.map_nil, beq_iff_eq, List.all_cons, List.all_nil, cond_true, List.set_cons_zero, List.set_cons_succ, List.drop_zero, List.drop_succ_cons, List.take_succ_cons, List.take_zero, List.getElem?_toArray, Option.map_none, Option.getD_none, b3, q1]
  have b4' : σ4.row (σ1.next + 5) = some ([.slice o2 (varX i).1.1.length c2, .int .i64 (varX i).1.2], boxMeta) := by
    rw [hE4.row _ (by first | omega | (simp only [next_more, next_put] at *; omega))]; simp only [c_seq, RUNA, Nat.reduceAdd, Nat.reduceMod, Nat.reduceDiv, Nat.reduceSub, Nat.reduceMul, Nat.reduceEqDiff, Nat.reduceBEq, Nat.reduceLeDiff, Int.reduceToNat, fillS, wantG, vBox, Value.cells, one, putAt, Option.getD_some, Option.map_some, Option.bind_some, ne_eq, Option.some.injEq, Prod.mk.injEq, exists_and_left, exists_eq_left', exists_eq_left, List.size_toArray, List.length_cons, List.length_nil, if_true, if_false, exists_eq', exists_const, List.getElem?_cons_zero, List.getElem?_cons_succ, List.map_toArray, List.map_cons, List.map_nil, beq_iff_eq, List.all_cons, List.all_nil, cond_true, List.set_cons_zero, List.set_cons_succ, List.drop_zero, List.drop_succ_cons, List.take_succ_cons, List.take_zero, List.getElem?_toArray, Option.map_none, Option.getD_none]
  have f4 := hE4.fr (by repeat first | assumption | refine Fr.more ?_ _ | refine Fr.put ?_ _ _)
  have ht : decide ((varX i).1 = (varX i).1) = true := by simp
  simp only [c_seq, RUNA, Nat.reduceAdd, Nat.reduceMod, Nat.reduceDiv, Nat.reduceSub, Nat.reduceMul, Nat.reduceEqDiff, Nat.reduceBEq, Nat.reduceLeDiff, Int.reduceToNat, fillS, wantG, vBox, Value.cells, one, putAt, Option.getD_some, Option.map_some, Option.bind_some, ne_eq, Option.some.injEq, Prod.mk.injEq, exists_and_left, exists_eq_left', exists_eq_left, List.size_toArray, List.length_cons, List.length_nil, if_true, if_false, exists_eq', exists_const, List.getElem?_cons_zero, List.getElem?_cons_succ, List.map_toArray, List.map_cons, List.map_nil, beq_iff_eq, List.all_cons, List.all_nil, cond_true, List.set_cons_zero, List.set_cons_succ, List.drop_zero, List.drop_succ_cons, List.take_succ_cons, List.take_zero, List.getElem?_toArray, Option.map_none, Option.getD_none, ht]
  refine loop_go (fun m S τ => S.at 0 = .bool b ∧ S.at 5 = .pointer (some ⟨σ.next + 5, 0, none⟩) ∧ S.at 7 = .pointer (some ⟨σ1.next + 5, 0, none⟩) ∧ Fr τ ∧ σ1.next + 8 ≤ τ.next ∧
    (∃ u v, τ.row (σ.next + 5) = some ([u, v], boxMeta)) ∧ (∃ u v, τ.row (σ1.next + 5) = some ([u, v], boxMeta)) ∧
    ∃ k : Nat, S.at 9 = .int .i64 k ∧ k ≤ 10 ∧ m = 10 - k) 10 ?_ ?_
  · simp only [c_seq, RUNA, Nat.reduceAdd, Nat.reduceMod, Nat.reduceDiv, Nat.reduceSub, Nat.reduceMul, Nat.reduceEqDiff, Nat.reduceBEq, Nat.reduceLeDiff, Int.reduceToNat, fillS, wantG, vBox, Value.cells, one, putAt, Option.getD_some, Option.map_some, Option.bind_some, ne_eq, Option.some.injEq, Prod.mk.injEq, exists_and_left, exists_eq_left', exists_eq_left, List.size_toArray, List.length_cons, List.length_nil, if_true, if_false, exists_eq', exists_const, List.getElem?_cons_zero, List.getElem?_cons_succ, List.map_toArray, List.map_cons, List.map_nil, beq_iff_eq, List.all_cons, List.all_nil, cond_true, List.set_cons_zero, List.set_cons_succ, List.drop_zero, List.drop_succ_cons, List.take_succ_cons, List.take_zero, List.getElem?_toArray, Option.map_none, Option.getD_none]
    exact ⟨by repeat first | assumption | refine Fr.more ?_ _ | refine Fr.put ?_ _ _, by omega, ⟨_, _, b4⟩, ⟨_, _, b4'⟩, 0, rfl, by omega, by omega⟩
  clear b3 b4 b4' hE4 hE3 hE1 d1 d3 hd3 hd1 n4 n3 f4 f3 f1
  rintro _ S τ ⟨s0, s5, s7, hF, hn, ⟨u, v, b5⟩, ⟨u', v', b7⟩, k, s9, hk, rfl⟩
  by_cases hlt : k < 10
  · have hd : decide ((k : Int) < 10) = true := by simp; omega
    simp only [c_seq, RUNA, Nat.reduceAdd, Nat.reduceMod, Nat.reduceDiv, Nat.reduceSub, Nat.reduceMul, Nat.reduceEqDiff, Nat.reduceBEq, Nat.reduceLeDiff, Int.reduceToNat, fillS, wantG, vBox, Value.cells, one, putAt, Option.getD_some, Option.map_some, Option.bind_some, ne_eq, Option.some.injEq, Prod.mk.injEq, exists_and_left, exists_eq_left', exists_eq_left, List.size_toArray, List.length_cons, List.length_nil, if_true, if_false, exists_eq', exists_const, List.getElem?_cons_zero, List.getElem?_cons_succ, List.map_toArray, List.map_cons, List.map_nil, beq_iff_eq, List.all_cons, List.all_nil, cond_true, List.set_cons_zero, List.set_cons_succ, List.drop_zero, List.drop_succ_cons, List.take_succ_cons, List.take_zero, List.getElem?_toArray, Option.map_none, Option.getD_none, s0, s5, s7, s9, hd]
    refine wpc_mono (Variable_all k _ ?_) ?_
    · repeat first | assumption | refine Fr.more ?_ _ | refine Fr.put ?_ _ _
    rintro r σ1' ⟨d1, rfl, hd1, hE1⟩
    obtain ⟨o1, c1, rfl, -⟩ := hd1.dv.open
    have n1 := hE1.next
    have d1 := hd1.i
    simp only [next_more] at n1 d1
    have q3 : ¬ σ.next = σ1.next := by omega
    have q4 : ¬ σ1.next = σ.next := by omega
    have c5 := (hE1.row (σ.next + 5) (by first | omega | (simp only [next_more, next_put] at *; omega))).trans b5
    have c7 := (hE1.row (σ1.next + 5) (by first | omega | (simp only [next_more, next_put] at *; omega))).trans b7
    have f1 := hE1.fr (by repeat first | assumption | refine Fr.more ?_ _ | refine Fr.put ?_ _ _)
    simp only [c_seq, RUNA, Nat.reduceAdd, Nat.reduceMod, Nat.reduceDiv, Nat.reduceSub, Nat.reduceMul, Nat.reduceEqDiff, Nat.reduceBEq, Nat.reduceLeDiff, Int.reduceToNat, fillS, wantG, vBox, Value.cells, one, putAt, Option.getD_some, Option.map_some, Option.bind_some, ne_eq, Option.some.injEq, Prod.mk.injEq, exists_and_left, exists_eq_left', exists_eq_left, List.size_toArray, List.length_cons, List.length_nil, if_true, if_false, exists_eq', exists_const, List.getElem?_cons_zero, List.getElem?_cons_succ, List.map_toArray, List.map_cons, List.map_nil, beq_iff_eq, List.all_cons, List.all_nil, cond_true, List.set_cons_zero, List.set_cons_succ, List.drop_zero, List.drop_succ_cons, List.take_succ_cons, List.take_zero, List.getElem?_toArray, Option.map_none, Option.getD_none, s0, s5, s7, s9, st25, ld25, c5]
    refine wpc_mono (refVariable_all k _ ?_) ?_
    · repeat first | assumption | refine Fr.more ?_ _ | refine Fr.put ?_ _ _
    rintro r σ3 ⟨d2, rfl, hd3, hE3⟩
    obtain ⟨o2, c2, rfl, -⟩ := hd3.dv.open
    have d3 := hd3.i
    have n3 := hE3.next
    simp only [next_more, next_put] at n3 d3
    have f3 := hE3.fr (by repeat first | assumption | refine Fr.more ?_ _ | refine Fr.put ?_ _ _)
    have e5 : σ3.row (σ.next + 5) = some ([.slice o1 (varX k).1.1.length c1, .int .i64 (varX k).1.2], boxMeta) := by
      rw [hE3.row _ (by first | omega | (simp only [next_more, next_put] at *; omega))]; simp only [c_seq, RUNA, Nat.reduceAdd, Nat.reduceMod, Nat.reduceDiv, Nat.reduceSub, Nat.reduceMul, Nat.reduceEqDiff, Nat.reduceBEq, Nat.reduceLeDiff, Int.reduceToNat, fillS, wantG, vBox, Value.cells, one, putAt, Option.getD_some, Option.map_some, Option.bind_some, ne_eq, Option.some.injEq, Prod.mk.injEq, exists_and_left, exists_eq_left', exists_eq_left, List.size_toArray, List.length_cons, List.length_nil, if_true, if_false, exists_eq', exists_const, List.getElem?_cons_zero, List.getElem?_cons_succ, List.map_toArray, List.map_cons, List.map_nil, beq_iff_eq, List.all_cons, List.all_nil, cond_true, List.set_cons_zero, List.set_cons_succ, List.drop_zero, List.drop_succ_cons, List.take_succ_cons, List.take_zero, List.getElem?_toArray, Option.map_none, Option.getD_none]
    have e7 : σ3.row (σ1.next + 5) = some ([u', v'], boxMeta) := by
      rw [hE3.row _ (by first | omega | (simp only [next_more, next_put] at *; omega))]; simp only [c_seq, RUNA, Nat.reduceAdd, Nat.reduceMod, Nat.reduceDiv, Nat.reduceSub, Nat.reduceMul, Nat.reduceEqDiff, Nat.reduceBEq, Nat.reduceLeDiff, Int.reduceToNat, fillS, wantG, vBox, Value.cells, one, putAt, Option.getD_some, Option.map_some, Option.bind_some, ne_eq, Option.some.injEq, Prod.mk.injEq, exists_and_left, exists_eq_left', exists_eq_left, List.size_toArray, List.length_cons, List.length_nil, if_true, if_false, exists_eq', exists_const, List.getElem?_cons_zero, List.getElem?_cons_succ, List.map_toArray, List.map_cons, List.map_nil, beq_iff_eq, List.all_cons, List.all_nil, cond_true, List.set_cons_zero, List.set_cons_succ, List.drop_zero, List.drop_succ_cons, List.take_succ_cons, List.take_zero, List.getElem?_toArray, Option.map_none, Option.getD_none, q3, q4, c7]
    simp only [c_seq, RUNA, Nat.reduceAdd, Nat.reduceMod, Nat.reduceDiv, Nat.reduceSub, Nat.reduceMul, Nat.reduceEqDiff, Nat.reduceBEq, Nat.reduceLeDiff, Int.reduceToNat, fillS, wantG, vBox, Value.cells, one, putAt, Option.getD_some, Option.map_some, Option.bind_some, ne_eq, Option.some.injEq, Prod.mk.injEq, exists_and_left, exists_eq_left', exists_eq_left, List.size_toArray, List.length_cons, List.length_nil, if_true, if_false, exists_eq', exists_const, List.getElem?_cons_zero, List.getElem?_cons_succ, List.map_toArray, List.map_cons, List.map_nil, beq_iff_eq, List.all_cons, List.all_nil, cond_true, List.set_cons_zero, List.set_cons_succ, List.drop_zero, List.drop_succ_cons, List.take_succ_cons, List.take_zero, List.getElem?_toArray, Option.map_none, Option.getD_none, s0, s5, s7, s9, st25, ld25, e5, e7, q3, q4]
    refine wpc_mono (Same_spec (d := (varX k).1) (e := (varX k).1) (DVi.dv (d1.un ?_) ?_) (DVi.dv (d3.un ?_) ?_) (varX_len k)) ?_
    · repeat first | assumption | exact UN.refl _ _ _ | refine UN.more ?_ _ | refine UN.put ?_ (by omega) _ | refine UN.ex (by assumption) ?_ (by first | omega | (simp only [next_more, next_put]; omega)) | refine UN.exb (by assumption) ?_ (by first | omega | (simp only [next_more, next_put]; omega)) (by omega)
    · first | omega | (simp only [next_more, next_put] at *; omega)
    · repeat first | assumption | exact UN.refl _ _ _ | refine UN.more ?_ _ | refine UN.put ?_ (by omega) _ | refine UN.ex (by assumption) ?_ (by first | omega | (simp only [next_more, next_put]; omega)) | refine UN.exb (by assumption) ?_ (by first | omega | (simp only [next_more, next_put]; omega)) (by omega)
    · first | omega | (simp only [next_more, next_put] at *; omega)
    rintro r σ4 ⟨rfl, hE4⟩
    have n4 := hE4.next
    simp only [next_more, next_put] at n4
    have ht : decide ((varX (k : Int)).1 = (varX (k : Int)).1) = true := by simp
    have hw : IntKind.i64.wrap ((k : Int) + 1) = ((k + 1 : Nat) : Int) := by rw [wrap64 (by omega) (by omega)]; rfl
    have f4 := hE4.fr (by repeat first | assumption | refine Fr.more ?_ _ | refine Fr.put ?_ _ _)
    have g5 : σ4.row (σ.next + 5) = some ([.slice o1 (varX k).1.1.length c1, .int .i64 (varX k).1.2], boxMeta) := by
      rw [hE4.row _ (by first | omega | (simp only [next_more, next_put] at *; omega))]; simp only [c_seq, RUNA, Nat.reduceAdd, Nat.reduceMod, Nat.reduceDiv, Nat.reduceSub, Nat.reduceMul, Nat.reduceEqDiff, Nat.reduceBEq, Nat.reduceLeDiff, Int.reduceToNat, fillS, wantG, vBox, Value.cells, one, putAt, Option.getD_some, Option.map_some, Option.bind_some, ne_eq, Option.some.injEq, Prod.mk.injEq, exists_and_left, exists_eq_left', exists_eq_left, List.size_toArray, List.length_cons, List.length_nil, if_true, if_false, exists_eq', exists_const, List.getElem?_cons_zero, List.getElem?_cons_succ, List.map_toArray, List.map_cons, List.map_nil, beq_iff_eq, List.all_cons, List.all_nil, cond_true, List.set_cons_zero, List.set_cons_succ, List.drop_zero, List.drop_succ_cons, List.take_succ_cons, List.take_zero, List.getElem?_toArray, Option.map_none, Option.getD_none, e5, q3]
    have g7 : σ4.row (σ1.next + 5) = some ([.slice o2 (varX k).1.1.length c2, .int .i64 (varX k).1.2], boxMeta) := by
      rw [hE4.row _ (by first | omega | (simp only [next_more, next_put] at *; omega))]; simp only [c_seq, RUNA, Nat.reduceAdd, Nat.reduceMod, Nat.reduceDiv, Nat.reduceSub, Nat.reduceMul, Nat.reduceEqDiff, Nat.reduceBEq, Nat.reduceLeDiff, Int.reduceToNat, fillS, wantG, vBox, Value.cells, one, putAt, Option.getD_some, Option.map_some, Option.bind_some, ne_eq, Option.some.injEq, Prod.mk.injEq, exists_and_left, exists_eq_left', exists_eq_left, List.size_toArray, List.length_cons, List.length_nil, if_true, if_false, exists_eq', exists_const, List.getElem?_cons_zero, List.getElem?_cons_succ, List.map_toArray, List.map_cons, List.map_nil, beq_iff_eq, List.all_cons, List.all_nil, cond_true, List.set_cons_zero, List.set_cons_succ, List.drop_zero, List.drop_succ_cons, List.take_succ_cons, List.take_zero, List.getElem?_toArray, Option.map_none, Option.getD_none]
    simp only [c_seq, RUNA, Nat.reduceAdd, Nat.reduceMod, Nat.reduceDiv, Nat.reduceSub, Nat.reduceMul, Nat.reduceEqDiff, Nat.reduceBEq, Nat.reduceLeDiff, Int.reduceToNat, fillS, wantG, vBox, Value.cells, one, putAt, Option.getD_some, Option.map_some, Option.bind_some, ne_eq, Option.some.injEq, Prod.mk.injEq, exists_and_left, exists_eq_left', exists_eq_left, List.size_toArray, List.length_cons, List.length_nil, if_true, if_false, exists_eq', exists_const, List.getElem?_cons_zero, List.getElem?_cons_succ, List.map_toArray, List.map_cons, List.map_nil, beq_iff_eq, List.all_cons, List.all_nil, cond_true, List.set_cons_zero, List.set_cons_succ, List.drop_zero, List.drop_succ_cons, List.take_succ_cons, List.take_zero, List.getElem?_toArray, Option.map_none, Option.getD_none, s0, s5, s7, s9, ht, hw, g5, g7]
    refine ⟨10 - (k + 1), by omega, by repeat first | assumption | refine Fr.more ?_ _ | refine Fr.put ?_ _ _, by omega, ⟨_, _, rfl⟩, ⟨_, _, rfl⟩, k + 1, rfl, by omega, rfl⟩
  · have hd : decide ((k : Int) < 10) = false := by simp; omega
    simp only [c_seq, RUNA, Nat.reduceAdd, Nat.reduceMod, Nat.reduceDiv, Nat.reduceSub, Nat.reduceMul, Nat.reduceEqDiff, Nat.reduceBEq, Nat.reduceLeDiff, Int.reduceToNat, fillS, wantG, vBox, Value.cells, one, putAt, Option.getD_some, Option.map_some, Option.bind_some, ne_eq, Option.some.injEq, Prod.mk.injEq, exists_and_left, exists_eq_left', exists_eq_left, List.size_toArray, List.length_cons, List.length_nil, if_true, if_false, exists_eq', exists_const, List.getElem?_cons_zero, List.getElem?_cons_succ, List.map_toArray, List.map_cons, List.map_nil, beq_iff_eq, List.all_cons, List.all_nil, cond_true, List.set_cons_zero, List.set_cons_succ, List.drop_zero, List.drop_succ_cons, List.take_succ_cons, List.take_zero, List.getElem?_toArray, Option.map_none, Option.getD_none, s0, s5, s7, s9, hd]
    refine wpc_mono (Constant_spec b _) ?_
    rintro r σ2 ⟨hd2, hE2⟩
    obtain ⟨o2, c2, rfl, -⟩ := hd2.dv.open
    have d2 := hd2.i
    have n2 := hE2.next
    have f2 := hE2.fr (by repeat first | assumption | refine Fr.more ?_ _ | refine Fr.put ?_ _ _)
    simp only [next_more, next_put] at n2 d2
    simp only [c_seq, RUNA, Nat.reduceAdd, Nat.reduceMod, Nat.reduceDiv, Nat.reduceSub, Nat.reduceMul, Nat.reduceEqDiff, Nat.reduceBEq, Nat.reduceLeDiff, Int.reduceToNat, fillS, wantG, vBox, Value.cells, one, putAt, Option.getD_some, Option.map_some, Option.bind_some, ne_eq, Option.some.injEq, Prod.mk.injEq, exists_and_left, exists_eq_left', exists_eq_left, List.size_toArray, List.length_cons, List.length_nil, if_true, if_false, exists_eq', exists_const, List.getElem?_cons_zero, List.getElem?_cons_succ, List.map_toArray, List.map_cons, List.map_nil, beq_iff_eq, List.all_cons, List.all_nil, cond_true, List.set_cons_zero, List.set_cons_succ, List.drop_zero, List.drop_succ_cons, List.take_succ_cons, List.take_zero, List.getElem?_toArray, Option.map_none, Option.getD_none, s0, s5, s7, s9]
    refine wpc_mono (refConstant_spec b _ (by repeat first | assumption | refine Fr.more ?_ _ | refine Fr.put ?_ _ _)) ?_
    rintro r σ3 ⟨hd3, hE3⟩
    rw [dgm_const] at hd3
    obtain ⟨o3, c3, rfl, -⟩ := hd3.dv.open
    have d3 := hd3.i
    have n3 := hE3.next
    simp only [c_seq, RUNA, Nat.reduceAdd, Nat.reduceMod, Nat.reduceDiv, Nat.reduceSub, Nat.reduceMul, Nat.reduceEqDiff, Nat.reduceBEq, Nat.reduceLeDiff, Int.reduceToNat, fillS, wantG, vBox, Value.cells, one, putAt, Option.getD_some, Option.map_some, Option.bind_some, ne_eq, Option.some.injEq, Prod.mk.injEq, exists_and_left, exists_eq_left', exists_eq_left, List.size_toArray, List.length_cons, List.length_nil, if_true, if_false, exists_eq', exists_const, List.getElem?_cons_zero, List.getElem?_cons_succ, List.map_toArray, List.map_cons, List.map_nil, beq_iff_eq, List.all_cons, List.all_nil, cond_true, List.set_cons_zero, List.set_cons_succ, List.drop_zero, List.drop_succ_cons, List.take_succ_cons, List.take_zero, List.getElem?_toArray, Option.map_none, Option.getD_none, s0, s5, s7, s9]
    refine wpc_mono (Same_spec (d := constD b) (e := constD b) (DVi.dv (d2.un ?_) ?_) (DVi.dv (d3.un ?_) ?_) (by rw [constD_len]; omega)) ?_
    · repeat first | assumption | exact UN.refl _ _ _ | refine UN.more ?_ _ | refine UN.put ?_ (by omega) _ | refine UN.ex (by assumption) ?_ (by first | omega | (simp only [next_more, next_put]; omega)) | refine UN.exb (by assumption) ?_ (by first | omega | (simp only [next_more, next_put]; omega)) (by omega)
    · first | omega | (simp only [next_more, next_put] at *; omega)
    · repeat first | assumption | exact UN.refl _ _ _ | refine UN.more ?_ _ | refine UN.put ?_ (by omega) _ | refine UN.ex (by assumption) ?_ (by first | omega | (simp only [next_more, next_put]; omega)) | refine UN.exb (by assumption) ?_ (by first | omega | (simp only [next_more, next_put]; omega)) (by omega)
    · first | omega | (simp only [next_more, next_put] at *; omega)
    rintro r σ4 ⟨rfl, hE4⟩
    have ht : decide (constD b = constD b) = true := by simp
    simp only [c_seq, RUNA, Nat.reduceAdd, Nat.reduceMod, Nat.reduceDiv, Nat.reduceSub, Nat.reduceMul, Nat.reduceEqDiff, Nat.reduceBEq, Nat.reduceLeDiff, Int.reduceToNat, fillS, wantG, vBox, Value.cells, one, putAt, Option.getD_some, Option.map_some, Option.bind_some, ne_eq, Option.some.injEq, Prod.mk.injEq, exists_and_left, exists_eq_left', exists_eq_left, List.size_toArray, List.length_cons, List.length_nil, if_true, if_false, exists_eq', exists_const, List.getElem?_cons_zero, List.getElem?_cons_succ, List.map_toArray, List.map_cons, List.map_nil, beq_iff_eq, List.all_cons, List.all_nil, cond_true, List.set_cons_zero, List.set_cons_succ, List.drop_zero, List.drop_succ_cons, List.take_succ_cons, List.take_zero, List.getElem?_toArray, Option.map_none, Option.getD_none, ht, hr]

/-! ### from the abstract machine to the model, at a start without memory -/
theorem sim0 (w : World) : Sim w Try.prog (fun _ => none) st0 w := by
  have h0 : Try.prog.globals.size = 0 := by kernel_rfl
  exact {
    kept := Kept.refl w
    dom := fun _ _ => rfl
    glob := fun g hg => absurd hg (by omega)
    row := fun _ _ _ _ h => by cases h
    map := fun _ _ _ h => by cases h
    off := fun _ _ _ _ _ _ _ _ _ h => by cases h
    tip := fun _ _ _ _ _ _ _ _ _ h => by cases h
    maps := fun _ _ _ _ _ _ _ h => by cases h
    vers := fun _ _ _ _ _ h => by cases h }
theorem basic_walk (a0 : Bool) (a1 : Int) (w : World) : Calls Try.prog 3 #[.bool a0, .int .i64 a1] w fun e w' => e = .returned (.bool true) ∧ RowKit.Grown w w' := by
  refine (wpc_calls okTry (basic_go a0 a1) (sim0 w) (args' := #[.bool a0, .int .i64 a1]) (.same rfl)).mono ?_
  rintro e w' ⟨μ', r, σ', r', rfl, he, hr, hZ⟩
  rw [he, hr.eq0 rfl]
  exact ⟨rfl, hZ.kept.grown⟩
end Go.Proofs.Ytlealdhgajomhaa
