/- The reference's And and Or: walks. -/
import Derived.Test.YtlealdhgajomhaaBddL
namespace Go.Proofs.Ytlealdhgajomhaa
set_option linter.unusedVariables false
open Go.AI
set_option linter.unusedSimpArgs false

theorem constD_cd (b : Bool) : constD b = cd (.leaf b) := rfl
theorem refConstant_is (b : Bool) (σ : St) (hF : Fr σ) : wpc Try.prog 14 #[.bool b] σ fun r σ' => IsD σ.next σ'.next σ' r (fun _ => b) ∧ EX σ σ' := by
  refine wpc_mono (refConstant_spec b σ hF) ?_
  rintro r σ' ⟨h1, h2⟩
  rw [dgm_const, constD_cd] at h1
  exact ⟨⟨_, h1.i, trivial, fun _ => rfl⟩, h2⟩
theorem varD_cd (i : Nat) : varD i = cd (.node i (.leaf false) (.leaf true)) := by
  simp only [cd, num_node]
  have h1 : num (.leaf false) c01 = (0, c01) := rfl
  have h2 : num (.leaf true) c01 = (1, c01) := rfl
  simp only [h1, h2]
  have h3 : fnd ((i : Int), 0, 1) c01 = 2 := rfl
  have h4 : c01.length = 2 := rfl
  simp only [put, h3, h4]
  rfl
theorem refVariable_is (i : Nat) (hi : i < 10) (σ : St) (hF : Fr σ) : wpc Try.prog 11 #[.int .i64 i] σ fun r σ' => ∃ d, r = .tuple #[d, .int .i64 0] ∧ IsD σ.next σ'.next σ' d (fun f => f i) ∧ EX σ σ' := by
  refine wpc_mono (refVariable_in i hi σ hF) ?_
  rintro r σ' ⟨d, rfl, h1, h2⟩
  rw [dgm_var i hi, varD_cd] at h1
  refine ⟨d, rfl, ⟨_, h1.i, ⟨by omega, hi, by simp, trivial, trivial⟩, fun f => ?_⟩, h2⟩
  simp only [Dt.ev]; cases f i <;> rfl

/-- a slice of diagrams -/
def DL (σ : St) (v : Value) (φs : List (As → Bool)) : Prop := ∃ o c, v = .slice o φs.length c ∧ (0 < φs.length → ∃ id off row m, o = some ⟨id, off, none⟩ ∧ id < σ.next ∧ σ.row id = some (row, m) ∧
  ∀ i, i < φs.length → ∃ s r, cut row (off + i * 2) 2 = some [s, r] ∧ IsD 0 σ.next σ (.agg #[s, r]) (φs.getD i fun _ => false))
theorem IsD.mono {σ τ : St} {v : Value} {φ : As → Bool} (h : IsD 0 σ.next σ v φ) (e : EX σ τ) : IsD 0 τ.next τ v φ := (h.un ⟨fun id _ hi => e.row id hi⟩).hi e.next
theorem DL.mono {σ τ : St} {v : Value} {φs : List (As → Bool)} (h : DL σ v φs) (e : EX σ τ) : DL τ v φs := by
  obtain ⟨o, c, h1, h2⟩ := h
  refine ⟨o, c, h1, fun h0 => ?_⟩
  obtain ⟨id, off, row, m, h3, h4, h5, h6⟩ := h2 h0
  refine ⟨id, off, row, m, h3, by have := e.next; omega, (e.row id h4).trans h5, fun i hi => ?_⟩
  obtain ⟨s, r, h7, h8⟩ := h6 i hi
  exact ⟨s, r, h7, h8.mono e⟩

/-- all of the first -/
def allOf (φs : List (As → Bool)) (i : Nat) (f : As) : Bool := (φs.take i).all fun φ => φ f
def anyOf (φs : List (As → Bool)) (i : Nat) (f : As) : Bool := (φs.take i).any fun φ => φ f
theorem allOf_s {φs : List (As → Bool)} {i : Nat} (h : i < φs.length) (f : As) : allOf φs (i + 1) f = (allOf φs i f && (φs.getD i fun _ => false) f) := by
  unfold allOf
  rw [List.take_succ_eq_append_getElem h, List.all_append]
  simp [h]
theorem anyOf_s {φs : List (As → Bool)} {i : Nat} (h : i < φs.length) (f : As) : anyOf φs (i + 1) f = (anyOf φs i f || (φs.getD i fun _ => false) f) := by
  unfold anyOf
  rw [List.take_succ_eq_append_getElem h, List.any_append]
  simp [h]
theorem allOf_ten {φs : List (As → Bool)} (h : ∀ i, i < φs.length → Ten (φs.getD i fun _ => false)) : ∀ i, i ≤ φs.length → Ten (allOf φs i) := by
  intro i
  induction i with
  | zero => intro _ f; rfl
  | succ i ih => intro hi f; rw [allOf_s (by omega), allOf_s (by omega), ih (by omega) f, h i (by omega) f]
theorem anyOf_ten {φs : List (As → Bool)} (h : ∀ i, i < φs.length → Ten (φs.getD i fun _ => false)) : ∀ i, i ≤ φs.length → Ten (anyOf φs i) := by
  intro i
  induction i with
  | zero => intro _ f; rfl
  | succ i ih => intro hi f; rw [anyOf_s (by omega), anyOf_s (by omega), ih (by omega) f, h i (by omega) f]

/-! ### And -/
theorem refAnd_spec {σ : St} {a : Value} {φs : List (As → Bool)} (ha : DL σ a φs) (hlen : φs.length < 1000) (hF : Fr σ) : wpc Try.prog 31 #[a] σ fun r σ' => IsD σ.next σ'.next σ' r (allOf φs φs.length) ∧ EX σ σ' := by
  obtain ⟨o, c, rfl, hA⟩ := ha
  have hten := allOf_ten (φs := φs) (fun i hi => by obtain ⟨_, _, _, _, _, _, _, h⟩ := hA (by omega); obtain ⟨_, _, _, h⟩ := h i hi; exact h.ten)
  refine body_go Try.func31 rfl ?_
  have hr := Try.results31
  simp only [c_seq, RUNA, Nat.reduceAdd, Nat.reduceMod, Nat.reduceDiv, Nat.reduceSub, Nat.reduceMul, Nat.reduceEqDiff, Nat.reduceBEq, Nat.reduceLeDiff, Int.reduceToNat, fillS, wantG, vBox, Value.cells, one, putAt, Option.getD_some, Option.map_some, Option.bind_some, ne_eq, Option.some.injEq, Prod.mk.injEq, exists_and_left, exists_eq_left', exists_eq_left, List.size_toArray, List.length_cons, List.length_nil, if_true, if_false, exists_eq', exists_const, List.getElem?_cons_zero, List.getElem?_cons_succ, List.map_toArray, List.map_cons, List.map_nil, beq_iff_eq, List.all_cons, List.all_nil, cond_true, List.set_cons_zero, List.set_cons_succ, List.drop_zero, List.drop_succ_cons, List.take_succ_cons, List.take_zero, List.getElem?_toArray, Option.map_none, Option.getD_none, TYA, hr]
  refine wpc_mono (refConstant_is true _ ?_) ?_
  · repeat first | assumption | refine Fr.more ?_ _ | refine Fr.put ?_ _ _
  rintro r σ0 ⟨hD0, hE0⟩
  have n0 := hE0.next
  have f0 := hE0.fr (by repeat first | assumption | refine Fr.more ?_ _ | refine Fr.put ?_ _ _)
  simp only [next_more, next_put] at n0 hD0
  have b0 : σ0.row σ.next = some ([.slice none 0 0, .int .i64 0], boxMeta) := by rw [hE0.row _ (by first | omega | (simp only [next_more, next_put] at *; omega))]; simp only [c_seq, RUNA, Nat.reduceAdd, Nat.reduceMod, Nat.reduceDiv, Nat.reduceSub, Nat.reduceMul, Nat.reduceEqDiff, Nat.reduceBEq, Nat.reduceLeDiff, Int.reduceToNat, fillS, wantG, vBox, Value.cells, one, putAt, Option.getD_some, Option.map_some, Option.bind_some, ne_eq, Option.some.injEq, Prod.mk.injEq, exists_and_left, exists_eq_left', exists_eq_left, List.size_toArray, List.length_cons, List.length_nil, if_true, if_false, exists_eq', exists_const, List.getElem?_cons_zero, List.getElem?_cons_succ, List.map_toArray, List.map_cons, List.map_nil, beq_iff_eq, List.all_cons, List.all_nil, cond_true, List.set_cons_zero, List.set_cons_succ, List.drop_zero, List.drop_succ_cons, List.take_succ_cons, List.take_zero, List.getElem?_toArray, Option.map_none, Option.getD_none]
  have e0 : EX σ σ0 := by repeat first | assumption | exact EXn.refl _ _ | refine EXn.more ?_ _ | refine EXn.put ?_ (by omega) _ | refine EX.trans ?_ (by assumption)
  simp only [c_seq, RUNA, Nat.reduceAdd, Nat.reduceMod, Nat.reduceDiv, Nat.reduceSub, Nat.reduceMul, Nat.reduceEqDiff, Nat.reduceBEq, Nat.reduceLeDiff, Int.reduceToNat, fillS, wantG, vBox, Value.cells, one, putAt, Option.getD_some, Option.map_some, Option.bind_some, ne_eq, Option.some.injEq, Prod.mk.injEq, exists_and_left, exists_eq_left', exists_eq_left, List.size_toArray, List.length_cons, List.length_nil, if_true, if_false, exists_eq', exists_const, List.getElem?_cons_zero, List.getElem?_cons_succ, List.map_toArray, List.map_cons, List.map_nil, beq_iff_eq, List.all_cons, List.all_nil, cond_true, List.set_cons_zero, List.set_cons_succ, List.drop_zero, List.drop_succ_cons, List.take_succ_cons, List.take_zero, List.getElem?_toArray, Option.map_none, Option.getD_none, TYA]
  refine wpc_mono (Table_is hD0 ?_) ?_
  · first | omega | (simp only [next_more, next_put] at *; omega)
  rintro r σ1 ⟨⟨d1, rfl, t1, t1', t1''⟩, hE1⟩
  have n1 := hE1.next
  have f1 := hE1.fr f0
  have b1 := (hE1.row σ.next (by omega)).trans b0
  have e1 : EX σ σ1 := by repeat first | assumption | exact EXn.refl _ _ | refine EXn.more ?_ _ | refine EXn.put ?_ (by omega) _ | refine EX.trans ?_ (by assumption)
  simp only [c_seq, RUNA, Nat.reduceAdd, Nat.reduceMod, Nat.reduceDiv, Nat.reduceSub, Nat.reduceMul, Nat.reduceEqDiff, Nat.reduceBEq, Nat.reduceLeDiff, Int.reduceToNat, fillS, wantG, vBox, Value.cells, one, putAt, Option.getD_some, Option.map_some, Option.bind_some, ne_eq, Option.some.injEq, Prod.mk.injEq, exists_and_left, exists_eq_left', exists_eq_left, List.size_toArray, List.length_cons, List.length_nil, if_true, if_false, exists_eq', exists_const, List.getElem?_cons_zero, List.getElem?_cons_succ, List.map_toArray, List.map_cons, List.map_nil, beq_iff_eq, List.all_cons, List.all_nil, cond_true, List.set_cons_zero, List.set_cons_succ, List.drop_zero, List.drop_succ_cons, List.take_succ_cons, List.take_zero, List.getElem?_toArray, Option.map_none, Option.getD_none, TYA]
  refine loop_go (fun m S τ => S.at 0 = .slice o φs.length c ∧ S.at 2 = .pointer (some ⟨σ.next, 0, none⟩) ∧ S.at 3 = .slice (some ⟨d1, 0, none⟩) 1024 1024 ∧ EX σ τ ∧ Fr τ ∧ σ1.next ≤ τ.next ∧
    τ.row σ.next = some ([.slice none 0 0, .int .i64 0], boxMeta) ∧
    ∃ i : Nat, S.at 4 = .int .i64 i ∧ i ≤ φs.length ∧ m = φs.length - i ∧ τ.row d1 = some ((tab 1024 fun n => allOf φs i (bits n)).map Value.bool, rowMeta 1)) φs.length ?_ ?_
  · simp only [c_seq, RUNA, Nat.reduceAdd, Nat.reduceMod, Nat.reduceDiv, Nat.reduceSub, Nat.reduceMul, Nat.reduceEqDiff, Nat.reduceBEq, Nat.reduceLeDiff, Int.reduceToNat, fillS, wantG, vBox, Value.cells, one, putAt, Option.getD_some, Option.map_some, Option.bind_some, ne_eq, Option.some.injEq, Prod.mk.injEq, exists_and_left, exists_eq_left', exists_eq_left, List.size_toArray, List.length_cons, List.length_nil, if_true, if_false, exists_eq', exists_const, List.getElem?_cons_zero, List.getElem?_cons_succ, List.map_toArray, List.map_cons, List.map_nil, beq_iff_eq, List.all_cons, List.all_nil, cond_true, List.set_cons_zero, List.set_cons_succ, List.drop_zero, List.drop_succ_cons, List.take_succ_cons, List.take_zero, List.getElem?_toArray, Option.map_none, Option.getD_none]
    refine ⟨?_, ?_, by omega, b1, 0, rfl, by omega, by omega, t1''⟩
    · repeat first | assumption | exact EXn.refl _ _ | refine EXn.more ?_ _ | refine EXn.put ?_ (by omega) _ | refine EX.trans ?_ (by assumption)
    · repeat first | assumption | refine Fr.more ?_ _ | refine Fr.put ?_ _ _
  rintro _ S τ ⟨s0, s2, s3, hE, hF', hx, r0, i, s4, hi, rfl, rt⟩
  have nn := hE.next
  by_cases hlt : i < φs.length
  · have hd : decide ((i : Int) < (φs.length : Int)) = true := by simp; omega
    have z2 : (0 : Int) ≤ (i : Int) := by omega
    have z3 : (i : Int) < (φs.length : Int) := by omega
    have hw : IntKind.i64.wrap ((i : Int) + 1) = ((i + 1 : Nat) : Int) := by rw [wrap64 (by omega) (by omega)]; rfl
    obtain ⟨id, off, row, m, rfl, h1, h2, h3⟩ := hA (by omega)
    obtain ⟨sv, rv', h4, h5⟩ := h3 i hlt
    have ra := (hE.row id h1).trans h2
    simp only [c_seq, RUNA, Nat.reduceAdd, Nat.reduceMod, Nat.reduceDiv, Nat.reduceSub, Nat.reduceMul, Nat.reduceEqDiff, Nat.reduceBEq, Nat.reduceLeDiff, Int.reduceToNat, fillS, wantG, vBox, Value.cells, one, putAt, Option.getD_some, Option.map_some, Option.bind_some, ne_eq, Option.some.injEq, Prod.mk.injEq, exists_and_left, exists_eq_left', exists_eq_left, List.size_toArray, List.length_cons, List.length_nil, if_true, if_false, exists_eq', exists_const, List.getElem?_cons_zero, List.getElem?_cons_succ, List.map_toArray, List.map_cons, List.map_nil, beq_iff_eq, List.all_cons, List.all_nil, cond_true, List.set_cons_zero, List.set_cons_succ, List.drop_zero, List.drop_succ_cons, List.take_succ_cons, List.take_zero, List.getElem?_toArray, Option.map_none, Option.getD_none, TYA, s0, s2, s3, s4, hd, ia68 z2 z3, ra, h4]
    refine wpc_mono (Table_is (h5.un ?_) ?_) ?_
    · repeat first | assumption | exact UN.refl _ _ _ | refine UN.more ?_ _ | refine UN.put ?_ (by omega) _ | refine UN.ex (by assumption) ?_ (by first | omega | (simp only [next_more, next_put]; omega)) | refine UN.exb (by assumption) ?_ (by first | omega | (simp only [next_more, next_put]; omega)) (by omega)
    · first | omega | (simp only [next_more, next_put] at *; omega)
    rintro r σ2 ⟨⟨d2, rfl, t2, t2', t2''⟩, hE2⟩
    have n2 := hE2.next
    simp only [next_more] at n2 t2
    have b2 := (hE2.row σ.next (by first | omega | (simp only [next_more, next_put] at *; omega))).trans r0
    have x2 := (hE2.row d1 (by first | omega | (simp only [next_more, next_put] at *; omega))).trans rt
    have e2 : EX σ σ2 := by repeat first | assumption | exact EXn.refl _ _ | refine EXn.more ?_ _ | refine EXn.put ?_ (by omega) _ | refine EX.trans ?_ (by assumption)
    have f2 := hE2.fr (by repeat first | assumption | refine Fr.more ?_ _ | refine Fr.put ?_ _ _)
    simp only [c_seq, RUNA, Nat.reduceAdd, Nat.reduceMod, Nat.reduceDiv, Nat.reduceSub, Nat.reduceMul, Nat.reduceEqDiff, Nat.reduceBEq, Nat.reduceLeDiff, Int.reduceToNat, fillS, wantG, vBox, Value.cells, one, putAt, Option.getD_some, Option.map_some, Option.bind_some, ne_eq, Option.some.injEq, Prod.mk.injEq, exists_and_left, exists_eq_left', exists_eq_left, List.size_toArray, List.length_cons, List.length_nil, if_true, if_false, exists_eq', exists_const, List.getElem?_cons_zero, List.getElem?_cons_succ, List.map_toArray, List.map_cons, List.map_nil, beq_iff_eq, List.all_cons, List.all_nil, cond_true, List.set_cons_zero, List.set_cons_succ, List.drop_zero, List.drop_succ_cons, List.take_succ_cons, List.take_zero, List.getElem?_toArray, Option.map_none, Option.getD_none, TYA, s0, s2, s3, s4]
    refine loop_go (fun m S τ' => S.at 0 = .slice (some ⟨id, off, none⟩) φs.length c ∧ S.at 2 = .pointer (some ⟨σ.next, 0, none⟩) ∧ S.at 3 = .slice (some ⟨d1, 0, none⟩) 1024 1024 ∧ S.at 4 = .int .i64 i ∧ S.at 5 = .slice (some ⟨d2, 0, none⟩) 1024 1024 ∧
      EX σ τ' ∧ Fr τ' ∧ σ2.next ≤ τ'.next ∧ τ'.row σ.next = some ([.slice none 0 0, .int .i64 0], boxMeta) ∧ τ'.row d2 = some ((tab 1024 fun n => (φs.getD i fun _ => false) (bits n)).map Value.bool, rowMeta 1) ∧
      ∃ n : Nat, S.at 6 = .int .i64 n ∧ n ≤ 1024 ∧ m = 1024 - n ∧ τ'.row d1 = some ((tab 1024 (half n (fun n => allOf φs (i + 1) (bits n)) (fun n => allOf φs i (bits n)))).map Value.bool, rowMeta 1)) 1024 ?_ ?_
    · simp only [c_seq, RUNA, Nat.reduceAdd, Nat.reduceMod, Nat.reduceDiv, Nat.reduceSub, Nat.reduceMul, Nat.reduceEqDiff, Nat.reduceBEq, Nat.reduceLeDiff, Int.reduceToNat, fillS, wantG, vBox, Value.cells, one, putAt, Option.getD_some, Option.map_some, Option.bind_some, ne_eq, Option.some.injEq, Prod.mk.injEq, exists_and_left, exists_eq_left', exists_eq_left, List.size_toArray, List.length_cons, List.length_nil, if_true, if_false, exists_eq', exists_const, List.getElem?_cons_zero, List.getElem?_cons_succ, List.map_toArray, List.map_cons, List.map_nil, beq_iff_eq, List.all_cons, List.all_nil, cond_true, List.set_cons_zero, List.set_cons_succ, List.drop_zero, List.drop_succ_cons, List.take_succ_cons, List.take_zero, List.getElem?_toArray, Option.map_none, Option.getD_none, s0, s2, s3, s4]
      refine ⟨?_, ?_, by omega, b2, t2'', 0, rfl, by omega, by omega, ?_⟩
      · repeat first | assumption | exact EXn.refl _ _ | refine EXn.more ?_ _ | refine EXn.put ?_ (by omega) _ | refine EX.trans ?_ (by assumption)
      · repeat first | assumption | refine Fr.more ?_ _ | refine Fr.put ?_ _ _
      · rw [x2, half_0 (f := fun n => allOf φs (i + 1) (bits n))]
    clear s0 s2 s3 s4
    rintro _ S τ' ⟨s0, s2, s3, s4, s5, hE', hF2, hx', r0', y2, n, s6, hn, rfl, y1⟩
    by_cases hnl : n < 1024
    · have hd' : decide ((n : Int) < ((1024 : Nat) : Int)) = true := by simp; omega
      have z4 : (0 : Int) ≤ (n : Int) := by omega
      have z5 : (n : Int) < ((1024 : Nat) : Int) := by omega
      have hw' : IntKind.i64.wrap ((n : Int) + 1) = ((n + 1 : Nat) : Int) := by rw [wrap64 (by omega) (by omega)]; rfl
      have hle : n + 1 ≤ ((tab 1024 (half n (fun n => allOf φs (i + 1) (bits n)) (fun n => allOf φs i (bits n)))).map Value.bool).length := by rw [List.length_map, tab_len]; omega
      have hv1 := tabv (f := half n (fun n => allOf φs (i + 1) (bits n)) (fun n => allOf φs i (bits n))) hnl
      rw [half_at] at hv1
      have hv2 := tabv (f := fun n => (φs.getD i fun _ => false) (bits n)) hnl
      have q : ¬ σ.next = d1 := by omega
      have q2 : ¬ d2 = d1 := by omega
      have hs := half_set (N := 1024) (n := n) (f := fun n => allOf φs (i + 1) (bits n)) (g := fun n => allOf φs i (bits n))
      have hv := allOf_s hlt (bits n)
      simp only [hv] at hs
      cases hp : allOf φs i (bits n) with
      | true =>
        rw [hp] at hv1 hs
        rw [Bool.true_and] at hs
        simp only [c_seq, RUNA, Nat.reduceAdd, Nat.reduceMod, Nat.reduceDiv, Nat.reduceSub, Nat.reduceMul, Nat.reduceEqDiff, Nat.reduceBEq, Nat.reduceLeDiff, Int.reduceToNat, fillS, wantG, vBox, Value.cells, one, putAt, Option.getD_some, Option.map_some, Option.bind_some, ne_eq, Option.some.injEq, Prod.mk.injEq, exists_and_left, exists_eq_left', exists_eq_left, List.size_toArray, List.length_cons, List.length_nil, if_true, if_false, exists_eq', exists_const, List.getElem?_cons_zero, List.getElem?_cons_succ, List.map_toArray, List.map_cons, List.map_nil, beq_iff_eq, List.all_cons, List.all_nil, cond_true, List.set_cons_zero, List.set_cons_succ, List.drop_zero, List.drop_succ_cons, List.take_succ_cons, List.take_zero, List.getElem?_toArray, Option.map_none, Option.getD_none, TYA, s0, s2, s3, s4, s5, s6, hd', ia43 z4 z5, y1, y2, hv1, hv2, hle, hw', r0', q, q2]
        refine ⟨1024 - (n + 1), by omega, ?_, ?_, by omega, n + 1, rfl, by omega, rfl, ?_⟩
        · repeat first | assumption | exact EXn.refl _ _ | refine EXn.more ?_ _ | refine EXn.put ?_ (by omega) _ | refine EX.trans ?_ (by assumption)
        · repeat first | assumption | refine Fr.more ?_ _ | refine Fr.put ?_ _ _
        · rw [← hs, List.map_set]
      | false =>
        rw [hp] at hv1 hs
        rw [Bool.false_and] at hs
        simp only [c_seq, RUNA, Nat.reduceAdd, Nat.reduceMod, Nat.reduceDiv, Nat.reduceSub, Nat.reduceMul, Nat.reduceEqDiff, Nat.reduceBEq, Nat.reduceLeDiff, Int.reduceToNat, fillS, wantG, vBox, Value.cells, one, putAt, Option.getD_some, Option.map_some, Option.bind_some, ne_eq, Option.some.injEq, Prod.mk.injEq, exists_and_left, exists_eq_left', exists_eq_left, List.size_toArray, List.length_cons, List.length_nil, if_true, if_false, exists_eq', exists_const, List.getElem?_cons_zero, List.getElem?_cons_succ, List.map_toArray, List.map_cons, List.map_nil, beq_iff_eq, List.all_cons, List.all_nil, cond_true, List.set_cons_zero, List.set_cons_succ, List.drop_zero, List.drop_succ_cons, List.take_succ_cons, List.take_zero, List.getElem?_toArray, Option.map_none, Option.getD_none, TYA, s0, s2, s3, s4, s5, s6, hd', ia43 z4 z5, y1, y2, hv1, hv2, hle, hw', r0', q, q2]
        refine ⟨1024 - (n + 1), by omega, ?_, ?_, by omega, n + 1, rfl, by omega, rfl, ?_⟩
        · repeat first | assumption | exact EXn.refl _ _ | refine EXn.more ?_ _ | refine EXn.put ?_ (by omega) _ | refine EX.trans ?_ (by assumption)
        · repeat first | assumption | refine Fr.more ?_ _ | refine Fr.put ?_ _ _
        · rw [← hs, List.map_set]
    · have hd' : decide ((n : Int) < ((1024 : Nat) : Int)) = false := by simp; omega
      have hn1 : n = 1024 := by omega
      rw [hn1, half_N] at y1
      simp only [c_seq, RUNA, Nat.reduceAdd, Nat.reduceMod, Nat.reduceDiv, Nat.reduceSub, Nat.reduceMul, Nat.reduceEqDiff, Nat.reduceBEq, Nat.reduceLeDiff, Int.reduceToNat, fillS, wantG, vBox, Value.cells, one, putAt, Option.getD_some, Option.map_some, Option.bind_some, ne_eq, Option.some.injEq, Prod.mk.injEq, exists_and_left, exists_eq_left', exists_eq_left, List.size_toArray, List.length_cons, List.length_nil, if_true, if_false, exists_eq', exists_const, List.getElem?_cons_zero, List.getElem?_cons_succ, List.map_toArray, List.map_cons, List.map_nil, beq_iff_eq, List.all_cons, List.all_nil, cond_true, List.set_cons_zero, List.set_cons_succ, List.drop_zero, List.drop_succ_cons, List.take_succ_cons, List.take_zero, List.getElem?_toArray, Option.map_none, Option.getD_none, TYA, s0, s2, s3, s4, s5, s6, hd', hw]
      refine ⟨φs.length - (i + 1), by omega, ?_, ?_, by omega, r0', i + 1, rfl, by omega, rfl, y1⟩
      · repeat first | assumption | exact EXn.refl _ _ | refine EXn.more ?_ _ | refine EXn.put ?_ (by omega) _ | refine EX.trans ?_ (by assumption)
      · repeat first | assumption | refine Fr.more ?_ _ | refine Fr.put ?_ _ _
  · have hd : decide ((i : Int) < (φs.length : Int)) = false := by simp; omega
    have hn1 : i = φs.length := by omega
    rw [hn1] at rt
    simp only [c_seq, RUNA, Nat.reduceAdd, Nat.reduceMod, Nat.reduceDiv, Nat.reduceSub, Nat.reduceMul, Nat.reduceEqDiff, Nat.reduceBEq, Nat.reduceLeDiff, Int.reduceToNat, fillS, wantG, vBox, Value.cells, one, putAt, Option.getD_some, Option.map_some, Option.bind_some, ne_eq, Option.some.injEq, Prod.mk.injEq, exists_and_left, exists_eq_left', exists_eq_left, List.size_toArray, List.length_cons, List.length_nil, if_true, if_false, exists_eq', exists_const, List.getElem?_cons_zero, List.getElem?_cons_succ, List.map_toArray, List.map_cons, List.map_nil, beq_iff_eq, List.all_cons, List.all_nil, cond_true, List.set_cons_zero, List.set_cons_succ, List.drop_zero, List.drop_succ_cons, List.take_succ_cons, List.take_zero, List.getElem?_toArray, Option.map_none, Option.getD_none, TYA, s0, s2, s3, s4, hd]
    refine wpc_mono (Diagram_is (lo := 0) (hi := τ.next) ⟨d1, rfl, by omega, by omega, rt⟩ (by first | omega | (simp only [next_more, next_put] at *; omega)) (by repeat first | assumption | refine Fr.more ?_ _ | refine Fr.put ?_ _ _)) ?_
    rintro r σ2 ⟨hD, hE2⟩
    have n2 := hE2.next
    simp only [next_more] at n2 hD
    obtain ⟨o', k', c', i', rfl⟩ := hD.open
    have r2 : σ2.row σ.next = some ([.slice none 0 0, .int .i64 0], boxMeta) := (hE2.row _ (by first | omega | (simp only [next_more, next_put] at *; omega))).trans r0
    simp only [c_seq, RUNA, Nat.reduceAdd, Nat.reduceMod, Nat.reduceDiv, Nat.reduceSub, Nat.reduceMul, Nat.reduceEqDiff, Nat.reduceBEq, Nat.reduceLeDiff, Int.reduceToNat, fillS, wantG, vBox, Value.cells, one, putAt, Option.getD_some, Option.map_some, Option.bind_some, ne_eq, Option.some.injEq, Prod.mk.injEq, exists_and_left, exists_eq_left', exists_eq_left, List.size_toArray, List.length_cons, List.length_nil, if_true, if_false, exists_eq', exists_const, List.getElem?_cons_zero, List.getElem?_cons_succ, List.map_toArray, List.map_cons, List.map_nil, beq_iff_eq, List.all_cons, List.all_nil, cond_true, List.set_cons_zero, List.set_cons_succ, List.drop_zero, List.drop_succ_cons, List.take_succ_cons, List.take_zero, List.getElem?_toArray, Option.map_none, Option.getD_none, TYA, s2, r2, hr]
    refine ⟨IsD.congr (IsD.weak (hD.un ?_) (by omega)) (fun f => by rw [hten _ (Nat.le_refl _) f]), ?_⟩
    · repeat first | assumption | exact UN.refl _ _ _ | refine UN.more ?_ _ | refine UN.put ?_ (by omega) _ | refine UN.ex (by assumption) ?_ (by first | omega | (simp only [next_more, next_put]; omega)) | refine UN.exb (by assumption) ?_ (by first | omega | (simp only [next_more, next_put]; omega)) (by omega)
    · repeat first | assumption | exact EXn.refl _ _ | refine EXn.more ?_ _ | refine EXn.put ?_ (by omega) _ | refine EX.trans ?_ (by assumption)

/-! ### Or -/
theorem refOr_spec {σ : St} {a : Value} {φs : List (As → Bool)} (ha : DL σ a φs) (hlen : φs.length < 1000) (hF : Fr σ) : wpc Try.prog 32 #[a] σ fun r σ' => IsD σ.next σ'.next σ' r (anyOf φs φs.length) ∧ EX σ σ' := by
  obtain ⟨o, c, rfl, hA⟩ := ha
  have hten := anyOf_ten (φs := φs) (fun i hi => by obtain ⟨_, _, _, _, _, _, _, h⟩ := hA (by omega); obtain ⟨_, _, _, h⟩ := h i hi; exact h.ten)
  refine body_go Try.func32 rfl ?_
  have hr := Try.results32
  simp only [c_seq, RUNA, Nat.reduceAdd, Nat.reduceMod, Nat.reduceDiv, Nat.reduceSub, Nat.reduceMul, Nat.reduceEqDiff, Nat.reduceBEq, Nat.reduceLeDiff, Int.reduceToNat, fillS, wantG, vBox, Value.cells, one, putAt, Option.getD_some, Option.map_some, Option.bind_some, ne_eq, Option.some.injEq, Prod.mk.injEq, exists_and_left, exists_eq_left', exists_eq_left, List.size_toArray, List.length_cons, List.length_nil, if_true, if_false, exists_eq', exists_const, List.getElem?_cons_zero, List.getElem?_cons_succ, List.map_toArray, List.map_cons, List.map_nil, beq_iff_eq, List.all_cons, List.all_nil, cond_true, List.set_cons_zero, List.set_cons_succ, List.drop_zero, List.drop_succ_cons, List.take_succ_cons, List.take_zero, List.getElem?_toArray, Option.map_none, Option.getD_none, TYA, hr]
  refine wpc_mono (refConstant_is false _ ?_) ?_
  · repeat first | assumption | refine Fr.more ?_ _ | refine Fr.put ?_ _ _
  rintro r σ0 ⟨hD0, hE0⟩
  have n0 := hE0.next
  have f0 := hE0.fr (by repeat first | assumption | refine Fr.more ?_ _ | refine Fr.put ?_ _ _)
  simp only [next_more, next_put] at n0 hD0
  have b0 : σ0.row σ.next = some ([.slice none 0 0, .int .i64 0], boxMeta) := by rw [hE0.row _ (by first | omega | (simp only [next_more, next_put] at *; omega))]; simp only [c_seq, RUNA, Nat.reduceAdd, Nat.reduceMod, Nat.reduceDiv, Nat.reduceSub, Nat.reduceMul, Nat.reduceEqDiff, Nat.reduceBEq, Nat.reduceLeDiff, Int.reduceToNat, fillS, wantG, vBox, Value.cells, one, putAt, Option.getD_some, Option.map_some, Option.bind_some, ne_eq, Option.some.injEq, Prod.mk.injEq, exists_and_left, exists_eq_left', exists_eq_left, List.size_toArray, List.length_cons, List.length_nil, if_true, if_false, exists_eq', exists_const, List.getElem?_cons_zero, List.getElem?_cons_succ, List.map_toArray, List.map_cons, List.map_nil, beq_iff_eq, List.all_cons, List.all_nil, cond_true, List.set_cons_zero, List.set_cons_succ, List.drop_zero, List.drop_succ_cons, List.take_succ_cons, List.take_zero, List.getElem?_toArray, Option.map_none, Option.getD_none]
  have e0 : EX σ σ0 := by repeat first | assumption | exact EXn.refl _ _ | refine EXn.more ?_ _ | refine EXn.put ?_ (by omega) _ | refine EX.trans ?_ (by assumption)
  simp only [c_seq, RUNA, Nat.reduceAdd, Nat.reduceMod, Nat.reduceDiv, Nat.reduceSub, Nat.reduceMul, Nat.reduceEqDiff, Nat.reduceBEq, Nat.reduceLeDiff, Int.reduceToNat, fillS, wantG, vBox, Value.cells, one, putAt, Option.getD_some, Option.map_some, Option.bind_some, ne_eq, Option.some.injEq, Prod.mk.injEq, exists_and_left, exists_eq_left', exists_eq_left, List.size_toArray, List.length_cons, List.length_nil, if_true, if_false, exists_eq', exists_const, List.getElem?_cons_zero, List.getElem?_cons_succ, List.map_toArray, List.map_cons, List.map_nil, beq_iff_eq, List.all_cons, List.all_nil, cond_true, List.set_cons_zero, List.set_cons_succ, List.drop_zero, List.drop_succ_cons, List.take_succ_cons, List.take_zero, List.getElem?_toArray, Option.map_none, Option.getD_none, TYA]
  refine wpc_mono (Table_is hD0 ?_) ?_
  · first | omega | (simp only [next_more, next_put] at *; omega)
  rintro r σ1 ⟨⟨d1, rfl, t1, t1', t1''⟩, hE1⟩
  have n1 := hE1.next
  have f1 := hE1.fr f0
  have b1 := (hE1.row σ.next (by omega)).trans b0
  have e1 : EX σ σ1 := by repeat first | assumption | exact EXn.refl _ _ | refine EXn.more ?_ _ | refine EXn.put ?_ (by omega) _ | refine EX.trans ?_ (by assumption)
  simp only [c_seq, RUNA, Nat.reduceAdd, Nat.reduceMod, Nat.reduceDiv, Nat.reduceSub, Nat.reduceMul, Nat.reduceEqDiff, Nat.reduceBEq, Nat.reduceLeDiff, Int.reduceToNat, fillS, wantG, vBox, Value.cells, one, putAt, Option.getD_some, Option.map_some, Option.bind_some, ne_eq, Option.some.injEq, Prod.mk.injEq, exists_and_left, exists_eq_left', exists_eq_left, List.size_toArray, List.length_cons, List.length_nil, if_true, if_false, exists_eq', exists_const, List.getElem?_cons_zero, List.getElem?_cons_succ, List.map_toArray, List.map_cons, List.map_nil, beq_iff_eq, List.all_cons, List.all_nil, cond_true, List.set_cons_zero, List.set_cons_succ, List.drop_zero, List.drop_succ_cons, List.take_succ_cons, List.take_zero, List.getElem?_toArray, Option.map_none, Option.getD_none, TYA]
  refine loop_go (fun m S τ => S.at 0 = .slice o φs.length c ∧ S.at 2 = .pointer (some ⟨σ.next, 0, none⟩) ∧ S.at 3 = .slice (some ⟨d1, 0, none⟩) 1024 1024 ∧ EX σ τ ∧ Fr τ ∧ σ1.next ≤ τ.next ∧
    τ.row σ.next = some ([.slice none 0 0, .int .i64 0], boxMeta) ∧
    ∃ i : Nat, S.at 4 = .int .i64 i ∧ i ≤ φs.length ∧ m = φs.length - i ∧ τ.row d1 = some ((tab 1024 fun n => anyOf φs i (bits n)).map Value.bool, rowMeta 1)) φs.length ?_ ?_
  · simp only [c_seq, RUNA, Nat.reduceAdd, Nat.reduceMod, Nat.reduceDiv, Nat.reduceSub, Nat.reduceMul, Nat.reduceEqDiff, Nat.reduceBEq, Nat.reduceLeDiff, Int.reduceToNat, fillS, wantG, vBox, Value.cells, one, putAt, Option.getD_some, Option.map_some, Option.bind_some, ne_eq, Option.some.injEq, Prod.mk.injEq, exists_and_left, exists_eq_left', exists_eq_left, List.size_toArray, List.length_cons, List.length_nil, if_true, if_false, exists_eq', exists_const, List.getElem?_cons_zero, List.getElem?_cons_succ, List.map_toArray, List.map_cons, List.map_nil, beq_iff_eq, List.all_cons, List.all_nil, cond_true, List.set_cons_zero, List.set_cons_succ, List.drop_zero, List.drop_succ_cons, List.take_succ_cons, List.take_zero, List.getElem?_toArray, Option.map_none, Option.getD_none]
    refine ⟨?_, ?_, by omega, b1, 0, rfl, by omega, by omega, t1''⟩
    · repeat first | assumption | exact EXn.refl _ _ | refine EXn.more ?_ _ | refine EXn.put ?_ (by omega) _ | refine EX.trans ?_ (by assumption)
    · repeat first | assumption | refine Fr.more ?_ _ | refine Fr.put ?_ _ _
  rintro _ S τ ⟨s0, s2, s3, hE, hF', hx, r0, i, s4, hi, rfl, rt⟩
  have nn := hE.next
  by_cases hlt : i < φs.length
  · have hd : decide ((i : Int) < (φs.length : Int)) = true := by simp; omega
    have z2 : (0 : Int) ≤ (i : Int) := by omega
    have z3 : (i : Int) < (φs.length : Int) := by omega
    have hw : IntKind.i64.wrap ((i : Int) + 1) = ((i + 1 : Nat) : Int) := by rw [wrap64 (by omega) (by omega)]; rfl
    obtain ⟨id, off, row, m, rfl, h1, h2, h3⟩ := hA (by omega)
    obtain ⟨sv, rv', h4, h5⟩ := h3 i hlt
    have ra := (hE.row id h1).trans h2
    simp only [c_seq, RUNA, Nat.reduceAdd, Nat.reduceMod, Nat.reduceDiv, Nat.reduceSub, Nat.reduceMul, Nat.reduceEqDiff, Nat.reduceBEq, Nat.reduceLeDiff, Int.reduceToNat, fillS, wantG, vBox, Value.cells, one, putAt, Option.getD_some, Option.map_some, Option.bind_some, ne_eq, Option.some.injEq, Prod.mk.injEq, exists_and_left, exists_eq_left', exists_eq_left, List.size_toArray, List.length_cons, List.length_nil, if_true, if_false, exists_eq', exists_const, List.getElem?_cons_zero, List.getElem?_cons_succ, List.map_toArray, List.map_cons, List.map_nil, beq_iff_eq, List.all_cons, List.all_nil, cond_true, List.set_cons_zero, List.set_cons_succ, List.drop_zero, List.drop_succ_cons, List.take_succ_cons, List.take_zero, List.getElem?_toArray, Option.map_none, Option.getD_none, TYA, s0, s2, s3, s4, hd, ia68 z2 z3, ra, h4]
    refine wpc_mono (Table_is (h5.un ?_) ?_) ?_
    · repeat first | assumption | exact UN.refl _ _ _ | refine UN.more ?_ _ | refine UN.put ?_ (by omega) _ | refine UN.ex (by assumption) ?_ (by first | omega | (simp only [next_more, next_put]; omega)) | refine UN.exb (by assumption) ?_ (by first | omega | (simp only [next_more, next_put]; omega)) (by omega)
    · first | omega | (simp only [next_more, next_put] at *; omega)
    rintro r σ2 ⟨⟨d2, rfl, t2, t2', t2''⟩, hE2⟩
    have n2 := hE2.next
    simp only [next_more] at n2 t2
    have b2 := (hE2.row σ.next (by first | omega | (simp only [next_more, next_put] at *; omega))).trans r0
    have x2 := (hE2.row d1 (by first | omega | (simp only [next_more, next_put] at *; omega))).trans rt
    have e2 : EX σ σ2 := by repeat first | assumption | exact EXn.refl _ _ | refine EXn.more ?_ _ | refine EXn.put ?_ (by omega) _ | refine EX.trans ?_ (by assumption)
    have f2 := hE2.fr (by repeat first | assumption | refine Fr.more ?_ _ | refine Fr.put ?_ _ _)
    simp only [c_seq, RUNA, Nat.reduceAdd, Nat.reduceMod, Nat.reduceDiv, Nat.reduceSub, Nat.reduceMul, Nat.reduceEqDiff, Nat.reduceBEq, Nat.reduceLeDiff, Int.reduceToNat, fillS, wantG, vBox, Value.cells, one, putAt, Option.getD_some, Option.map_some, Option.bind_some, ne_eq, Option.some.injEq, Prod.mk.injEq, exists_and_left, exists_eq_left', exists_eq_left, List.size_toArray, List.length_cons, List.length_nil, if_true, if_false, exists_eq', exists_const, List.getElem?_cons_zero, List.getElem?_cons_succ, List.map_toArray, List.map_cons, List.map_nil, beq_iff_eq, List.all_cons, List.all_nil, cond_true, List.set_cons_zero, List.set_cons_succ, List.drop_zero, List.drop_succ_cons, List.take_succ_cons, List.take_zero, List.getElem?_toArray, Option.map_none, Option.getD_none, TYA, s0, s2, s3, s4]
    refine loop_go (fun m S τ' => S.at 0 = .slice (some ⟨id, off, none⟩) φs.length c ∧ S.at 2 = .pointer (some ⟨σ.next, 0, none⟩) ∧ S.at 3 = .slice (some ⟨d1, 0, none⟩) 1024 1024 ∧ S.at 4 = .int .i64 i ∧ S.at 5 = .slice (some ⟨d2, 0, none⟩) 1024 1024 ∧
      EX σ τ' ∧ Fr τ' ∧ σ2.next ≤ τ'.next ∧ τ'.row σ.next = some ([.slice none 0 0, .int .i64 0], boxMeta) ∧ τ'.row d2 = some ((tab 1024 fun n => (φs.getD i fun _ => false) (bits n)).map Value.bool, rowMeta 1) ∧
      ∃ n : Nat, S.at 6 = .int .i64 n ∧ n ≤ 1024 ∧ m = 1024 - n ∧ τ'.row d1 = some ((tab 1024 (half n (fun n => anyOf φs (i + 1) (bits n)) (fun n => anyOf φs i (bits n)))).map Value.bool, rowMeta 1)) 1024 ?_ ?_
    · simp only [c_seq, RUNA, Nat.reduceAdd, Nat.reduceMod, Nat.reduceDiv, Nat.reduceSub, Nat.reduceMul, Nat.reduceEqDiff, Nat.reduceBEq, Nat.reduceLeDiff, Int.reduceToNat, fillS, wantG, vBox, Value.cells, one, putAt, Option.getD_some, Option.map_some, Option.bind_some, ne_eq, Option.some.injEq, Prod.mk.injEq, exists_and_left, exists_eq_left', exists_eq_left, List.size_toArray, List.length_cons, List.length_nil, if_true, if_false, exists_eq', exists_const, List.getElem?_cons_zero, List.getElem?_cons_succ, List.map_toArray, List.map_cons, List.map_nil, beq_iff_eq, List.all_cons, List.all_nil, cond_true, List.set_cons_zero, List.set_cons_succ, List.drop_zero, List.drop_succ_cons, List.take_succ_cons, List.take_zero, List.getElem?_toArray, Option.map_none, Option.getD_none, s0, s2, s3, s4]
      refine ⟨?_, ?_, by omega, b2, t2'', 0, rfl, by omega, by omega, ?_⟩
      · repeat first | assumption | exact EXn.refl _ _ | refine EXn.more ?_ _ | refine EXn.put ?_ (by omega) _ | refine EX.trans ?_ (by assumption)
      · repeat first | assumption | refine Fr.more ?_ _ | refine Fr.put ?_ _ _
      · rw [x2, half_0 (f := fun n => anyOf φs (i + 1) (bits n))]
    clear s0 s2 s3 s4
    rintro _ S τ' ⟨s0, s2, s3, s4, s5, hE', hF2, hx', r0', y2, n, s6, hn, rfl, y1⟩
    by_cases hnl : n < 1024
    · have hd' : decide ((n : Int) < ((1024 : Nat) : Int)) = true := by simp; omega
      have z4 : (0 : Int) ≤ (n : Int) := by omega
      have z5 : (n : Int) < ((1024 : Nat) : Int) := by omega
      have hw' : IntKind.i64.wrap ((n : Int) + 1) = ((n + 1 : Nat) : Int) := by rw [wrap64 (by omega) (by omega)]; rfl
      have hle : n + 1 ≤ ((tab 1024 (half n (fun n => anyOf φs (i + 1) (bits n)) (fun n => anyOf φs i (bits n)))).map Value.bool).length := by rw [List.length_map, tab_len]; omega
      have hv1 := tabv (f := half n (fun n => anyOf φs (i + 1) (bits n)) (fun n => anyOf φs i (bits n))) hnl
      rw [half_at] at hv1
      have hv2 := tabv (f := fun n => (φs.getD i fun _ => false) (bits n)) hnl
      have q : ¬ σ.next = d1 := by omega
      have q2 : ¬ d2 = d1 := by omega
      have hs := half_set (N := 1024) (n := n) (f := fun n => anyOf φs (i + 1) (bits n)) (g := fun n => anyOf φs i (bits n))
      have hv := anyOf_s hlt (bits n)
      simp only [hv] at hs
      cases hp : anyOf φs i (bits n) with
      | true =>
        rw [hp] at hv1 hs
        rw [Bool.true_or] at hs
        simp only [c_seq, RUNA, Nat.reduceAdd, Nat.reduceMod, Nat.reduceDiv, Nat.reduceSub, Nat.reduceMul, Nat.reduceEqDiff, Nat.reduceBEq, Nat.reduceLeDiff, Int.reduceToNat, fillS, wantG, vBox, Value.cells, one, putAt, Option.getD_some, Option.map_some, Option.bind_some, ne_eq, Option.some.injEq, Prod.mk.injEq, exists_and_left, exists_eq_left', exists_eq_left, List.size_toArray, List.length_cons, List.length_nil, if_true, if_false, exists_eq', exists_const, List.getElem?_cons_zero, List.getElem?_cons_succ, List.map_toArray, List.map_cons, List.map_nil, beq_iff_eq, List.all_cons, List.all_nil, cond_true, List.set_cons_zero, List.set_cons_succ, List.drop_zero, List.drop_succ_cons, List.take_succ_cons, List.take_zero, List.getElem?_toArray, Option.map_none, Option.getD_none, TYA, s0, s2, s3, s4, s5, s6, hd', ia43 z4 z5, y1, y2, hv1, hv2, hle, hw', r0', q, q2]
        refine ⟨1024 - (n + 1), by omega, ?_, ?_, by omega, n + 1, rfl, by omega, rfl, ?_⟩
        · repeat first | assumption | exact EXn.refl _ _ | refine EXn.more ?_ _ | refine EXn.put ?_ (by omega) _ | refine EX.trans ?_ (by assumption)
        · repeat first | assumption | refine Fr.more ?_ _ | refine Fr.put ?_ _ _
        · rw [← hs, List.map_set]
      | false =>
        rw [hp] at hv1 hs
        rw [Bool.false_or] at hs
        simp only [c_seq, RUNA, Nat.reduceAdd, Nat.reduceMod, Nat.reduceDiv, Nat.reduceSub, Nat.reduceMul, Nat.reduceEqDiff, Nat.reduceBEq, Nat.reduceLeDiff, Int.reduceToNat, fillS, wantG, vBox, Value.cells, one, putAt, Option.getD_some, Option.map_some, Option.bind_some, ne_eq, Option.some.injEq, Prod.mk.injEq, exists_and_left, exists_eq_left', exists_eq_left, List.size_toArray, List.length_cons, List.length_nil, if_true, if_false, exists_eq', exists_const, List.getElem?_cons_zero, List.getElem?_cons_succ, List.map_toArray, List.map_cons, List.map_nil, beq_iff_eq, List.all_cons, List.all_nil, cond_true, List.set_cons_zero, List.set_cons_succ, List.drop_zero, List.drop_succ_cons, List.take_succ_cons, List.take_zero, List.getElem?_toArray, Option.map_none, Option.getD_none, TYA, s0, s2, s3, s4, s5, s6, hd', ia43 z4 z5, y1, y2, hv1, hv2, hle, hw', r0', q, q2]
        refine ⟨1024 - (n + 1), by omega, ?_, ?_, by omega, n + 1, rfl, by omega, rfl, ?_⟩
        · repeat first | assumption | exact EXn.refl _ _ | refine EXn.more ?_ _ | refine EXn.put ?_ (by omega) _ | refine EX.trans ?_ (by assumption)
        · repeat first | assumption | refine Fr.more ?_ _ | refine Fr.put ?_ _ _
        · rw [← hs, List.map_set]
    · have hd' : decide ((n : Int) < ((1024 : Nat) : Int)) = false := by simp; omega
      have hn1 : n = 1024 := by omega
      rw [hn1, half_N] at y1
      simp only [c_seq, RUNA, Nat.reduceAdd, Nat.reduceMod, Nat.reduceDiv, Nat.reduceSub, Nat.reduceMul, Nat.reduceEqDiff, Nat.reduceBEq, Nat.reduceLeDiff, Int.reduceToNat, fillS, wantG, vBox, Value.cells, one, putAt, Option.getD_some, Option.map_some, Option.bind_some, ne_eq, Option.some.injEq, Prod.mk.injEq, exists_and_left, exists_eq_left', exists_eq_left, List.size_toArray, List.length_cons, List.length_nil, if_true, if_false, exists_eq', exists_const, List.getElem?_cons_zero, List.getElem?_cons_succ, List.map_toArray, List.map_cons, List.map_nil, beq_iff_eq, List.all_cons, List.all_nil, cond_true, List.set_cons_zero, List.set_cons_succ, List.drop_zero, List.drop_succ_cons, List.take_succ_cons, List.take_zero, List.getElem?_toArray, Option.map_none, Option.getD_none, TYA, s0, s2, s3, s4, s5, s6, hd', hw]
      refine ⟨φs.length - (i + 1), by omega, ?_, ?_, by omega, r0', i + 1, rfl, by omega, rfl, y1⟩
      · repeat first | assumption | exact EXn.refl _ _ | refine EXn.more ?_ _ | refine EXn.put ?_ (by omega) _ | refine EX.trans ?_ (by assumption)
      · repeat first | assumption | refine Fr.more ?_ _ | refine Fr.put ?_ _ _
  · have hd : decide ((i : Int) < (φs.length : Int)) = false := by simp; omega
    have hn1 : i = φs.length := by omega
    rw [hn1] at rt
    simp only [c_seq, RUNA, Nat.reduceAdd, Nat.reduceMod, Nat.reduceDiv, Nat.reduceSub, Nat.reduceMul, Nat.reduceEqDiff, Nat.reduceBEq, Nat.reduceLeDiff, Int.reduceToNat, fillS, wantG, vBox, Value.cells, one, putAt, Option.getD_some, Option.map_some, Option.bind_some, ne_eq, Option.some.injEq, Prod.mk.injEq, exists_and_left, exists_eq_left', exists_eq_left, List.size_toArray, List.length_cons, List.length_nil, if_true, if_false, exists_eq', exists_const, List.getElem?_cons_zero, List.getElem?_cons_succ, List.map_toArray, List.map_cons, List.map_nil, beq_iff_eq, List.all_cons, List.all_nil, cond_true, List.set_cons_zero, List.set_cons_succ, List.drop_zero, List.drop_succ_cons, List.take_succ_cons, List.take_zero, List.getElem?_toArray, Option.map_none, Option.getD_none, TYA, s0, s2, s3, s4, hd]
    refine wpc_mono (Diagram_is (lo := 0) (hi := τ.next) ⟨d1, rfl, by omega, by omega, rt⟩ (by first | omega | (simp only [next_more, next_put] at *; omega)) (by repeat first | assumption | refine Fr.more ?_ _ | refine Fr.put ?_ _ _)) ?_
    rintro r σ2 ⟨hD, hE2⟩
    have n2 := hE2.next
    simp only [next_more] at n2 hD
    obtain ⟨o', k', c', i', rfl⟩ := hD.open
    have r2 : σ2.row σ.next = some ([.slice none 0 0, .int .i64 0], boxMeta) := (hE2.row _ (by first | omega | (simp only [next_more, next_put] at *; omega))).trans r0
    simp only [c_seq, RUNA, Nat.reduceAdd, Nat.reduceMod, Nat.reduceDiv, Nat.reduceSub, Nat.reduceMul, Nat.reduceEqDiff, Nat.reduceBEq, Nat.reduceLeDiff, Int.reduceToNat, fillS, wantG, vBox, Value.cells, one, putAt, Option.getD_some, Option.map_some, Option.bind_some, ne_eq, Option.some.injEq, Prod.mk.injEq, exists_and_left, exists_eq_left', exists_eq_left, List.size_toArray, List.length_cons, List.length_nil, if_true, if_false, exists_eq', exists_const, List.getElem?_cons_zero, List.getElem?_cons_succ, List.map_toArray, List.map_cons, List.map_nil, beq_iff_eq, List.all_cons, List.all_nil, cond_true, List.set_cons_zero, List.set_cons_succ, List.drop_zero, List.drop_succ_cons, List.take_succ_cons, List.take_zero, List.getElem?_toArray, Option.map_none, Option.getD_none, TYA, s2, r2, hr]
    refine ⟨IsD.congr (IsD.weak (hD.un ?_) (by omega)) (fun f => by rw [hten _ (Nat.le_refl _) f]), ?_⟩
    · repeat first | assumption | exact UN.refl _ _ _ | refine UN.more ?_ _ | refine UN.put ?_ (by omega) _ | refine UN.ex (by assumption) ?_ (by first | omega | (simp only [next_more, next_put]; omega)) | refine UN.exb (by assumption) ?_ (by first | omega | (simp only [next_more, next_put]; omega)) (by omega)
    · repeat first | assumption | exact EXn.refl _ _ | refine EXn.more ?_ _ | refine EXn.put ?_ (by omega) _ | refine EX.trans ?_ (by assumption)
end Go.Proofs.Ytlealdhgajomhaa
