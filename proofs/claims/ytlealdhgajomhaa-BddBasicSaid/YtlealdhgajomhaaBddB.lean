/- The reference's small functions: Same. -/
import Derived.Test.YtlealdhgajomhaaBddA
namespace Go.Proofs.Ytlealdhgajomhaa
set_option linter.unusedVariables false
open Go.AI
set_option linter.unusedSimpArgs false

/-! ### vertices -/
theorem pt0 (a b c : Int) : still Try.prog (part 3 #[.int .i64 a, .int .i64 b, .int .i64 c] 0) = some (.int .i64 a) := by kernel_rfl
theorem pt1 (a b c : Int) : still Try.prog (part 3 #[.int .i64 a, .int .i64 b, .int .i64 c] 1) = some (.int .i64 b) := by kernel_rfl
theorem pt2 (a b c : Int) : still Try.prog (part 3 #[.int .i64 a, .int .i64 b, .int .i64 c] 2) = some (.int .i64 c) := by kernel_rfl
def veq (a b c a' b' c' : Int) : Bool := decide ((a, b, c) = (a', b', c'))
theorem veq_t {v w : Vtx} (h : v = w) : veq v.1 v.2.1 v.2.2 w.1 w.2.1 w.2.2 = true := by subst h; simp [veq]
theorem veq_f {v w : Vtx} (h : ¬ v = w) : veq v.1 v.2.1 v.2.2 w.1 w.2.1 w.2.2 = false := by
  obtain ⟨a, b, c⟩ := v
  obtain ⟨a', b', c'⟩ := w
  simpa [veq] using h
theorem eqf40 (a b c a' b' c' : Int) : still Try.prog (Op.equal 40 (.agg #[.int .i64 a, .int .i64 b, .int .i64 c]) (.agg #[.int .i64 a', .int .i64 b', .int .i64 c'])) = some (veq a b c a' b' c') := by
  unfold Op.equal veq
  rw [show Op.maxDepth = 9998 + 1 + 1 from rfl, still_eq_struct Try.underlying40 (by kernel_rfl)]
  simp only [Op.eqFields, still_bind, still_ite, pt0, pt1, pt2, Option.bind_some, still_eq_int Try.underlying3, still_pure]
  by_cases h1 : a = a' <;> by_cases h2 : b = b' <;> by_cases h3 : c = c' <;> simp [h1, h2, h3]
theorem eql40 {x y : Operand} (a b c a' b' c' : Int) : abin Try.prog .eql 40 x y (.agg #[.int .i64 a, .int .i64 b, .int .i64 c]) (.agg #[.int .i64 a', .int .i64 b', .int .i64 c']) = some (.bool (veq a b c a' b' c')) :=
  abin_eql rfl rfl (by kernel_rfl) (eqf40 a b c a' b' c')
theorem neq40 {x y : Operand} (a b c a' b' c' : Int) : abin Try.prog .neq 40 x y (.agg #[.int .i64 a, .int .i64 b, .int .i64 c]) (.agg #[.int .i64 a', .int .i64 b', .int .i64 c']) = some (.bool (!veq a b c a' b' c')) :=
  abin_neq rfl rfl (by kernel_rfl) (eqf40 a b c a' b' c')

def vx (l : List Vtx) (i : Nat) : Vtx := l.getD i (0, 0, 0)
theorem flat_cut : ∀ (l : List Vtx) (i : Nat), i < l.length → ((flat l).drop (i * 3)).take 3 = [.int .i64 (vx l i).1, .int .i64 (vx l i).2.1, .int .i64 (vx l i).2.2] := by
  intro l
  induction l with
  | nil => intro i hi; simp at hi
  | cons v l ih =>
    intro i hi
    cases i with
    | zero => simp [flat, cell3, vx]
    | succ i =>
      have := ih i (by simpa using hi)
      have e : (flat (v :: l)).drop ((i + 1) * 3) = (flat l).drop (i * 3) := by
        rw [show (i + 1) * 3 = 3 + i * 3 by omega, ← List.drop_drop]; rfl
      rw [e, this]; rfl
theorem row_cut {row : List Value} {off : Nat} {l : List Vtx} (h : (row.drop off).take (l.length * 3) = flat l) {i : Nat} (hi : i < l.length) : cut row (off + i * 3) 3 = some [.int .i64 (vx l i).1, .int .i64 (vx l i).2.1, .int .i64 (vx l i).2.2] := by
  have hl : l.length * 3 ≤ row.length - off := by
    have := congrArg List.length h
    rw [flat_length, List.length_take, List.length_drop] at this
    omega
  rw [cut_go (by omega)]
  rw [← flat_cut l i hi, ← h, List.drop_take, List.drop_drop, List.take_take]
  congr 2; omega

theorem DV.open {σ : St} {v : Value} {d : List Vtx × Int} (h : DV σ v d) : ∃ o c, v = .agg #[.slice o d.1.length c, .int .i64 d.2] ∧ (0 < d.1.length → ∃ id off row m, o = some ⟨id, off, none⟩ ∧ id < σ.next ∧ σ.row id = some (row, m3 m) ∧ (row.drop off).take (d.1.length * 3) = flat d.1) := by
  obtain ⟨s, rfl, h | ⟨o, rfl, h⟩⟩ := h
  · obtain ⟨id, off, c, row, m, rfl, h2, h3, h4⟩ := h.ex
    exact ⟨_, _, rfl, fun _ => ⟨id, off, row, m, rfl, h2, h3, h4⟩⟩
  · exact ⟨o, 0, by rw [h]; rfl, fun h' => by rw [h] at h'; simp at h'⟩

theorem wrap64 {x : Int} (h0 : -9223372036854775808 ≤ x) (h1 : x < 9223372036854775808) : IntKind.i64.wrap x = x := by
  have hb : (IntKind.i64.bits : Nat) = 64 := rfl
  unfold IntKind.wrap
  simp [IntKind.bits, IntKind.signed]
  omega

/-! ### Same -/
theorem Same_spec {σ : St} {a b : Value} {d e : List Vtx × Int} (ha : DV σ a d) (hb : DV σ b e) (hn : d.1.length < 1000000) : wpc Try.prog 12 #[a, b] σ fun r σ' => r = .bool (decide (d = e)) ∧ EX σ σ' := by
  obtain ⟨oa, ca, rfl, hA⟩ := ha.open
  obtain ⟨ob, cb, rfl, hB⟩ := hb.open
  clear ha hb
  refine body_go Try.func12 rfl ?_
  have hr := Try.results12
  by_cases g1 : d.2 = e.2
  · by_cases g2 : d.1.length = e.1.length
    · have g1' : (d.2 != e.2) = false := by simp [g1]
      have g2' : ((d.1.length : Int) != (e.1.length : Int)) = false := by simp [g2]
      simp only [c_seq, RUNA, Nat.reduceAdd, Nat.reduceMod, Nat.reduceDiv, Nat.reduceSub, Nat.reduceMul, Nat.reduceEqDiff, Nat.reduceBEq, Nat.reduceLeDiff, Int.reduceToNat, fillS, wantG, vBox, Value.cells, one, putAt, Option.getD_some, Option.map_some, Option.bind_some, ne_eq, Option.some.injEq, Prod.mk.injEq, exists_and_left, exists_eq_left', exists_eq_left, List.size_toArray, List.length_cons, List.length_nil, if_true, if_false, exists_eq', exists_const, List.getElem?_cons_zero, List.getElem?_cons_succ, List.map_toArray, List.map_cons, List.map_nil, beq_iff_eq, List.all_cons, List.all_nil, cond_true, List.set_cons_zero, List.set_cons_succ, List.drop_zero, List.drop_succ_cons, List.take_succ_cons, List.take_zero, List.getElem?_toArray, Option.map_none, Option.getD_none, hr, g1', g2', fa25_1, fa25_0, ld3, ld23, ln23]
      have n0 : ∀ id, id < σ.next → id ≠ σ.next ∧ id ≠ σ.next + 1 := fun id h => by omega
      refine loop_go (fun m S τ => S.at 2 = .pointer (some ⟨σ.next, 0, none⟩) ∧ S.at 3 = .pointer (some ⟨σ.next + 1, 0, none⟩) ∧ EX σ τ ∧
        τ.row σ.next = some ([.slice oa d.1.length ca, .int .i64 d.2], boxMeta) ∧ τ.row (σ.next + 1) = some ([.slice ob e.1.length cb, .int .i64 e.2], boxMeta) ∧
        ∃ i : Nat, S.at 5 = .int .i64 i ∧ i ≤ d.1.length ∧ m = d.1.length - i ∧ ∀ j, j < i → vx d.1 j = vx e.1 j) d.1.length ?_ ?_
      · simp only [c_seq, RUNA, Nat.reduceAdd, Nat.reduceMod, Nat.reduceDiv, Nat.reduceSub, Nat.reduceMul, Nat.reduceEqDiff, Nat.reduceBEq, Nat.reduceLeDiff, Int.reduceToNat, fillS, wantG, vBox, Value.cells, one, putAt, Option.getD_some, Option.map_some, Option.bind_some, ne_eq, Option.some.injEq, Prod.mk.injEq, exists_and_left, exists_eq_left', exists_eq_left, List.size_toArray, List.length_cons, List.length_nil, if_true, if_false, exists_eq', exists_const, List.getElem?_cons_zero, List.getElem?_cons_succ, List.map_toArray, List.map_cons, List.map_nil, beq_iff_eq, List.all_cons, List.all_nil, cond_true, List.set_cons_zero, List.set_cons_succ, List.drop_zero, List.drop_succ_cons, List.take_succ_cons, List.take_zero, List.getElem?_toArray, Option.map_none, Option.getD_none]
        refine ⟨?_, 0, rfl, by omega, by omega, fun j hj => by omega⟩
        repeat first | assumption | exact EXn.refl _ _ | refine EXn.more ?_ _ | refine EXn.put ?_ (by omega) _ | refine EX.trans ?_ (by assumption)
      · rintro m S τ ⟨s2, s3, hE, r2, r3, i, s5, hi, rfl, hj⟩
        by_cases hlt : i < d.1.length
        · have hd : decide ((i : Int) < (d.1.length : Int)) = true := by simp; omega
          simp only [c_seq, RUNA, Nat.reduceAdd, Nat.reduceMod, Nat.reduceDiv, Nat.reduceSub, Nat.reduceMul, Nat.reduceEqDiff, Nat.reduceBEq, Nat.reduceLeDiff, Int.reduceToNat, fillS, wantG, vBox, Value.cells, one, putAt, Option.getD_some, Option.map_some, Option.bind_some, ne_eq, Option.some.injEq, Prod.mk.injEq, exists_and_left, exists_eq_left', exists_eq_left, List.size_toArray, List.length_cons, List.length_nil, if_true, if_false, exists_eq', exists_const, List.getElem?_cons_zero, List.getElem?_cons_succ, List.map_toArray, List.map_cons, List.map_nil, beq_iff_eq, List.all_cons, List.all_nil, cond_true, List.set_cons_zero, List.set_cons_succ, List.drop_zero, List.drop_succ_cons, List.take_succ_cons, List.take_zero, List.getElem?_toArray, Option.map_none, Option.getD_none, s2, s3, s5, r2, r3, hd, fa25_0, ld23, ln23]
          refine d_go (ms := [0, 1, 0, 7, 15, 0, 32, 0, 224, 480, 1023]) (order := [0, 1, 2, 3, 4, 5, 6, 7, 8, 9, 10]) (by kernel_rfl) (by kernel_rfl) (by kernel_rfl) ?_
          obtain ⟨ia, fa, ra, ma, rfl, a1, a2, a3⟩ := hA (by omega)
          obtain ⟨ib, fb, rb, mb, rfl, b1, b2, b3⟩ := hB (by omega)
          have ra' := (hE.row ia a1).trans a2
          have rb' := (hE.row ib b1).trans b2
          have ca' := row_cut a3 hlt
          have cb' := row_cut b3 (i := i) (by omega)
          have i0 : (0 : Int) ≤ (i : Int) := by omega
          have i1 : (i : Int) < (d.1.length : Int) := by omega
          have i2 : (i : Int) < (e.1.length : Int) := by omega
          by_cases hq : vx d.1 i = vx e.1 i
          · have hq' := veq_t hq
            simp only [YRUNA, Nat.reduceShiftRight, bit, List.filterMap_cons, List.filterMap_nil, List.filter_cons, List.filter_nil, List.forall_mem_cons, List.not_mem_nil, implies_true, List.getD_cons_zero, List.getD_cons_succ, eq_self, c_seq, RUNA, Nat.reduceAdd, Nat.reduceMod, Nat.reduceDiv, Nat.reduceSub, Nat.reduceMul, Nat.reduceEqDiff, Nat.reduceBEq, Nat.reduceLeDiff, Int.reduceToNat, fillS, wantG, vBox, Value.cells, one, putAt, Option.getD_some, Option.map_some, Option.bind_some, ne_eq, Option.some.injEq, Prod.mk.injEq, exists_and_left, exists_eq_left', exists_eq_left, List.size_toArray, List.length_cons, List.length_nil, if_true, if_false, exists_eq', exists_const, List.getElem?_cons_zero, List.getElem?_cons_succ, List.map_toArray, List.map_cons, List.map_nil, beq_iff_eq, List.all_cons, List.all_nil, cond_true, List.set_cons_zero, List.set_cons_succ, List.drop_zero, List.drop_succ_cons, List.take_succ_cons, List.take_zero, List.getElem?_toArray, Option.map_none, Option.getD_none, s2, s3, s5, r2, r3, fa25_0, ld23, ia23 i0 i1, ia23 i0 i2, ld40, Int.toNat_natCast, ra', rb', ca', cb', neq40, hq']
            refine ⟨d.1.length - (i + 1), by omega, ?_, i + 1, ?_, by omega, rfl, ?_⟩
            · repeat first | assumption | exact EXn.refl _ _ | refine EXn.more ?_ _ | refine EXn.put ?_ (by omega) _ | refine EX.trans ?_ (by assumption)
            · rw [wrap64 (by omega) (by omega)]; rfl
            · intro j hj'
              by_cases e1 : j = i
              · rw [e1]; exact hq
              · exact hj j (by omega)
          · have hq' := veq_f hq
            simp only [YRUNA, Nat.reduceShiftRight, bit, List.filterMap_cons, List.filterMap_nil, List.filter_cons, List.filter_nil, List.forall_mem_cons, List.not_mem_nil, implies_true, List.getD_cons_zero, List.getD_cons_succ, eq_self, c_seq, RUNA, Nat.reduceAdd, Nat.reduceMod, Nat.reduceDiv, Nat.reduceSub, Nat.reduceMul, Nat.reduceEqDiff, Nat.reduceBEq, Nat.reduceLeDiff, Int.reduceToNat, fillS, wantG, vBox, Value.cells, one, putAt, Option.getD_some, Option.map_some, Option.bind_some, ne_eq, Option.some.injEq, Prod.mk.injEq, exists_and_left, exists_eq_left', exists_eq_left, List.size_toArray, List.length_cons, List.length_nil, if_true, if_false, exists_eq', exists_const, List.getElem?_cons_zero, List.getElem?_cons_succ, List.map_toArray, List.map_cons, List.map_nil, beq_iff_eq, List.all_cons, List.all_nil, cond_true, List.set_cons_zero, List.set_cons_succ, List.drop_zero, List.drop_succ_cons, List.take_succ_cons, List.take_zero, List.getElem?_toArray, Option.map_none, Option.getD_none, s2, s3, s5, r2, r3, fa25_0, ld23, ia23 i0 i1, ia23 i0 i2, ld40, Int.toNat_natCast, ra', rb', ca', cb', neq40, hq', hr]
            refine ⟨?_, ?_⟩
            · have : d ≠ e := fun h => hq (by rw [h])
              simp [this]
            · repeat first | assumption | exact EXn.refl _ _ | refine EXn.more ?_ _ | refine EXn.put ?_ (by omega) _ | refine EX.trans ?_ (by assumption)
        · have hd : decide ((i : Int) < (d.1.length : Int)) = false := by simp; omega
          simp only [c_seq, RUNA, Nat.reduceAdd, Nat.reduceMod, Nat.reduceDiv, Nat.reduceSub, Nat.reduceMul, Nat.reduceEqDiff, Nat.reduceBEq, Nat.reduceLeDiff, Int.reduceToNat, fillS, wantG, vBox, Value.cells, one, putAt, Option.getD_some, Option.map_some, Option.bind_some, ne_eq, Option.some.injEq, Prod.mk.injEq, exists_and_left, exists_eq_left', exists_eq_left, List.size_toArray, List.length_cons, List.length_nil, if_true, if_false, exists_eq', exists_const, List.getElem?_cons_zero, List.getElem?_cons_succ, List.map_toArray, List.map_cons, List.map_nil, beq_iff_eq, List.all_cons, List.all_nil, cond_true, List.set_cons_zero, List.set_cons_succ, List.drop_zero, List.drop_succ_cons, List.take_succ_cons, List.take_zero, List.getElem?_toArray, Option.map_none, Option.getD_none, s2, s3, s5, r2, r3, hd, fa25_0, ld23, ln23, hr]
          refine ⟨?_, ?_⟩
          · have : d = e := by
              refine Prod.ext (List.ext_getElem g2 fun j h1 h2 => ?_) g1
              have := hj j (by omega)
              simpa [vx, h1, h2] using this
            simp [this]
          · repeat first | assumption | exact EXn.refl _ _ | refine EXn.more ?_ _ | refine EXn.put ?_ (by omega) _ | refine EX.trans ?_ (by assumption)
    · have g1' : (d.2 != e.2) = false := by simp [g1]
      have g2' : ((d.1.length : Int) != (e.1.length : Int)) = true := by simp; omega
      simp only [c_seq, RUNA, Nat.reduceAdd, Nat.reduceMod, Nat.reduceDiv, Nat.reduceSub, Nat.reduceMul, Nat.reduceEqDiff, Nat.reduceBEq, Nat.reduceLeDiff, Int.reduceToNat, fillS, wantG, vBox, Value.cells, one, putAt, Option.getD_some, Option.map_some, Option.bind_some, ne_eq, Option.some.injEq, Prod.mk.injEq, exists_and_left, exists_eq_left', exists_eq_left, List.size_toArray, List.length_cons, List.length_nil, if_true, if_false, exists_eq', exists_const, List.getElem?_cons_zero, List.getElem?_cons_succ, List.map_toArray, List.map_cons, List.map_nil, beq_iff_eq, List.all_cons, List.all_nil, cond_true, List.set_cons_zero, List.set_cons_succ, List.drop_zero, List.drop_succ_cons, List.take_succ_cons, List.take_zero, List.getElem?_toArray, Option.map_none, Option.getD_none, hr, g1', g2', fa25_1, fa25_0, ld3, ld23, ln23]
      refine ⟨?_, ?_⟩
      · have : d ≠ e := fun h => g2 (by rw [h])
        simp [this]
      · repeat first | assumption | exact EXn.refl _ _ | refine EXn.more ?_ _ | refine EXn.put ?_ (by omega) _ | refine EX.trans ?_ (by assumption)
  · have g1' : (d.2 != e.2) = true := by simp [g1]
    simp only [c_seq, RUNA, Nat.reduceAdd, Nat.reduceMod, Nat.reduceDiv, Nat.reduceSub, Nat.reduceMul, Nat.reduceEqDiff, Nat.reduceBEq, Nat.reduceLeDiff, Int.reduceToNat, fillS, wantG, vBox, Value.cells, one, putAt, Option.getD_some, Option.map_some, Option.bind_some, ne_eq, Option.some.injEq, Prod.mk.injEq, exists_and_left, exists_eq_left', exists_eq_left, List.size_toArray, List.length_cons, List.length_nil, if_true, if_false, exists_eq', exists_const, List.getElem?_cons_zero, List.getElem?_cons_succ, List.map_toArray, List.map_cons, List.map_nil, beq_iff_eq, List.all_cons, List.all_nil, cond_true, List.set_cons_zero, List.set_cons_succ, List.drop_zero, List.drop_succ_cons, List.take_succ_cons, List.take_zero, List.getElem?_toArray, Option.map_none, Option.getD_none, hr, g1', fa25_1, fa25_0, ld3, ld23, ln23]
    refine ⟨?_, ?_⟩
    · have : d ≠ e := fun h => g1 (by rw [h])
      simp [this]
    · repeat first | assumption | exact EXn.refl _ _ | refine EXn.more ?_ _ | refine EXn.put ?_ (by omega) _ | refine EX.trans ?_ (by assumption)
end Go.Proofs.Ytlealdhgajomhaa
